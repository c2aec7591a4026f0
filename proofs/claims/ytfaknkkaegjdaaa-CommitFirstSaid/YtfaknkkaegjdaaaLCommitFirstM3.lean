/- Part 3 of the proof of LCommitFirst: what it needs of the library, the walks and the plain laws. Conditions: those named in each theorem. -/
import Derived.Test.YtfaknkkaegjdaaaLCommitFirstM2
namespace Go.Proofs.Ytfaknkkaegjdaaa
section
set_option linter.unusedVariables false
set_option linter.unusedSimpArgs false
set_option maxRecDepth 4000
theorem fnOk46 : fnOk Try.prog 46 = true := by kernel_rfl
theorem fnOk48 : fnOk Try.prog 48 = true := by kernel_rfl
theorem fnOk51 : fnOk Try.prog 51 = true := by kernel_rfl
theorem fnOk58 : fnOk Try.prog 58 = true := by kernel_rfl
theorem fnOk43 : fnOk Try.prog 43 = true := by kernel_rfl
theorem of04_ok (W : World) (d0 : Int) (h0 : inK .i64 d0) (d1 : Int) (h1 : inK .i64 d1) : CallR Try.prog 51 [.int .i64 d0, .int .i64 d1] W (mnil) (fun v m' => ∃ (s0 : List Value), v = .agg s0.toArray ∧ Ow TCommit m' s0 (ofC d0 d1)) := by
  have h0' := h0; simp only [inK] at h0'
  have h1' := h1; simp only [inK] at h1'
  refine CallR.ofA (n := 10) Try.func51 rfl rfl rfl ?_
  refine VC.rs ?_
  refine VO.alloc 102 rfl tz52 (fun g1 => ?_)
  refine VO.k3 0 1 4 ?_
  refine VC.rs ?_
  refine VO.mv ?_
  refine VO.mv ?_
  refine VO.y rfl (.bst (cs := [Value.bool true, str ([97]), str ([49])]) rfl tst49 tz49 rfl) ?_
  refine VO.bsl (cs := [Value.bool true, str ([97]), str ([49])]) 104 rfl rfl tsl22 tz49 rfl rfl (fun g3 => ?_)
  refine VO.y rfl (.bst (cs := [Value.int .i64 (d0), Value.int .i64 (d1), Value.slice (some ⟨g3, 0, none⟩) (1) (1)]) rfl tst52 tz52 rfl) ?_
  refine VO.store (k := 3) (c' := [Value.int .i64 (d0), Value.int .i64 (d1), Value.slice (some ⟨g3, 0, none⟩) (1) (1)]) 102 rfl rfl (.inl tk52) rfl rfl rfl rfl rfl ?_
  refine VO.k3 0 1 4 ?_
  refine VC.ret ?_
  have ho5 : OwnL TOp (mone g3 (.cells [Value.bool true, str ([97]), str ([49])].toArray 49 (0, 0))) mnil (Value.slice (some ⟨g3, 0, none⟩) (1) (1)) [(true, [97], [49])] := OwnL.lit 1 (All2c.cons (c1 := [Value.bool true, str ([97]), str ([49])]) (mk_Op (m := _) true ([97]) ([49]) bdm bdm) All2c.nil) rfl rfl
  refine ⟨_, _, res_run (rs := [.cell 4 52]) rfl (.agg 102 rfl tk52 rfl ⟨_, _, _, mone_self _ _, Nat.le_of_ble_eq_true rfl, rfl⟩ .nil), fun W_ hI => out_of (l := [mone g3 (.cells [Value.bool true, str ([97]), str ([49])].toArray 49 (0, 0))]) hI [104] rfl rfl (mle_refl _) (fun hS_ => ?_)⟩
  dsimp only [packV]
  have he0 : (ofC d0 d1 : Ty.Den TCommit) = (d0, d1, [(true, [97], [49])]) := by first | rfl | (simp [*]; done)
  refine ⟨[Value.int .i64 (d0), Value.int .i64 (d1), Value.slice (some ⟨g3, 0, none⟩) (1) (1)], ?_, ?_⟩
  rotate_left
  · rw [he0]; exact (mkO_Commit d0 d1 ([(true, [97], [49])]) hS_ bdk bdk (OwnL.ow ho5 rfl))
  all_goals (first | rfl | (simp [*]; done))
theorem lives04_ok (W : World) : CallR Try.prog 48 [] W (mnil) (fun v m' => v = .bool true) := by
  refine CallR.ofA (n := 31) Try.func48 rfl rfl rfl ?_
  refine VC.rs ?_
  refine VO.as ?_
  refine VO.k1 0 ?_
  refine VC.rs ?_
  refine VO.callN 101 rfl fnOk51 rfl (fun W hW => of04_ok W 1 (by simp only [inK]; (first | omega | (simp only [List.length_append, List.length_nil, List.length_cons, List.length_take, List.length_drop] at *; omega) | (have : exC.length = 6 := rfl; omega) | decide)) 2 (by simp only [inK]; (first | omega | (simp only [List.length_append, List.length_nil, List.length_cons, List.length_take, List.length_drop] at *; omega) | (have : exC.length = 6 := rfl; omega) | decide))) (fun v1 m1 hv1 => ?_)
  obtain ⟨s1_0, rfl, f1_0⟩ := hv1
  obtain ⟨q1_0_A2, q1_0_c2, q1_0_n2, rfl, q1_0_S, q1_0_0, q1_0_1, q1_0_2⟩ := openO_Commit (x0 := (ofC 1 2).1) (x1 := (ofC 1 2).2.1) (x2 := (ofC 1 2).2.2) f1_0
  simp only [inK] at q1_0_0
  simp only [inK] at q1_0_1
  have q1_0_r2 := Rd.room (q1_0_2.rd (mle_refl _))
  refine VO.inv _ (fun _ h => h.parts (i := 101) rfl q1_0_S [102]) ?_
  refine VO.callN 103 rfl fnOk58 rfl (fun W hW => cEncode_ok_ W (show Rd TCommit _ _ (ofC 1 2) from (mk_Commit (m := wm W) ((ofC 1 2).1) ((ofC 1 2).2.1) ((ofC 1 2).2.2) (by simp only [inK]; (first | omega | (simp only [List.length_append, List.length_nil, List.length_cons, List.length_take, List.length_drop] at *; omega) | (have : exC.length = 6 := rfl; omega) | decide)) (by simp only [inK]; (first | omega | (simp only [List.length_append, List.length_nil, List.length_cons, List.length_take, List.length_drop] at *; omega) | (have : exC.length = 6 := rfl; omega) | decide)) (OwnL.rd (Ow.ownl q1_0_2 rfl mnil) (hW.at (i := 102) rfl) (mle_nil _))))) (fun v3 m3 hv3 => ?_)
  obtain ⟨s3_0, rfl, f3_0⟩ := hv3
  generalize hq3_0 : ((cEncode (ofC 1 2)).1) = r3_0 at f3_0
  obtain ⟨A3_0, c3_0, eq3_0, l3_0, k3_0⟩ := f3_0.slice
  subst eq3_0
  simp only [maxLen] at k3_0
  have hfa4 := cEncode_len (ofC 1 2)
  refine VO.mv ?_
  refine VO.y rfl (.ext rfl rfl) ?_
  refine VO.y rfl (.ext rfl rfl) ?_
  refine VO.as ?_
  refine VO.as ?_
  refine VO.k3 0 1 2 ?_
  refine VC.rs ?_
  refine VO.bsl (cs := [Value.int .u8 (1), Value.int .u8 (2), Value.int .u8 (1), Value.int .u8 (1), Value.int .u8 (0), Value.int .u8 (1), Value.int .u8 (97), Value.int .u8 (1), Value.int .u8 (49)]) 106 rfl rfl tsl23 tz5 rfl rfl (fun g5 => ?_)
  have ho8 : OwnL .byte (mone g5 (.cells [Value.int .u8 (1), Value.int .u8 (2), Value.int .u8 (1), Value.int .u8 (1), Value.int .u8 (0), Value.int .u8 (1), Value.int .u8 (97), Value.int .u8 (1), Value.int .u8 (49)].toArray 5 (0, 0))) mnil (Value.slice (some ⟨g5, 0, none⟩) (9) (9)) [UInt8.ofNat 1, UInt8.ofNat 2, UInt8.ofNat 1, UInt8.ofNat 1, UInt8.ofNat 0, UInt8.ofNat 1, UInt8.ofNat 97, UInt8.ofNat 1, UInt8.ofNat 49] := OwnL.lit 9 (All2c.cons (c1 := [Value.int .u8 (1)]) (rd_byteN (by first | omega | (simp only [List.length_append, List.length_nil, List.length_cons, List.length_take, List.length_drop] at *; omega) | (have : exC.length = 6 := rfl; omega) | decide)) (All2c.cons (c1 := [Value.int .u8 (2)]) (rd_byteN (by first | omega | (simp only [List.length_append, List.length_nil, List.length_cons, List.length_take, List.length_drop] at *; omega) | (have : exC.length = 6 := rfl; omega) | decide)) (All2c.cons (c1 := [Value.int .u8 (1)]) (rd_byteN (by first | omega | (simp only [List.length_append, List.length_nil, List.length_cons, List.length_take, List.length_drop] at *; omega) | (have : exC.length = 6 := rfl; omega) | decide)) (All2c.cons (c1 := [Value.int .u8 (1)]) (rd_byteN (by first | omega | (simp only [List.length_append, List.length_nil, List.length_cons, List.length_take, List.length_drop] at *; omega) | (have : exC.length = 6 := rfl; omega) | decide)) (All2c.cons (c1 := [Value.int .u8 (0)]) (rd_byteN (by first | omega | (simp only [List.length_append, List.length_nil, List.length_cons, List.length_take, List.length_drop] at *; omega) | (have : exC.length = 6 := rfl; omega) | decide)) (All2c.cons (c1 := [Value.int .u8 (1)]) (rd_byteN (by first | omega | (simp only [List.length_append, List.length_nil, List.length_cons, List.length_take, List.length_drop] at *; omega) | (have : exC.length = 6 := rfl; omega) | decide)) (All2c.cons (c1 := [Value.int .u8 (97)]) (rd_byteN (by first | omega | (simp only [List.length_append, List.length_nil, List.length_cons, List.length_take, List.length_drop] at *; omega) | (have : exC.length = 6 := rfl; omega) | decide)) (All2c.cons (c1 := [Value.int .u8 (1)]) (rd_byteN (by first | omega | (simp only [List.length_append, List.length_nil, List.length_cons, List.length_take, List.length_drop] at *; omega) | (have : exC.length = 6 := rfl; omega) | decide)) (All2c.cons (c1 := [Value.int .u8 (49)]) (rd_byteN (by first | omega | (simp only [List.length_append, List.length_nil, List.length_cons, List.length_take, List.length_drop] at *; omega) | (have : exC.length = 6 := rfl; omega) | decide)) All2c.nil))))))))) rfl rfl
  refine VO.callN 107 rfl fnOk46 rfl (fun W hW => cDecode_ok_ W (OwnL.rd ho8 (hW.at (i := 106) rfl) (mle_nil _))) (fun v7 m7 hv7 => ?_)
  obtain ⟨s7_0, rfl, f7_0⟩ := hv7
  generalize hq7_0 : ((cDecode ([UInt8.ofNat 1, UInt8.ofNat 2, UInt8.ofNat 1, UInt8.ofNat 1, UInt8.ofNat 0, UInt8.ofNat 1, UInt8.ofNat 97, UInt8.ofNat 1, UInt8.ofNat 49])).1) = r7_0 at f7_0
  obtain ⟨q7_0_A2, q7_0_c2, q7_0_n2, rfl, q7_0_S, q7_0_0, q7_0_1, q7_0_2⟩ := openO_Commit (x0 := r7_0.1) (x1 := r7_0.2.1) (x2 := r7_0.2.2) f7_0
  simp only [inK] at q7_0_0
  simp only [inK] at q7_0_1
  have q7_0_r2 := Rd.room (q7_0_2.rd (mle_refl _))
  refine VO.inv _ (fun _ h => h.parts (i := 107) rfl q7_0_S [109]) ?_
  have hfa10 := cDecode_fits ([UInt8.ofNat 1, UInt8.ofNat 2, UInt8.ofNat 1, UInt8.ofNat 1, UInt8.ofNat 0, UInt8.ofNat 1, UInt8.ofNat 97, UInt8.ofNat 1, UInt8.ofNat 49])
  refine VO.mv ?_
  refine VO.y rfl (.ext rfl rfl) ?_
  refine VO.y rfl (.ext rfl rfl) ?_
  refine VO.alloc 112 rfl tz52 (fun g11 => ?_)
  refine VO.store (k := 3) (c' := [Value.int .i64 (r7_0.1), Value.int .i64 (r7_0.2.1), Value.slice q7_0_A2 (r7_0.2.2.length) (q7_0_c2)]) 112 rfl rfl (.inl tk52) rfl rfl rfl rfl rfl ?_
  refine VO.as ?_
  refine VO.k5 0 1 2 3 4 ?_
  refine VC.seq ?_
  refine VC.regD _ 14 [(0, true), (1, true), (2, true), (3, true), (4, true), (5, true), (6, true), (7, true), (8, false), (9, false), (10, true), (11, true), (12, true), (13, false)] follows (by kernel_rfl) (fun _ h => h.sub [112, 109, 106, 103, 102, 0]) ?_
  refine VD.y rfl rfl (.inl rfl) (.mv rfl) ?_
  refine VD.y rfl rfl (.inl rfl) (.eql rfl rfl) ?_
  refine VD.y rfl rfl (.inl rfl) (.mv rfl) ?_
  refine VD.dec (s := 17) rfl (fun hc13 => ?_) (fun hc13 => ?_)
  · -- T
    refine VD.y rfl rfl (.inr ⟨_, _, rfl, _, rfl, rfl⟩) (.mv rfl) ?_
    refine VD.y rfl rfl (.inr ⟨_, _, rfl, _, rfl, rfl⟩) (.eql rfl rfl) ?_
    refine VD.y rfl rfl (.inl rfl) (.pT rfl rfl) ?_
    refine VD.y rfl rfl (.inl rfl) (.mv rfl) ?_
    refine VD.dec (s := 21) rfl (fun hc14 => ?_) (fun hc14 => ?_)
    · -- TT
      refine VD.y rfl rfl (.inr ⟨_, _, rfl, _, rfl, rfl⟩) (.mv rfl) ?_
      refine VD.gbsl (cs := [Value.int .u8 (1), Value.int .u8 (2), Value.int .u8 (1), Value.int .u8 (1), Value.int .u8 (0), Value.int .u8 (1), Value.int .u8 (97), Value.int .u8 (1), Value.int .u8 (49)]) 116 rfl rfl ⟨_, rfl, rfl⟩ rfl tsl23 tz5 rfl rfl (fun _ h => h.sub [112, 109, 106, 103, 102, 0]) (fun g15 => ?_)
      have ho18 : OwnL .byte (mone g15 (.cells [Value.int .u8 (1), Value.int .u8 (2), Value.int .u8 (1), Value.int .u8 (1), Value.int .u8 (0), Value.int .u8 (1), Value.int .u8 (97), Value.int .u8 (1), Value.int .u8 (49)].toArray 5 (0, 0))) mnil (Value.slice (some ⟨g15, 0, none⟩) (9) (9)) [UInt8.ofNat 1, UInt8.ofNat 2, UInt8.ofNat 1, UInt8.ofNat 1, UInt8.ofNat 0, UInt8.ofNat 1, UInt8.ofNat 97, UInt8.ofNat 1, UInt8.ofNat 49] := OwnL.lit 9 (All2c.cons (c1 := [Value.int .u8 (1)]) (rd_byteN (by first | omega | (simp only [List.length_append, List.length_nil, List.length_cons, List.length_take, List.length_drop] at *; omega) | (have : exC.length = 6 := rfl; omega) | decide)) (All2c.cons (c1 := [Value.int .u8 (2)]) (rd_byteN (by first | omega | (simp only [List.length_append, List.length_nil, List.length_cons, List.length_take, List.length_drop] at *; omega) | (have : exC.length = 6 := rfl; omega) | decide)) (All2c.cons (c1 := [Value.int .u8 (1)]) (rd_byteN (by first | omega | (simp only [List.length_append, List.length_nil, List.length_cons, List.length_take, List.length_drop] at *; omega) | (have : exC.length = 6 := rfl; omega) | decide)) (All2c.cons (c1 := [Value.int .u8 (1)]) (rd_byteN (by first | omega | (simp only [List.length_append, List.length_nil, List.length_cons, List.length_take, List.length_drop] at *; omega) | (have : exC.length = 6 := rfl; omega) | decide)) (All2c.cons (c1 := [Value.int .u8 (0)]) (rd_byteN (by first | omega | (simp only [List.length_append, List.length_nil, List.length_cons, List.length_take, List.length_drop] at *; omega) | (have : exC.length = 6 := rfl; omega) | decide)) (All2c.cons (c1 := [Value.int .u8 (1)]) (rd_byteN (by first | omega | (simp only [List.length_append, List.length_nil, List.length_cons, List.length_take, List.length_drop] at *; omega) | (have : exC.length = 6 := rfl; omega) | decide)) (All2c.cons (c1 := [Value.int .u8 (97)]) (rd_byteN (by first | omega | (simp only [List.length_append, List.length_nil, List.length_cons, List.length_take, List.length_drop] at *; omega) | (have : exC.length = 6 := rfl; omega) | decide)) (All2c.cons (c1 := [Value.int .u8 (1)]) (rd_byteN (by first | omega | (simp only [List.length_append, List.length_nil, List.length_cons, List.length_take, List.length_drop] at *; omega) | (have : exC.length = 6 := rfl; omega) | decide)) (All2c.cons (c1 := [Value.int .u8 (49)]) (rd_byteN (by first | omega | (simp only [List.length_append, List.length_nil, List.length_cons, List.length_take, List.length_drop] at *; omega) | (have : exC.length = 6 := rfl; omega) | decide)) All2c.nil))))))))) rfl rfl
      refine VD.callN 117 rfl rfl (.inr ⟨_, _, rfl, _, rfl, rfl⟩) fnOk33 rfl (fun _ h => h.sub [112, 109, 106, 103, 102, 0]) (fun W hW => SameBytes_ok W (OwnL.rd (Ow.ownl f3_0 rfl mnil) (hW.at (i := 103) rfl) (mle_nil _)) (OwnL.rd ho18 (hW.at (i := 116) rfl) (mle_nil _))) (fun v17 m17 hv17 => ?_)
      subst hv17
      refine VD.y rfl rfl (.inl rfl) (.pT rfl rfl) ?_
      refine VD.y rfl rfl (.inl rfl) (.mv rfl) ?_
      refine VD.dec (s := 26) rfl (fun hc19 => ?_) (fun hc19 => ?_)
      · -- TTT
        refine VD.y rfl rfl (.inr ⟨_, _, rfl, _, rfl, rfl⟩) (.ldA 112 rfl tk52 rfl (cellsAt_one rfl rfl)) ?_
        refine VD.callN 120 rfl rfl (.inr ⟨_, _, rfl, _, rfl, rfl⟩) fnOk51 rfl (fun _ h => h.sub [112, 109, 106, 103, 102, 0]) (fun W hW => of04_ok W 1 (by simp only [inK]; (first | omega | (simp only [List.length_append, List.length_nil, List.length_cons, List.length_take, List.length_drop] at *; omega) | (have : exC.length = 6 := rfl; omega) | decide)) 2 (by simp only [inK]; (first | omega | (simp only [List.length_append, List.length_nil, List.length_cons, List.length_take, List.length_drop] at *; omega) | (have : exC.length = 6 := rfl; omega) | decide))) (fun v20 m20 hv20 => ?_)
        obtain ⟨s20_0, rfl, f20_0⟩ := hv20
        obtain ⟨q20_0_A2, q20_0_c2, q20_0_n2, rfl, q20_0_S, q20_0_0, q20_0_1, q20_0_2⟩ := openO_Commit (x0 := (ofC 1 2).1) (x1 := (ofC 1 2).2.1) (x2 := (ofC 1 2).2.2) f20_0
        simp only [inK] at q20_0_0
        simp only [inK] at q20_0_1
        have q20_0_r2 := Rd.room (q20_0_2.rd (mle_refl _))
        refine VD.inv _ (fun _ h => h.parts (i := 120) rfl q20_0_S [121]) ?_
        refine VD.nil rfl ?_ rfl
        refine VO.gcallN 122 rfl ⟨_, rfl, rfl⟩ fnOk49 rfl (fun W hW => SameCommit_ok W (show Rd TCommit _ _ r7_0 from (mk_Commit (m := wm W) r7_0.1 r7_0.2.1 r7_0.2.2 (by simp only [inK]; (first | omega | (simp only [List.length_append, List.length_nil, List.length_cons, List.length_take, List.length_drop] at *; omega) | (have : exC.length = 6 := rfl; omega) | decide)) (by simp only [inK]; (first | omega | (simp only [List.length_append, List.length_nil, List.length_cons, List.length_take, List.length_drop] at *; omega) | (have : exC.length = 6 := rfl; omega) | decide)) (OwnL.rd (Ow.ownl q7_0_2 rfl mnil) (hW.at (i := 109) rfl) (mle_nil _)))) (show Rd TCommit _ _ (ofC 1 2) from (mk_Commit (m := wm W) ((ofC 1 2).1) ((ofC 1 2).2.1) ((ofC 1 2).2.2) (by simp only [inK]; (first | omega | (simp only [List.length_append, List.length_nil, List.length_cons, List.length_take, List.length_drop] at *; omega) | (have : exC.length = 6 := rfl; omega) | decide)) (by simp only [inK]; (first | omega | (simp only [List.length_append, List.length_nil, List.length_cons, List.length_take, List.length_drop] at *; omega) | (have : exC.length = 6 := rfl; omega) | decide)) (OwnL.rd (Ow.ownl q20_0_2 rfl mnil) (hW.at (i := 121) rfl) (mle_nil _))))) (fun v22 m22 hv22 => ?_)
        subst hv22
        refine VO.y rfl (.pT rfl rfl) ?_
        refine VO.as ?_
        refine VO.inv [(112, _), (109, _), (103, _), (0, _)] (fun _ h => h.sub [112, 109, 103, 0]) ?_
        refine VO.k5 0 1 2 3 4 ?_
        refine outN ?_
        refine VC.ret ?_
        refine ⟨_, _, res_run (rs := [.tmp 0]) rfl (.tmp rfl .nil), fun W_ hI => out_of (l := []) hI [] rfl rfl (mle_refl _) (fun hS_ => ?_)⟩
        dsimp only [packV]
        all_goals (first | rfl | (exact congrArg Value.bool (decide_eq_true (by subst_vars; first | (simp only [ofC, ex4E, ex4D, ex4x, ex4n]; done) | (simp only [ofC, ex4E, ex4D, ex4x, ex4n]; first | rfl | decide) | rfl | decide))))
      · -- TTF
        exact absurd (by subst_vars; first | (simp only [ofC, ex4E, ex4D, ex4x, ex4n]; done) | (simp only [ofC, ex4E, ex4D, ex4x, ex4n]; first | rfl | decide) | rfl | decide) hc19
    · -- TF
      exact absurd (by subst_vars; first | (simp only [ofC, ex4E, ex4D, ex4x, ex4n]; done) | (simp only [ofC, ex4E, ex4D, ex4x, ex4n]; first | rfl | decide) | rfl | decide) hc14
  · -- F
    exact absurd (by subst_vars; first | (simp only [ofC, ex4E, ex4D, ex4x, ex4n]; done) | (simp only [ofC, ex4E, ex4D, ex4x, ex4n]; first | rfl | decide) | rfl | decide) hc13
theorem commitFirst_ok (W : World) (d0 : Int) (h0 : inK .i64 d0) (d1 : Int) (h1 : inK .i64 d1) {v2 : Value} {d2 : List DCommit} (h2 : Rd (.sl TCommit) (wm W) [v2] d2) (d3 : Int) (h3 : inK .i64 d3) : CallR Try.prog 12 [.int .i64 d0, .int .i64 d1, v2, .int .i64 d3] W (mnil) (fun v m' => v = .bool true) := by
  have h0' := h0; simp only [inK] at h0'
  have h1' := h1; simp only [inK] at h1'
  obtain ⟨A2, c2, rfl, l2, k2⟩ := h2.slice
  simp only [maxLen] at k2
  have h3' := h3; simp only [inK] at h3'
  refine CallR.ofA (n := 101) Try.func12 rfl rfl rfl ?_
  refine VC.rs ?_
  refine VO.as ?_
  refine VO.k5 0 1 2 3 8 ?_
  refine VC.seq ?_
  refine VC.rs ?_
  refine VO.callN 101 rfl fnOk48 rfl (fun W hW => lives04_ok W ) (fun v1 m1 hv1 => ?_)
  subst hv1
  refine VO.y rfl (.not rfl) ?_
  refine VO.k6 0 1 2 3 8 15 ?_
  refine VC.condF rfl ?_
  refine VC.skip ?_
  refine outN ?_
  refine VC.rs ?_
  refine VO.y rfl (.bst (cs := [Value.int .i64 (0), Value.int .i64 (0)]) rfl tst57 tz57 rfl) ?_
  refine VO.alloc 103 rfl tz57 (fun g2 => ?_)
  refine VO.store (k := 2) (c' := [Value.int .i64 (0), Value.int .i64 (0)]) 103 rfl rfl (.inl tk57) rfl rfl rfl rfl rfl ?_
  refine VO.k7 0 1 2 3 8 9 15 ?_
  refine VC.seq ?_
  refine VC.seq ?_
  refine VC.regD _ 9 [(0, true), (1, true), (2, true), (3, true), (4, true), (5, true), (6, true), (8, true), (7, false)] follows (by kernel_rfl) (fun _ h => h.sub [103, 101, 0]) ?_
  refine VD.y rfl rfl (.inl rfl) (.mv rfl) ?_
  refine VD.y rfl rfl (.inl rfl) (.lenS rfl tsl61) ?_
  refine VD.y rfl rfl (.inl rfl) (.gtr rfl rfl) ?_
  refine VD.y rfl rfl (.inl rfl) (.mv rfl) ?_
  refine VD.dec (s := 20) rfl (fun hc4 => ?_) (fun hc4 => ?_)
  · -- T
    refine VD.gn rfl rfl (.inl ⟨_, rfl, rfl⟩) ?_
    refine VD.gn rfl rfl (.inl ⟨_, rfl, rfl⟩) ?_
    refine VD.gn rfl rfl (.inl ⟨_, rfl, rfl⟩) ?_
    refine VD.gn rfl rfl (.inl ⟨_, rfl, rfl⟩) ?_
    refine VD.gnF rfl rfl (.inl ⟨_, rfl, rfl⟩) ?_
    refine VD.nil rfl ?_ rfl
    refine VO.gN ?_
    refine VO.y rfl (.pT rfl rfl) ?_
    refine VO.k8 0 1 2 3 8 9 15 27 ?_
    refine outN ?_
    refine VC.condT rfl ?_
    refine VC.rs ?_
    refine VO.as ?_
    refine VO.k8 0 1 2 3 8 9 15 27 ?_
    refine VC.ret ?_
    refine outR ?_
    refine ⟨_, _, res_run (rs := [.tmp 8]) rfl (.tmp rfl .nil), fun W_ hI => out_of (l := []) hI [] rfl rfl (mle_refl _) (fun hS_ => ?_)⟩
    dsimp only [packV]
    all_goals (first | rfl | (simp [*]; done))
  · -- F
    refine VD.y rfl rfl (.inr ⟨_, _, rfl, _, rfl, rfl⟩) (.mv rfl) ?_
    refine VD.y rfl rfl (.inr ⟨_, _, rfl, _, rfl, rfl⟩) (.mv rfl) ?_
    refine VD.y rfl rfl (.inr ⟨_, _, rfl, _, rfl, rfl⟩) (.mv rfl) ?_
    refine VD.y rfl rfl (.inr ⟨_, _, rfl, _, rfl, rfl⟩) (.ldA 103 rfl tk57 rfl (cellsAt_one rfl rfl)) ?_
    refine VD.callN 105 rfl rfl (.inr ⟨_, _, rfl, _, rfl, rfl⟩) fnOk52 rfl (fun _ h => h.sub [103, 101, 0]) (fun W hW => follows_ok W d0 (by simp only [inK]; (first | omega | (simp only [List.length_append, List.length_nil, List.length_cons, List.length_take, List.length_drop] at *; omega) | (have h_ := hf _ ‹d2[k]? = some _›; omega))) d1 (by simp only [inK]; (first | omega | (simp only [List.length_append, List.length_nil, List.length_cons, List.length_take, List.length_drop] at *; omega) | (have h_ := hf _ ‹d2[k]? = some _›; omega))) (Rd.mono h2 (hW.at (i := 0) rfl))) (fun v5 m5 hv5 => ?_)
    obtain ⟨s5_0, rfl, f5_0⟩ := hv5
    obtain ⟨rfl, q5_0_0, q5_0_1⟩ := open_Fault (x0 := (cFollows d0 d1 d2).1) (x1 := (cFollows d0 d1 d2).2) (f5_0.rd (mle_refl _))
    simp only [inK] at q5_0_0
    simp only [inK] at q5_0_1
    refine VD.nil rfl ?_ rfl
    refine VO.gy rfl ⟨_, rfl, rfl⟩ (.stneq (p := ((cFollows d0 d1 d2).1) = 0 ∧ ((cFollows d0 d1 d2).2) = 0) rfl rfl (teq57 ((cFollows d0 d1 d2).1) ((cFollows d0 d1 d2).2)) (teq57 0 0) (by simp [ceq, ba_toList])) ?_
    refine VO.y rfl (.pF rfl rfl) ?_
    refine VO.k8 0 1 2 3 8 9 15 27 ?_
    refine outN ?_
    refine VC.cond rfl (fun hc6 => ?_) (fun hc6 => ?_)
    · -- FT
      refine VC.rs ?_
      refine VO.as ?_
      refine VO.k8 0 1 2 3 8 9 15 27 ?_
      refine VC.ret ?_
      refine outR ?_
      refine ⟨_, _, res_run (rs := [.tmp 8]) rfl (.tmp rfl .nil), fun W_ hI => out_of (l := []) hI [] rfl rfl (mle_refl _) (fun hS_ => ?_)⟩
      dsimp only [packV]
      all_goals (first | rfl | (simp [*]; done))
    · -- FF
      refine VC.skip ?_
      refine outN ?_
      refine VC.rs ?_
      refine VO.mv ?_
      refine VO.as ?_
      refine VO.k9 0 1 2 3 8 9 10 15 27 ?_
      refine VC.seq ?_
      refine VC.rs ?_
      refine VO.as ?_
      refine VO.k10 0 1 2 3 8 9 10 11 15 27 ?_
      refine VC.block ?_
      refine VC.loop (G := Nat × Int) (fun g => [(10, Value.int .i64 ((g.2))), (11, Value.int .i64 ((((g.1) : Nat) : Int))), (0, Value.int .i64 (d0)), (1, Value.int .i64 (d1)), (2, Value.slice A2 (d2.length) (c2)), (3, Value.int .i64 (d3)), (9, Value.pointer (some ⟨g2, 0, none⟩)), (15, Value.bool false), (27, Value.bool (decide (¬ (((cFollows d0 d1 d2).1) = 0 ∧ ((cFollows d0 d1 d2).2) = 0))))]) (fun g => [(103, mone g2 (.cells [Value.int .i64 (0), Value.int .i64 (0)].toArray 57 (0, 0))), (0, wm W)]) (fun g => ((g.1) ≤ d2.length) ∧ (∀ y, d2[(g.1)]? = some y → (g.2) ≤ y.1)) (fun g => d2.length - (g.1)) (0, d0) (⟨by omega, by (intro y hy; exact (first_at ((Decidable.not_not.1 (by assumption) : (cFollows d0 d1 d2).1 = 0 ∧ (cFollows d0 d1 d2).2 = 0).1) hy).2.1 rfl)⟩) ⟨⟨rfl, rfl, rfl, rfl, rfl, rfl, rfl, rfl, rfl, trivial⟩, fun _ h => h.sub [103, 0]⟩ ?_
      rintro ⟨k, last⟩ ⟨hk, hla⟩
      replace hk : k ≤ d2.length := hk
      replace hla : ∀ y, d2[k]? = some y → last ≤ y.1 := hla
      show VC _ _ _ _ _ [(10, Value.int .i64 (last)), (11, Value.int .i64 (((k : Nat) : Int))), (0, Value.int .i64 (d0)), (1, Value.int .i64 (d1)), (2, Value.slice A2 (d2.length) (c2)), (3, Value.int .i64 (d3)), (9, Value.pointer (some ⟨g2, 0, none⟩)), (15, Value.bool false), (27, Value.bool (decide (¬ (((cFollows d0 d1 d2).1) = 0 ∧ ((cFollows d0 d1 d2).2) = 0))))] [(103, mone g2 (.cells [Value.int .i64 (0), Value.int .i64 (0)].toArray 57 (0, 0))), (0, wm W)]
      have hv := (Decidable.not_not.1 (by assumption) : (cFollows d0 d1 d2).1 = 0 ∧ (cFollows d0 d1 d2).2 = 0).1
      have hf := fun x hx => first_at (x := x) hv (hx : d2[k]? = some x)
      refine VC.seq ?_
      refine VC.rs ?_
      refine VO.mv ?_
      refine VO.mv ?_
      refine VO.y rfl (.lenS rfl tsl61) ?_
      refine VO.y rfl (.lss rfl rfl) ?_
      refine VO.k10 0 1 2 3 9 10 11 15 27 32 ?_
      refine VC.cond rfl (fun hc7 => ?_) (fun hc7 => ?_)
      · -- FFT
        refine VC.skip ?_
        refine outN ?_
        refine VC.seq ?_
        refine VC.block ?_
        refine VC.seq ?_
        refine VC.seq ?_
        refine VC.regD _ 32 [(0, true), (1, true), (2, true), (3, true), (4, true), (5, true), (6, true), (7, true), (8, true), (9, true), (10, true), (11, true), (12, true), (13, true), (14, true), (15, true), (16, true), (17, true), (18, true), (19, true), (20, true), (21, true), (22, true), (23, true), (24, true), (26, true), (25, false), (27, true), (28, true), (29, true), (30, true), (31, true)] follows (by kernel_rfl) (fun _ h => h.sub [103, 0]) ?_
        refine VD.y rfl rfl (.inl rfl) (.mv rfl) ?_
        refine VD.y rfl rfl (.inl rfl) (.mv rfl) ?_
        obtain ⟨x8, hx8⟩ : ∃ z_, (d2)[k]? = some z_ := ⟨_, List.getElem?_eq_getElem (by first | omega | (simp only [List.length_append, List.length_nil, List.length_cons, List.length_take, List.length_drop] at *; omega) | (have h_ := hf _ ‹d2[k]? = some _›; omega))⟩
        obtain ⟨gg8, oo8, ec8, ea8, hce8, hre8⟩ := h2.elem hx8
        cases ea8
        obtain ⟨q8_A2, q8_c2, rfl, q8_0, q8_1, q8_2⟩ := open_Commit (x0 := x8.1) (x1 := x8.2.1) (x2 := x8.2.2) hre8
        simp only [inK] at q8_0
        simp only [inK] at q8_1
        have q8_r2 := Rd.room q8_2
        refine VD.y rfl rfl (.inl rfl) (.ixI k rfl rfl tsl61 rfl (by first | omega | (simp only [List.length_append, List.length_nil, List.length_cons, List.length_take, List.length_drop] at *; omega) | (have h_ := hf _ ‹d2[k]? = some _›; omega))) ?_
        refine VD.y rfl rfl (.inl rfl) (.fa rfl tst52 rfl) ?_
        refine VD.y rfl rfl (.inl rfl) (.ld1 0 rfl tk3 rfl (hce8.at1 (j := 1) rfl)) ?_
        refine VD.y rfl rfl (.inl rfl) (.sub rfl rfl rfl ⟨by first | omega | (simp only [List.length_append, List.length_nil, List.length_cons, List.length_take, List.length_drop] at *; omega) | (have h_ := hf _ ‹d2[k]? = some _›; omega), by first | omega | (simp only [List.length_append, List.length_nil, List.length_cons, List.length_take, List.length_drop] at *; omega) | (have h_ := hf _ ‹d2[k]? = some _›; omega)⟩) ?_
        refine VD.y rfl rfl (.inl rfl) (.mv rfl) ?_
        refine VD.y rfl rfl (.inl rfl) (.sub rfl rfl rfl ⟨by first | omega | (simp only [List.length_append, List.length_nil, List.length_cons, List.length_take, List.length_drop] at *; omega) | (have h_ := hf _ ‹d2[k]? = some _›; omega), by first | omega | (simp only [List.length_append, List.length_nil, List.length_cons, List.length_take, List.length_drop] at *; omega) | (have h_ := hf _ ‹d2[k]? = some _›; omega)⟩) ?_
        refine VD.y rfl rfl (.inl rfl) (.mv rfl) ?_
        refine VD.y rfl rfl (.inl rfl) (.neq rfl rfl) ?_
        refine VD.y rfl rfl (.inl rfl) (.mv rfl) ?_
        refine VD.dec (s := 45) rfl (fun hc9 => ?_) (fun hc9 => ?_)
        · -- FFTT
          have h_ := (hf _ ‹d2[k]? = some _›).1; omega
        · -- FFTF
          refine VD.y rfl rfl (.inr ⟨_, _, rfl, _, rfl, rfl⟩) (.mv rfl) ?_
          refine VD.y rfl rfl (.inr ⟨_, _, rfl, _, rfl, rfl⟩) (.mv rfl) ?_
          refine VD.y rfl rfl (.inr ⟨_, _, rfl, _, rfl, rfl⟩) (.ixI k rfl rfl tsl61 rfl (by first | omega | (simp only [List.length_append, List.length_nil, List.length_cons, List.length_take, List.length_drop] at *; omega) | (have h_ := hf _ ‹d2[k]? = some _›; omega))) ?_
          refine VD.y rfl rfl (.inr ⟨_, _, rfl, _, rfl, rfl⟩) (.fa rfl tst52 rfl) ?_
          refine VD.y rfl rfl (.inr ⟨_, _, rfl, _, rfl, rfl⟩) (.ld1 0 rfl tk3 rfl (hce8.at1 (j := 0) rfl)) ?_
          refine VD.y rfl rfl (.inr ⟨_, _, rfl, _, rfl, rfl⟩) (.mv rfl) ?_
          refine VD.y rfl rfl (.inr ⟨_, _, rfl, _, rfl, rfl⟩) (.lss rfl rfl) ?_
          refine VD.y rfl rfl (.inl rfl) (.pF rfl rfl) ?_
          refine VD.y rfl rfl (.inl rfl) (.mv rfl) ?_
          refine VD.dec (s := 54) rfl (fun hc11 => ?_) (fun hc11 => ?_)
          · -- FFTFT
            have h_ := hla _ ‹d2[k]? = some _›; omega
          · -- FFTFF
            refine VD.y rfl rfl (.inr ⟨_, _, rfl, _, rfl, rfl⟩) (.mv rfl) ?_
            refine VD.y rfl rfl (.inr ⟨_, _, rfl, _, rfl, rfl⟩) (.mv rfl) ?_
            refine VD.y rfl rfl (.inr ⟨_, _, rfl, _, rfl, rfl⟩) (.mv rfl) ?_
            refine VD.y rfl rfl (.inr ⟨_, _, rfl, _, rfl, rfl⟩) (.mv rfl) ?_
            have hs12 := h2.pre (j := k) (by first | omega | (simp only [List.length_append, List.length_nil, List.length_cons, List.length_take, List.length_drop] at *; omega) | (have h_ := hf _ ‹d2[k]? = some _›; omega))
            refine VD.y rfl rfl (.inr ⟨_, _, rfl, _, rfl, rfl⟩) (.slHI k rfl rfl tsl61 rfl (by first | omega | (simp only [List.length_append, List.length_nil, List.length_cons, List.length_take, List.length_drop] at *; omega) | (have h_ := hf _ ‹d2[k]? = some _›; omega))) ?_
            refine VD.y rfl rfl (.inr ⟨_, _, rfl, _, rfl, rfl⟩) (.ldA 103 rfl tk57 rfl (cellsAt_one rfl rfl)) ?_
            refine VD.callN 113 rfl rfl (.inr ⟨_, _, rfl, _, rfl, rfl⟩) fnOk52 rfl (fun _ h => h.sub [103, 0]) (fun W hW => follows_ok W d0 (by simp only [inK]; (first | omega | (simp only [List.length_append, List.length_nil, List.length_cons, List.length_take, List.length_drop] at *; omega) | (have h_ := hf _ ‹d2[k]? = some _›; omega))) d1 (by simp only [inK]; (first | omega | (simp only [List.length_append, List.length_nil, List.length_cons, List.length_take, List.length_drop] at *; omega) | (have h_ := hf _ ‹d2[k]? = some _›; omega))) (Rd.mono hs12 (hW.at (i := 0) rfl))) (fun v13 m13 hv13 => ?_)
            obtain ⟨s13_0, rfl, f13_0⟩ := hv13
            obtain ⟨rfl, q13_0_0, q13_0_1⟩ := open_Fault (x0 := (cFollows d0 d1 ((d2).take k)).1) (x1 := (cFollows d0 d1 ((d2).take k)).2) (f13_0.rd (mle_refl _))
            simp only [inK] at q13_0_0
            simp only [inK] at q13_0_1
            refine VD.y rfl rfl (.inr ⟨_, _, rfl, _, rfl, rfl⟩) (.stneq (p := ((cFollows d0 d1 ((d2).take k)).1) = 0 ∧ ((cFollows d0 d1 ((d2).take k)).2) = 0) rfl rfl (teq57 ((cFollows d0 d1 ((d2).take k)).1) ((cFollows d0 d1 ((d2).take k)).2)) (teq57 0 0) (by simp [ceq, ba_toList])) ?_
            refine VD.y rfl rfl (.inl rfl) (.pF rfl rfl) ?_
            refine VD.y rfl rfl (.inl rfl) (.mv rfl) ?_
            refine VD.dec (s := 64) rfl (fun hc14 => ?_) (fun hc14 => ?_)
            · -- FFTFFT
              exact absurd (by rw [(hf _ ‹d2[k]? = some _›).2.2.2.2.2.1]; exact ⟨rfl, rfl⟩) hc14
            · -- FFTFFF
              refine VD.y rfl rfl (.inr ⟨_, _, rfl, _, rfl, rfl⟩) (.mv rfl) ?_
              refine VD.y rfl rfl (.inr ⟨_, _, rfl, _, rfl, rfl⟩) (.mv rfl) ?_
              refine VD.nil rfl ?_ rfl
              refine VO.gy rfl ⟨_, rfl, rfl⟩ (.ixI k rfl rfl tsl61 rfl (by first | omega | (simp only [List.length_append, List.length_nil, List.length_cons, List.length_take, List.length_drop] at *; omega) | (have h_ := hf _ ‹d2[k]? = some _›; omega))) ?_
              refine VO.gy rfl ⟨_, rfl, rfl⟩ (.ldA 0 rfl tk52 rfl hce8) ?_
              refine VO.gcallN 116 rfl ⟨_, rfl, rfl⟩ fnOk50 rfl (fun W hW => cCheck_ok_ W (Rd.mono hre8 (hW.at (i := 0) rfl))) (fun v16 m16 hv16 => ?_)
              subst hv16
              have hfa17 := cCheck_range x8
              refine VO.gy rfl ⟨_, rfl, rfl⟩ (.neq rfl rfl) ?_
              refine VO.y rfl (.pF rfl rfl) ?_
              refine VO.k11 0 1 2 3 9 10 11 15 27 32 71 ?_
              refine outN ?_
              refine VC.cond rfl (fun hc18 => ?_) (fun hc18 => ?_)
              · -- FFTFFFT
                exact absurd (hf _ ‹d2[k]? = some _›).2.2.1 hc18
              · -- FFTFFFF
                refine VC.skip ?_
                refine outN ?_
                refine VC.reg ?_
                refine VO.mv ?_
                refine VO.mv ?_
                refine VO.y rfl (.ixI k rfl rfl tsl61 rfl (by first | omega | (simp only [List.length_append, List.length_nil, List.length_cons, List.length_take, List.length_drop] at *; omega) | (have h_ := hf _ ‹d2[k]? = some _›; omega))) ?_
                refine VO.y rfl (.fa rfl tst52 rfl) ?_
                refine VO.y rfl (.ld1 0 rfl tk3 rfl (hce8.at1 (j := 0) rfl)) ?_
                refine VO.as ?_
                refine VO.k11 0 1 2 3 9 10 11 15 27 32 71 ?_
                refine outBN ?_
                refine outN ?_
                refine VC.reg ?_
                refine VO.mv ?_
                refine VO.y rfl (.add (c := ((k + 1 : Nat) : Int)) rfl rfl (by omega) ⟨by first | omega | (simp only [List.length_append, List.length_nil, List.length_cons, List.length_take, List.length_drop] at *; omega) | (have h_ := hf _ ‹d2[k]? = some _›; omega), by first | omega | (simp only [List.length_append, List.length_nil, List.length_cons, List.length_take, List.length_drop] at *; omega) | (have h_ := hf _ ‹d2[k]? = some _›; omega)⟩) ?_
                refine VO.as ?_
                refine VO.k11 0 1 2 3 9 10 11 15 27 32 71 ?_
                exact outN ⟨⟨k + 1, x8.1⟩, ⟨by omega, by exact (hf _ ‹d2[k]? = some _›).2.2.2.2.2.2⟩, by first | omega | (simp only [List.length_append, List.length_nil, List.length_cons, List.length_take, List.length_drop] at *; omega) | (have h_ := hf _ ‹d2[k]? = some _›; omega), ⟨⟨rfl, rfl, rfl, rfl, rfl, rfl, rfl, rfl, rfl, trivial⟩, fun _ h => Inv.sub h [103, 0]⟩⟩
      · -- FFF
        refine VC.exit ?_
        refine outE ?_
        refine outE ?_
        refine outBB ?_
        refine outN ?_
        refine VC.seq ?_
        refine VC.rs ?_
        refine VO.mv ?_
        refine VO.y rfl (.lenS rfl tsl61) ?_
        refine VO.y rfl (.lss rfl rfl) ?_
        refine VO.k11 0 1 2 3 9 10 11 15 27 32 79 ?_
        refine VC.cond rfl (fun hc20 => ?_) (fun hc20 => ?_)
        · -- FFFT
          refine VC.rs ?_
          refine VO.as ?_
          refine VO.k12 0 1 2 3 8 9 10 11 15 27 32 79 ?_
          refine VC.ret ?_
          refine outR ?_
          refine ⟨_, _, res_run (rs := [.tmp 8]) rfl (.tmp rfl .nil), fun W_ hI => out_of (l := []) hI [] rfl rfl (mle_refl _) (fun hS_ => ?_)⟩
          dsimp only [packV]
          all_goals (first | rfl | (simp [*]; done))
        · -- FFFF
          refine VC.skip ?_
          refine outN ?_
          refine VC.rs ?_
          refine VO.mv ?_
          refine VO.mv ?_
          refine VO.y rfl (.lenS rfl tsl61) ?_
          refine VO.y rfl (.sub rfl rfl rfl ⟨by first | omega | (simp only [List.length_append, List.length_nil, List.length_cons, List.length_take, List.length_drop] at *; omega) | (have h_ := hf _ ‹d2[k]? = some _›; omega), by first | omega | (simp only [List.length_append, List.length_nil, List.length_cons, List.length_take, List.length_drop] at *; omega) | (have h_ := hf _ ‹d2[k]? = some _›; omega)⟩) ?_
          refine VO.callN 121 rfl fnOk43 rfl (fun W hW => pick_ok W d3 (by simp only [inK]; (first | omega | (simp only [List.length_append, List.length_nil, List.length_cons, List.length_take, List.length_drop] at *; omega) | (have h_ := hf _ ‹d2[k]? = some _›; omega))) (((d2.length : Nat) : Int) - 1) (by simp only [inK]; (first | omega | (simp only [List.length_append, List.length_nil, List.length_cons, List.length_take, List.length_drop] at *; omega) | (have h_ := hf _ ‹d2[k]? = some _›; omega))) (by first | omega | (simp only [List.length_append, List.length_nil, List.length_cons, List.length_take, List.length_drop] at *; omega) | (have h_ := hf _ ‹d2[k]? = some _›; omega))) (fun v21 m21 hv21 => ?_)
          subst hv21
          have hfa22 := pickI_bounds d3 (((d2.length : Nat) : Int) - 1) (by omega)
          refine VO.as ?_
          refine VO.k12 0 1 2 3 9 10 11 12 15 27 32 79 ?_
          refine VC.seq ?_
          refine VC.regD _ 8 [(0, true), (1, true), (2, true), (4, true), (5, true), (6, true), (7, true), (3, false)] follows (by kernel_rfl) (fun _ h => h.sub [121, 103, 0]) ?_
          refine VD.y rfl rfl (.inl rfl) (.mv rfl) ?_
          refine VD.y rfl rfl (.inl rfl) (.mv rfl) ?_
          have hs23 := h2.pre (j := ((pickI d3 (((d2.length : Nat) : Int) - 1)).toNat)) (by first | omega | (simp only [List.length_append, List.length_nil, List.length_cons, List.length_take, List.length_drop] at *; omega) | (have h_ := hf _ ‹d2[k]? = some _›; omega))
          refine VD.y rfl rfl (.inl rfl) (.slHI ((pickI d3 (((d2.length : Nat) : Int) - 1)).toNat) rfl rfl tsl61 (by first | omega | (simp only [List.length_append, List.length_nil, List.length_cons, List.length_take, List.length_drop] at *; omega) | (have h_ := hf _ ‹d2[k]? = some _›; omega)) (by first | omega | (simp only [List.length_append, List.length_nil, List.length_cons, List.length_take, List.length_drop] at *; omega) | (have h_ := hf _ ‹d2[k]? = some _›; omega))) ?_
          refine VD.y rfl rfl (.inl rfl) (.mv rfl) ?_
          refine VD.y rfl rfl (.inl rfl) (.mv rfl) ?_
          refine VD.y rfl rfl (.inl rfl) (.add rfl rfl rfl ⟨by first | omega | (simp only [List.length_append, List.length_nil, List.length_cons, List.length_take, List.length_drop] at *; omega) | (have h_ := hf _ ‹d2[k]? = some _›; omega), by first | omega | (simp only [List.length_append, List.length_nil, List.length_cons, List.length_take, List.length_drop] at *; omega) | (have h_ := hf _ ‹d2[k]? = some _›; omega)⟩) ?_
          obtain ⟨A24, hA24, hs24⟩ := h2.drop 3 (((pickI d3 (((d2.length : Nat) : Int) - 1)) + 1).toNat) rfl (by first | omega | (simp only [List.length_append, List.length_nil, List.length_cons, List.length_take, List.length_drop] at *; omega) | (have h_ := hf _ ‹d2[k]? = some _›; omega))
          refine VD.y rfl rfl (.inl rfl) (.slLI (((pickI d3 (((d2.length : Nat) : Int) - 1)) + 1).toNat) A24 rfl rfl tsl61 (by first | omega | (simp only [List.length_append, List.length_nil, List.length_cons, List.length_take, List.length_drop] at *; omega) | (have h_ := hf _ ‹d2[k]? = some _›; omega)) hA24 (by first | omega | (simp only [List.length_append, List.length_nil, List.length_cons, List.length_take, List.length_drop] at *; omega) | (have h_ := hf _ ‹d2[k]? = some _›; omega))) ?_
          refine VD.callN 125 rfl rfl (.inl rfl) fnOk56 rfl (fun _ h => h.sub [121, 103, 0]) (fun W hW => CopyCommits_ok W (Rd.mono hs23 (hW.at (i := 0) rfl)) (by first | omega | (simp only [List.length_append, List.length_nil, List.length_cons, List.length_take, List.length_drop] at *; omega) | (have h_ := hf _ ‹d2[k]? = some _›; omega)) (by exact fun c hc => follows_room ((Decidable.not_not.1 (by assumption) : (cFollows d0 d1 d2).1 = 0 ∧ (cFollows d0 d1 d2).2 = 0).1) c (List.mem_of_mem_take hc))) (fun v25 m25 hv25 => ?_)
          obtain ⟨s25_0, rfl, f25_0⟩ := hv25
          obtain ⟨A25_0, c25_0, eq25_0, l25_0, k25_0⟩ := f25_0.slice
          subst eq25_0
          simp only [maxLen] at k25_0
          refine VD.nil rfl ?_ rfl
          obtain ⟨oa26, oi26, oS26, oL26⟩ := Ow.opnL f25_0
          refine VO.inv _ (fun _ h => h.parts (i := 125) rfl oS26 [125, 127]) ?_
          refine VO.apart [127, 0] rfl (fun od26 => ?_)
          have oj26 := (List.pairwise_cons.1 od26).1 _ (.head _)
          obtain ⟨mo26, cs26, hM26, hA26, hC26⟩ := (OwnL.inner oL26 (mle_un_left _ (wm W)))
          obtain ⟨all26, hS26, hR26⟩ := Rd.srcI (P := Try.prog) (hs24) Try.underlying61
          refine VO.app 125 rfl rfl rfl tsl61 tz52 rfl rfl hM26 hA26 (hS26 _ 0 rfl) hR26.nice (by simp only [maxLen]; (first | omega | (simp only [List.length_append, List.length_nil, List.length_cons, List.length_take, List.length_drop] at *; omega) | (have h_ := hf _ ‹d2[k]? = some _›; omega))) (by first | omega | (simp only [List.length_append, List.length_nil, List.length_cons, List.length_take, List.length_drop] at *; omega) | (have h_ := hf _ ‹d2[k]? = some _›; omega)) (by decide) (fun v26 m26 hN26 => ?_)
          have ho26 : OwnL TCommit m26 (mun (oi26) (wm W)) v26 (((d2).take ((pickI d3 (((d2.length : Nat) : Int) - 1)).toNat)) ++ (d2.drop (((pickI d3 (((d2.length : Nat) : Int) - 1)) + 1).toNat))) := OwnL.more hC26 hN26 (All2c.mono hR26 fun _ _ h => Rd.mono h (mle_un_right oj26))
          obtain ⟨A26, c26, rfl, l26, k26⟩ := ho26.slice
          simp only [maxLen] at k26
          refine VO.as ?_
          refine VO.k13 0 1 2 3 9 10 11 12 13 15 27 32 79 ?_
          refine outN ?_
          refine VC.rs ?_
          refine VO.mv ?_
          refine VO.mv ?_
          refine VO.mv ?_
          refine VO.callN 128 rfl fnOk52 rfl (fun W hW => follows_ok W d0 (by simp only [inK]; (first | omega | (simp only [List.length_append, List.length_nil, List.length_cons, List.length_take, List.length_drop] at *; omega) | (have h_ := hf _ ‹d2[k]? = some _›; omega))) d1 (by simp only [inK]; (first | omega | (simp only [List.length_append, List.length_nil, List.length_cons, List.length_take, List.length_drop] at *; omega) | (have h_ := hf _ ‹d2[k]? = some _›; omega))) (OwnL.rd ho26 (hW.at (i := 125) rfl) (mun_le (hW.at (i := 127) rfl) (hW.at (i := 0) rfl)))) (fun v28 m28 hv28 => ?_)
          obtain ⟨s28_0, rfl, f28_0⟩ := hv28
          obtain ⟨rfl, q28_0_0, q28_0_1⟩ := open_Fault (x0 := (cFollows d0 d1 (((d2).take ((pickI d3 (((d2.length : Nat) : Int) - 1)).toNat)) ++ (d2.drop (((pickI d3 (((d2.length : Nat) : Int) - 1)) + 1).toNat)))).1) (x1 := (cFollows d0 d1 (((d2).take ((pickI d3 (((d2.length : Nat) : Int) - 1)).toNat)) ++ (d2.drop (((pickI d3 (((d2.length : Nat) : Int) - 1)) + 1).toNat)))).2) (f28_0.rd (mle_refl _))
          simp only [inK] at q28_0_0
          simp only [inK] at q28_0_1
          refine VO.mv ?_
          refine VO.y rfl (.bst (cs := [Value.int .i64 (15), Value.int .i64 (pickI d3 (((d2.length : Nat) : Int) - 1))]) rfl tst57 tz57 rfl) ?_
          refine VO.y rfl (.steql (p := ((cFollows d0 d1 (((d2).take ((pickI d3 (((d2.length : Nat) : Int) - 1)).toNat)) ++ (d2.drop (((pickI d3 (((d2.length : Nat) : Int) - 1)) + 1).toNat)))).1) = 15 ∧ ((cFollows d0 d1 (((d2).take ((pickI d3 (((d2.length : Nat) : Int) - 1)).toNat)) ++ (d2.drop (((pickI d3 (((d2.length : Nat) : Int) - 1)) + 1).toNat)))).2) = (pickI d3 (((d2.length : Nat) : Int) - 1))) rfl rfl (teq57 ((cFollows d0 d1 (((d2).take ((pickI d3 (((d2.length : Nat) : Int) - 1)).toNat)) ++ (d2.drop (((pickI d3 (((d2.length : Nat) : Int) - 1)) + 1).toNat)))).1) ((cFollows d0 d1 (((d2).take ((pickI d3 (((d2.length : Nat) : Int) - 1)).toNat)) ++ (d2.drop (((pickI d3 (((d2.length : Nat) : Int) - 1)) + 1).toNat)))).2)) (teq57 15 (pickI d3 (((d2.length : Nat) : Int) - 1))) (by simp [ceq, ba_toList])) ?_
          refine VO.as ?_
          refine VO.k14 0 1 2 3 8 9 10 11 12 13 15 27 32 79 ?_
          refine VC.ret ?_
          refine ⟨_, _, res_run (rs := [.tmp 8]) rfl (.tmp rfl .nil), fun W_ hI => out_of (l := []) hI [] rfl rfl (mle_refl _) (fun hS_ => ?_)⟩
          dsimp only [packV]
          all_goals (first | rfl | (exact congrArg Value.bool (decide_eq_true (by rw [show (pickI d3 ((d2.length : Int) - 1) + 1).toNat = (pickI d3 ((d2.length : Int) - 1)).toNat + 1 from by omega, first_out0 ((Decidable.not_not.1 (by assumption) : (cFollows d0 d1 d2).1 = 0 ∧ (cFollows d0 d1 d2).2 = 0).1) (by omega)]; exact ⟨rfl, by show (((pickI d3 ((d2.length : Int) - 1)).toNat : Nat) : Int) = _; omega⟩))))
end
section
set_option linter.unusedVariables false
set_option maxRecDepth 4000
open Go.ChangeShapes Go.WideShapes Go.ChangeAt Go.RowKit
theorem commitFirst_ok2 : tyOk Try.prog 60 (.sl TCommit) (.inl 61) = true := by kernel_rfl
set_option maxRecDepth 100000 in
theorem commitFirst_lifted (os : Os) (started : os.Started) (H : Type) (enc : TypeId × Value → H) :
    ReturnsInHanded {} Try.checked os 12 .any (Rows.commitFirstSpec.pre6 enc Try.prog Try.f12 Rows.commitFirstRow.domain false) (Rows.commitFirstSpec.post enc Try.prog Try.f12 false true false false) := by
  refine returnsInHanded_of_change (C := Try.checked) (by kernel_rfl) started (by kernel_rfl) Try.func12
    (ChangeSpec.witness6 (enc := enc) (C := Try.checked) false ⟨#[], #[.int .i64 0, .int .i64 0, .slice none 0 0, .int .i64 0], []⟩ 8 (by kernel_rfl) (by kernel_rfl) (by kernel_rfl) (by kernel_rfl)) ?_
  intro W base args ds gs before hval0 hW hcnd _
  have hval : ∀ (j : Nat) t v, Try.f12.params[j]? = some t → args[j]? = some v → Value.okWide Try.prog W .any base t v := hval0
  have hW' := hW
  obtain ⟨p, q, hA0, hV, rfl, hfz, hnd⟩ := hW
  have hA : DataW.TrodAll enc Try.prog W 0 (fun _ => true) true Try.f12.params.toList args.toList ds p := hA0
  rw [Try.params12] at hA hval
  clear hA0 hval0
  obtain ⟨args⟩ := args
  obtain ⟨v0, r0, d0, e0, p0, q0, ha0, rfl, rfl, h0, hA0⟩ := trodAll_cons hA
  simp only at ha0; subst ha0
  obtain ⟨v1, r1, d1, e1, p1, q1, ha1, rfl, rfl, h1, hA1⟩ := trodAll_cons hA0
  subst ha1
  obtain ⟨v2, r2, d2, e2, p2, q2, ha2, rfl, rfl, h2, hA2⟩ := trodAll_cons hA1
  subst ha2
  obtain ⟨v3, r3, d3, e3, p3, q3, ha3, rfl, rfl, h3, hA3⟩ := trodAll_cons hA2
  subst ha3
  obtain ⟨rfl, rfl, rfl⟩ := trodAll_nil hA3
  obtain ⟨x0, rfl, hx0⟩ := arg_int Try.underlying3 (hval 0 3 v0 rfl rfl) h0
  obtain ⟨x1, rfl, hx1⟩ := arg_int Try.underlying3 (hval 1 3 v1 rfl rfl) h1
  obtain ⟨x2, hx2⟩ := arg_sl 60 commitFirst_ok2 Try.underlying61 (hval 2 61 v2 rfl rfl) h2
  obtain ⟨x3, rfl, hx3⟩ := arg_int Try.underlying3 (hval 3 3 v3 rfl rfl) h3
  refine (calls_of (commitFirst_ok W x0 hx0 x1 hx1 hx2 x3 hx3)).mono fun e W' ⟨he, hg⟩ => ?_
  subst he
  exact ⟨_, rfl, law_post hW' hg laidOut_ok (by kernel_rfl) rfl Try.underlying4 rfl rfl rfl rfl⟩
theorem commitFirst_joined : joinedFacts Try.prog 12 Try.f12 Rows.commitFirstSpec Rows.commitFirstRow = true := by
  unfold joinedFacts
  rw [laidOut_ok, mapsRowed_ok, stopsHeard_ok, mayEnter_ok, lifts_ok, make_ok]
  kernel_rfl
theorem commitFirst_proved : Rows.CommitFirstSaid :=
  OpenClaim.holds_of_wide 12 Try.f12 rfl rfl rfl rfl rfl rfl rfl ⟨rfl, rfl, rfl, rfl, rfl⟩ rfl rfl rfl rfl rfl (by kernel_rfl) Try.func12 commitFirst_joined
    (of_decide_eq_true (by kernel_rfl)) (by unfold Func.isWrapper; first | (rw [if_pos (by decide +kernel)]; kernel_rfl) | (rw [if_neg (by decide +kernel)]; exact ⟨rfl, rfl⟩))
    (fun os started H enc _ => commitFirst_lifted os started H enc)
#print axioms commitFirst_proved
end
end Go.Proofs.Ytfaknkkaegjdaaa
