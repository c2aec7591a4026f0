/- Part 3 of the proof of LCommitNames: what it needs of the library, the walks and the plain laws. Conditions: those named in each theorem. -/
import Derived.Test.YtfaknkkaegjdaaaLCommitNamesM2
namespace Go.Proofs.Ytfaknkkaegjdaaa
section
set_option linter.unusedVariables false
set_option linter.unusedSimpArgs false
set_option maxRecDepth 4000
theorem fnOk46 : fnOk Try.prog 46 = true := by kernel_rfl
theorem fnOk48 : fnOk Try.prog 48 = true := by kernel_rfl
theorem fnOk51 : fnOk Try.prog 51 = true := by kernel_rfl
theorem fnOk58 : fnOk Try.prog 58 = true := by kernel_rfl
theorem of04_ok (W : World) (d0 : Int) (h0 : inK .i64 d0) (d1 : Int) (h1 : inK .i64 d1) : CallR Try.prog 51 [.int .i64 d0, .int .i64 d1] W (mnil) (fun v m' => ∃ (s0 : List Value), v = .agg s0.toArray ∧ Ow TCommit m' s0 (ofC d0 d1)) := by
  have h0' := h0; simp only [inK] at h0'
  have h1' := h1; simp only [inK] at h1'
  refine CallR.ofA (n := 10) Try.func51 rfl rfl rfl ?_
  refine VC.rs ?_
  refine VO.alloc 102 rfl tz52 (fun g1 => ?_)
  refine VO.k3 0 1 4 ?_
  refine VC.rs ?_
  refine VO.mv ?_
  refine VO.mv ?_
  refine VO.y rfl (.bst (cs := [Value.bool true, str ([97]), str ([49])]) rfl tst49 tz49 rfl) ?_
  refine VO.bsl (cs := [Value.bool true, str ([97]), str ([49])]) 104 rfl rfl tsl22 tz49 rfl rfl (fun g3 => ?_)
  refine VO.y rfl (.bst (cs := [Value.int .i64 (d0), Value.int .i64 (d1), Value.slice (some ⟨g3, 0, none⟩) (1) (1)]) rfl tst52 tz52 rfl) ?_
  refine VO.store (k := 3) (c' := [Value.int .i64 (d0), Value.int .i64 (d1), Value.slice (some ⟨g3, 0, none⟩) (1) (1)]) 102 rfl rfl (.inl tk52) rfl rfl rfl rfl rfl ?_
  refine VO.k3 0 1 4 ?_
  refine VC.ret ?_
  have ho5 : OwnL TOp (mone g3 (.cells [Value.bool true, str ([97]), str ([49])].toArray 49 (0, 0))) mnil (Value.slice (some ⟨g3, 0, none⟩) (1) (1)) [(true, [97], [49])] := OwnL.lit 1 (All2c.cons (c1 := [Value.bool true, str ([97]), str ([49])]) (mk_Op (m := _) true ([97]) ([49]) bdm bdm) All2c.nil) rfl rfl
  refine ⟨_, _, res_run (rs := [.cell 4 52]) rfl (.agg 102 rfl tk52 rfl ⟨_, _, _, mone_self _ _, Nat.le_of_ble_eq_true rfl, rfl⟩ .nil), fun W_ hI => out_of (l := [mone g3 (.cells [Value.bool true, str ([97]), str ([49])].toArray 49 (0, 0))]) hI [104] rfl rfl (mle_refl _) (fun hS_ => ?_)⟩
  dsimp only [packV]
  have he0 : (ofC d0 d1 : Ty.Den TCommit) = (d0, d1, [(true, [97], [49])]) := by first | rfl | (simp [*]; done)
  refine ⟨[Value.int .i64 (d0), Value.int .i64 (d1), Value.slice (some ⟨g3, 0, none⟩) (1) (1)], ?_, ?_⟩
  rotate_left
  · rw [he0]; exact (mkO_Commit d0 d1 ([(true, [97], [49])]) hS_ bdk bdk (OwnL.ow ho5 rfl))
  all_goals (first | rfl | (simp [*]; done))
theorem lives04_ok (W : World) : CallR Try.prog 48 [] W (mnil) (fun v m' => v = .bool true) := by
  refine CallR.ofA (n := 31) Try.func48 rfl rfl rfl ?_
  refine VC.rs ?_
  refine VO.as ?_
  refine VO.k1 0 ?_
  refine VC.rs ?_
  refine VO.callN 101 rfl fnOk51 rfl (fun W hW => of04_ok W 1 (by simp only [inK]; (first | omega | (simp only [List.length_append, List.length_nil, List.length_cons, List.length_take, List.length_drop] at *; omega) | (have : exC.length = 6 := rfl; omega) | decide)) 2 (by simp only [inK]; (first | omega | (simp only [List.length_append, List.length_nil, List.length_cons, List.length_take, List.length_drop] at *; omega) | (have : exC.length = 6 := rfl; omega) | decide))) (fun v1 m1 hv1 => ?_)
  obtain ⟨s1_0, rfl, f1_0⟩ := hv1
  obtain ⟨q1_0_A2, q1_0_c2, q1_0_n2, rfl, q1_0_S, q1_0_0, q1_0_1, q1_0_2⟩ := openO_Commit (x0 := (ofC 1 2).1) (x1 := (ofC 1 2).2.1) (x2 := (ofC 1 2).2.2) f1_0
  simp only [inK] at q1_0_0
  simp only [inK] at q1_0_1
  have q1_0_r2 := Rd.room (q1_0_2.rd (mle_refl _))
  refine VO.inv _ (fun _ h => h.parts (i := 101) rfl q1_0_S [102]) ?_
  refine VO.callN 103 rfl fnOk58 rfl (fun W hW => cEncode_ok_ W (show Rd TCommit _ _ (ofC 1 2) from (mk_Commit (m := wm W) ((ofC 1 2).1) ((ofC 1 2).2.1) ((ofC 1 2).2.2) (by simp only [inK]; (first | omega | (simp only [List.length_append, List.length_nil, List.length_cons, List.length_take, List.length_drop] at *; omega) | (have : exC.length = 6 := rfl; omega) | decide)) (by simp only [inK]; (first | omega | (simp only [List.length_append, List.length_nil, List.length_cons, List.length_take, List.length_drop] at *; omega) | (have : exC.length = 6 := rfl; omega) | decide)) (OwnL.rd (Ow.ownl q1_0_2 rfl mnil) (hW.at (i := 102) rfl) (mle_nil _))))) (fun v3 m3 hv3 => ?_)
  obtain ⟨s3_0, rfl, f3_0⟩ := hv3
  generalize hq3_0 : ((cEncode (ofC 1 2)).1) = r3_0 at f3_0
  obtain ⟨A3_0, c3_0, eq3_0, l3_0, k3_0⟩ := f3_0.slice
  subst eq3_0
  simp only [maxLen] at k3_0
  have hfa4 := cEncode_len (ofC 1 2)
  refine VO.mv ?_
  refine VO.y rfl (.ext rfl rfl) ?_
  refine VO.y rfl (.ext rfl rfl) ?_
  refine VO.as ?_
  refine VO.as ?_
  refine VO.k3 0 1 2 ?_
  refine VC.rs ?_
  refine VO.bsl (cs := [Value.int .u8 (1), Value.int .u8 (2), Value.int .u8 (1), Value.int .u8 (1), Value.int .u8 (0), Value.int .u8 (1), Value.int .u8 (97), Value.int .u8 (1), Value.int .u8 (49)]) 106 rfl rfl tsl23 tz5 rfl rfl (fun g5 => ?_)
  have ho8 : OwnL .byte (mone g5 (.cells [Value.int .u8 (1), Value.int .u8 (2), Value.int .u8 (1), Value.int .u8 (1), Value.int .u8 (0), Value.int .u8 (1), Value.int .u8 (97), Value.int .u8 (1), Value.int .u8 (49)].toArray 5 (0, 0))) mnil (Value.slice (some ⟨g5, 0, none⟩) (9) (9)) [UInt8.ofNat 1, UInt8.ofNat 2, UInt8.ofNat 1, UInt8.ofNat 1, UInt8.ofNat 0, UInt8.ofNat 1, UInt8.ofNat 97, UInt8.ofNat 1, UInt8.ofNat 49] := OwnL.lit 9 (All2c.cons (c1 := [Value.int .u8 (1)]) (rd_byteN (by first | omega | (simp only [List.length_append, List.length_nil, List.length_cons, List.length_take, List.length_drop] at *; omega) | (have : exC.length = 6 := rfl; omega) | decide)) (All2c.cons (c1 := [Value.int .u8 (2)]) (rd_byteN (by first | omega | (simp only [List.length_append, List.length_nil, List.length_cons, List.length_take, List.length_drop] at *; omega) | (have : exC.length = 6 := rfl; omega) | decide)) (All2c.cons (c1 := [Value.int .u8 (1)]) (rd_byteN (by first | omega | (simp only [List.length_append, List.length_nil, List.length_cons, List.length_take, List.length_drop] at *; omega) | (have : exC.length = 6 := rfl; omega) | decide)) (All2c.cons (c1 := [Value.int .u8 (1)]) (rd_byteN (by first | omega | (simp only [List.length_append, List.length_nil, List.length_cons, List.length_take, List.length_drop] at *; omega) | (have : exC.length = 6 := rfl; omega) | decide)) (All2c.cons (c1 := [Value.int .u8 (0)]) (rd_byteN (by first | omega | (simp only [List.length_append, List.length_nil, List.length_cons, List.length_take, List.length_drop] at *; omega) | (have : exC.length = 6 := rfl; omega) | decide)) (All2c.cons (c1 := [Value.int .u8 (1)]) (rd_byteN (by first | omega | (simp only [List.length_append, List.length_nil, List.length_cons, List.length_take, List.length_drop] at *; omega) | (have : exC.length = 6 := rfl; omega) | decide)) (All2c.cons (c1 := [Value.int .u8 (97)]) (rd_byteN (by first | omega | (simp only [List.length_append, List.length_nil, List.length_cons, List.length_take, List.length_drop] at *; omega) | (have : exC.length = 6 := rfl; omega) | decide)) (All2c.cons (c1 := [Value.int .u8 (1)]) (rd_byteN (by first | omega | (simp only [List.length_append, List.length_nil, List.length_cons, List.length_take, List.length_drop] at *; omega) | (have : exC.length = 6 := rfl; omega) | decide)) (All2c.cons (c1 := [Value.int .u8 (49)]) (rd_byteN (by first | omega | (simp only [List.length_append, List.length_nil, List.length_cons, List.length_take, List.length_drop] at *; omega) | (have : exC.length = 6 := rfl; omega) | decide)) All2c.nil))))))))) rfl rfl
  refine VO.callN 107 rfl fnOk46 rfl (fun W hW => cDecode_ok_ W (OwnL.rd ho8 (hW.at (i := 106) rfl) (mle_nil _))) (fun v7 m7 hv7 => ?_)
  obtain ⟨s7_0, rfl, f7_0⟩ := hv7
  generalize hq7_0 : ((cDecode ([UInt8.ofNat 1, UInt8.ofNat 2, UInt8.ofNat 1, UInt8.ofNat 1, UInt8.ofNat 0, UInt8.ofNat 1, UInt8.ofNat 97, UInt8.ofNat 1, UInt8.ofNat 49])).1) = r7_0 at f7_0
  obtain ⟨q7_0_A2, q7_0_c2, q7_0_n2, rfl, q7_0_S, q7_0_0, q7_0_1, q7_0_2⟩ := openO_Commit (x0 := r7_0.1) (x1 := r7_0.2.1) (x2 := r7_0.2.2) f7_0
  simp only [inK] at q7_0_0
  simp only [inK] at q7_0_1
  have q7_0_r2 := Rd.room (q7_0_2.rd (mle_refl _))
  refine VO.inv _ (fun _ h => h.parts (i := 107) rfl q7_0_S [109]) ?_
  have hfa10 := cDecode_fits ([UInt8.ofNat 1, UInt8.ofNat 2, UInt8.ofNat 1, UInt8.ofNat 1, UInt8.ofNat 0, UInt8.ofNat 1, UInt8.ofNat 97, UInt8.ofNat 1, UInt8.ofNat 49])
  refine VO.mv ?_
  refine VO.y rfl (.ext rfl rfl) ?_
  refine VO.y rfl (.ext rfl rfl) ?_
  refine VO.alloc 112 rfl tz52 (fun g11 => ?_)
  refine VO.store (k := 3) (c' := [Value.int .i64 (r7_0.1), Value.int .i64 (r7_0.2.1), Value.slice q7_0_A2 (r7_0.2.2.length) (q7_0_c2)]) 112 rfl rfl (.inl tk52) rfl rfl rfl rfl rfl ?_
  refine VO.as ?_
  refine VO.k5 0 1 2 3 4 ?_
  refine VC.seq ?_
  refine VC.regD _ 14 [(0, true), (1, true), (2, true), (3, true), (4, true), (5, true), (6, true), (7, true), (8, false), (9, false), (10, true), (11, true), (12, true), (13, false)] follows (by kernel_rfl) (fun _ h => h.sub [112, 109, 106, 103, 102, 0]) ?_
  refine VD.y rfl rfl (.inl rfl) (.mv rfl) ?_
  refine VD.y rfl rfl (.inl rfl) (.eql rfl rfl) ?_
  refine VD.y rfl rfl (.inl rfl) (.mv rfl) ?_
  refine VD.dec (s := 17) rfl (fun hc13 => ?_) (fun hc13 => ?_)
  · -- T
    refine VD.y rfl rfl (.inr ⟨_, _, rfl, _, rfl, rfl⟩) (.mv rfl) ?_
    refine VD.y rfl rfl (.inr ⟨_, _, rfl, _, rfl, rfl⟩) (.eql rfl rfl) ?_
    refine VD.y rfl rfl (.inl rfl) (.pT rfl rfl) ?_
    refine VD.y rfl rfl (.inl rfl) (.mv rfl) ?_
    refine VD.dec (s := 21) rfl (fun hc14 => ?_) (fun hc14 => ?_)
    · -- TT
      refine VD.y rfl rfl (.inr ⟨_, _, rfl, _, rfl, rfl⟩) (.mv rfl) ?_
      refine VD.gbsl (cs := [Value.int .u8 (1), Value.int .u8 (2), Value.int .u8 (1), Value.int .u8 (1), Value.int .u8 (0), Value.int .u8 (1), Value.int .u8 (97), Value.int .u8 (1), Value.int .u8 (49)]) 116 rfl rfl ⟨_, rfl, rfl⟩ rfl tsl23 tz5 rfl rfl (fun _ h => h.sub [112, 109, 106, 103, 102, 0]) (fun g15 => ?_)
      have ho18 : OwnL .byte (mone g15 (.cells [Value.int .u8 (1), Value.int .u8 (2), Value.int .u8 (1), Value.int .u8 (1), Value.int .u8 (0), Value.int .u8 (1), Value.int .u8 (97), Value.int .u8 (1), Value.int .u8 (49)].toArray 5 (0, 0))) mnil (Value.slice (some ⟨g15, 0, none⟩) (9) (9)) [UInt8.ofNat 1, UInt8.ofNat 2, UInt8.ofNat 1, UInt8.ofNat 1, UInt8.ofNat 0, UInt8.ofNat 1, UInt8.ofNat 97, UInt8.ofNat 1, UInt8.ofNat 49] := OwnL.lit 9 (All2c.cons (c1 := [Value.int .u8 (1)]) (rd_byteN (by first | omega | (simp only [List.length_append, List.length_nil, List.length_cons, List.length_take, List.length_drop] at *; omega) | (have : exC.length = 6 := rfl; omega) | decide)) (All2c.cons (c1 := [Value.int .u8 (2)]) (rd_byteN (by first | omega | (simp only [List.length_append, List.length_nil, List.length_cons, List.length_take, List.length_drop] at *; omega) | (have : exC.length = 6 := rfl; omega) | decide)) (All2c.cons (c1 := [Value.int .u8 (1)]) (rd_byteN (by first | omega | (simp only [List.length_append, List.length_nil, List.length_cons, List.length_take, List.length_drop] at *; omega) | (have : exC.length = 6 := rfl; omega) | decide)) (All2c.cons (c1 := [Value.int .u8 (1)]) (rd_byteN (by first | omega | (simp only [List.length_append, List.length_nil, List.length_cons, List.length_take, List.length_drop] at *; omega) | (have : exC.length = 6 := rfl; omega) | decide)) (All2c.cons (c1 := [Value.int .u8 (0)]) (rd_byteN (by first | omega | (simp only [List.length_append, List.length_nil, List.length_cons, List.length_take, List.length_drop] at *; omega) | (have : exC.length = 6 := rfl; omega) | decide)) (All2c.cons (c1 := [Value.int .u8 (1)]) (rd_byteN (by first | omega | (simp only [List.length_append, List.length_nil, List.length_cons, List.length_take, List.length_drop] at *; omega) | (have : exC.length = 6 := rfl; omega) | decide)) (All2c.cons (c1 := [Value.int .u8 (97)]) (rd_byteN (by first | omega | (simp only [List.length_append, List.length_nil, List.length_cons, List.length_take, List.length_drop] at *; omega) | (have : exC.length = 6 := rfl; omega) | decide)) (All2c.cons (c1 := [Value.int .u8 (1)]) (rd_byteN (by first | omega | (simp only [List.length_append, List.length_nil, List.length_cons, List.length_take, List.length_drop] at *; omega) | (have : exC.length = 6 := rfl; omega) | decide)) (All2c.cons (c1 := [Value.int .u8 (49)]) (rd_byteN (by first | omega | (simp only [List.length_append, List.length_nil, List.length_cons, List.length_take, List.length_drop] at *; omega) | (have : exC.length = 6 := rfl; omega) | decide)) All2c.nil))))))))) rfl rfl
      refine VD.callN 117 rfl rfl (.inr ⟨_, _, rfl, _, rfl, rfl⟩) fnOk33 rfl (fun _ h => h.sub [112, 109, 106, 103, 102, 0]) (fun W hW => SameBytes_ok W (OwnL.rd (Ow.ownl f3_0 rfl mnil) (hW.at (i := 103) rfl) (mle_nil _)) (OwnL.rd ho18 (hW.at (i := 116) rfl) (mle_nil _))) (fun v17 m17 hv17 => ?_)
      subst hv17
      refine VD.y rfl rfl (.inl rfl) (.pT rfl rfl) ?_
      refine VD.y rfl rfl (.inl rfl) (.mv rfl) ?_
      refine VD.dec (s := 26) rfl (fun hc19 => ?_) (fun hc19 => ?_)
      · -- TTT
        refine VD.y rfl rfl (.inr ⟨_, _, rfl, _, rfl, rfl⟩) (.ldA 112 rfl tk52 rfl (cellsAt_one rfl rfl)) ?_
        refine VD.callN 120 rfl rfl (.inr ⟨_, _, rfl, _, rfl, rfl⟩) fnOk51 rfl (fun _ h => h.sub [112, 109, 106, 103, 102, 0]) (fun W hW => of04_ok W 1 (by simp only [inK]; (first | omega | (simp only [List.length_append, List.length_nil, List.length_cons, List.length_take, List.length_drop] at *; omega) | (have : exC.length = 6 := rfl; omega) | decide)) 2 (by simp only [inK]; (first | omega | (simp only [List.length_append, List.length_nil, List.length_cons, List.length_take, List.length_drop] at *; omega) | (have : exC.length = 6 := rfl; omega) | decide))) (fun v20 m20 hv20 => ?_)
        obtain ⟨s20_0, rfl, f20_0⟩ := hv20
        obtain ⟨q20_0_A2, q20_0_c2, q20_0_n2, rfl, q20_0_S, q20_0_0, q20_0_1, q20_0_2⟩ := openO_Commit (x0 := (ofC 1 2).1) (x1 := (ofC 1 2).2.1) (x2 := (ofC 1 2).2.2) f20_0
        simp only [inK] at q20_0_0
        simp only [inK] at q20_0_1
        have q20_0_r2 := Rd.room (q20_0_2.rd (mle_refl _))
        refine VD.inv _ (fun _ h => h.parts (i := 120) rfl q20_0_S [121]) ?_
        refine VD.nil rfl ?_ rfl
        refine VO.gcallN 122 rfl ⟨_, rfl, rfl⟩ fnOk49 rfl (fun W hW => SameCommit_ok W (show Rd TCommit _ _ r7_0 from (mk_Commit (m := wm W) r7_0.1 r7_0.2.1 r7_0.2.2 (by simp only [inK]; (first | omega | (simp only [List.length_append, List.length_nil, List.length_cons, List.length_take, List.length_drop] at *; omega) | (have : exC.length = 6 := rfl; omega) | decide)) (by simp only [inK]; (first | omega | (simp only [List.length_append, List.length_nil, List.length_cons, List.length_take, List.length_drop] at *; omega) | (have : exC.length = 6 := rfl; omega) | decide)) (OwnL.rd (Ow.ownl q7_0_2 rfl mnil) (hW.at (i := 109) rfl) (mle_nil _)))) (show Rd TCommit _ _ (ofC 1 2) from (mk_Commit (m := wm W) ((ofC 1 2).1) ((ofC 1 2).2.1) ((ofC 1 2).2.2) (by simp only [inK]; (first | omega | (simp only [List.length_append, List.length_nil, List.length_cons, List.length_take, List.length_drop] at *; omega) | (have : exC.length = 6 := rfl; omega) | decide)) (by simp only [inK]; (first | omega | (simp only [List.length_append, List.length_nil, List.length_cons, List.length_take, List.length_drop] at *; omega) | (have : exC.length = 6 := rfl; omega) | decide)) (OwnL.rd (Ow.ownl q20_0_2 rfl mnil) (hW.at (i := 121) rfl) (mle_nil _))))) (fun v22 m22 hv22 => ?_)
        subst hv22
        refine VO.y rfl (.pT rfl rfl) ?_
        refine VO.as ?_
        refine VO.inv [(112, _), (109, _), (103, _), (0, _)] (fun _ h => h.sub [112, 109, 103, 0]) ?_
        refine VO.k5 0 1 2 3 4 ?_
        refine outN ?_
        refine VC.ret ?_
        refine ⟨_, _, res_run (rs := [.tmp 0]) rfl (.tmp rfl .nil), fun W_ hI => out_of (l := []) hI [] rfl rfl (mle_refl _) (fun hS_ => ?_)⟩
        dsimp only [packV]
        all_goals (first | rfl | (exact congrArg Value.bool (decide_eq_true (by subst_vars; first | (simp only [ofC, ex4E, ex4D, ex4x, ex4n]; done) | (simp only [ofC, ex4E, ex4D, ex4x, ex4n]; first | rfl | decide) | rfl | decide))))
      · -- TTF
        exact absurd (by subst_vars; first | (simp only [ofC, ex4E, ex4D, ex4x, ex4n]; done) | (simp only [ofC, ex4E, ex4D, ex4x, ex4n]; first | rfl | decide) | rfl | decide) hc19
    · -- TF
      exact absurd (by subst_vars; first | (simp only [ofC, ex4E, ex4D, ex4x, ex4n]; done) | (simp only [ofC, ex4E, ex4D, ex4x, ex4n]; first | rfl | decide) | rfl | decide) hc14
  · -- F
    exact absurd (by subst_vars; first | (simp only [ofC, ex4E, ex4D, ex4x, ex4n]; done) | (simp only [ofC, ex4E, ex4D, ex4x, ex4n]; first | rfl | decide) | rfl | decide) hc13
theorem commitNames_ok (W : World) : CallR Try.prog 10 [] W (mnil) (fun v m' => v = .bool true) := by
  refine CallR.ofA (n := 89) Try.func10 rfl rfl rfl ?_
  refine VC.rs ?_
  refine VO.as ?_
  refine VO.k1 0 ?_
  refine VC.rs ?_
  refine VO.as ?_
  refine VO.k2 0 1 ?_
  refine VC.rs ?_
  refine VO.bsl (cs := [Value.int .u8 (1), Value.int .u8 (2), Value.int .u8 (1), Value.int .u8 (1), Value.int .u8 (0), Value.int .u8 (1), Value.int .u8 (97), Value.int .u8 (1), Value.int .u8 (49), Value.int .u8 (0)]) 102 rfl rfl tsl23 tz5 rfl rfl (fun g1 => ?_)
  have ho4 : OwnL .byte (mone g1 (.cells [Value.int .u8 (1), Value.int .u8 (2), Value.int .u8 (1), Value.int .u8 (1), Value.int .u8 (0), Value.int .u8 (1), Value.int .u8 (97), Value.int .u8 (1), Value.int .u8 (49), Value.int .u8 (0)].toArray 5 (0, 0))) mnil (Value.slice (some ⟨g1, 0, none⟩) (10) (10)) [UInt8.ofNat 1, UInt8.ofNat 2, UInt8.ofNat 1, UInt8.ofNat 1, UInt8.ofNat 0, UInt8.ofNat 1, UInt8.ofNat 97, UInt8.ofNat 1, UInt8.ofNat 49, UInt8.ofNat 0] := OwnL.lit 10 (All2c.cons (c1 := [Value.int .u8 (1)]) (rd_byteN (by first | omega | (simp only [List.length_append, List.length_nil, List.length_cons, List.length_take, List.length_drop] at *; omega) | (have : exC.length = 6 := rfl; omega) | decide)) (All2c.cons (c1 := [Value.int .u8 (2)]) (rd_byteN (by first | omega | (simp only [List.length_append, List.length_nil, List.length_cons, List.length_take, List.length_drop] at *; omega) | (have : exC.length = 6 := rfl; omega) | decide)) (All2c.cons (c1 := [Value.int .u8 (1)]) (rd_byteN (by first | omega | (simp only [List.length_append, List.length_nil, List.length_cons, List.length_take, List.length_drop] at *; omega) | (have : exC.length = 6 := rfl; omega) | decide)) (All2c.cons (c1 := [Value.int .u8 (1)]) (rd_byteN (by first | omega | (simp only [List.length_append, List.length_nil, List.length_cons, List.length_take, List.length_drop] at *; omega) | (have : exC.length = 6 := rfl; omega) | decide)) (All2c.cons (c1 := [Value.int .u8 (0)]) (rd_byteN (by first | omega | (simp only [List.length_append, List.length_nil, List.length_cons, List.length_take, List.length_drop] at *; omega) | (have : exC.length = 6 := rfl; omega) | decide)) (All2c.cons (c1 := [Value.int .u8 (1)]) (rd_byteN (by first | omega | (simp only [List.length_append, List.length_nil, List.length_cons, List.length_take, List.length_drop] at *; omega) | (have : exC.length = 6 := rfl; omega) | decide)) (All2c.cons (c1 := [Value.int .u8 (97)]) (rd_byteN (by first | omega | (simp only [List.length_append, List.length_nil, List.length_cons, List.length_take, List.length_drop] at *; omega) | (have : exC.length = 6 := rfl; omega) | decide)) (All2c.cons (c1 := [Value.int .u8 (1)]) (rd_byteN (by first | omega | (simp only [List.length_append, List.length_nil, List.length_cons, List.length_take, List.length_drop] at *; omega) | (have : exC.length = 6 := rfl; omega) | decide)) (All2c.cons (c1 := [Value.int .u8 (49)]) (rd_byteN (by first | omega | (simp only [List.length_append, List.length_nil, List.length_cons, List.length_take, List.length_drop] at *; omega) | (have : exC.length = 6 := rfl; omega) | decide)) (All2c.cons (c1 := [Value.int .u8 (0)]) (rd_byteN (by first | omega | (simp only [List.length_append, List.length_nil, List.length_cons, List.length_take, List.length_drop] at *; omega) | (have : exC.length = 6 := rfl; omega) | decide)) All2c.nil)))))))))) rfl rfl
  refine VO.callN 103 rfl fnOk46 rfl (fun W hW => cDecode_ok_ W (OwnL.rd ho4 (hW.at (i := 102) rfl) (mle_nil _))) (fun v3 m3 hv3 => ?_)
  obtain ⟨s3_0, rfl, f3_0⟩ := hv3
  generalize hq3_0 : ((cDecode ([UInt8.ofNat 1, UInt8.ofNat 2, UInt8.ofNat 1, UInt8.ofNat 1, UInt8.ofNat 0, UInt8.ofNat 1, UInt8.ofNat 97, UInt8.ofNat 1, UInt8.ofNat 49, UInt8.ofNat 0])).1) = r3_0 at f3_0
  obtain ⟨q3_0_A2, q3_0_c2, q3_0_n2, rfl, q3_0_S, q3_0_0, q3_0_1, q3_0_2⟩ := openO_Commit (x0 := r3_0.1) (x1 := r3_0.2.1) (x2 := r3_0.2.2) f3_0
  simp only [inK] at q3_0_0
  simp only [inK] at q3_0_1
  have q3_0_r2 := Rd.room (q3_0_2.rd (mle_refl _))
  refine VO.inv _ (fun _ h => h.parts (i := 103) rfl q3_0_S [105]) ?_
  have hfa6 := cDecode_fits ([UInt8.ofNat 1, UInt8.ofNat 2, UInt8.ofNat 1, UInt8.ofNat 1, UInt8.ofNat 0, UInt8.ofNat 1, UInt8.ofNat 97, UInt8.ofNat 1, UInt8.ofNat 49, UInt8.ofNat 0])
  refine VO.mv ?_
  refine VO.y rfl (.ext rfl rfl) ?_
  refine VO.y rfl (.ext rfl rfl) ?_
  refine VO.alloc 108 rfl tz52 (fun g7 => ?_)
  refine VO.store (k := 3) (c' := [Value.int .i64 (r3_0.1), Value.int .i64 (r3_0.2.1), Value.slice q3_0_A2 (r3_0.2.2.length) (q3_0_c2)]) 108 rfl rfl (.inl tk52) rfl rfl rfl rfl rfl ?_
  refine VO.as ?_
  refine VO.k3 0 1 3 ?_
  refine VC.rs ?_
  refine VO.callN 109 rfl fnOk46 rfl (fun W hW => cDecode_ok_ W (Rd.nil _ _ none 0 (Nat.zero_le _))) (fun v9 m9 hv9 => ?_)
  obtain ⟨s9_0, rfl, f9_0⟩ := hv9
  generalize hq9_0 : ((cDecode []).1) = r9_0 at f9_0
  obtain ⟨q9_0_A2, q9_0_c2, q9_0_n2, rfl, q9_0_S, q9_0_0, q9_0_1, q9_0_2⟩ := openO_Commit (x0 := r9_0.1) (x1 := r9_0.2.1) (x2 := r9_0.2.2) f9_0
  simp only [inK] at q9_0_0
  simp only [inK] at q9_0_1
  have q9_0_r2 := Rd.room (q9_0_2.rd (mle_refl _))
  refine VO.inv _ (fun _ h => h.parts (i := 109) rfl q9_0_S [110]) ?_
  have hfa11 := cDecode_fits []
  refine VO.mv ?_
  refine VO.y rfl (.ext rfl rfl) ?_
  refine VO.y rfl (.ext rfl rfl) ?_
  refine VO.alloc 113 rfl tz52 (fun g12 => ?_)
  refine VO.store (k := 3) (c' := [Value.int .i64 (r9_0.1), Value.int .i64 (r9_0.2.1), Value.slice q9_0_A2 (r9_0.2.2.length) (q9_0_c2)]) 113 rfl rfl (.inl tk52) rfl rfl rfl rfl rfl ?_
  refine VO.as ?_
  refine VO.k4 0 1 3 5 ?_
  refine VC.rs ?_
  refine VO.y rfl (.bst (cs := [Value.int .i64 (0), Value.int .i64 (0)]) rfl tst57 tz57 rfl) ?_
  refine VO.alloc 115 rfl tz57 (fun g14 => ?_)
  refine VO.store (k := 2) (c' := [Value.int .i64 (0), Value.int .i64 (0)]) 115 rfl rfl (.inl tk57) rfl rfl rfl rfl rfl ?_
  refine VO.k5 0 1 3 5 6 ?_
  refine VC.rs ?_
  refine VO.mv ?_
  refine VO.y rfl (.eql rfl rfl) ?_
  refine VO.mv ?_
  refine VO.dec (t := 21) rfl (fun hc16 => ?_) (fun hc16 => ?_)
  · -- T
    refine VO.gy rfl ⟨_, rfl, rfl⟩ (.mv rfl) ?_
    refine VO.gy rfl ⟨_, rfl, rfl⟩ (.eql rfl rfl) ?_
    refine VO.y rfl (.pT rfl rfl) ?_
    refine VO.mv ?_
    refine VO.dec (t := 25) rfl (fun hc17 => ?_) (fun hc17 => ?_)
    · -- TT
      refine VO.gcallN 118 rfl ⟨_, rfl, rfl⟩ fnOk51 rfl (fun W hW => of04_ok W 0 (by simp only [inK]; (first | omega | (simp only [List.length_append, List.length_nil, List.length_cons, List.length_take, List.length_drop] at *; omega) | (have : exC.length = 6 := rfl; omega) | decide)) 1 (by simp only [inK]; (first | omega | (simp only [List.length_append, List.length_nil, List.length_cons, List.length_take, List.length_drop] at *; omega) | (have : exC.length = 6 := rfl; omega) | decide))) (fun v18 m18 hv18 => ?_)
      obtain ⟨s18_0, rfl, f18_0⟩ := hv18
      obtain ⟨q18_0_A2, q18_0_c2, q18_0_n2, rfl, q18_0_S, q18_0_0, q18_0_1, q18_0_2⟩ := openO_Commit (x0 := (ofC 0 1).1) (x1 := (ofC 0 1).2.1) (x2 := (ofC 0 1).2.2) f18_0
      simp only [inK] at q18_0_0
      simp only [inK] at q18_0_1
      have q18_0_r2 := Rd.room (q18_0_2.rd (mle_refl _))
      refine VO.inv _ (fun _ h => h.parts (i := 118) rfl q18_0_S [119]) ?_
      refine VO.gcallN 120 rfl ⟨_, rfl, rfl⟩ fnOk50 rfl (fun W hW => cCheck_ok_ W (show Rd TCommit _ _ (ofC 0 1) from (mk_Commit (m := wm W) ((ofC 0 1).1) ((ofC 0 1).2.1) ((ofC 0 1).2.2) (by simp only [inK]; (first | omega | (simp only [List.length_append, List.length_nil, List.length_cons, List.length_take, List.length_drop] at *; omega) | (have : exC.length = 6 := rfl; omega) | decide)) (by simp only [inK]; (first | omega | (simp only [List.length_append, List.length_nil, List.length_cons, List.length_take, List.length_drop] at *; omega) | (have : exC.length = 6 := rfl; omega) | decide)) (OwnL.rd (Ow.ownl q18_0_2 rfl mnil) (hW.at (i := 119) rfl) (mle_nil _))))) (fun v20 m20 hv20 => ?_)
      subst hv20
      have hfa21 := cCheck_range (ofC 0 1)
      refine VO.gy rfl ⟨_, rfl, rfl⟩ (.eql rfl rfl) ?_
      refine VO.y rfl (.pT rfl rfl) ?_
      refine VO.mv ?_
      refine VO.dec (t := 30) rfl (fun hc22 => ?_) (fun hc22 => ?_)
      · -- TTT
        refine VO.gcallN 123 rfl ⟨_, rfl, rfl⟩ fnOk51 rfl (fun W hW => of04_ok W 1 (by simp only [inK]; (first | omega | (simp only [List.length_append, List.length_nil, List.length_cons, List.length_take, List.length_drop] at *; omega) | (have : exC.length = 6 := rfl; omega) | decide)) 1048577 (by simp only [inK]; (first | omega | (simp only [List.length_append, List.length_nil, List.length_cons, List.length_take, List.length_drop] at *; omega) | (have : exC.length = 6 := rfl; omega) | decide))) (fun v23 m23 hv23 => ?_)
        obtain ⟨s23_0, rfl, f23_0⟩ := hv23
        generalize hq23_0 : (ofC 1 1048577) = r23_0 at f23_0
        obtain ⟨q23_0_A2, q23_0_c2, q23_0_n2, rfl, q23_0_S, q23_0_0, q23_0_1, q23_0_2⟩ := openO_Commit (x0 := r23_0.1) (x1 := r23_0.2.1) (x2 := r23_0.2.2) f23_0
        simp only [inK] at q23_0_0
        simp only [inK] at q23_0_1
        have q23_0_r2 := Rd.room (q23_0_2.rd (mle_refl _))
        refine VO.inv _ (fun _ h => h.parts (i := 123) rfl q23_0_S [124]) ?_
        refine VO.gcallN 125 rfl ⟨_, rfl, rfl⟩ fnOk50 rfl (fun W hW => cCheck_ok_ W (show Rd TCommit _ _ r23_0 from (mk_Commit (m := wm W) r23_0.1 r23_0.2.1 r23_0.2.2 (by simp only [inK]; (first | omega | (simp only [List.length_append, List.length_nil, List.length_cons, List.length_take, List.length_drop] at *; omega) | (have : exC.length = 6 := rfl; omega) | decide)) (by simp only [inK]; (first | omega | (simp only [List.length_append, List.length_nil, List.length_cons, List.length_take, List.length_drop] at *; omega) | (have : exC.length = 6 := rfl; omega) | decide)) (OwnL.rd (Ow.ownl q23_0_2 rfl mnil) (hW.at (i := 124) rfl) (mle_nil _))))) (fun v25 m25 hv25 => ?_)
        subst hv25
        have hfa26 := cCheck_range r23_0
        refine VO.gy rfl ⟨_, rfl, rfl⟩ (.eql rfl rfl) ?_
        refine VO.y rfl (.pT rfl rfl) ?_
        refine VO.mv ?_
        refine VO.dec (t := 35) rfl (fun hc27 => ?_) (fun hc27 => ?_)
        · -- TTTT
          refine VO.gy rfl ⟨_, rfl, rfl⟩ (.bst (cs := [Value.int .i64 (1), Value.int .i64 (1), Value.slice none (0) (0)]) rfl tst52 tz52 rfl) ?_
          refine VO.gcallN 128 rfl ⟨_, rfl, rfl⟩ fnOk50 rfl (fun W hW => cCheck_ok_ W (mk_Commit (m := wm W) 1 1 [] (by simp only [inK]; (first | omega | (simp only [List.length_append, List.length_nil, List.length_cons, List.length_take, List.length_drop] at *; omega) | (have : exC.length = 6 := rfl; omega) | decide)) (by simp only [inK]; (first | omega | (simp only [List.length_append, List.length_nil, List.length_cons, List.length_take, List.length_drop] at *; omega) | (have : exC.length = 6 := rfl; omega) | decide)) (Rd.nil _ _ none 0 (Nat.zero_le _)))) (fun v28 m28 hv28 => ?_)
          try dsimp only at hv28
          subst hv28
          have hfa29 := cCheck_range (1, 1, [])
          refine VO.gy rfl ⟨_, rfl, rfl⟩ (.eql rfl rfl) ?_
          refine VO.y rfl (.pT rfl rfl) ?_
          refine VO.mv ?_
          refine VO.dec (t := 40) rfl (fun hc30 => ?_) (fun hc30 => ?_)
          · -- TTTTT
            refine VO.gcallN 131 rfl ⟨_, rfl, rfl⟩ fnOk51 rfl (fun W hW => of04_ok W 1048576 (by simp only [inK]; (first | omega | (simp only [List.length_append, List.length_nil, List.length_cons, List.length_take, List.length_drop] at *; omega) | (have : exC.length = 6 := rfl; omega) | decide)) 1048576 (by simp only [inK]; (first | omega | (simp only [List.length_append, List.length_nil, List.length_cons, List.length_take, List.length_drop] at *; omega) | (have : exC.length = 6 := rfl; omega) | decide))) (fun v31 m31 hv31 => ?_)
            obtain ⟨s31_0, rfl, f31_0⟩ := hv31
            generalize hq31_0 : (ofC 1048576 1048576) = r31_0 at f31_0
            obtain ⟨q31_0_A2, q31_0_c2, q31_0_n2, rfl, q31_0_S, q31_0_0, q31_0_1, q31_0_2⟩ := openO_Commit (x0 := r31_0.1) (x1 := r31_0.2.1) (x2 := r31_0.2.2) f31_0
            simp only [inK] at q31_0_0
            simp only [inK] at q31_0_1
            have q31_0_r2 := Rd.room (q31_0_2.rd (mle_refl _))
            refine VO.inv _ (fun _ h => h.parts (i := 131) rfl q31_0_S [132]) ?_
            refine VO.gcallN 133 rfl ⟨_, rfl, rfl⟩ fnOk50 rfl (fun W hW => cCheck_ok_ W (show Rd TCommit _ _ r31_0 from (mk_Commit (m := wm W) r31_0.1 r31_0.2.1 r31_0.2.2 (by simp only [inK]; (first | omega | (simp only [List.length_append, List.length_nil, List.length_cons, List.length_take, List.length_drop] at *; omega) | (have : exC.length = 6 := rfl; omega) | decide)) (by simp only [inK]; (first | omega | (simp only [List.length_append, List.length_nil, List.length_cons, List.length_take, List.length_drop] at *; omega) | (have : exC.length = 6 := rfl; omega) | decide)) (OwnL.rd (Ow.ownl q31_0_2 rfl mnil) (hW.at (i := 132) rfl) (mle_nil _))))) (fun v33 m33 hv33 => ?_)
            subst hv33
            have hfa34 := cCheck_range r31_0
            refine VO.gy rfl ⟨_, rfl, rfl⟩ (.eql rfl rfl) ?_
            refine VO.y rfl (.pT rfl rfl) ?_
            refine VO.as ?_
            refine VO.inv [(115, _), (0, _)] (fun _ h => h.sub [115, 0]) ?_
            refine VO.k6 0 1 3 5 6 7 ?_
            refine VC.seq ?_
            refine VC.regD _ 24 [(5, true), (0, false), (1, false), (2, false), (3, false), (4, false), (6, true), (7, true), (11, true), (8, false), (9, false), (10, false), (12, true), (13, true), (14, true), (18, true), (15, false), (16, false), (17, false), (19, true), (20, true), (21, true), (23, true), (22, false)] follows (by kernel_rfl) (fun _ h => h.sub [115, 0]) ?_
            refine VD.y rfl rfl (.inl rfl) (.ldA 115 rfl tk57 rfl (cellsAt_one rfl rfl)) ?_
            refine VD.callN 135 rfl rfl (.inl rfl) fnOk51 rfl (fun _ h => h.sub [115, 0]) (fun W hW => of04_ok W 1 (by simp only [inK]; (first | omega | (simp only [List.length_append, List.length_nil, List.length_cons, List.length_take, List.length_drop] at *; omega) | (have : exC.length = 6 := rfl; omega) | decide)) 1 (by simp only [inK]; (first | omega | (simp only [List.length_append, List.length_nil, List.length_cons, List.length_take, List.length_drop] at *; omega) | (have : exC.length = 6 := rfl; omega) | decide))) (fun v35 m35 hv35 => ?_)
            obtain ⟨s35_0, rfl, f35_0⟩ := hv35
            obtain ⟨q35_0_A2, q35_0_c2, q35_0_n2, rfl, q35_0_S, q35_0_0, q35_0_1, q35_0_2⟩ := openO_Commit (x0 := (ofC 1 1).1) (x1 := (ofC 1 1).2.1) (x2 := (ofC 1 1).2.2) f35_0
            simp only [inK] at q35_0_0
            simp only [inK] at q35_0_1
            have q35_0_r2 := Rd.room (q35_0_2.rd (mle_refl _))
            refine VD.inv _ (fun _ h => h.parts (i := 135) rfl q35_0_S [136]) ?_
            refine VD.callN 137 rfl rfl (.inl rfl) fnOk51 rfl (fun _ h => h.sub [115, 0]) (fun W hW => of04_ok W 1 (by simp only [inK]; (first | omega | (simp only [List.length_append, List.length_nil, List.length_cons, List.length_take, List.length_drop] at *; omega) | (have : exC.length = 6 := rfl; omega) | decide)) 2 (by simp only [inK]; (first | omega | (simp only [List.length_append, List.length_nil, List.length_cons, List.length_take, List.length_drop] at *; omega) | (have : exC.length = 6 := rfl; omega) | decide))) (fun v37 m37 hv37 => ?_)
            obtain ⟨s37_0, rfl, f37_0⟩ := hv37
            obtain ⟨q37_0_A2, q37_0_c2, q37_0_n2, rfl, q37_0_S, q37_0_0, q37_0_1, q37_0_2⟩ := openO_Commit (x0 := (ofC 1 2).1) (x1 := (ofC 1 2).2.1) (x2 := (ofC 1 2).2.2) f37_0
            simp only [inK] at q37_0_0
            simp only [inK] at q37_0_1
            have q37_0_r2 := Rd.room (q37_0_2.rd (mle_refl _))
            refine VD.inv _ (fun _ h => h.parts (i := 137) rfl q37_0_S [138]) ?_
            refine VD.callN 139 rfl rfl (.inl rfl) fnOk51 rfl (fun _ h => h.sub [115, 0]) (fun W hW => of04_ok W 3 (by simp only [inK]; (first | omega | (simp only [List.length_append, List.length_nil, List.length_cons, List.length_take, List.length_drop] at *; omega) | (have : exC.length = 6 := rfl; omega) | decide)) 3 (by simp only [inK]; (first | omega | (simp only [List.length_append, List.length_nil, List.length_cons, List.length_take, List.length_drop] at *; omega) | (have : exC.length = 6 := rfl; omega) | decide))) (fun v39 m39 hv39 => ?_)
            obtain ⟨s39_0, rfl, f39_0⟩ := hv39
            obtain ⟨q39_0_A2, q39_0_c2, q39_0_n2, rfl, q39_0_S, q39_0_0, q39_0_1, q39_0_2⟩ := openO_Commit (x0 := (ofC 3 3).1) (x1 := (ofC 3 3).2.1) (x2 := (ofC 3 3).2.2) f39_0
            simp only [inK] at q39_0_0
            simp only [inK] at q39_0_1
            have q39_0_r2 := Rd.room (q39_0_2.rd (mle_refl _))
            refine VD.inv _ (fun _ h => h.parts (i := 139) rfl q39_0_S [140]) ?_
            refine VD.bsl (cs := [Value.int .i64 ((ofC 1 1).1), Value.int .i64 ((ofC 1 1).2.1), Value.slice q35_0_A2 (((ofC 1 1).2.2).length) (q35_0_c2), Value.int .i64 ((ofC 1 2).1), Value.int .i64 ((ofC 1 2).2.1), Value.slice q37_0_A2 (((ofC 1 2).2.2).length) (q37_0_c2), Value.int .i64 ((ofC 3 3).1), Value.int .i64 ((ofC 3 3).2.1), Value.slice q39_0_A2 (((ofC 3 3).2.2).length) (q39_0_c2)]) 142 rfl rfl rfl tsl61 tz52 rfl rfl (fun _ h => h.sub [115, 0]) (fun g41 => ?_)
            refine VD.gather (l := [mone g41 (.cells [Value.int .i64 ((ofC 1 1).1), Value.int .i64 ((ofC 1 1).2.1), Value.slice q35_0_A2 (((ofC 1 1).2.2).length) (q35_0_c2), Value.int .i64 ((ofC 1 2).1), Value.int .i64 ((ofC 1 2).2.1), Value.slice q37_0_A2 (((ofC 1 2).2.2).length) (q37_0_c2), Value.int .i64 ((ofC 3 3).1), Value.int .i64 ((ofC 3 3).2.1), Value.slice q39_0_A2 (((ofC 3 3).2.2).length) (q39_0_c2)].toArray 52 (0, 0)), q35_0_n2, q37_0_n2, q39_0_n2]) 145 [142, 136, 138, 140] rfl (fun hg44 => ?_)
            have ho44 : Ow (.sl TCommit) (muns [mone g41 (.cells [Value.int .i64 ((ofC 1 1).1), Value.int .i64 ((ofC 1 1).2.1), Value.slice q35_0_A2 (((ofC 1 1).2.2).length) (q35_0_c2), Value.int .i64 ((ofC 1 2).1), Value.int .i64 ((ofC 1 2).2.1), Value.slice q37_0_A2 (((ofC 1 2).2.2).length) (q37_0_c2), Value.int .i64 ((ofC 3 3).1), Value.int .i64 ((ofC 3 3).2.1), Value.slice q39_0_A2 (((ofC 3 3).2.2).length) (q39_0_c2)].toArray 52 (0, 0)), q35_0_n2, q37_0_n2, q39_0_n2]) [Value.slice (some ⟨g41, 0, none⟩) (3) (3)] [(ofC 1 1), (ofC 1 2), (ofC 3 3)] := Ow.lit 3 (Seps.grp1 (ls := [[q35_0_n2], [q37_0_n2], [q39_0_n2]]) hg44) (OwAs.cons (m := muns [q35_0_n2]) (c1 := [Value.int .i64 ((ofC 1 1).1), Value.int .i64 ((ofC 1 1).2.1), Value.slice q35_0_A2 (((ofC 1 1).2.2).length) (q35_0_c2)]) (show Ow TCommit _ _ (ofC 1 1) from (mkO_Commit ((ofC 1 1).1) ((ofC 1 1).2.1) ((ofC 1 1).2.2) (Seps.self hg44 (List.Sublist.cons _ (List.Sublist.cons_cons _ (List.Sublist.cons _ (List.Sublist.cons _ List.Sublist.slnil))))) (by simp only [inK]; (first | omega | (simp only [List.length_append, List.length_nil, List.length_cons, List.length_take, List.length_drop] at *; omega) | (have : exC.length = 6 := rfl; omega) | decide)) (by simp only [inK]; (first | omega | (simp only [List.length_append, List.length_nil, List.length_cons, List.length_take, List.length_drop] at *; omega) | (have : exC.length = 6 := rfl; omega) | decide)) (OwnL.ow (Ow.ownl q35_0_2 rfl mnil) rfl))) (OwAs.cons (m := muns [q37_0_n2]) (c1 := [Value.int .i64 ((ofC 1 2).1), Value.int .i64 ((ofC 1 2).2.1), Value.slice q37_0_A2 (((ofC 1 2).2.2).length) (q37_0_c2)]) (show Ow TCommit _ _ (ofC 1 2) from (mkO_Commit ((ofC 1 2).1) ((ofC 1 2).2.1) ((ofC 1 2).2.2) (Seps.self hg44 (List.Sublist.cons _ (List.Sublist.cons _ (List.Sublist.cons_cons _ (List.Sublist.cons _ List.Sublist.slnil))))) (by simp only [inK]; (first | omega | (simp only [List.length_append, List.length_nil, List.length_cons, List.length_take, List.length_drop] at *; omega) | (have : exC.length = 6 := rfl; omega) | decide)) (by simp only [inK]; (first | omega | (simp only [List.length_append, List.length_nil, List.length_cons, List.length_take, List.length_drop] at *; omega) | (have : exC.length = 6 := rfl; omega) | decide)) (OwnL.ow (Ow.ownl q37_0_2 rfl mnil) rfl))) (OwAs.cons (m := muns [q39_0_n2]) (c1 := [Value.int .i64 ((ofC 3 3).1), Value.int .i64 ((ofC 3 3).2.1), Value.slice q39_0_A2 (((ofC 3 3).2.2).length) (q39_0_c2)]) (show Ow TCommit _ _ (ofC 3 3) from (mkO_Commit ((ofC 3 3).1) ((ofC 3 3).2.1) ((ofC 3 3).2.2) (Seps.self hg44 (List.Sublist.cons _ (List.Sublist.cons _ (List.Sublist.cons _ (List.Sublist.cons_cons _ List.Sublist.slnil))))) (by simp only [inK]; (first | omega | (simp only [List.length_append, List.length_nil, List.length_cons, List.length_take, List.length_drop] at *; omega) | (have : exC.length = 6 := rfl; omega) | decide)) (by simp only [inK]; (first | omega | (simp only [List.length_append, List.length_nil, List.length_cons, List.length_take, List.length_drop] at *; omega) | (have : exC.length = 6 := rfl; omega) | decide)) (OwnL.ow (Ow.ownl q39_0_2 rfl mnil) rfl))) OwAs.nil))) rfl rfl
            refine VD.callN 143 rfl rfl (.inl rfl) fnOk52 rfl (fun _ h => h.sub [115, 0]) (fun W hW => follows_ok W 0 (by simp only [inK]; (first | omega | (simp only [List.length_append, List.length_nil, List.length_cons, List.length_take, List.length_drop] at *; omega) | (have : exC.length = 6 := rfl; omega) | decide)) 0 (by simp only [inK]; (first | omega | (simp only [List.length_append, List.length_nil, List.length_cons, List.length_take, List.length_drop] at *; omega) | (have : exC.length = 6 := rfl; omega) | decide)) (Ow.rd ho44 (hW.at (i := 145) rfl))) (fun v43 m43 hv43 => ?_)
            obtain ⟨s43_0, rfl, f43_0⟩ := hv43
            generalize hq43_0 : (cFollows 0 0 ([(ofC 1 1), (ofC 1 2), (ofC 3 3)])) = r43_0 at f43_0
            obtain ⟨rfl, q43_0_0, q43_0_1⟩ := open_Fault (x0 := r43_0.1) (x1 := r43_0.2) (f43_0.rd (mle_refl _))
            simp only [inK] at q43_0_0
            simp only [inK] at q43_0_1
            refine VD.y rfl rfl (.inl rfl) (.steql (p := r43_0.1 = 0 ∧ r43_0.2 = 0) rfl rfl (teq57 r43_0.1 r43_0.2) (teq57 0 0) (by simp [ceq, ba_toList])) ?_
            refine VD.y rfl rfl (.inl rfl) (.mv rfl) ?_
            refine VD.dec (s := 52) rfl (fun hc46 => ?_) (fun hc46 => ?_)
            · -- TTTTTT
              refine VD.y rfl rfl (.inr ⟨_, _, rfl, _, rfl, rfl⟩) (.bst (cs := [Value.int .i64 (15), Value.int .i64 (0)]) rfl tst57 tz57 rfl) ?_
              refine VD.callN 147 rfl rfl (.inr ⟨_, _, rfl, _, rfl, rfl⟩) fnOk51 rfl (fun _ h => h.sub [115, 0]) (fun W hW => of04_ok W 1 (by simp only [inK]; (first | omega | (simp only [List.length_append, List.length_nil, List.length_cons, List.length_take, List.length_drop] at *; omega) | (have : exC.length = 6 := rfl; omega) | decide)) 5 (by simp only [inK]; (first | omega | (simp only [List.length_append, List.length_nil, List.length_cons, List.length_take, List.length_drop] at *; omega) | (have : exC.length = 6 := rfl; omega) | decide))) (fun v47 m47 hv47 => ?_)
              obtain ⟨s47_0, rfl, f47_0⟩ := hv47
              obtain ⟨q47_0_A2, q47_0_c2, q47_0_n2, rfl, q47_0_S, q47_0_0, q47_0_1, q47_0_2⟩ := openO_Commit (x0 := (ofC 1 5).1) (x1 := (ofC 1 5).2.1) (x2 := (ofC 1 5).2.2) f47_0
              simp only [inK] at q47_0_0
              simp only [inK] at q47_0_1
              have q47_0_r2 := Rd.room (q47_0_2.rd (mle_refl _))
              refine VD.inv _ (fun _ h => h.parts (i := 147) rfl q47_0_S [148]) ?_
              refine VD.gbsl (cs := [Value.int .i64 ((ofC 1 5).1), Value.int .i64 ((ofC 1 5).2.1), Value.slice q47_0_A2 (((ofC 1 5).2.2).length) (q47_0_c2)]) 150 rfl rfl ⟨_, rfl, rfl⟩ rfl tsl61 tz52 rfl rfl (fun _ h => h.sub [115, 0]) (fun g49 => ?_)
              refine VD.gather (l := [mone g49 (.cells [Value.int .i64 ((ofC 1 5).1), Value.int .i64 ((ofC 1 5).2.1), Value.slice q47_0_A2 (((ofC 1 5).2.2).length) (q47_0_c2)].toArray 52 (0, 0)), q47_0_n2]) 153 [150, 148] rfl (fun hg52 => ?_)
              have ho52 : Ow (.sl TCommit) (muns [mone g49 (.cells [Value.int .i64 ((ofC 1 5).1), Value.int .i64 ((ofC 1 5).2.1), Value.slice q47_0_A2 (((ofC 1 5).2.2).length) (q47_0_c2)].toArray 52 (0, 0)), q47_0_n2]) [Value.slice (some ⟨g49, 0, none⟩) (1) (1)] [(ofC 1 5)] := Ow.lit 1 (Seps.grp1 (ls := [[q47_0_n2]]) hg52) (OwAs.cons (m := muns [q47_0_n2]) (c1 := [Value.int .i64 ((ofC 1 5).1), Value.int .i64 ((ofC 1 5).2.1), Value.slice q47_0_A2 (((ofC 1 5).2.2).length) (q47_0_c2)]) (show Ow TCommit _ _ (ofC 1 5) from (mkO_Commit ((ofC 1 5).1) ((ofC 1 5).2.1) ((ofC 1 5).2.2) (Seps.self hg52 (List.Sublist.cons _ (List.Sublist.cons_cons _ List.Sublist.slnil))) (by simp only [inK]; (first | omega | (simp only [List.length_append, List.length_nil, List.length_cons, List.length_take, List.length_drop] at *; omega) | (have : exC.length = 6 := rfl; omega) | decide)) (by simp only [inK]; (first | omega | (simp only [List.length_append, List.length_nil, List.length_cons, List.length_take, List.length_drop] at *; omega) | (have : exC.length = 6 := rfl; omega) | decide)) (OwnL.ow (Ow.ownl q47_0_2 rfl mnil) rfl))) OwAs.nil) rfl rfl
              refine VD.callN 151 rfl rfl (.inr ⟨_, _, rfl, _, rfl, rfl⟩) fnOk52 rfl (fun _ h => h.sub [115, 0]) (fun W hW => follows_ok W 2 (by simp only [inK]; (first | omega | (simp only [List.length_append, List.length_nil, List.length_cons, List.length_take, List.length_drop] at *; omega) | (have : exC.length = 6 := rfl; omega) | decide)) 4 (by simp only [inK]; (first | omega | (simp only [List.length_append, List.length_nil, List.length_cons, List.length_take, List.length_drop] at *; omega) | (have : exC.length = 6 := rfl; omega) | decide)) (Ow.rd ho52 (hW.at (i := 153) rfl))) (fun v51 m51 hv51 => ?_)
              obtain ⟨s51_0, rfl, f51_0⟩ := hv51
              generalize hq51_0 : (cFollows 2 4 ([(ofC 1 5)])) = r51_0 at f51_0
              obtain ⟨rfl, q51_0_0, q51_0_1⟩ := open_Fault (x0 := r51_0.1) (x1 := r51_0.2) (f51_0.rd (mle_refl _))
              simp only [inK] at q51_0_0
              simp only [inK] at q51_0_1
              refine VD.y rfl rfl (.inr ⟨_, _, rfl, _, rfl, rfl⟩) (.steql (p := r51_0.1 = 15 ∧ r51_0.2 = 0) rfl rfl (teq57 r51_0.1 r51_0.2) (teq57 15 0) (by simp [ceq, ba_toList])) ?_
              refine VD.y rfl rfl (.inl rfl) (.pT rfl rfl) ?_
              refine VD.y rfl rfl (.inl rfl) (.mv rfl) ?_
              refine VD.dec (s := 59) rfl (fun hc54 => ?_) (fun hc54 => ?_)
              · -- TTTTTTT
                refine VD.y rfl rfl (.inr ⟨_, _, rfl, _, rfl, rfl⟩) (.bst (cs := [Value.int .i64 (15), Value.int .i64 (0)]) rfl tst57 tz57 rfl) ?_
                refine VD.callN 155 rfl rfl (.inr ⟨_, _, rfl, _, rfl, rfl⟩) fnOk51 rfl (fun _ h => h.sub [115, 0]) (fun W hW => of04_ok W 2 (by simp only [inK]; (first | omega | (simp only [List.length_append, List.length_nil, List.length_cons, List.length_take, List.length_drop] at *; omega) | (have : exC.length = 6 := rfl; omega) | decide)) 6 (by simp only [inK]; (first | omega | (simp only [List.length_append, List.length_nil, List.length_cons, List.length_take, List.length_drop] at *; omega) | (have : exC.length = 6 := rfl; omega) | decide))) (fun v55 m55 hv55 => ?_)
                obtain ⟨s55_0, rfl, f55_0⟩ := hv55
                obtain ⟨q55_0_A2, q55_0_c2, q55_0_n2, rfl, q55_0_S, q55_0_0, q55_0_1, q55_0_2⟩ := openO_Commit (x0 := (ofC 2 6).1) (x1 := (ofC 2 6).2.1) (x2 := (ofC 2 6).2.2) f55_0
                simp only [inK] at q55_0_0
                simp only [inK] at q55_0_1
                have q55_0_r2 := Rd.room (q55_0_2.rd (mle_refl _))
                refine VD.inv _ (fun _ h => h.parts (i := 155) rfl q55_0_S [156]) ?_
                refine VD.gbsl (cs := [Value.int .i64 ((ofC 2 6).1), Value.int .i64 ((ofC 2 6).2.1), Value.slice q55_0_A2 (((ofC 2 6).2.2).length) (q55_0_c2)]) 158 rfl rfl ⟨_, rfl, rfl⟩ rfl tsl61 tz52 rfl rfl (fun _ h => h.sub [115, 0]) (fun g57 => ?_)
                refine VD.gather (l := [mone g57 (.cells [Value.int .i64 ((ofC 2 6).1), Value.int .i64 ((ofC 2 6).2.1), Value.slice q55_0_A2 (((ofC 2 6).2.2).length) (q55_0_c2)].toArray 52 (0, 0)), q55_0_n2]) 161 [158, 156] rfl (fun hg60 => ?_)
                have ho60 : Ow (.sl TCommit) (muns [mone g57 (.cells [Value.int .i64 ((ofC 2 6).1), Value.int .i64 ((ofC 2 6).2.1), Value.slice q55_0_A2 (((ofC 2 6).2.2).length) (q55_0_c2)].toArray 52 (0, 0)), q55_0_n2]) [Value.slice (some ⟨g57, 0, none⟩) (1) (1)] [(ofC 2 6)] := Ow.lit 1 (Seps.grp1 (ls := [[q55_0_n2]]) hg60) (OwAs.cons (m := muns [q55_0_n2]) (c1 := [Value.int .i64 ((ofC 2 6).1), Value.int .i64 ((ofC 2 6).2.1), Value.slice q55_0_A2 (((ofC 2 6).2.2).length) (q55_0_c2)]) (show Ow TCommit _ _ (ofC 2 6) from (mkO_Commit ((ofC 2 6).1) ((ofC 2 6).2.1) ((ofC 2 6).2.2) (Seps.self hg60 (List.Sublist.cons _ (List.Sublist.cons_cons _ List.Sublist.slnil))) (by simp only [inK]; (first | omega | (simp only [List.length_append, List.length_nil, List.length_cons, List.length_take, List.length_drop] at *; omega) | (have : exC.length = 6 := rfl; omega) | decide)) (by simp only [inK]; (first | omega | (simp only [List.length_append, List.length_nil, List.length_cons, List.length_take, List.length_drop] at *; omega) | (have : exC.length = 6 := rfl; omega) | decide)) (OwnL.ow (Ow.ownl q55_0_2 rfl mnil) rfl))) OwAs.nil) rfl rfl
                refine VD.callN 159 rfl rfl (.inr ⟨_, _, rfl, _, rfl, rfl⟩) fnOk52 rfl (fun _ h => h.sub [115, 0]) (fun W hW => follows_ok W 2 (by simp only [inK]; (first | omega | (simp only [List.length_append, List.length_nil, List.length_cons, List.length_take, List.length_drop] at *; omega) | (have : exC.length = 6 := rfl; omega) | decide)) 4 (by simp only [inK]; (first | omega | (simp only [List.length_append, List.length_nil, List.length_cons, List.length_take, List.length_drop] at *; omega) | (have : exC.length = 6 := rfl; omega) | decide)) (Ow.rd ho60 (hW.at (i := 161) rfl))) (fun v59 m59 hv59 => ?_)
                obtain ⟨s59_0, rfl, f59_0⟩ := hv59
                generalize hq59_0 : (cFollows 2 4 ([(ofC 2 6)])) = r59_0 at f59_0
                obtain ⟨rfl, q59_0_0, q59_0_1⟩ := open_Fault (x0 := r59_0.1) (x1 := r59_0.2) (f59_0.rd (mle_refl _))
                simp only [inK] at q59_0_0
                simp only [inK] at q59_0_1
                refine VD.y rfl rfl (.inr ⟨_, _, rfl, _, rfl, rfl⟩) (.steql (p := r59_0.1 = 15 ∧ r59_0.2 = 0) rfl rfl (teq57 r59_0.1 r59_0.2) (teq57 15 0) (by simp [ceq, ba_toList])) ?_
                refine VD.y rfl rfl (.inl rfl) (.pT rfl rfl) ?_
                refine VD.y rfl rfl (.inl rfl) (.mv rfl) ?_
                refine VD.dec (s := 66) rfl (fun hc62 => ?_) (fun hc62 => ?_)
                · -- TTTTTTTT
                  refine VD.y rfl rfl (.inr ⟨_, _, rfl, _, rfl, rfl⟩) (.ldA 115 rfl tk57 rfl (cellsAt_one rfl rfl)) ?_
                  refine VD.callN 163 rfl rfl (.inr ⟨_, _, rfl, _, rfl, rfl⟩) fnOk52 rfl (fun _ h => h.sub [115, 0]) (fun W hW => follows_ok W 2 (by simp only [inK]; (first | omega | (simp only [List.length_append, List.length_nil, List.length_cons, List.length_take, List.length_drop] at *; omega) | (have : exC.length = 6 := rfl; omega) | decide)) 4 (by simp only [inK]; (first | omega | (simp only [List.length_append, List.length_nil, List.length_cons, List.length_take, List.length_drop] at *; omega) | (have : exC.length = 6 := rfl; omega) | decide)) (Rd.nil _ _ none 0 (Nat.zero_le _))) (fun v63 m63 hv63 => ?_)
                  obtain ⟨s63_0, rfl, f63_0⟩ := hv63
                  generalize hq63_0 : (cFollows 2 4 []) = r63_0 at f63_0
                  obtain ⟨rfl, q63_0_0, q63_0_1⟩ := open_Fault (x0 := r63_0.1) (x1 := r63_0.2) (f63_0.rd (mle_refl _))
                  simp only [inK] at q63_0_0
                  simp only [inK] at q63_0_1
                  refine VD.nil rfl ?_ rfl
                  refine VO.gy rfl ⟨_, rfl, rfl⟩ (.steql (p := r63_0.1 = 0 ∧ r63_0.2 = 0) rfl rfl (teq57 r63_0.1 r63_0.2) (teq57 0 0) (by simp [ceq, ba_toList])) ?_
                  refine VO.y rfl (.pT rfl rfl) ?_
                  refine VO.as ?_
                  refine VO.inv [(115, _), (0, _)] (fun _ h => h.sub [115, 0]) ?_
                  refine VO.k7 0 1 3 5 6 7 8 ?_
                  refine outN ?_
                  refine VC.rs ?_
                  refine VO.mv ?_
                  refine VO.mv ?_
                  refine VO.gcallN 164 rfl ⟨_, rfl, rfl⟩ fnOk48 rfl (fun W hW => lives04_ok W ) (fun v64 m64 hv64 => ?_)
                  subst hv64
                  refine VO.y rfl (.pT rfl rfl) ?_
                  refine VO.mv ?_
                  refine VO.gy rfl ⟨_, rfl, rfl⟩ (.mv rfl) ?_
                  refine VO.y rfl (.pT rfl rfl) ?_
                  refine VO.mv ?_
                  refine VO.dec (t := 78) rfl (fun hc65 => ?_) (fun hc65 => ?_)
                  · -- TTTTTTTTT
                    refine VO.gy rfl ⟨_, rfl, rfl⟩ (.mv rfl) ?_
                    refine VO.y rfl (.pT rfl rfl) ?_
                    refine VO.mv ?_
                    refine VO.dec (t := 81) rfl (fun hc66 => ?_) (fun hc66 => ?_)
                    · -- TTTTTTTTTT
                      refine VO.gcallN 167 rfl ⟨_, rfl, rfl⟩ fnOk51 rfl (fun W hW => of04_ok W 1 (by simp only [inK]; (first | omega | (simp only [List.length_append, List.length_nil, List.length_cons, List.length_take, List.length_drop] at *; omega) | (have : exC.length = 6 := rfl; omega) | decide)) 1 (by simp only [inK]; (first | omega | (simp only [List.length_append, List.length_nil, List.length_cons, List.length_take, List.length_drop] at *; omega) | (have : exC.length = 6 := rfl; omega) | decide))) (fun v67 m67 hv67 => ?_)
                      obtain ⟨s67_0, rfl, f67_0⟩ := hv67
                      obtain ⟨q67_0_A2, q67_0_c2, q67_0_n2, rfl, q67_0_S, q67_0_0, q67_0_1, q67_0_2⟩ := openO_Commit (x0 := (ofC 1 1).1) (x1 := (ofC 1 1).2.1) (x2 := (ofC 1 1).2.2) f67_0
                      simp only [inK] at q67_0_0
                      simp only [inK] at q67_0_1
                      have q67_0_r2 := Rd.room (q67_0_2.rd (mle_refl _))
                      refine VO.inv _ (fun _ h => h.parts (i := 167) rfl q67_0_S [168]) ?_
                      refine VO.gcallN 169 rfl ⟨_, rfl, rfl⟩ fnOk51 rfl (fun W hW => of04_ok W 0 (by simp only [inK]; (first | omega | (simp only [List.length_append, List.length_nil, List.length_cons, List.length_take, List.length_drop] at *; omega) | (have : exC.length = 6 := rfl; omega) | decide)) 2 (by simp only [inK]; (first | omega | (simp only [List.length_append, List.length_nil, List.length_cons, List.length_take, List.length_drop] at *; omega) | (have : exC.length = 6 := rfl; omega) | decide))) (fun v69 m69 hv69 => ?_)
                      obtain ⟨s69_0, rfl, f69_0⟩ := hv69
                      obtain ⟨q69_0_A2, q69_0_c2, q69_0_n2, rfl, q69_0_S, q69_0_0, q69_0_1, q69_0_2⟩ := openO_Commit (x0 := (ofC 0 2).1) (x1 := (ofC 0 2).2.1) (x2 := (ofC 0 2).2.2) f69_0
                      simp only [inK] at q69_0_0
                      simp only [inK] at q69_0_1
                      have q69_0_r2 := Rd.room (q69_0_2.rd (mle_refl _))
                      refine VO.inv _ (fun _ h => h.parts (i := 169) rfl q69_0_S [170]) ?_
                      refine VO.gbsl (cs := [Value.int .i64 ((ofC 1 1).1), Value.int .i64 ((ofC 1 1).2.1), Value.slice q67_0_A2 (((ofC 1 1).2.2).length) (q67_0_c2), Value.int .i64 ((ofC 0 2).1), Value.int .i64 ((ofC 0 2).2.1), Value.slice q69_0_A2 (((ofC 0 2).2.2).length) (q69_0_c2)]) 172 rfl ⟨_, rfl, rfl⟩ rfl tsl61 tz52 rfl rfl (fun g71 => ?_)
                      refine VO.gather (l := [mone g71 (.cells [Value.int .i64 ((ofC 1 1).1), Value.int .i64 ((ofC 1 1).2.1), Value.slice q67_0_A2 (((ofC 1 1).2.2).length) (q67_0_c2), Value.int .i64 ((ofC 0 2).1), Value.int .i64 ((ofC 0 2).2.1), Value.slice q69_0_A2 (((ofC 0 2).2.2).length) (q69_0_c2)].toArray 52 (0, 0)), q67_0_n2, q69_0_n2]) 175 [172, 168, 170] rfl (fun hg74 => ?_)
                      have ho74 : Ow (.sl TCommit) (muns [mone g71 (.cells [Value.int .i64 ((ofC 1 1).1), Value.int .i64 ((ofC 1 1).2.1), Value.slice q67_0_A2 (((ofC 1 1).2.2).length) (q67_0_c2), Value.int .i64 ((ofC 0 2).1), Value.int .i64 ((ofC 0 2).2.1), Value.slice q69_0_A2 (((ofC 0 2).2.2).length) (q69_0_c2)].toArray 52 (0, 0)), q67_0_n2, q69_0_n2]) [Value.slice (some ⟨g71, 0, none⟩) (2) (2)] [(ofC 1 1), (ofC 0 2)] := Ow.lit 2 (Seps.grp1 (ls := [[q67_0_n2], [q69_0_n2]]) hg74) (OwAs.cons (m := muns [q67_0_n2]) (c1 := [Value.int .i64 ((ofC 1 1).1), Value.int .i64 ((ofC 1 1).2.1), Value.slice q67_0_A2 (((ofC 1 1).2.2).length) (q67_0_c2)]) (show Ow TCommit _ _ (ofC 1 1) from (mkO_Commit ((ofC 1 1).1) ((ofC 1 1).2.1) ((ofC 1 1).2.2) (Seps.self hg74 (List.Sublist.cons _ (List.Sublist.cons_cons _ (List.Sublist.cons _ List.Sublist.slnil)))) (by simp only [inK]; (first | omega | (simp only [List.length_append, List.length_nil, List.length_cons, List.length_take, List.length_drop] at *; omega) | (have : exC.length = 6 := rfl; omega) | decide)) (by simp only [inK]; (first | omega | (simp only [List.length_append, List.length_nil, List.length_cons, List.length_take, List.length_drop] at *; omega) | (have : exC.length = 6 := rfl; omega) | decide)) (OwnL.ow (Ow.ownl q67_0_2 rfl mnil) rfl))) (OwAs.cons (m := muns [q69_0_n2]) (c1 := [Value.int .i64 ((ofC 0 2).1), Value.int .i64 ((ofC 0 2).2.1), Value.slice q69_0_A2 (((ofC 0 2).2.2).length) (q69_0_c2)]) (show Ow TCommit _ _ (ofC 0 2) from (mkO_Commit ((ofC 0 2).1) ((ofC 0 2).2.1) ((ofC 0 2).2.2) (Seps.self hg74 (List.Sublist.cons _ (List.Sublist.cons _ (List.Sublist.cons_cons _ List.Sublist.slnil)))) (by simp only [inK]; (first | omega | (simp only [List.length_append, List.length_nil, List.length_cons, List.length_take, List.length_drop] at *; omega) | (have : exC.length = 6 := rfl; omega) | decide)) (by simp only [inK]; (first | omega | (simp only [List.length_append, List.length_nil, List.length_cons, List.length_take, List.length_drop] at *; omega) | (have : exC.length = 6 := rfl; omega) | decide)) (OwnL.ow (Ow.ownl q69_0_2 rfl mnil) rfl))) OwAs.nil)) rfl rfl
                      refine VO.gcallN 173 rfl ⟨_, rfl, rfl⟩ fnOk52 rfl (fun W hW => follows_ok W 0 (by simp only [inK]; (first | omega | (simp only [List.length_append, List.length_nil, List.length_cons, List.length_take, List.length_drop] at *; omega) | (have : exC.length = 6 := rfl; omega) | decide)) 0 (by simp only [inK]; (first | omega | (simp only [List.length_append, List.length_nil, List.length_cons, List.length_take, List.length_drop] at *; omega) | (have : exC.length = 6 := rfl; omega) | decide)) (Ow.rd ho74 (hW.at (i := 175) rfl))) (fun v73 m73 hv73 => ?_)
                      obtain ⟨s73_0, rfl, f73_0⟩ := hv73
                      generalize hq73_0 : (cFollows 0 0 ([(ofC 1 1), (ofC 0 2)])) = r73_0 at f73_0
                      obtain ⟨rfl, q73_0_0, q73_0_1⟩ := open_Fault (x0 := r73_0.1) (x1 := r73_0.2) (f73_0.rd (mle_refl _))
                      simp only [inK] at q73_0_0
                      simp only [inK] at q73_0_1
                      refine VO.gy rfl ⟨_, rfl, rfl⟩ (.bst (cs := [Value.int .i64 (2), Value.int .i64 (1)]) rfl tst57 tz57 rfl) ?_
                      refine VO.gy rfl ⟨_, rfl, rfl⟩ (.steql (p := r73_0.1 = 2 ∧ r73_0.2 = 1) rfl rfl (teq57 r73_0.1 r73_0.2) (teq57 2 1) (by simp [ceq, ba_toList])) ?_
                      refine VO.y rfl (.pT rfl rfl) ?_
                      refine VO.as ?_
                      refine VO.k7 0 1 3 5 6 7 8 ?_
                      refine VC.ret ?_
                      refine ⟨_, _, res_run (rs := [.tmp 0]) rfl (.tmp rfl .nil), fun W_ hI => out_of (l := []) hI [] rfl rfl (mle_refl _) (fun hS_ => ?_)⟩
                      dsimp only [packV]
                      all_goals (first | rfl | (exact congrArg Value.bool (decide_eq_true (by subst_vars; first | (simp only [ofC, ex4E, ex4D, ex4x, ex4n]; done) | (simp only [ofC, ex4E, ex4D, ex4x, ex4n]; first | rfl | decide) | rfl | decide))))
                    · -- TTTTTTTTTF
                      exact absurd (by subst_vars; first | (simp only [ofC, ex4E, ex4D, ex4x, ex4n]; done) | (simp only [ofC, ex4E, ex4D, ex4x, ex4n]; first | rfl | decide) | rfl | decide) hc66
                  · -- TTTTTTTTF
                    exact absurd (by subst_vars; first | (simp only [ofC, ex4E, ex4D, ex4x, ex4n]; done) | (simp only [ofC, ex4E, ex4D, ex4x, ex4n]; first | rfl | decide) | rfl | decide) hc65
                · -- TTTTTTTF
                  exact absurd (by subst_vars; first | (simp only [ofC, ex4E, ex4D, ex4x, ex4n]; done) | (simp only [ofC, ex4E, ex4D, ex4x, ex4n]; first | rfl | decide) | rfl | decide) hc62
              · -- TTTTTTF
                exact absurd (by subst_vars; first | (simp only [ofC, ex4E, ex4D, ex4x, ex4n]; done) | (simp only [ofC, ex4E, ex4D, ex4x, ex4n]; first | rfl | decide) | rfl | decide) hc54
            · -- TTTTTF
              exact absurd (by subst_vars; first | (simp only [ofC, ex4E, ex4D, ex4x, ex4n]; done) | (simp only [ofC, ex4E, ex4D, ex4x, ex4n]; first | rfl | decide) | rfl | decide) hc46
          · -- TTTTF
            exact absurd (by subst_vars; first | (simp only [ofC, ex4E, ex4D, ex4x, ex4n]; done) | (simp only [ofC, ex4E, ex4D, ex4x, ex4n]; first | rfl | decide) | rfl | decide) hc30
        · -- TTTF
          exact absurd (by subst_vars; first | (simp only [ofC, ex4E, ex4D, ex4x, ex4n]; done) | (simp only [ofC, ex4E, ex4D, ex4x, ex4n]; first | rfl | decide) | rfl | decide) hc27
      · -- TTF
        exact absurd (by subst_vars; first | (simp only [ofC, ex4E, ex4D, ex4x, ex4n]; done) | (simp only [ofC, ex4E, ex4D, ex4x, ex4n]; first | rfl | decide) | rfl | decide) hc22
    · -- TF
      exact absurd (by subst_vars; first | (simp only [ofC, ex4E, ex4D, ex4x, ex4n]; done) | (simp only [ofC, ex4E, ex4D, ex4x, ex4n]; first | rfl | decide) | rfl | decide) hc17
  · -- F
    exact absurd (by subst_vars; first | (simp only [ofC, ex4E, ex4D, ex4x, ex4n]; done) | (simp only [ofC, ex4E, ex4D, ex4x, ex4n]; first | rfl | decide) | rfl | decide) hc16
end
section
set_option linter.unusedVariables false
set_option maxRecDepth 4000
open Go.ChangeShapes Go.WideShapes Go.ChangeAt Go.RowKit
set_option maxRecDepth 100000 in
theorem commitNames_lifted (os : Os) (started : os.Started) (H : Type) (enc : TypeId × Value → H) :
    ReturnsInHanded {} Try.checked os 10 .any (Rows.commitNamesSpec.pre6 enc Try.prog Try.f10 Rows.commitNamesRow.domain false) (Rows.commitNamesSpec.post enc Try.prog Try.f10 false true false false) := by
  refine returnsInHanded_of_change (C := Try.checked) (by kernel_rfl) started (by kernel_rfl) Try.func10
    (ChangeSpec.witness6 (enc := enc) (C := Try.checked) false ⟨#[], #[], []⟩ 8 (by kernel_rfl) (by kernel_rfl) (by kernel_rfl) (by kernel_rfl)) ?_
  intro W base args ds gs before hval0 hW hcnd _
  have hval : ∀ (j : Nat) t v, Try.f10.params[j]? = some t → args[j]? = some v → Value.okWide Try.prog W .any base t v := hval0
  have hW' := hW
  obtain ⟨p, q, hA0, hV, rfl, hfz, hnd⟩ := hW
  have hA : DataW.TrodAll enc Try.prog W 0 (fun _ => true) true Try.f10.params.toList args.toList ds p := hA0
  rw [Try.params10] at hA hval
  clear hA0 hval0
  obtain ⟨args⟩ := args
  obtain ⟨ha, rfl, rfl⟩ := trodAll_nil hA; simp only at ha; subst ha
  refine (calls_of (commitNames_ok W )).mono fun e W' ⟨he, hg⟩ => ?_
  subst he
  exact ⟨_, rfl, law_post hW' hg laidOut_ok (by kernel_rfl) rfl Try.underlying4 rfl rfl rfl rfl⟩
theorem commitNames_joined : joinedFacts Try.prog 10 Try.f10 Rows.commitNamesSpec Rows.commitNamesRow = true := by
  unfold joinedFacts
  rw [laidOut_ok, mapsRowed_ok, stopsHeard_ok, mayEnter_ok, lifts_ok, make_ok]
  kernel_rfl
theorem commitNames_proved : Rows.CommitNamesSaid :=
  OpenClaim.holds_of_wide 10 Try.f10 rfl rfl rfl rfl rfl rfl rfl ⟨rfl, rfl, rfl, rfl, rfl⟩ rfl rfl rfl rfl rfl (by kernel_rfl) Try.func10 commitNames_joined
    (of_decide_eq_true (by kernel_rfl)) (by unfold Func.isWrapper; first | (rw [if_pos (by decide +kernel)]; kernel_rfl) | (rw [if_neg (by decide +kernel)]; exact ⟨rfl, rfl⟩))
    (fun os started H enc _ => commitNames_lifted os started H enc)
#print axioms commitNames_proved
end
end Go.Proofs.Ytfaknkkaegjdaaa
