/- Part 4 of the proof of LCommitReads: what it needs of the library, the walks and the plain laws. Conditions: those named in each theorem. -/
import Derived.Test.YtfaknkkaegjdaaaLCommitReadsM3
namespace Go.Proofs.Ytfaknkkaegjdaaa
section
set_option linter.unusedVariables false
set_option linter.unusedSimpArgs false
set_option maxRecDepth 4000
theorem fnOk46 : fnOk Try.prog 46 = true := by kernel_rfl
theorem fnOk48 : fnOk Try.prog 48 = true := by kernel_rfl
theorem fnOk51 : fnOk Try.prog 51 = true := by kernel_rfl
theorem fnOk58 : fnOk Try.prog 58 = true := by kernel_rfl
theorem of04_ok (W : World) (d0 : Int) (h0 : inK .i64 d0) (d1 : Int) (h1 : inK .i64 d1) : CallR Try.prog 51 [.int .i64 d0, .int .i64 d1] W (mnil) (fun v m' => ∃ (s0 : List Value), v = .agg s0.toArray ∧ Ow TCommit m' s0 (ofC d0 d1)) := by
  have h0' := h0; simp only [inK] at h0'
  have h1' := h1; simp only [inK] at h1'
  refine CallR.ofA (n := 10) Try.func51 rfl rfl rfl ?_
  refine VC.rs ?_
  refine VO.alloc 102 rfl tz52 (fun g1 => ?_)
  refine VO.k3 0 1 4 ?_
  refine VC.rs ?_
  refine VO.mv ?_
  refine VO.mv ?_
  refine VO.y rfl (.bst (cs := [Value.bool true, str ([97]), str ([49])]) rfl tst49 tz49 rfl) ?_
  refine VO.bsl (cs := [Value.bool true, str ([97]), str ([49])]) 104 rfl rfl tsl22 tz49 rfl rfl (fun g3 => ?_)
  refine VO.y rfl (.bst (cs := [Value.int .i64 (d0), Value.int .i64 (d1), Value.slice (some ⟨g3, 0, none⟩) (1) (1)]) rfl tst52 tz52 rfl) ?_
  refine VO.store (k := 3) (c' := [Value.int .i64 (d0), Value.int .i64 (d1), Value.slice (some ⟨g3, 0, none⟩) (1) (1)]) 102 rfl rfl (.inl tk52) rfl rfl rfl rfl rfl ?_
  refine VO.k3 0 1 4 ?_
  refine VC.ret ?_
  have ho5 : OwnL TOp (mone g3 (.cells [Value.bool true, str ([97]), str ([49])].toArray 49 (0, 0))) mnil (Value.slice (some ⟨g3, 0, none⟩) (1) (1)) [(true, [97], [49])] := OwnL.lit 1 (All2c.cons (c1 := [Value.bool true, str ([97]), str ([49])]) (mk_Op (m := _) true ([97]) ([49]) bdm bdm) All2c.nil) rfl rfl
  refine ⟨_, _, res_run (rs := [.cell 4 52]) rfl (.agg 102 rfl tk52 rfl ⟨_, _, _, mone_self _ _, Nat.le_of_ble_eq_true rfl, rfl⟩ .nil), fun W_ hI => out_of (l := [mone g3 (.cells [Value.bool true, str ([97]), str ([49])].toArray 49 (0, 0))]) hI [104] rfl rfl (mle_refl _) (fun hS_ => ?_)⟩
  dsimp only [packV]
  have he0 : (ofC d0 d1 : Ty.Den TCommit) = (d0, d1, [(true, [97], [49])]) := by first | rfl | (simp [*]; done)
  refine ⟨[Value.int .i64 (d0), Value.int .i64 (d1), Value.slice (some ⟨g3, 0, none⟩) (1) (1)], ?_, ?_⟩
  rotate_left
  · rw [he0]; exact (mkO_Commit d0 d1 ([(true, [97], [49])]) hS_ bdk bdk (OwnL.ow ho5 rfl))
  all_goals (first | rfl | (simp [*]; done))
theorem lives04_ok (W : World) : CallR Try.prog 48 [] W (mnil) (fun v m' => v = .bool true) := by
  refine CallR.ofA (n := 31) Try.func48 rfl rfl rfl ?_
  refine VC.rs ?_
  refine VO.as ?_
  refine VO.k1 0 ?_
  refine VC.rs ?_
  refine VO.callN 101 rfl fnOk51 rfl (fun W hW => of04_ok W 1 (by simp only [inK]; (first | omega | (simp only [List.length_append, List.length_nil, List.length_cons, List.length_take, List.length_drop] at *; omega) | (have : exC.length = 6 := rfl; omega) | decide)) 2 (by simp only [inK]; (first | omega | (simp only [List.length_append, List.length_nil, List.length_cons, List.length_take, List.length_drop] at *; omega) | (have : exC.length = 6 := rfl; omega) | decide))) (fun v1 m1 hv1 => ?_)
  obtain ⟨s1_0, rfl, f1_0⟩ := hv1
  obtain ⟨q1_0_A2, q1_0_c2, q1_0_n2, rfl, q1_0_S, q1_0_0, q1_0_1, q1_0_2⟩ := openO_Commit (x0 := (ofC 1 2).1) (x1 := (ofC 1 2).2.1) (x2 := (ofC 1 2).2.2) f1_0
  simp only [inK] at q1_0_0
  simp only [inK] at q1_0_1
  have q1_0_r2 := Rd.room (q1_0_2.rd (mle_refl _))
  refine VO.inv _ (fun _ h => h.parts (i := 101) rfl q1_0_S [102]) ?_
  refine VO.callN 103 rfl fnOk58 rfl (fun W hW => cEncode_ok_ W (show Rd TCommit _ _ (ofC 1 2) from (mk_Commit (m := wm W) ((ofC 1 2).1) ((ofC 1 2).2.1) ((ofC 1 2).2.2) (by simp only [inK]; (first | omega | (simp only [List.length_append, List.length_nil, List.length_cons, List.length_take, List.length_drop] at *; omega) | (have : exC.length = 6 := rfl; omega) | decide)) (by simp only [inK]; (first | omega | (simp only [List.length_append, List.length_nil, List.length_cons, List.length_take, List.length_drop] at *; omega) | (have : exC.length = 6 := rfl; omega) | decide)) (OwnL.rd (Ow.ownl q1_0_2 rfl mnil) (hW.at (i := 102) rfl) (mle_nil _))))) (fun v3 m3 hv3 => ?_)
  obtain ⟨s3_0, rfl, f3_0⟩ := hv3
  generalize hq3_0 : ((cEncode (ofC 1 2)).1) = r3_0 at f3_0
  obtain ⟨A3_0, c3_0, eq3_0, l3_0, k3_0⟩ := f3_0.slice
  subst eq3_0
  simp only [maxLen] at k3_0
  have hfa4 := cEncode_len (ofC 1 2)
  refine VO.mv ?_
  refine VO.y rfl (.ext rfl rfl) ?_
  refine VO.y rfl (.ext rfl rfl) ?_
  refine VO.as ?_
  refine VO.as ?_
  refine VO.k3 0 1 2 ?_
  refine VC.rs ?_
  refine VO.bsl (cs := [Value.int .u8 (1), Value.int .u8 (2), Value.int .u8 (1), Value.int .u8 (1), Value.int .u8 (0), Value.int .u8 (1), Value.int .u8 (97), Value.int .u8 (1), Value.int .u8 (49)]) 106 rfl rfl tsl23 tz5 rfl rfl (fun g5 => ?_)
  have ho8 : OwnL .byte (mone g5 (.cells [Value.int .u8 (1), Value.int .u8 (2), Value.int .u8 (1), Value.int .u8 (1), Value.int .u8 (0), Value.int .u8 (1), Value.int .u8 (97), Value.int .u8 (1), Value.int .u8 (49)].toArray 5 (0, 0))) mnil (Value.slice (some ⟨g5, 0, none⟩) (9) (9)) [UInt8.ofNat 1, UInt8.ofNat 2, UInt8.ofNat 1, UInt8.ofNat 1, UInt8.ofNat 0, UInt8.ofNat 1, UInt8.ofNat 97, UInt8.ofNat 1, UInt8.ofNat 49] := OwnL.lit 9 (All2c.cons (c1 := [Value.int .u8 (1)]) (rd_byteN (by first | omega | (simp only [List.length_append, List.length_nil, List.length_cons, List.length_take, List.length_drop] at *; omega) | (have : exC.length = 6 := rfl; omega) | decide)) (All2c.cons (c1 := [Value.int .u8 (2)]) (rd_byteN (by first | omega | (simp only [List.length_append, List.length_nil, List.length_cons, List.length_take, List.length_drop] at *; omega) | (have : exC.length = 6 := rfl; omega) | decide)) (All2c.cons (c1 := [Value.int .u8 (1)]) (rd_byteN (by first | omega | (simp only [List.length_append, List.length_nil, List.length_cons, List.length_take, List.length_drop] at *; omega) | (have : exC.length = 6 := rfl; omega) | decide)) (All2c.cons (c1 := [Value.int .u8 (1)]) (rd_byteN (by first | omega | (simp only [List.length_append, List.length_nil, List.length_cons, List.length_take, List.length_drop] at *; omega) | (have : exC.length = 6 := rfl; omega) | decide)) (All2c.cons (c1 := [Value.int .u8 (0)]) (rd_byteN (by first | omega | (simp only [List.length_append, List.length_nil, List.length_cons, List.length_take, List.length_drop] at *; omega) | (have : exC.length = 6 := rfl; omega) | decide)) (All2c.cons (c1 := [Value.int .u8 (1)]) (rd_byteN (by first | omega | (simp only [List.length_append, List.length_nil, List.length_cons, List.length_take, List.length_drop] at *; omega) | (have : exC.length = 6 := rfl; omega) | decide)) (All2c.cons (c1 := [Value.int .u8 (97)]) (rd_byteN (by first | omega | (simp only [List.length_append, List.length_nil, List.length_cons, List.length_take, List.length_drop] at *; omega) | (have : exC.length = 6 := rfl; omega) | decide)) (All2c.cons (c1 := [Value.int .u8 (1)]) (rd_byteN (by first | omega | (simp only [List.length_append, List.length_nil, List.length_cons, List.length_take, List.length_drop] at *; omega) | (have : exC.length = 6 := rfl; omega) | decide)) (All2c.cons (c1 := [Value.int .u8 (49)]) (rd_byteN (by first | omega | (simp only [List.length_append, List.length_nil, List.length_cons, List.length_take, List.length_drop] at *; omega) | (have : exC.length = 6 := rfl; omega) | decide)) All2c.nil))))))))) rfl rfl
  refine VO.callN 107 rfl fnOk46 rfl (fun W hW => cDecode_ok_ W (OwnL.rd ho8 (hW.at (i := 106) rfl) (mle_nil _))) (fun v7 m7 hv7 => ?_)
  obtain ⟨s7_0, rfl, f7_0⟩ := hv7
  generalize hq7_0 : ((cDecode ([UInt8.ofNat 1, UInt8.ofNat 2, UInt8.ofNat 1, UInt8.ofNat 1, UInt8.ofNat 0, UInt8.ofNat 1, UInt8.ofNat 97, UInt8.ofNat 1, UInt8.ofNat 49])).1) = r7_0 at f7_0
  obtain ⟨q7_0_A2, q7_0_c2, q7_0_n2, rfl, q7_0_S, q7_0_0, q7_0_1, q7_0_2⟩ := openO_Commit (x0 := r7_0.1) (x1 := r7_0.2.1) (x2 := r7_0.2.2) f7_0
  simp only [inK] at q7_0_0
  simp only [inK] at q7_0_1
  have q7_0_r2 := Rd.room (q7_0_2.rd (mle_refl _))
  refine VO.inv _ (fun _ h => h.parts (i := 107) rfl q7_0_S [109]) ?_
  have hfa10 := cDecode_fits ([UInt8.ofNat 1, UInt8.ofNat 2, UInt8.ofNat 1, UInt8.ofNat 1, UInt8.ofNat 0, UInt8.ofNat 1, UInt8.ofNat 97, UInt8.ofNat 1, UInt8.ofNat 49])
  refine VO.mv ?_
  refine VO.y rfl (.ext rfl rfl) ?_
  refine VO.y rfl (.ext rfl rfl) ?_
  refine VO.alloc 112 rfl tz52 (fun g11 => ?_)
  refine VO.store (k := 3) (c' := [Value.int .i64 (r7_0.1), Value.int .i64 (r7_0.2.1), Value.slice q7_0_A2 (r7_0.2.2.length) (q7_0_c2)]) 112 rfl rfl (.inl tk52) rfl rfl rfl rfl rfl ?_
  refine VO.as ?_
  refine VO.k5 0 1 2 3 4 ?_
  refine VC.seq ?_
  refine VC.regD _ 14 [(0, true), (1, true), (2, true), (3, true), (4, true), (5, true), (6, true), (7, true), (8, false), (9, false), (10, true), (11, true), (12, true), (13, false)] follows (by kernel_rfl) (fun _ h => h.sub [112, 109, 106, 103, 102, 0]) ?_
  refine VD.y rfl rfl (.inl rfl) (.mv rfl) ?_
  refine VD.y rfl rfl (.inl rfl) (.eql rfl rfl) ?_
  refine VD.y rfl rfl (.inl rfl) (.mv rfl) ?_
  refine VD.dec (s := 17) rfl (fun hc13 => ?_) (fun hc13 => ?_)
  · -- T
    refine VD.y rfl rfl (.inr ⟨_, _, rfl, _, rfl, rfl⟩) (.mv rfl) ?_
    refine VD.y rfl rfl (.inr ⟨_, _, rfl, _, rfl, rfl⟩) (.eql rfl rfl) ?_
    refine VD.y rfl rfl (.inl rfl) (.pT rfl rfl) ?_
    refine VD.y rfl rfl (.inl rfl) (.mv rfl) ?_
    refine VD.dec (s := 21) rfl (fun hc14 => ?_) (fun hc14 => ?_)
    · -- TT
      refine VD.y rfl rfl (.inr ⟨_, _, rfl, _, rfl, rfl⟩) (.mv rfl) ?_
      refine VD.gbsl (cs := [Value.int .u8 (1), Value.int .u8 (2), Value.int .u8 (1), Value.int .u8 (1), Value.int .u8 (0), Value.int .u8 (1), Value.int .u8 (97), Value.int .u8 (1), Value.int .u8 (49)]) 116 rfl rfl ⟨_, rfl, rfl⟩ rfl tsl23 tz5 rfl rfl (fun _ h => h.sub [112, 109, 106, 103, 102, 0]) (fun g15 => ?_)
      have ho18 : OwnL .byte (mone g15 (.cells [Value.int .u8 (1), Value.int .u8 (2), Value.int .u8 (1), Value.int .u8 (1), Value.int .u8 (0), Value.int .u8 (1), Value.int .u8 (97), Value.int .u8 (1), Value.int .u8 (49)].toArray 5 (0, 0))) mnil (Value.slice (some ⟨g15, 0, none⟩) (9) (9)) [UInt8.ofNat 1, UInt8.ofNat 2, UInt8.ofNat 1, UInt8.ofNat 1, UInt8.ofNat 0, UInt8.ofNat 1, UInt8.ofNat 97, UInt8.ofNat 1, UInt8.ofNat 49] := OwnL.lit 9 (All2c.cons (c1 := [Value.int .u8 (1)]) (rd_byteN (by first | omega | (simp only [List.length_append, List.length_nil, List.length_cons, List.length_take, List.length_drop] at *; omega) | (have : exC.length = 6 := rfl; omega) | decide)) (All2c.cons (c1 := [Value.int .u8 (2)]) (rd_byteN (by first | omega | (simp only [List.length_append, List.length_nil, List.length_cons, List.length_take, List.length_drop] at *; omega) | (have : exC.length = 6 := rfl; omega) | decide)) (All2c.cons (c1 := [Value.int .u8 (1)]) (rd_byteN (by first | omega | (simp only [List.length_append, List.length_nil, List.length_cons, List.length_take, List.length_drop] at *; omega) | (have : exC.length = 6 := rfl; omega) | decide)) (All2c.cons (c1 := [Value.int .u8 (1)]) (rd_byteN (by first | omega | (simp only [List.length_append, List.length_nil, List.length_cons, List.length_take, List.length_drop] at *; omega) | (have : exC.length = 6 := rfl; omega) | decide)) (All2c.cons (c1 := [Value.int .u8 (0)]) (rd_byteN (by first | omega | (simp only [List.length_append, List.length_nil, List.length_cons, List.length_take, List.length_drop] at *; omega) | (have : exC.length = 6 := rfl; omega) | decide)) (All2c.cons (c1 := [Value.int .u8 (1)]) (rd_byteN (by first | omega | (simp only [List.length_append, List.length_nil, List.length_cons, List.length_take, List.length_drop] at *; omega) | (have : exC.length = 6 := rfl; omega) | decide)) (All2c.cons (c1 := [Value.int .u8 (97)]) (rd_byteN (by first | omega | (simp only [List.length_append, List.length_nil, List.length_cons, List.length_take, List.length_drop] at *; omega) | (have : exC.length = 6 := rfl; omega) | decide)) (All2c.cons (c1 := [Value.int .u8 (1)]) (rd_byteN (by first | omega | (simp only [List.length_append, List.length_nil, List.length_cons, List.length_take, List.length_drop] at *; omega) | (have : exC.length = 6 := rfl; omega) | decide)) (All2c.cons (c1 := [Value.int .u8 (49)]) (rd_byteN (by first | omega | (simp only [List.length_append, List.length_nil, List.length_cons, List.length_take, List.length_drop] at *; omega) | (have : exC.length = 6 := rfl; omega) | decide)) All2c.nil))))))))) rfl rfl
      refine VD.callN 117 rfl rfl (.inr ⟨_, _, rfl, _, rfl, rfl⟩) fnOk33 rfl (fun _ h => h.sub [112, 109, 106, 103, 102, 0]) (fun W hW => SameBytes_ok W (OwnL.rd (Ow.ownl f3_0 rfl mnil) (hW.at (i := 103) rfl) (mle_nil _)) (OwnL.rd ho18 (hW.at (i := 116) rfl) (mle_nil _))) (fun v17 m17 hv17 => ?_)
      subst hv17
      refine VD.y rfl rfl (.inl rfl) (.pT rfl rfl) ?_
      refine VD.y rfl rfl (.inl rfl) (.mv rfl) ?_
      refine VD.dec (s := 26) rfl (fun hc19 => ?_) (fun hc19 => ?_)
      · -- TTT
        refine VD.y rfl rfl (.inr ⟨_, _, rfl, _, rfl, rfl⟩) (.ldA 112 rfl tk52 rfl (cellsAt_one rfl rfl)) ?_
        refine VD.callN 120 rfl rfl (.inr ⟨_, _, rfl, _, rfl, rfl⟩) fnOk51 rfl (fun _ h => h.sub [112, 109, 106, 103, 102, 0]) (fun W hW => of04_ok W 1 (by simp only [inK]; (first | omega | (simp only [List.length_append, List.length_nil, List.length_cons, List.length_take, List.length_drop] at *; omega) | (have : exC.length = 6 := rfl; omega) | decide)) 2 (by simp only [inK]; (first | omega | (simp only [List.length_append, List.length_nil, List.length_cons, List.length_take, List.length_drop] at *; omega) | (have : exC.length = 6 := rfl; omega) | decide))) (fun v20 m20 hv20 => ?_)
        obtain ⟨s20_0, rfl, f20_0⟩ := hv20
        obtain ⟨q20_0_A2, q20_0_c2, q20_0_n2, rfl, q20_0_S, q20_0_0, q20_0_1, q20_0_2⟩ := openO_Commit (x0 := (ofC 1 2).1) (x1 := (ofC 1 2).2.1) (x2 := (ofC 1 2).2.2) f20_0
        simp only [inK] at q20_0_0
        simp only [inK] at q20_0_1
        have q20_0_r2 := Rd.room (q20_0_2.rd (mle_refl _))
        refine VD.inv _ (fun _ h => h.parts (i := 120) rfl q20_0_S [121]) ?_
        refine VD.nil rfl ?_ rfl
        refine VO.gcallN 122 rfl ⟨_, rfl, rfl⟩ fnOk49 rfl (fun W hW => SameCommit_ok W (show Rd TCommit _ _ r7_0 from (mk_Commit (m := wm W) r7_0.1 r7_0.2.1 r7_0.2.2 (by simp only [inK]; (first | omega | (simp only [List.length_append, List.length_nil, List.length_cons, List.length_take, List.length_drop] at *; omega) | (have : exC.length = 6 := rfl; omega) | decide)) (by simp only [inK]; (first | omega | (simp only [List.length_append, List.length_nil, List.length_cons, List.length_take, List.length_drop] at *; omega) | (have : exC.length = 6 := rfl; omega) | decide)) (OwnL.rd (Ow.ownl q7_0_2 rfl mnil) (hW.at (i := 109) rfl) (mle_nil _)))) (show Rd TCommit _ _ (ofC 1 2) from (mk_Commit (m := wm W) ((ofC 1 2).1) ((ofC 1 2).2.1) ((ofC 1 2).2.2) (by simp only [inK]; (first | omega | (simp only [List.length_append, List.length_nil, List.length_cons, List.length_take, List.length_drop] at *; omega) | (have : exC.length = 6 := rfl; omega) | decide)) (by simp only [inK]; (first | omega | (simp only [List.length_append, List.length_nil, List.length_cons, List.length_take, List.length_drop] at *; omega) | (have : exC.length = 6 := rfl; omega) | decide)) (OwnL.rd (Ow.ownl q20_0_2 rfl mnil) (hW.at (i := 121) rfl) (mle_nil _))))) (fun v22 m22 hv22 => ?_)
        subst hv22
        refine VO.y rfl (.pT rfl rfl) ?_
        refine VO.as ?_
        refine VO.inv [(112, _), (109, _), (103, _), (0, _)] (fun _ h => h.sub [112, 109, 103, 0]) ?_
        refine VO.k5 0 1 2 3 4 ?_
        refine outN ?_
        refine VC.ret ?_
        refine ⟨_, _, res_run (rs := [.tmp 0]) rfl (.tmp rfl .nil), fun W_ hI => out_of (l := []) hI [] rfl rfl (mle_refl _) (fun hS_ => ?_)⟩
        dsimp only [packV]
        all_goals (first | rfl | (exact congrArg Value.bool (decide_eq_true (by subst_vars; first | (simp only [ofC, ex4E, ex4D, ex4x, ex4n]; done) | (simp only [ofC, ex4E, ex4D, ex4x, ex4n]; first | rfl | decide) | rfl | decide))))
      · -- TTF
        exact absurd (by subst_vars; first | (simp only [ofC, ex4E, ex4D, ex4x, ex4n]; done) | (simp only [ofC, ex4E, ex4D, ex4x, ex4n]; first | rfl | decide) | rfl | decide) hc19
    · -- TF
      exact absurd (by subst_vars; first | (simp only [ofC, ex4E, ex4D, ex4x, ex4n]; done) | (simp only [ofC, ex4E, ex4D, ex4x, ex4n]; first | rfl | decide) | rfl | decide) hc14
  · -- F
    exact absurd (by subst_vars; first | (simp only [ofC, ex4E, ex4D, ex4x, ex4n]; done) | (simp only [ofC, ex4E, ex4D, ex4x, ex4n]; first | rfl | decide) | rfl | decide) hc13
end
section
set_option linter.unusedVariables false
abbrev DHC := Int × Int × Hd
instance decHC : DecidableEq DHC := (@instDecidableEqProd _ _ inferInstance (@instDecidableEqProd _ _ inferInstance inferInstance))
end
section
set_option linter.unusedVariables false
set_option linter.unusedSimpArgs false
set_option maxRecDepth 4000
theorem fnOk34 : fnOk Try.prog 34 = true := by kernel_rfl
theorem fnOk39 : fnOk Try.prog 39 = true := by kernel_rfl
end
section
set_option linter.unusedVariables false
variable {mo : Mem} {hss l : List (List DH)} {d was : List (List DCommit)} {p k : Nat} {x : List DH} {y : List DCommit} {a : DH} {b : DCommit}
theorem two_decodes (B : Bytes) : ∀ x ∈ [(cDecode B).1.2.2, (cDecode B).1.2.2], x.length ≤ 3518437208800 ∧ ∀ o ∈ x, o.2.1.length ≤ 140737488400000 := by
  have h := cDecode_fits B
  intro x hx
  have : x = (cDecode B).1.2.2 := by simpa using hx
  subst this
  exact ⟨by omega, fun o ho => by have := h.2 o ho; omega⟩
end
section
set_option linter.unusedVariables false
set_option linter.unusedSimpArgs false
set_option maxRecDepth 4000
theorem fnOk47 : fnOk Try.prog 47 = true := by kernel_rfl
theorem commitReads_ok (W : World) {v0 : Value} {d0 : List UInt8} (h0 : Rd (.sl .byte) (wm W) [v0] d0) (e0 : d0.length ≤ 140737488351232) : CallR Try.prog 9 [v0] W (mnil) (fun v m' => v = .bool true) := by
  obtain ⟨A0, c0, rfl, l0, k0⟩ := h0.slice
  simp only [maxLen] at k0
  refine CallR.ofA (n := 57) Try.func9 rfl rfl rfl ?_
  refine VC.rs ?_
  refine VO.as ?_
  refine VO.k2 0 2 ?_
  refine VC.rs ?_
  refine VO.mv ?_
  refine VO.callN 101 rfl fnOk28 rfl (fun W hW => LentBytes_ok W (Rd.mono h0 (hW.at (i := 0) rfl)) bd) (fun v1 m1 hv1 => ?_)
  obtain ⟨s1_0, rfl, f1_0⟩ := hv1
  obtain ⟨A1_0, c1_0, eq1_0, l1_0, k1_0⟩ := f1_0.slice
  subst eq1_0
  simp only [maxLen] at k1_0
  refine VO.as ?_
  refine VO.k3 0 2 3 ?_
  refine VC.rs ?_
  refine VO.mv ?_
  refine VO.mv ?_
  refine VO.y rfl (.lenS rfl tsl23) ?_
  have hs2 := (OwnL.rd (Ow.ownl f1_0 rfl mnil) (mle_refl _) (mle_nil _)).pre (j := d0.length) bd
  rw [List.take_left] at hs2
  refine VO.y rfl (.slHI d0.length rfl rfl tsl23 rfl bd) ?_
  refine VO.callN 103 rfl fnOk46 rfl (fun W hW => cDecode_ok_ W (OwnL.rd (by have h_ := ((Ow.ownl f1_0 rfl mnil).pre (j := d0.length) bd); rw [List.take_left] at h_; exact h_) (hW.at (i := 101) rfl) (mle_nil _))) (fun v3 m3 hv3 => ?_)
  obtain ⟨s3_0, rfl, f3_0⟩ := hv3
  obtain ⟨q3_0_A2, q3_0_c2, q3_0_n2, rfl, q3_0_S, q3_0_0, q3_0_1, q3_0_2⟩ := openO_Commit (x0 := ((cDecode d0).1).1) (x1 := ((cDecode d0).1).2.1) (x2 := ((cDecode d0).1).2.2) f3_0
  simp only [inK] at q3_0_0
  simp only [inK] at q3_0_1
  have q3_0_r2 := Rd.room (q3_0_2.rd (mle_refl _))
  refine VO.inv _ (fun _ h => h.parts (i := 103) rfl q3_0_S [104]) ?_
  have hfa5 := cDecode_fits d0
  refine VO.mv ?_
  refine VO.y rfl (.ext rfl rfl) ?_
  refine VO.y rfl (.ext rfl rfl) ?_
  refine VO.alloc 107 rfl tz52 (fun g6 => ?_)
  refine VO.store (k := 3) (c' := [Value.int .i64 (((cDecode d0).1).1), Value.int .i64 (((cDecode d0).1).2.1), Value.slice q3_0_A2 ((((cDecode d0).1).2.2).length) (q3_0_c2)]) 107 rfl rfl (.inl tk52) rfl rfl rfl rfl rfl ?_
  refine VO.as ?_
  refine VO.k5 0 2 3 4 5 ?_
  refine VC.rs ?_
  refine VO.mv ?_
  refine VO.mv ?_
  refine VO.y rfl (.lenS rfl tsl23) ?_
  have hs8 := (OwnL.rd (Ow.ownl f1_0 rfl mnil) (mle_refl _) (mle_nil _)).pre (j := d0.length) bd
  rw [List.take_left] at hs8
  refine VO.y rfl (.slHI d0.length rfl rfl tsl23 rfl bd) ?_
  refine VO.callN 109 rfl fnOk46 rfl (fun W hW => cDecode_ok_ W (OwnL.rd (by have h_ := ((Ow.ownl f1_0 rfl mnil).pre (j := d0.length) bd); rw [List.take_left] at h_; exact h_) (hW.at (i := 101) rfl) (mle_nil _))) (fun v9 m9 hv9 => ?_)
  obtain ⟨s9_0, rfl, f9_0⟩ := hv9
  obtain ⟨q9_0_A2, q9_0_c2, q9_0_n2, rfl, q9_0_S, q9_0_0, q9_0_1, q9_0_2⟩ := openO_Commit (x0 := ((cDecode d0).1).1) (x1 := ((cDecode d0).1).2.1) (x2 := ((cDecode d0).1).2.2) f9_0
  simp only [inK] at q9_0_0
  simp only [inK] at q9_0_1
  have q9_0_r2 := Rd.room (q9_0_2.rd (mle_refl _))
  refine VO.inv _ (fun _ h => h.parts (i := 109) rfl q9_0_S [110]) ?_
  have hfa11 := cDecode_fits d0
  refine VO.mv ?_
  refine VO.y rfl (.ext rfl rfl) ?_
  refine VO.y rfl (.ext rfl rfl) ?_
  refine VO.alloc 113 rfl tz52 (fun g12 => ?_)
  refine VO.store (k := 3) (c' := [Value.int .i64 (((cDecode d0).1).1), Value.int .i64 (((cDecode d0).1).2.1), Value.slice q9_0_A2 ((((cDecode d0).1).2.2).length) (q9_0_c2)]) 113 rfl rfl (.inl tk52) rfl rfl rfl rfl rfl ?_
  refine VO.as ?_
  refine VO.k6 0 2 3 4 5 6 ?_
  refine VC.rs ?_
  refine VO.mv ?_
  refine VO.callN 114 rfl fnOk47 rfl (fun W hW => c4Decode_ok W (Rd.mono h0 (hW.at (i := 0) rfl))) (fun v14 m14 hv14 => ?_)
  obtain ⟨s14_0, rfl, f14_0⟩ := hv14
  obtain ⟨q14_0_A2, q14_0_c2, q14_0_n2, rfl, q14_0_S, q14_0_0, q14_0_1, q14_0_2⟩ := openO_Commit (x0 := ((cDecode d0).1).1) (x1 := ((cDecode d0).1).2.1) (x2 := ((cDecode d0).1).2.2) f14_0
  simp only [inK] at q14_0_0
  simp only [inK] at q14_0_1
  have q14_0_r2 := Rd.room (q14_0_2.rd (mle_refl _))
  refine VO.inv _ (fun _ h => h.parts (i := 114) rfl q14_0_S [115]) ?_
  have hfa16 := cDecode_fits d0
  refine VO.mv ?_
  refine VO.y rfl (.ext rfl rfl) ?_
  refine VO.y rfl (.ext rfl rfl) ?_
  refine VO.alloc 118 rfl tz52 (fun g17 => ?_)
  refine VO.store (k := 3) (c' := [Value.int .i64 (((cDecode d0).1).1), Value.int .i64 (((cDecode d0).1).2.1), Value.slice q14_0_A2 ((((cDecode d0).1).2.2).length) (q14_0_c2)]) 118 rfl rfl (.inl tk52) rfl rfl rfl rfl rfl ?_
  refine VO.as ?_
  refine VO.k8 0 2 3 4 5 6 8 9 ?_
  refine VC.rs ?_
  refine VO.callN 119 rfl fnOk48 rfl (fun W hW => lives04_ok W ) (fun v19 m19 hv19 => ?_)
  subst hv19
  refine VO.mv ?_
  refine VO.gy rfl ⟨_, rfl, rfl⟩ (.mv rfl) ?_
  refine VO.gy rfl ⟨_, rfl, rfl⟩ (.mv rfl) ?_
  refine VO.gy rfl ⟨_, rfl, rfl⟩ (.eql rfl rfl) ?_
  refine VO.y rfl (.pT rfl rfl) ?_
  refine VO.mv ?_
  refine VO.dec (t := 39) rfl (fun hc20 => ?_) (fun hc20 => ?_)
  · -- T
    refine VO.gy rfl ⟨_, rfl, rfl⟩ (.ldA 107 rfl tk52 rfl (cellsAt_one rfl rfl)) ?_
    refine VO.gy rfl ⟨_, rfl, rfl⟩ (.ldA 118 rfl tk52 rfl (cellsAt_one rfl rfl)) ?_
    refine VO.gcallN 121 rfl ⟨_, rfl, rfl⟩ fnOk49 rfl (fun W hW => SameCommit_ok W (show Rd TCommit _ _ ((cDecode d0).1) from (mk_Commit (m := wm W) (((cDecode d0).1).1) (((cDecode d0).1).2.1) (((cDecode d0).1).2.2) bdk bdk (OwnL.rd (Ow.ownl q3_0_2 rfl mnil) (hW.at (i := 104) rfl) (mle_nil _)))) (show Rd TCommit _ _ ((cDecode d0).1) from (mk_Commit (m := wm W) (((cDecode d0).1).1) (((cDecode d0).1).2.1) (((cDecode d0).1).2.2) bdk bdk (OwnL.rd (Ow.ownl q14_0_2 rfl mnil) (hW.at (i := 115) rfl) (mle_nil _))))) (fun v21 m21 hv21 => ?_)
    subst hv21
    refine VO.y rfl (.pT rfl rfl) ?_
    refine VO.mv ?_
    refine VO.dec (t := 44) rfl (fun hc22 => ?_) (fun hc22 => ?_)
    · -- TT
      refine VO.gy rfl ⟨_, rfl, rfl⟩ (.mv rfl) ?_
      refine VO.gy rfl ⟨_, rfl, rfl⟩ (.mv rfl) ?_
      refine VO.gcallN 123 rfl ⟨_, rfl, rfl⟩ fnOk34 rfl (fun W hW => KeptBytes_ok W (OwnL.rd (Ow.ownl f1_0 rfl mnil) (hW.at (i := 101) rfl) (mle_nil _)) (Rd.mono h0 (hW.at (i := 0) rfl)) bd) (fun v23 m23 hv23 => ?_)
      subst hv23
      refine VO.y rfl (.pT rfl rfl) ?_
      refine VO.mv ?_
      refine VO.dec (t := 49) rfl (fun hc24 => ?_) (fun hc24 => ?_)
      · -- TTT
        refine VO.gy rfl ⟨_, rfl, rfl⟩ (.fa rfl tst52 rfl) ?_
        refine VO.gy rfl ⟨_, rfl, rfl⟩ (.ld1 107 rfl tk22 rfl (cellsAt_one rfl rfl)) ?_
        refine VO.gy rfl ⟨_, rfl, rfl⟩ (.fa rfl tst52 rfl) ?_
        refine VO.gy rfl ⟨_, rfl, rfl⟩ (.ld1 113 rfl tk22 rfl (cellsAt_one rfl rfl)) ?_
        refine VO.gbsl (cs := [Value.slice q3_0_A2 ((((cDecode d0).1).2.2).length) (q3_0_c2), Value.slice q9_0_A2 ((((cDecode d0).1).2.2).length) (q9_0_c2)]) 126 rfl ⟨_, rfl, rfl⟩ rfl tsl42 tz22 rfl rfl (fun g25 => ?_)
        refine VO.gather (l := [mone g25 (.cells [Value.slice q3_0_A2 ((((cDecode d0).1).2.2).length) (q3_0_c2), Value.slice q9_0_A2 ((((cDecode d0).1).2.2).length) (q9_0_c2)].toArray 22 (0, 0)), q3_0_n2, q9_0_n2]) 129 [126, 104, 110] rfl (fun hg28 => ?_)
        have ho28 : Ow (.sl (.sl TOp)) (muns [mone g25 (.cells [Value.slice q3_0_A2 ((((cDecode d0).1).2.2).length) (q3_0_c2), Value.slice q9_0_A2 ((((cDecode d0).1).2.2).length) (q9_0_c2)].toArray 22 (0, 0)), q3_0_n2, q9_0_n2]) [Value.slice (some ⟨g25, 0, none⟩) (2) (2)] [((cDecode d0).1).2.2, ((cDecode d0).1).2.2] := Ow.lit 2 (Seps.grp1 (ls := [[q3_0_n2], [q9_0_n2]]) hg28) (OwAs.cons (m := muns [q3_0_n2]) (c1 := [Value.slice q3_0_A2 ((((cDecode d0).1).2.2).length) (q3_0_c2)]) (Ow.up (OwnL.ow (Ow.ownl q3_0_2 rfl mnil) rfl) ((Seps.self hg28 (List.Sublist.cons _ (List.Sublist.cons_cons _ (List.Sublist.cons _ List.Sublist.slnil)))).1 _ (.head _))) (OwAs.cons (m := muns [q9_0_n2]) (c1 := [Value.slice q9_0_A2 ((((cDecode d0).1).2.2).length) (q9_0_c2)]) (Ow.up (OwnL.ow (Ow.ownl q9_0_2 rfl mnil) rfl) ((Seps.self hg28 (List.Sublist.cons _ (List.Sublist.cons _ (List.Sublist.cons_cons _ List.Sublist.slnil)))).1 _ (.head _))) OwAs.nil)) rfl rfl
        refine VO.gcall 129 rfl ⟨_, rfl, rfl⟩ fnOk39 rfl rfl (fun W hW => ApartOps_ok W (hW.at (i := 129) rfl) ho28 bd (by exact two_decodes d0)) (fun v27 m27 hv27 => ?_)
        subst hv27
        refine VO.y rfl (.pT rfl rfl) ?_
        refine VO.as ?_
        refine VO.k8 0 2 3 4 5 6 8 9 ?_
        refine VC.ret ?_
        refine ⟨_, _, res_run (rs := [.tmp 2]) rfl (.tmp rfl .nil), fun W_ hI => out_of (l := []) hI [] rfl rfl (mle_refl _) (fun hS_ => ?_)⟩
        dsimp only [packV]
        all_goals (first | rfl | (simp [*]; done))
      · -- TTF
        exact absurd rfl hc24
    · -- TF
      exact absurd rfl hc22
  · -- F
    exact absurd rfl hc20
end
section
set_option linter.unusedVariables false
set_option maxRecDepth 4000
open Go.ChangeShapes Go.WideShapes Go.ChangeAt Go.RowKit
theorem commitReads_ok0 : tyOk Try.prog 60 (.sl .byte) (.inl 23) = true := by kernel_rfl
set_option maxRecDepth 100000 in
theorem commitReads_lifted (os : Os) (started : os.Started) (H : Type) (enc : TypeId × Value → H) :
    ReturnsInHanded {} Try.checked os 9 .any (Rows.commitReadsSpec.pre6 enc Try.prog Try.f9 Rows.commitReadsRow.domain false) (Rows.commitReadsSpec.post enc Try.prog Try.f9 false true false false) := by
  refine returnsInHanded_of_change_sized (C := Try.checked) (by kernel_rfl) started (by kernel_rfl) Try.func9
    (ChangeSpec.witness6 (enc := enc) (C := Try.checked) false ⟨#[], #[.slice none 0 0], []⟩ 8 (by kernel_rfl) (by kernel_rfl) (by kernel_rfl) (by kernel_rfl)) ?_
  intro W base args ds gs before hval0 hW hcnd hsz0 _
  have hsz : (DataW.weightsEach Try.prog (Try.f9.params.toList ++ Rows.commitReadsSpec.plain.varTypes Try.prog) (ds ++ gs)).all (· ≤ reachBytes) = true := hsz0
  have hval : ∀ (j : Nat) t v, Try.f9.params[j]? = some t → args[j]? = some v → Value.okWide Try.prog W .any base t v := hval0
  have hW' := hW
  obtain ⟨p, q, hA0, hV, rfl, hfz, hnd⟩ := hW
  have hA : DataW.TrodAll enc Try.prog W 0 (fun _ => true) true Try.f9.params.toList args.toList ds p := hA0
  rw [Try.params9] at hA hval hsz
  clear hA0 hval0
  obtain ⟨args⟩ := args
  obtain ⟨v0, r0, d0, e0, p0, q0, ha0, rfl, rfl, h0, hA0⟩ := trodAll_cons hA
  simp only at ha0; subst ha0
  obtain ⟨rfl, rfl, rfl⟩ := trodAll_nil hA0
  obtain ⟨x0, hx0, fit0⟩ := arg_slF (j := 0) 60 commitReads_ok0 Try.underlying23 (hval 0 23 v0 rfl rfl) h0 hsz rfl rfl
  have lim0 := arg_lim hsz (j := 0) rfl rfl Try.underlying23 (b := 1) (by kernel_rfl) h0 hx0
  refine (calls_of (commitReads_ok W hx0 (by omega))).mono fun e W' ⟨he, hg⟩ => ?_
  subst he
  exact ⟨_, rfl, law_post hW' hg laidOut_ok (by kernel_rfl) rfl Try.underlying4 rfl rfl rfl rfl⟩
theorem commitReads_joined : joinedFacts Try.prog 9 Try.f9 Rows.commitReadsSpec Rows.commitReadsRow = true := by
  unfold joinedFacts
  rw [laidOut_ok, mapsRowed_ok, stopsHeard_ok, mayEnter_ok, lifts_ok, make_ok]
  kernel_rfl
theorem commitReads_proved : Rows.CommitReadsSaid :=
  OpenClaim.holds_of_wide 9 Try.f9 rfl rfl rfl rfl rfl rfl rfl ⟨rfl, rfl, rfl, rfl, rfl⟩ rfl rfl rfl rfl rfl (by kernel_rfl) Try.func9 commitReads_joined
    (of_decide_eq_true (by kernel_rfl)) (by unfold Func.isWrapper; first | (rw [if_pos (by decide +kernel)]; kernel_rfl) | (rw [if_neg (by decide +kernel)]; exact ⟨rfl, rfl⟩))
    (fun os started H enc _ => commitReads_lifted os started H enc)
#print axioms commitReads_proved
end
end Go.Proofs.Ytfaknkkaegjdaaa
