/- Walks, printed by program: what lagleashlaw17 lives, lagleashlaw17 ShipNames compute. Conditions: those named in each theorem. -/
import Derived.Test.YtfaknkkaegjdaaaW5
set_option linter.unusedVariables false
set_option linter.unusedSimpArgs false
set_option maxRecDepth 4000
namespace Go.Proofs.Ytfaknkkaegjdaaa
theorem fnOk65 : fnOk Try.prog 65 = true := by kernel_rfl
theorem fnOk66 : fnOk Try.prog 66 = true := by kernel_rfl
theorem fnOk67 : fnOk Try.prog 67 = true := by kernel_rfl
theorem fnOk68 : fnOk Try.prog 68 = true := by kernel_rfl
theorem fnOk70 : fnOk Try.prog 70 = true := by kernel_rfl
theorem fnOk71 : fnOk Try.prog 71 = true := by kernel_rfl
theorem lives17_ok (W : World) : CallR Try.prog 70 [] W mnil (fun v m' => v = .bool true) := by
  refine CallR.ofA (n := 50) Try.func70 rfl rfl rfl ?_
  refine VC.rs ?_
  refine VO.y rfl (.as rfl) ?_
  refine VO.esub [(0, _)] ⟨rfl, trivial⟩ (VO.nil ?_)
  refine VC.rs ?_
  refine VO.callN 101 rfl fnOk66 rfl (fun W hW => example17_ok W ) (fun v1 m1 hv1 => ?_)
  obtain ⟨s1_0, rfl, f1_0⟩ := hv1
  obtain ⟨A1_0, c1_0, rfl, l1_0, k1_0⟩ := f1_0.slice
  simp only [maxLen] at k1_0
  refine VO.callN 102 rfl fnOk65 rfl (fun W hW => next_ok W 3 (by simp only [inK]; (first | omega | (simp only [List.length_append, List.length_nil, List.length_cons, List.length_take, List.length_drop] at *; omega) | (have : exC.length = 6 := rfl; omega) | decide)) (Rd.mono f1_0 (hW.at (i := 101) rfl)) 4 (by simp only [inK]; (first | omega | (simp only [List.length_append, List.length_nil, List.length_cons, List.length_take, List.length_drop] at *; omega) | (have : exC.length = 6 := rfl; omega) | decide))) (fun v2 m2 hv2 => ?_)
  obtain ⟨s2_0, rfl, f2_0⟩ := hv2
  obtain ⟨q2_0_A4, q2_0_c4, q2_0_A7, q2_0_c7, rfl, q2_0_0, q2_0_1, q2_0_2, q2_0_3, q2_0_4, q2_0_5, q2_0_6, q2_0_7⟩ := open_Message f2_0
  simp only [inK] at q2_0_0
  simp only [inK] at q2_0_1
  simp only [inK] at q2_0_2
  simp only [inK] at q2_0_3
  have q2_0_r4 := Rd.room q2_0_4
  simp only [inK] at q2_0_5
  simp only [inK] at q2_0_6
  have q2_0_r7 := Rd.room q2_0_7
  refine VO.y rfl (.mv rfl) ?_
  refine VO.y rfl (.ext rfl rfl) ?_
  refine VO.y rfl (.ext rfl rfl) ?_
  refine VO.alloc 104 rfl tz72 (fun g3 => ?_)
  refine VO.store (k := 8) (c' := [Value.int .i64 (((shipNext 3 exC 4).1).1), Value.int .i64 (((shipNext 3 exC 4).1).2.1), Value.int .u8 (((shipNext 3 exC 4).1).2.2.1), Value.int .i64 (((shipNext 3 exC 4).1).2.2.2.1), Value.slice q2_0_A4 ((((shipNext 3 exC 4).1).2.2.2.2.1).length) (q2_0_c4), Value.int .i64 (((shipNext 3 exC 4).1).2.2.2.2.2.1), Value.int .i64 (((shipNext 3 exC 4).1).2.2.2.2.2.2.1), Value.slice q2_0_A7 ((((shipNext 3 exC 4).1).2.2.2.2.2.2.2).length) (q2_0_c7)]) 104 rfl rfl (.inl tk72) rfl rfl rfl rfl rfl ?_
  refine VO.y rfl (.as rfl) ?_
  refine VO.esub [(0, _), (1, _), (2, _)] ⟨rfl, rfl, rfl, trivial⟩ (VO.nil ?_)
  refine VC.rs ?_
  refine VO.callN 105 rfl fnOk66 rfl (fun W hW => example17_ok W ) (fun v5 m5 hv5 => ?_)
  obtain ⟨s5_0, rfl, f5_0⟩ := hv5
  obtain ⟨A5_0, c5_0, rfl, l5_0, k5_0⟩ := f5_0.slice
  simp only [maxLen] at k5_0
  refine VO.callN 106 rfl fnOk67 rfl (fun W hW => hello_ok W 3 (by simp only [inK]; (first | omega | (simp only [List.length_append, List.length_nil, List.length_cons, List.length_take, List.length_drop] at *; omega) | (have : exC.length = 6 := rfl; omega) | decide)) 1 (by simp only [inK]; (first | omega | (simp only [List.length_append, List.length_nil, List.length_cons, List.length_take, List.length_drop] at *; omega) | (have : exC.length = 6 := rfl; omega) | decide)) (Rd.mono f5_0 (hW.at (i := 105) rfl)) (by first | omega | (simp only [List.length_append, List.length_nil, List.length_cons, List.length_take, List.length_drop] at *; omega) | (have : exC.length = 6 := rfl; omega) | decide)) (fun v6 m6 hv6 => ?_)
  obtain ⟨s6_0, rfl, f6_0⟩ := hv6
  obtain ⟨q6_0_A4, q6_0_c4, q6_0_A7, q6_0_c7, rfl, q6_0_0, q6_0_1, q6_0_2, q6_0_3, q6_0_4, q6_0_5, q6_0_6, q6_0_7⟩ := open_Message f6_0
  simp only [inK] at q6_0_0
  simp only [inK] at q6_0_1
  simp only [inK] at q6_0_2
  simp only [inK] at q6_0_3
  have q6_0_r4 := Rd.room q6_0_4
  simp only [inK] at q6_0_5
  simp only [inK] at q6_0_6
  have q6_0_r7 := Rd.room q6_0_7
  refine VO.y rfl (.mv rfl) ?_
  refine VO.y rfl (.ext rfl rfl) ?_
  refine VO.y rfl (.ext rfl rfl) ?_
  refine VO.alloc 108 rfl tz72 (fun g7 => ?_)
  refine VO.store (k := 8) (c' := [Value.int .i64 (((shipHello 3 1 exC).1).1), Value.int .i64 (((shipHello 3 1 exC).1).2.1), Value.int .u8 (((shipHello 3 1 exC).1).2.2.1), Value.int .i64 (((shipHello 3 1 exC).1).2.2.2.1), Value.slice q6_0_A4 ((((shipHello 3 1 exC).1).2.2.2.2.1).length) (q6_0_c4), Value.int .i64 (((shipHello 3 1 exC).1).2.2.2.2.2.1), Value.int .i64 (((shipHello 3 1 exC).1).2.2.2.2.2.2.1), Value.slice q6_0_A7 ((((shipHello 3 1 exC).1).2.2.2.2.2.2.2).length) (q6_0_c7)]) 108 rfl rfl (.inl tk72) rfl rfl rfl rfl rfl ?_
  refine VO.y rfl (.as rfl) ?_
  refine VO.esub [(0, _), (1, _), (2, _), (3, _), (4, _)] ⟨rfl, rfl, rfl, rfl, rfl, trivial⟩ (VO.nil ?_)
  refine VC.rs ?_
  refine VO.y rfl (.mv rfl) ?_
  refine VO.y rfl (.eql rfl rfl) ?_
  refine VO.y rfl (.mv rfl) ?_
  refine VO.dec (t := 17) rfl (fun hc9 => ?_) (fun hc9 => ?_)
  · -- T
    refine VO.gy rfl ⟨_, rfl, rfl⟩ (.mv rfl) ?_
    refine VO.gy rfl ⟨_, rfl, rfl⟩ (.eql rfl rfl) ?_
    refine VO.y rfl (.pT rfl rfl) ?_
    refine VO.y rfl (.mv rfl) ?_
    refine VO.dec (t := 21) rfl (fun hc10 => ?_) (fun hc10 => ?_)
    · -- TT
      refine VO.gy rfl ⟨_, rfl, rfl⟩ (.fa rfl tst72 rfl) ?_
      refine VO.gy rfl ⟨_, rfl, rfl⟩ (.ld1 104 rfl tk3 rfl (cellsAt_one rfl rfl)) ?_
      refine VO.gy rfl ⟨_, rfl, rfl⟩ (.eql rfl rfl) ?_
      refine VO.y rfl (.pT rfl rfl) ?_
      refine VO.y rfl (.mv rfl) ?_
      refine VO.dec (t := 26) rfl (fun hc11 => ?_) (fun hc11 => ?_)
      · -- TTT
        refine VO.gy rfl ⟨_, rfl, rfl⟩ (.fa rfl tst72 rfl) ?_
        refine VO.gy rfl ⟨_, rfl, rfl⟩ (.ld1 104 rfl tk3 rfl (cellsAt_one rfl rfl)) ?_
        refine VO.gy rfl ⟨_, rfl, rfl⟩ (.eql rfl rfl) ?_
        refine VO.y rfl (.pT rfl rfl) ?_
        refine VO.y rfl (.mv rfl) ?_
        refine VO.dec (t := 31) rfl (fun hc12 => ?_) (fun hc12 => ?_)
        · -- TTTT
          refine VO.gy rfl ⟨_, rfl, rfl⟩ (.fa rfl tst72 rfl) ?_
          refine VO.gy rfl ⟨_, rfl, rfl⟩ (.ld1 104 rfl tk3 rfl (cellsAt_one rfl rfl)) ?_
          refine VO.gy rfl ⟨_, rfl, rfl⟩ (.eql rfl rfl) ?_
          refine VO.y rfl (.pT rfl rfl) ?_
          refine VO.y rfl (.mv rfl) ?_
          refine VO.dec (t := 36) rfl (fun hc13 => ?_) (fun hc13 => ?_)
          · -- TTTTT
            refine VO.gy rfl ⟨_, rfl, rfl⟩ (.fa rfl tst72 rfl) ?_
            refine VO.gy rfl ⟨_, rfl, rfl⟩ (.ld1 104 rfl tk61 rfl (cellsAt_one rfl rfl)) ?_
            refine VO.gy rfl ⟨_, rfl, rfl⟩ (.lenS rfl tsl61) ?_
            refine VO.gy rfl ⟨_, rfl, rfl⟩ (.eql rfl rfl) ?_
            refine VO.y rfl (.pT rfl rfl) ?_
            refine VO.y rfl (.mv rfl) ?_
            refine VO.dec (t := 42) rfl (fun hc14 => ?_) (fun hc14 => ?_)
            · -- TTTTTT
              refine VO.gy rfl ⟨_, rfl, rfl⟩ (.ldA 108 rfl tk72 rfl (cellsAt_one rfl rfl)) ?_
              refine VO.gy rfl ⟨_, rfl, rfl⟩ (.bst (cs := [Value.int .i64 (1), Value.int .i64 (1)]) rfl tst90 tz90 rfl) ?_
              refine VO.gy rfl ⟨_, rfl, rfl⟩ (.bst (cs := [Value.int .i64 (3), Value.int .i64 (6)]) rfl tst90 tz90 rfl) ?_
              refine VO.gbsl (cs := [Value.int .i64 (1), Value.int .i64 (1), Value.int .i64 (3), Value.int .i64 (6)]) 116 rfl ⟨_, rfl, rfl⟩ rfl tsl70 tz90 rfl rfl (fun g15 => ?_)
              refine VO.gy rfl ⟨_, rfl, rfl⟩ (.bst (cs := [Value.int .i64 (1), Value.int .i64 (3), Value.int .u8 (1), Value.int .i64 (6), Value.slice (some ⟨g15, 0, none⟩) (2) (2), Value.int .i64 (0), Value.int .i64 (0), Value.slice none (0) (0)]) rfl tst72 tz72 rfl) ?_
              have ho18 : OwnL TStart 90 (mone g15 (.cells [Value.int .i64 (1), Value.int .i64 (1), Value.int .i64 (3), Value.int .i64 (6)].toArray 90 (0, 0))) mnil (Value.slice (some ⟨g15, 0, none⟩) (2) (2)) [(1, 1), (3, 6)] := OwnL.lit 2 (All2c.cons (c1 := [Value.int .i64 (1), Value.int .i64 (1)]) (mk_Start (1, 1) (by simp only [inK]; (first | omega | (simp only [List.length_append, List.length_nil, List.length_cons, List.length_take, List.length_drop] at *; omega) | (have : exC.length = 6 := rfl; omega) | decide)) (by simp only [inK]; (first | omega | (simp only [List.length_append, List.length_nil, List.length_cons, List.length_take, List.length_drop] at *; omega) | (have : exC.length = 6 := rfl; omega) | decide))) (All2c.cons (c1 := [Value.int .i64 (3), Value.int .i64 (6)]) (mk_Start (3, 6) (by simp only [inK]; (first | omega | (simp only [List.length_append, List.length_nil, List.length_cons, List.length_take, List.length_drop] at *; omega) | (have : exC.length = 6 := rfl; omega) | decide)) (by simp only [inK]; (first | omega | (simp only [List.length_append, List.length_nil, List.length_cons, List.length_take, List.length_drop] at *; omega) | (have : exC.length = 6 := rfl; omega) | decide))) All2c.nil)) rfl rfl
              refine VO.gcallN 117 rfl ⟨_, rfl, rfl⟩ fnOk71 rfl (fun W hW => SameMessage_ok W (Rd.mono f6_0 (hW.at (i := 106) rfl)) (mk_Message (m := wm W) (1, 3, 1, 6, [(1, 1), (3, 6)], 0, 0, []) (by simp only [inK]; (first | omega | (simp only [List.length_append, List.length_nil, List.length_cons, List.length_take, List.length_drop] at *; omega) | (have : exC.length = 6 := rfl; omega) | decide)) (by simp only [inK]; (first | omega | (simp only [List.length_append, List.length_nil, List.length_cons, List.length_take, List.length_drop] at *; omega) | (have : exC.length = 6 := rfl; omega) | decide)) (by simp only [inK]; (first | omega | (simp only [List.length_append, List.length_nil, List.length_cons, List.length_take, List.length_drop] at *; omega) | (have : exC.length = 6 := rfl; omega) | decide)) (by simp only [inK]; (first | omega | (simp only [List.length_append, List.length_nil, List.length_cons, List.length_take, List.length_drop] at *; omega) | (have : exC.length = 6 := rfl; omega) | decide)) (OwnL.rd ho18 (hW.at (i := 116) rfl) (mle_nil _)) (by simp only [inK]; (first | omega | (simp only [List.length_append, List.length_nil, List.length_cons, List.length_take, List.length_drop] at *; omega) | (have : exC.length = 6 := rfl; omega) | decide)) (by simp only [inK]; (first | omega | (simp only [List.length_append, List.length_nil, List.length_cons, List.length_take, List.length_drop] at *; omega) | (have : exC.length = 6 := rfl; omega) | decide)) (Rd.nil _ _ none 0 (Nat.zero_le _)))) (fun v17 m17 hv17 => ?_)
              subst hv17
              refine VO.y rfl (.pT rfl rfl) ?_
              refine VO.y rfl (.as rfl) ?_
              refine VO.esub [(0, _), (1, _), (2, _), (3, _), (4, _)] ⟨rfl, rfl, rfl, rfl, rfl, trivial⟩ (VO.nil ?_)
              refine VC.ret ?_
              refine ⟨_, mnil, res_run (rs := [.tmp 0]) rfl (.tmp rfl .nil), fun W_ hI => ⟨?_, own_nil rfl _ hI⟩⟩
              dsimp only [packV]
              all_goals (first | rfl | (exact congrArg Value.bool (decide_eq_true (by first | rfl | decide))))
            · -- TTTTTF
              exact absurd (by first | rfl | decide) hc14
          · -- TTTTF
            exact absurd (by first | rfl | decide) hc13
        · -- TTTF
          exact absurd (by first | rfl | decide) hc12
      · -- TTF
        exact absurd (by first | rfl | decide) hc11
    · -- TF
      exact absurd (by first | rfl | decide) hc10
  · -- F
    exact absurd (by first | rfl | decide) hc9
theorem shipNames_ok (W : World) : CallR Try.prog 15 [] W mnil (fun v m' => v = .bool true) := by
  refine CallR.ofA (n := 120) Try.func15 rfl rfl rfl ?_
  refine VC.rs ?_
  refine VO.y rfl (.as rfl) ?_
  refine VO.esub [(0, _)] ⟨rfl, trivial⟩ (VO.nil ?_)
  refine VC.rs ?_
  refine VO.y rfl (.as rfl) ?_
  refine VO.esub [(0, _), (1, _)] ⟨rfl, rfl, trivial⟩ (VO.nil ?_)
  refine VC.rs ?_
  refine VO.callN 101 rfl fnOk66 rfl (fun W hW => example17_ok W ) (fun v1 m1 hv1 => ?_)
  obtain ⟨s1_0, rfl, f1_0⟩ := hv1
  obtain ⟨A1_0, c1_0, rfl, l1_0, k1_0⟩ := f1_0.slice
  simp only [maxLen] at k1_0
  refine VO.callN 102 rfl fnOk65 rfl (fun W hW => next_ok W 3 (by simp only [inK]; (first | omega | (simp only [List.length_append, List.length_nil, List.length_cons, List.length_take, List.length_drop] at *; omega) | (have : exC.length = 6 := rfl; omega) | decide)) (Rd.mono f1_0 (hW.at (i := 101) rfl)) 0 (by simp only [inK]; (first | omega | (simp only [List.length_append, List.length_nil, List.length_cons, List.length_take, List.length_drop] at *; omega) | (have : exC.length = 6 := rfl; omega) | decide))) (fun v2 m2 hv2 => ?_)
  obtain ⟨s2_0, rfl, f2_0⟩ := hv2
  obtain ⟨q2_0_A4, q2_0_c4, q2_0_A7, q2_0_c7, rfl, q2_0_0, q2_0_1, q2_0_2, q2_0_3, q2_0_4, q2_0_5, q2_0_6, q2_0_7⟩ := open_Message f2_0
  simp only [inK] at q2_0_0
  simp only [inK] at q2_0_1
  simp only [inK] at q2_0_2
  simp only [inK] at q2_0_3
  have q2_0_r4 := Rd.room q2_0_4
  simp only [inK] at q2_0_5
  simp only [inK] at q2_0_6
  have q2_0_r7 := Rd.room q2_0_7
  refine VO.y rfl (.mv rfl) ?_
  refine VO.y rfl (.ext rfl rfl) ?_
  refine VO.y rfl (.ext rfl rfl) ?_
  refine VO.alloc 104 rfl tz72 (fun g3 => ?_)
  refine VO.store (k := 8) (c' := [Value.int .i64 (((shipNext 3 exC 0).1).1), Value.int .i64 (((shipNext 3 exC 0).1).2.1), Value.int .u8 (((shipNext 3 exC 0).1).2.2.1), Value.int .i64 (((shipNext 3 exC 0).1).2.2.2.1), Value.slice q2_0_A4 ((((shipNext 3 exC 0).1).2.2.2.2.1).length) (q2_0_c4), Value.int .i64 (((shipNext 3 exC 0).1).2.2.2.2.2.1), Value.int .i64 (((shipNext 3 exC 0).1).2.2.2.2.2.2.1), Value.slice q2_0_A7 ((((shipNext 3 exC 0).1).2.2.2.2.2.2.2).length) (q2_0_c7)]) 104 rfl rfl (.inl tk72) rfl rfl rfl rfl rfl ?_
  refine VO.y rfl (.as rfl) ?_
  refine VO.esub [(0, _), (1, _), (2, _), (3, _)] ⟨rfl, rfl, rfl, rfl, trivial⟩ (VO.nil ?_)
  refine VC.rs ?_
  refine VO.callN 105 rfl fnOk66 rfl (fun W hW => example17_ok W ) (fun v5 m5 hv5 => ?_)
  obtain ⟨s5_0, rfl, f5_0⟩ := hv5
  obtain ⟨A5_0, c5_0, rfl, l5_0, k5_0⟩ := f5_0.slice
  simp only [maxLen] at k5_0
  refine VO.callN 106 rfl fnOk65 rfl (fun W hW => next_ok W 3 (by simp only [inK]; (first | omega | (simp only [List.length_append, List.length_nil, List.length_cons, List.length_take, List.length_drop] at *; omega) | (have : exC.length = 6 := rfl; omega) | decide)) (Rd.mono f5_0 (hW.at (i := 105) rfl)) 6 (by simp only [inK]; (first | omega | (simp only [List.length_append, List.length_nil, List.length_cons, List.length_take, List.length_drop] at *; omega) | (have : exC.length = 6 := rfl; omega) | decide))) (fun v6 m6 hv6 => ?_)
  obtain ⟨s6_0, rfl, f6_0⟩ := hv6
  obtain ⟨q6_0_A4, q6_0_c4, q6_0_A7, q6_0_c7, rfl, q6_0_0, q6_0_1, q6_0_2, q6_0_3, q6_0_4, q6_0_5, q6_0_6, q6_0_7⟩ := open_Message f6_0
  simp only [inK] at q6_0_0
  simp only [inK] at q6_0_1
  simp only [inK] at q6_0_2
  simp only [inK] at q6_0_3
  have q6_0_r4 := Rd.room q6_0_4
  simp only [inK] at q6_0_5
  simp only [inK] at q6_0_6
  have q6_0_r7 := Rd.room q6_0_7
  refine VO.y rfl (.mv rfl) ?_
  refine VO.y rfl (.ext rfl rfl) ?_
  refine VO.y rfl (.ext rfl rfl) ?_
  refine VO.alloc 108 rfl tz72 (fun g7 => ?_)
  refine VO.store (k := 8) (c' := [Value.int .i64 (((shipNext 3 exC 6).1).1), Value.int .i64 (((shipNext 3 exC 6).1).2.1), Value.int .u8 (((shipNext 3 exC 6).1).2.2.1), Value.int .i64 (((shipNext 3 exC 6).1).2.2.2.1), Value.slice q6_0_A4 ((((shipNext 3 exC 6).1).2.2.2.2.1).length) (q6_0_c4), Value.int .i64 (((shipNext 3 exC 6).1).2.2.2.2.2.1), Value.int .i64 (((shipNext 3 exC 6).1).2.2.2.2.2.2.1), Value.slice q6_0_A7 ((((shipNext 3 exC 6).1).2.2.2.2.2.2.2).length) (q6_0_c7)]) 108 rfl rfl (.inl tk72) rfl rfl rfl rfl rfl ?_
  refine VO.y rfl (.as rfl) ?_
  refine VO.esub [(0, _), (1, _), (2, _), (3, _), (4, _), (5, _)] ⟨rfl, rfl, rfl, rfl, rfl, rfl, trivial⟩ (VO.nil ?_)
  refine VC.rs ?_
  refine VO.callN 109 rfl fnOk66 rfl (fun W hW => example17_ok W ) (fun v9 m9 hv9 => ?_)
  obtain ⟨s9_0, rfl, f9_0⟩ := hv9
  obtain ⟨A9_0, c9_0, rfl, l9_0, k9_0⟩ := f9_0.slice
  simp only [maxLen] at k9_0
  refine VO.callN 110 rfl fnOk65 rfl (fun W hW => next_ok W 2 (by simp only [inK]; (first | omega | (simp only [List.length_append, List.length_nil, List.length_cons, List.length_take, List.length_drop] at *; omega) | (have : exC.length = 6 := rfl; omega) | decide)) (Rd.mono f9_0 (hW.at (i := 109) rfl)) 0 (by simp only [inK]; (first | omega | (simp only [List.length_append, List.length_nil, List.length_cons, List.length_take, List.length_drop] at *; omega) | (have : exC.length = 6 := rfl; omega) | decide))) (fun v10 m10 hv10 => ?_)
  obtain ⟨s10_0, rfl, f10_0⟩ := hv10
  obtain ⟨q10_0_A4, q10_0_c4, q10_0_A7, q10_0_c7, rfl, q10_0_0, q10_0_1, q10_0_2, q10_0_3, q10_0_4, q10_0_5, q10_0_6, q10_0_7⟩ := open_Message f10_0
  simp only [inK] at q10_0_0
  simp only [inK] at q10_0_1
  simp only [inK] at q10_0_2
  simp only [inK] at q10_0_3
  have q10_0_r4 := Rd.room q10_0_4
  simp only [inK] at q10_0_5
  simp only [inK] at q10_0_6
  have q10_0_r7 := Rd.room q10_0_7
  refine VO.y rfl (.mv rfl) ?_
  refine VO.y rfl (.ext rfl rfl) ?_
  refine VO.y rfl (.ext rfl rfl) ?_
  refine VO.alloc 112 rfl tz72 (fun g11 => ?_)
  refine VO.store (k := 8) (c' := [Value.int .i64 (((shipNext 2 exC 0).1).1), Value.int .i64 (((shipNext 2 exC 0).1).2.1), Value.int .u8 (((shipNext 2 exC 0).1).2.2.1), Value.int .i64 (((shipNext 2 exC 0).1).2.2.2.1), Value.slice q10_0_A4 ((((shipNext 2 exC 0).1).2.2.2.2.1).length) (q10_0_c4), Value.int .i64 (((shipNext 2 exC 0).1).2.2.2.2.2.1), Value.int .i64 (((shipNext 2 exC 0).1).2.2.2.2.2.2.1), Value.slice q10_0_A7 ((((shipNext 2 exC 0).1).2.2.2.2.2.2.2).length) (q10_0_c7)]) 112 rfl rfl (.inl tk72) rfl rfl rfl rfl rfl ?_
  refine VO.y rfl (.as rfl) ?_
  refine VO.esub [(0, _), (1, _), (2, _), (3, _), (4, _), (5, _), (7, _)] ⟨rfl, rfl, rfl, rfl, rfl, rfl, rfl, trivial⟩ (VO.nil ?_)
  refine VC.rs ?_
  refine VO.callN 113 rfl fnOk66 rfl (fun W hW => example17_ok W ) (fun v13 m13 hv13 => ?_)
  obtain ⟨s13_0, rfl, f13_0⟩ := hv13
  obtain ⟨A13_0, c13_0, rfl, l13_0, k13_0⟩ := f13_0.slice
  simp only [maxLen] at k13_0
  refine VO.callN 114 rfl fnOk65 rfl (fun W hW => next_ok W 3 (by simp only [inK]; (first | omega | (simp only [List.length_append, List.length_nil, List.length_cons, List.length_take, List.length_drop] at *; omega) | (have : exC.length = 6 := rfl; omega) | decide)) (Rd.mono f13_0 (hW.at (i := 113) rfl)) 7 (by simp only [inK]; (first | omega | (simp only [List.length_append, List.length_nil, List.length_cons, List.length_take, List.length_drop] at *; omega) | (have : exC.length = 6 := rfl; omega) | decide))) (fun v14 m14 hv14 => ?_)
  obtain ⟨s14_0, rfl, f14_0⟩ := hv14
  obtain ⟨q14_0_A4, q14_0_c4, q14_0_A7, q14_0_c7, rfl, q14_0_0, q14_0_1, q14_0_2, q14_0_3, q14_0_4, q14_0_5, q14_0_6, q14_0_7⟩ := open_Message f14_0
  simp only [inK] at q14_0_0
  simp only [inK] at q14_0_1
  simp only [inK] at q14_0_2
  simp only [inK] at q14_0_3
  have q14_0_r4 := Rd.room q14_0_4
  simp only [inK] at q14_0_5
  simp only [inK] at q14_0_6
  have q14_0_r7 := Rd.room q14_0_7
  refine VO.y rfl (.mv rfl) ?_
  refine VO.y rfl (.ext rfl rfl) ?_
  refine VO.y rfl (.ext rfl rfl) ?_
  refine VO.alloc 116 rfl tz72 (fun g15 => ?_)
  refine VO.store (k := 8) (c' := [Value.int .i64 (((shipNext 3 exC 7).1).1), Value.int .i64 (((shipNext 3 exC 7).1).2.1), Value.int .u8 (((shipNext 3 exC 7).1).2.2.1), Value.int .i64 (((shipNext 3 exC 7).1).2.2.2.1), Value.slice q14_0_A4 ((((shipNext 3 exC 7).1).2.2.2.2.1).length) (q14_0_c4), Value.int .i64 (((shipNext 3 exC 7).1).2.2.2.2.2.1), Value.int .i64 (((shipNext 3 exC 7).1).2.2.2.2.2.2.1), Value.slice q14_0_A7 ((((shipNext 3 exC 7).1).2.2.2.2.2.2.2).length) (q14_0_c7)]) 116 rfl rfl (.inl tk72) rfl rfl rfl rfl rfl ?_
  refine VO.y rfl (.as rfl) ?_
  refine VO.esub [(0, _), (1, _), (2, _), (3, _), (4, _), (5, _), (7, _), (9, _)] ⟨rfl, rfl, rfl, rfl, rfl, rfl, rfl, rfl, trivial⟩ (VO.nil ?_)
  refine VC.rs ?_
  refine VO.callN 117 rfl fnOk67 rfl (fun W hW => hello_ok W 3 (by simp only [inK]; (first | omega | (simp only [List.length_append, List.length_nil, List.length_cons, List.length_take, List.length_drop] at *; omega) | (have : exC.length = 6 := rfl; omega) | decide)) 0 (by simp only [inK]; (first | omega | (simp only [List.length_append, List.length_nil, List.length_cons, List.length_take, List.length_drop] at *; omega) | (have : exC.length = 6 := rfl; omega) | decide)) (Rd.nil _ _ none 0 (Nat.zero_le _)) (by first | omega | (simp only [List.length_append, List.length_nil, List.length_cons, List.length_take, List.length_drop] at *; omega) | (have : exC.length = 6 := rfl; omega) | decide)) (fun v17 m17 hv17 => ?_)
  obtain ⟨s17_0, rfl, f17_0⟩ := hv17
  obtain ⟨q17_0_A4, q17_0_c4, q17_0_A7, q17_0_c7, rfl, q17_0_0, q17_0_1, q17_0_2, q17_0_3, q17_0_4, q17_0_5, q17_0_6, q17_0_7⟩ := open_Message f17_0
  simp only [inK] at q17_0_0
  simp only [inK] at q17_0_1
  simp only [inK] at q17_0_2
  simp only [inK] at q17_0_3
  have q17_0_r4 := Rd.room q17_0_4
  simp only [inK] at q17_0_5
  simp only [inK] at q17_0_6
  have q17_0_r7 := Rd.room q17_0_7
  refine VO.y rfl (.mv rfl) ?_
  refine VO.y rfl (.ext rfl rfl) ?_
  refine VO.y rfl (.ext rfl rfl) ?_
  refine VO.alloc 119 rfl tz72 (fun g18 => ?_)
  refine VO.store (k := 8) (c' := [Value.int .i64 (((shipHello 3 0 ([])).1).1), Value.int .i64 (((shipHello 3 0 ([])).1).2.1), Value.int .u8 (((shipHello 3 0 ([])).1).2.2.1), Value.int .i64 (((shipHello 3 0 ([])).1).2.2.2.1), Value.slice q17_0_A4 ((((shipHello 3 0 ([])).1).2.2.2.2.1).length) (q17_0_c4), Value.int .i64 (((shipHello 3 0 ([])).1).2.2.2.2.2.1), Value.int .i64 (((shipHello 3 0 ([])).1).2.2.2.2.2.2.1), Value.slice q17_0_A7 ((((shipHello 3 0 ([])).1).2.2.2.2.2.2.2).length) (q17_0_c7)]) 119 rfl rfl (.inl tk72) rfl rfl rfl rfl rfl ?_
  refine VO.y rfl (.as rfl) ?_
  refine VO.esub [(0, _), (1, _), (2, _), (3, _), (4, _), (5, _), (7, _), (9, _), (11, _)] ⟨rfl, rfl, rfl, rfl, rfl, rfl, rfl, rfl, rfl, trivial⟩ (VO.nil ?_)
  refine VC.rs ?_
  refine VO.callN 120 rfl fnOk68 rfl (fun W hW => ack_ok W 2 (by simp only [inK]; (first | omega | (simp only [List.length_append, List.length_nil, List.length_cons, List.length_take, List.length_drop] at *; omega) | (have : exC.length = 6 := rfl; omega) | decide)) 7 (by simp only [inK]; (first | omega | (simp only [List.length_append, List.length_nil, List.length_cons, List.length_take, List.length_drop] at *; omega) | (have : exC.length = 6 := rfl; omega) | decide))) (fun v20 m20 hv20 => ?_)
  obtain ⟨s20_0, rfl, f20_0⟩ := hv20
  obtain ⟨q20_0_A4, q20_0_c4, q20_0_A7, q20_0_c7, rfl, q20_0_0, q20_0_1, q20_0_2, q20_0_3, q20_0_4, q20_0_5, q20_0_6, q20_0_7⟩ := open_Message f20_0
  simp only [inK] at q20_0_0
  simp only [inK] at q20_0_1
  simp only [inK] at q20_0_2
  simp only [inK] at q20_0_3
  have q20_0_r4 := Rd.room q20_0_4
  simp only [inK] at q20_0_5
  simp only [inK] at q20_0_6
  have q20_0_r7 := Rd.room q20_0_7
  refine VO.y rfl (.mv rfl) ?_
  refine VO.y rfl (.ext rfl rfl) ?_
  refine VO.y rfl (.ext rfl rfl) ?_
  refine VO.alloc 122 rfl tz72 (fun g21 => ?_)
  refine VO.store (k := 8) (c' := [Value.int .i64 (((shipAck 2 7).1).1), Value.int .i64 (((shipAck 2 7).1).2.1), Value.int .u8 (((shipAck 2 7).1).2.2.1), Value.int .i64 (((shipAck 2 7).1).2.2.2.1), Value.slice q20_0_A4 ((((shipAck 2 7).1).2.2.2.2.1).length) (q20_0_c4), Value.int .i64 (((shipAck 2 7).1).2.2.2.2.2.1), Value.int .i64 (((shipAck 2 7).1).2.2.2.2.2.2.1), Value.slice q20_0_A7 ((((shipAck 2 7).1).2.2.2.2.2.2.2).length) (q20_0_c7)]) 122 rfl rfl (.inl tk72) rfl rfl rfl rfl rfl ?_
  refine VO.y rfl (.as rfl) ?_
  refine VO.esub [(0, _), (1, _), (2, _), (3, _), (4, _), (5, _), (7, _), (9, _), (11, _), (12, _), (13, _)] ⟨rfl, rfl, rfl, rfl, rfl, rfl, rfl, rfl, rfl, rfl, rfl, trivial⟩ (VO.nil ?_)
  refine VC.rs ?_
  refine VO.callN 123 rfl fnOk68 rfl (fun W hW => ack_ok W 0 (by simp only [inK]; (first | omega | (simp only [List.length_append, List.length_nil, List.length_cons, List.length_take, List.length_drop] at *; omega) | (have : exC.length = 6 := rfl; omega) | decide)) 7 (by simp only [inK]; (first | omega | (simp only [List.length_append, List.length_nil, List.length_cons, List.length_take, List.length_drop] at *; omega) | (have : exC.length = 6 := rfl; omega) | decide))) (fun v23 m23 hv23 => ?_)
  obtain ⟨s23_0, rfl, f23_0⟩ := hv23
  obtain ⟨q23_0_A4, q23_0_c4, q23_0_A7, q23_0_c7, rfl, q23_0_0, q23_0_1, q23_0_2, q23_0_3, q23_0_4, q23_0_5, q23_0_6, q23_0_7⟩ := open_Message f23_0
  simp only [inK] at q23_0_0
  simp only [inK] at q23_0_1
  simp only [inK] at q23_0_2
  simp only [inK] at q23_0_3
  have q23_0_r4 := Rd.room q23_0_4
  simp only [inK] at q23_0_5
  simp only [inK] at q23_0_6
  have q23_0_r7 := Rd.room q23_0_7
  refine VO.y rfl (.mv rfl) ?_
  refine VO.y rfl (.ext rfl rfl) ?_
  refine VO.y rfl (.ext rfl rfl) ?_
  refine VO.alloc 125 rfl tz72 (fun g24 => ?_)
  refine VO.store (k := 8) (c' := [Value.int .i64 (((shipAck 0 7).1).1), Value.int .i64 (((shipAck 0 7).1).2.1), Value.int .u8 (((shipAck 0 7).1).2.2.1), Value.int .i64 (((shipAck 0 7).1).2.2.2.1), Value.slice q23_0_A4 ((((shipAck 0 7).1).2.2.2.2.1).length) (q23_0_c4), Value.int .i64 (((shipAck 0 7).1).2.2.2.2.2.1), Value.int .i64 (((shipAck 0 7).1).2.2.2.2.2.2.1), Value.slice q23_0_A7 ((((shipAck 0 7).1).2.2.2.2.2.2.2).length) (q23_0_c7)]) 125 rfl rfl (.inl tk72) rfl rfl rfl rfl rfl ?_
  refine VO.y rfl (.as rfl) ?_
  refine VO.esub [(0, _), (1, _), (2, _), (3, _), (4, _), (5, _), (7, _), (9, _), (11, _), (12, _), (13, _), (15, _)] ⟨rfl, rfl, rfl, rfl, rfl, rfl, rfl, rfl, rfl, rfl, rfl, rfl, trivial⟩ (VO.nil ?_)
  refine VC.seq ?_
  refine VC.regD _ 17 [(0, true), (1, true), (2, true), (3, true), (4, true), (5, true), (6, true), (7, true), (8, true), (9, true), (10, true), (11, true), (12, true), (13, true), (14, true), (15, false), (16, true)] follows (by kernel_rfl) (fun _ h => h) ?_
  refine VD.y rfl rfl (.inl rfl) (.mv rfl) ?_
  refine VD.y rfl rfl (.inl rfl) (.eql rfl rfl) ?_
  refine VD.y rfl rfl (.inl rfl) (.mv rfl) ?_
  refine VD.dec (s := 51) rfl (fun hc26 => ?_) (fun hc26 => ?_)
  · -- T
    refine VD.y rfl rfl (.inr ⟨_, _, rfl, _, rfl, rfl⟩) (.fa rfl tst72 rfl) ?_
    refine VD.y rfl rfl (.inr ⟨_, _, rfl, _, rfl, rfl⟩) (.ld1 104 rfl tk3 rfl (cellsAt_one rfl rfl)) ?_
    refine VD.y rfl rfl (.inr ⟨_, _, rfl, _, rfl, rfl⟩) (.eql rfl rfl) ?_
    refine VD.y rfl rfl (.inl rfl) (.pT rfl rfl) ?_
    refine VD.y rfl rfl (.inl rfl) (.mv rfl) ?_
    refine VD.dec (s := 56) rfl (fun hc27 => ?_) (fun hc27 => ?_)
    · -- TT
      refine VD.y rfl rfl (.inr ⟨_, _, rfl, _, rfl, rfl⟩) (.fa rfl tst72 rfl) ?_
      refine VD.y rfl rfl (.inr ⟨_, _, rfl, _, rfl, rfl⟩) (.ld1 104 rfl tk3 rfl (cellsAt_one rfl rfl)) ?_
      refine VD.y rfl rfl (.inr ⟨_, _, rfl, _, rfl, rfl⟩) (.eql rfl rfl) ?_
      refine VD.y rfl rfl (.inl rfl) (.pT rfl rfl) ?_
      refine VD.y rfl rfl (.inl rfl) (.mv rfl) ?_
      refine VD.dec (s := 61) rfl (fun hc28 => ?_) (fun hc28 => ?_)
      · -- TTT
        refine VD.y rfl rfl (.inr ⟨_, _, rfl, _, rfl, rfl⟩) (.fa rfl tst72 rfl) ?_
        refine VD.y rfl rfl (.inr ⟨_, _, rfl, _, rfl, rfl⟩) (.ld1 104 rfl tk61 rfl (cellsAt_one rfl rfl)) ?_
        refine VD.callN 129 rfl rfl (.inr ⟨_, _, rfl, _, rfl, rfl⟩) fnOk66 rfl (fun _ h => h) (fun W hW => example17_ok W ) (fun v29 m29 hv29 => ?_)
        obtain ⟨s29_0, rfl, f29_0⟩ := hv29
        obtain ⟨A29_0, c29_0, rfl, l29_0, k29_0⟩ := f29_0.slice
        simp only [maxLen] at k29_0
        have hs30 := f29_0.pre (j := 4) (by first | omega | (simp only [List.length_append, List.length_nil, List.length_cons, List.length_take, List.length_drop] at *; omega) | (have : exC.length = 6 := rfl; omega) | decide)
        refine VD.y rfl rfl (.inr ⟨_, _, rfl, _, rfl, rfl⟩) (.slHI 4 rfl rfl tsl61 rfl (by first | omega | (simp only [List.length_append, List.length_nil, List.length_cons, List.length_take, List.length_drop] at *; omega) | (have : exC.length = 6 := rfl; omega) | decide)) ?_
        refine VD.nil rfl ?_ rfl
        refine VO.gcallN 131 rfl ⟨_, rfl, rfl⟩ fnOk69 rfl (fun W hW => SameCommits_ok W (Rd.mono q2_0_7 (hW.at (i := 102) rfl)) (Rd.mono hs30 (hW.at (i := 129) rfl))) (fun v31 m31 hv31 => ?_)
        subst hv31
        refine VO.y rfl (.pT rfl rfl) ?_
        refine VO.y rfl (.mv rfl) ?_
        refine VO.dec (t := 68) rfl (fun hc32 => ?_) (fun hc32 => ?_)
        · -- TTTT
          refine VO.gy rfl ⟨_, rfl, rfl⟩ (.mv rfl) ?_
          refine VO.gy rfl ⟨_, rfl, rfl⟩ (.eql rfl rfl) ?_
          refine VO.y rfl (.pT rfl rfl) ?_
          refine VO.y rfl (.mv rfl) ?_
          refine VO.dec (t := 72) rfl (fun hc33 => ?_) (fun hc33 => ?_)
          · -- TTTTT
            refine VO.gy rfl ⟨_, rfl, rfl⟩ (.fa rfl tst72 rfl) ?_
            refine VO.gy rfl ⟨_, rfl, rfl⟩ (.ld1 108 rfl tk3 rfl (cellsAt_one rfl rfl)) ?_
            refine VO.gy rfl ⟨_, rfl, rfl⟩ (.eql rfl rfl) ?_
            refine VO.y rfl (.pT rfl rfl) ?_
            refine VO.y rfl (.mv rfl) ?_
            refine VO.dec (t := 77) rfl (fun hc34 => ?_) (fun hc34 => ?_)
            · -- TTTTTT
              refine VO.gy rfl ⟨_, rfl, rfl⟩ (.fa rfl tst72 rfl) ?_
              refine VO.gy rfl ⟨_, rfl, rfl⟩ (.ld1 108 rfl tk3 rfl (cellsAt_one rfl rfl)) ?_
              refine VO.gy rfl ⟨_, rfl, rfl⟩ (.eql rfl rfl) ?_
              refine VO.y rfl (.pT rfl rfl) ?_
              refine VO.y rfl (.mv rfl) ?_
              refine VO.dec (t := 82) rfl (fun hc35 => ?_) (fun hc35 => ?_)
              · -- TTTTTTT
                refine VO.gy rfl ⟨_, rfl, rfl⟩ (.fa rfl tst72 rfl) ?_
                refine VO.gy rfl ⟨_, rfl, rfl⟩ (.ld1 108 rfl tk61 rfl (cellsAt_one rfl rfl)) ?_
                refine VO.gy rfl ⟨_, rfl, rfl⟩ (.lenS rfl tsl61) ?_
                refine VO.gy rfl ⟨_, rfl, rfl⟩ (.eql rfl rfl) ?_
                refine VO.y rfl (.pT rfl rfl) ?_
                refine VO.y rfl (.mv rfl) ?_
                refine VO.dec (t := 88) rfl (fun hc36 => ?_) (fun hc36 => ?_)
                · -- TTTTTTTT
                  refine VO.gy rfl ⟨_, rfl, rfl⟩ (.mv rfl) ?_
                  refine VO.gy rfl ⟨_, rfl, rfl⟩ (.eql rfl rfl) ?_
                  refine VO.y rfl (.pT rfl rfl) ?_
                  refine VO.y rfl (.mv rfl) ?_
                  refine VO.dec (t := 92) rfl (fun hc37 => ?_) (fun hc37 => ?_)
                  · -- TTTTTTTTT
                    refine VO.gy rfl ⟨_, rfl, rfl⟩ (.mv rfl) ?_
                    refine VO.gy rfl ⟨_, rfl, rfl⟩ (.eql rfl rfl) ?_
                    refine VO.y rfl (.pT rfl rfl) ?_
                    refine VO.y rfl (.as rfl) ?_
                    refine VO.esub [(0, _), (1, _), (2, _), (3, _), (4, _), (5, _), (7, _), (9, _), (11, _), (12, _), (13, _), (15, _), (16, _)] ⟨rfl, rfl, rfl, rfl, rfl, rfl, rfl, rfl, rfl, rfl, rfl, rfl, rfl, trivial⟩ (VO.nil ?_)
                    refine outN ?_
                    refine VC.rs ?_
                    refine VO.y rfl (.mv rfl) ?_
                    refine VO.y rfl (.mv rfl) ?_
                    refine VO.gcallN 138 rfl ⟨_, rfl, rfl⟩ fnOk70 rfl (fun W hW => lives17_ok W ) (fun v38 m38 hv38 => ?_)
                    subst hv38
                    refine VO.y rfl (.pT rfl rfl) ?_
                    refine VO.y rfl (.mv rfl) ?_
                    refine VO.gy rfl ⟨_, rfl, rfl⟩ (.mv rfl) ?_
                    refine VO.y rfl (.pT rfl rfl) ?_
                    refine VO.y rfl (.mv rfl) ?_
                    refine VO.dec (t := 103) rfl (fun hc39 => ?_) (fun hc39 => ?_)
                    · -- TTTTTTTTTT
                      refine VO.gy rfl ⟨_, rfl, rfl⟩ (.mv rfl) ?_
                      refine VO.gy rfl ⟨_, rfl, rfl⟩ (.eql rfl rfl) ?_
                      refine VO.y rfl (.pT rfl rfl) ?_
                      refine VO.y rfl (.mv rfl) ?_
                      refine VO.dec (t := 107) rfl (fun hc40 => ?_) (fun hc40 => ?_)
                      · -- TTTTTTTTTTT
                        refine VO.gy rfl ⟨_, rfl, rfl⟩ (.mv rfl) ?_
                        refine VO.gy rfl ⟨_, rfl, rfl⟩ (.eql rfl rfl) ?_
                        refine VO.y rfl (.pT rfl rfl) ?_
                        refine VO.y rfl (.mv rfl) ?_
                        refine VO.dec (t := 111) rfl (fun hc41 => ?_) (fun hc41 => ?_)
                        · -- TTTTTTTTTTTT
                          refine VO.gy rfl ⟨_, rfl, rfl⟩ (.ldA 122 rfl tk72 rfl (cellsAt_one rfl rfl)) ?_
                          refine VO.gy rfl ⟨_, rfl, rfl⟩ (.bst (cs := [Value.int .i64 (3), Value.int .i64 (2), Value.int .u8 (0), Value.int .i64 (7), Value.slice none (0) (0), Value.int .i64 (0), Value.int .i64 (0), Value.slice none (0) (0)]) rfl tst72 tz72 rfl) ?_
                          refine VO.gcallN 142 rfl ⟨_, rfl, rfl⟩ fnOk71 rfl (fun W hW => SameMessage_ok W (Rd.mono f20_0 (hW.at (i := 120) rfl)) (mk_Message (m := wm W) (3, 2, 0, 7, [], 0, 0, []) (by simp only [inK]; (first | omega | (simp only [List.length_append, List.length_nil, List.length_cons, List.length_take, List.length_drop] at *; omega) | (have : exC.length = 6 := rfl; omega) | decide)) (by simp only [inK]; (first | omega | (simp only [List.length_append, List.length_nil, List.length_cons, List.length_take, List.length_drop] at *; omega) | (have : exC.length = 6 := rfl; omega) | decide)) (by simp only [inK]; (first | omega | (simp only [List.length_append, List.length_nil, List.length_cons, List.length_take, List.length_drop] at *; omega) | (have : exC.length = 6 := rfl; omega) | decide)) (by simp only [inK]; (first | omega | (simp only [List.length_append, List.length_nil, List.length_cons, List.length_take, List.length_drop] at *; omega) | (have : exC.length = 6 := rfl; omega) | decide)) (Rd.nil _ _ none 0 (Nat.zero_le _)) (by simp only [inK]; (first | omega | (simp only [List.length_append, List.length_nil, List.length_cons, List.length_take, List.length_drop] at *; omega) | (have : exC.length = 6 := rfl; omega) | decide)) (by simp only [inK]; (first | omega | (simp only [List.length_append, List.length_nil, List.length_cons, List.length_take, List.length_drop] at *; omega) | (have : exC.length = 6 := rfl; omega) | decide)) (Rd.nil _ _ none 0 (Nat.zero_le _)))) (fun v42 m42 hv42 => ?_)
                          subst hv42
                          refine VO.y rfl (.pT rfl rfl) ?_
                          refine VO.y rfl (.mv rfl) ?_
                          refine VO.dec (t := 116) rfl (fun hc43 => ?_) (fun hc43 => ?_)
                          · -- TTTTTTTTTTTTT
                            refine VO.gy rfl ⟨_, rfl, rfl⟩ (.mv rfl) ?_
                            refine VO.gy rfl ⟨_, rfl, rfl⟩ (.eql rfl rfl) ?_
                            refine VO.y rfl (.pT rfl rfl) ?_
                            refine VO.y rfl (.as rfl) ?_
                            refine VO.esub [(0, _), (1, _), (2, _), (3, _), (4, _), (5, _), (7, _), (9, _), (11, _), (12, _), (13, _), (15, _), (16, _)] ⟨rfl, rfl, rfl, rfl, rfl, rfl, rfl, rfl, rfl, rfl, rfl, rfl, rfl, trivial⟩ (VO.nil ?_)
                            refine VC.ret ?_
                            refine ⟨_, mnil, res_run (rs := [.tmp 0]) rfl (.tmp rfl .nil), fun W_ hI => ⟨?_, own_nil rfl _ hI⟩⟩
                            dsimp only [packV]
                            all_goals (first | rfl | (exact congrArg Value.bool (decide_eq_true (by first | rfl | decide))))
                          · -- TTTTTTTTTTTTF
                            exact absurd (by first | rfl | decide) hc43
                        · -- TTTTTTTTTTTF
                          exact absurd (by first | rfl | decide) hc41
                      · -- TTTTTTTTTTF
                        exact absurd (by first | rfl | decide) hc40
                    · -- TTTTTTTTTF
                      exact absurd (by first | rfl | decide) hc39
                  · -- TTTTTTTTF
                    exact absurd (by first | rfl | decide) hc37
                · -- TTTTTTTF
                  exact absurd (by first | rfl | decide) hc36
              · -- TTTTTTF
                exact absurd (by first | rfl | decide) hc35
            · -- TTTTTF
              exact absurd (by first | rfl | decide) hc34
          · -- TTTTF
            exact absurd (by first | rfl | decide) hc33
        · -- TTTF
          exact absurd (by first | rfl | decide) hc32
      · -- TTF
        exact absurd (by first | rfl | decide) hc28
    · -- TF
      exact absurd (by first | rfl | decide) hc27
  · -- F
    exact absurd (by first | rfl | decide) hc26
end Go.Proofs.Ytfaknkkaegjdaaa
