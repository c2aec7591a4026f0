/- Walks, printed by program: what lagleashlaw17 lives, lagleashlaw17 ShipNames compute. Conditions: those named in each theorem. -/
import Derived.Test.YtfaknkkaegjdaaaW5
set_option linter.unusedVariables false
set_option linter.unusedSimpArgs false
set_option maxRecDepth 4000
namespace Go.Proofs.Ytfaknkkaegjdaaa
theorem fnOk65 : fnOk Try.prog 65 = true := by kernel_rfl
theorem fnOk66 : fnOk Try.prog 66 = true := by kernel_rfl
theorem fnOk67 : fnOk Try.prog 67 = true := by kernel_rfl
theorem fnOk68 : fnOk Try.prog 68 = true := by kernel_rfl
theorem fnOk70 : fnOk Try.prog 70 = true := by kernel_rfl
theorem fnOk71 : fnOk Try.prog 71 = true := by kernel_rfl
theorem lives17_ok (W : World) : CallR Try.prog 70 [] W (mnil) (fun v m' => v = .bool true) := by
  refine CallR.ofA (n := 50) Try.func70 rfl rfl rfl ?_
  refine VC.rs ?_
  refine VO.y rfl (.as rfl) ?_
  refine VO.esub [(0, _)] ⟨rfl, trivial⟩ (VO.nil ?_)
  refine VC.rs ?_
  refine VO.callN 101 rfl fnOk66 rfl (fun W hW => example17_ok W ) (fun v1 m1 hv1 => ?_)
  obtain ⟨s1_0, rfl, f1_0⟩ := hv1
  obtain ⟨A1_0, c1_0, eq1_0, l1_0, k1_0⟩ := f1_0.slice
  subst eq1_0
  simp only [maxLen] at k1_0
  refine VO.callN 102 rfl fnOk65 rfl (fun W hW => next_ok W 3 (by simp only [inK]; (first | omega | (simp only [List.length_append, List.length_nil, List.length_cons, List.length_take, List.length_drop] at *; omega) | (have : exC.length = 6 := rfl; omega) | decide)) (Ow.rd f1_0 (hW.at (i := 101) rfl)) 4 (by simp only [inK]; (first | omega | (simp only [List.length_append, List.length_nil, List.length_cons, List.length_take, List.length_drop] at *; omega) | (have : exC.length = 6 := rfl; omega) | decide))) (fun v2 m2 hv2 => ?_)
  obtain ⟨s2_0, rfl, f2_0⟩ := hv2
  obtain ⟨q2_0_A4, q2_0_c4, q2_0_A7, q2_0_c7, q2_0_n4, q2_0_n7, rfl, q2_0_S, q2_0_0, q2_0_1, q2_0_2, q2_0_3, q2_0_4, q2_0_5, q2_0_6, q2_0_7⟩ := openO_Message (x0 := ((shipNext 3 exC 4).1).1) (x1 := ((shipNext 3 exC 4).1).2.1) (x2 := ((shipNext 3 exC 4).1).2.2.1) (x3 := ((shipNext 3 exC 4).1).2.2.2.1) (x4 := ((shipNext 3 exC 4).1).2.2.2.2.1) (x5 := ((shipNext 3 exC 4).1).2.2.2.2.2.1) (x6 := ((shipNext 3 exC 4).1).2.2.2.2.2.2.1) (x7 := ((shipNext 3 exC 4).1).2.2.2.2.2.2.2) f2_0
  simp only [inK] at q2_0_0
  simp only [inK] at q2_0_1
  simp only [inK] at q2_0_2
  simp only [inK] at q2_0_3
  have q2_0_r4 := Rd.room (q2_0_4.rd (mle_refl _))
  simp only [inK] at q2_0_5
  simp only [inK] at q2_0_6
  have q2_0_r7 := Rd.room (q2_0_7.rd (mle_refl _))
  refine VO.inv _ (fun _ h => h.parts (i := 102) rfl q2_0_S [103, 104]) ?_
  refine VO.y rfl (.mv rfl) ?_
  refine VO.y rfl (.ext rfl rfl) ?_
  refine VO.y rfl (.ext rfl rfl) ?_
  refine VO.alloc 106 rfl tz72 (fun g5 => ?_)
  refine VO.store (k := 8) (c' := [Value.int .i64 (((shipNext 3 exC 4).1).1), Value.int .i64 (((shipNext 3 exC 4).1).2.1), Value.int .u8 (((shipNext 3 exC 4).1).2.2.1), Value.int .i64 (((shipNext 3 exC 4).1).2.2.2.1), Value.slice q2_0_A4 ((((shipNext 3 exC 4).1).2.2.2.2.1).length) (q2_0_c4), Value.int .i64 (((shipNext 3 exC 4).1).2.2.2.2.2.1), Value.int .i64 (((shipNext 3 exC 4).1).2.2.2.2.2.2.1), Value.slice q2_0_A7 ((((shipNext 3 exC 4).1).2.2.2.2.2.2.2).length) (q2_0_c7)]) 106 rfl rfl (.inl tk72) rfl rfl rfl rfl rfl ?_
  refine VO.y rfl (.as rfl) ?_
  refine VO.esub [(0, _), (1, _), (2, _)] ⟨rfl, rfl, rfl, trivial⟩ (VO.nil ?_)
  refine VC.rs ?_
  refine VO.callN 107 rfl fnOk66 rfl (fun W hW => example17_ok W ) (fun v7 m7 hv7 => ?_)
  obtain ⟨s7_0, rfl, f7_0⟩ := hv7
  obtain ⟨A7_0, c7_0, eq7_0, l7_0, k7_0⟩ := f7_0.slice
  subst eq7_0
  simp only [maxLen] at k7_0
  refine VO.callN 108 rfl fnOk67 rfl (fun W hW => hello_ok W 3 (by simp only [inK]; (first | omega | (simp only [List.length_append, List.length_nil, List.length_cons, List.length_take, List.length_drop] at *; omega) | (have : exC.length = 6 := rfl; omega) | decide)) 1 (by simp only [inK]; (first | omega | (simp only [List.length_append, List.length_nil, List.length_cons, List.length_take, List.length_drop] at *; omega) | (have : exC.length = 6 := rfl; omega) | decide)) (Ow.rd f7_0 (hW.at (i := 107) rfl)) (by first | omega | (simp only [List.length_append, List.length_nil, List.length_cons, List.length_take, List.length_drop] at *; omega) | (have : exC.length = 6 := rfl; omega) | decide)) (fun v8 m8 hv8 => ?_)
  obtain ⟨s8_0, rfl, f8_0⟩ := hv8
  obtain ⟨q8_0_A4, q8_0_c4, q8_0_A7, q8_0_c7, q8_0_n4, q8_0_n7, rfl, q8_0_S, q8_0_0, q8_0_1, q8_0_2, q8_0_3, q8_0_4, q8_0_5, q8_0_6, q8_0_7⟩ := openO_Message (x0 := ((shipHello 3 1 exC).1).1) (x1 := ((shipHello 3 1 exC).1).2.1) (x2 := ((shipHello 3 1 exC).1).2.2.1) (x3 := ((shipHello 3 1 exC).1).2.2.2.1) (x4 := ((shipHello 3 1 exC).1).2.2.2.2.1) (x5 := ((shipHello 3 1 exC).1).2.2.2.2.2.1) (x6 := ((shipHello 3 1 exC).1).2.2.2.2.2.2.1) (x7 := ((shipHello 3 1 exC).1).2.2.2.2.2.2.2) f8_0
  simp only [inK] at q8_0_0
  simp only [inK] at q8_0_1
  simp only [inK] at q8_0_2
  simp only [inK] at q8_0_3
  have q8_0_r4 := Rd.room (q8_0_4.rd (mle_refl _))
  simp only [inK] at q8_0_5
  simp only [inK] at q8_0_6
  have q8_0_r7 := Rd.room (q8_0_7.rd (mle_refl _))
  refine VO.inv _ (fun _ h => h.parts (i := 108) rfl q8_0_S [109, 110]) ?_
  refine VO.y rfl (.mv rfl) ?_
  refine VO.y rfl (.ext rfl rfl) ?_
  refine VO.y rfl (.ext rfl rfl) ?_
  refine VO.alloc 112 rfl tz72 (fun g11 => ?_)
  refine VO.store (k := 8) (c' := [Value.int .i64 (((shipHello 3 1 exC).1).1), Value.int .i64 (((shipHello 3 1 exC).1).2.1), Value.int .u8 (((shipHello 3 1 exC).1).2.2.1), Value.int .i64 (((shipHello 3 1 exC).1).2.2.2.1), Value.slice q8_0_A4 ((((shipHello 3 1 exC).1).2.2.2.2.1).length) (q8_0_c4), Value.int .i64 (((shipHello 3 1 exC).1).2.2.2.2.2.1), Value.int .i64 (((shipHello 3 1 exC).1).2.2.2.2.2.2.1), Value.slice q8_0_A7 ((((shipHello 3 1 exC).1).2.2.2.2.2.2.2).length) (q8_0_c7)]) 112 rfl rfl (.inl tk72) rfl rfl rfl rfl rfl ?_
  refine VO.y rfl (.as rfl) ?_
  refine VO.esub [(0, _), (1, _), (2, _), (3, _), (4, _)] ⟨rfl, rfl, rfl, rfl, rfl, trivial⟩ (VO.nil ?_)
  refine VC.rs ?_
  refine VO.y rfl (.mv rfl) ?_
  refine VO.y rfl (.eql rfl rfl) ?_
  refine VO.y rfl (.mv rfl) ?_
  refine VO.dec (t := 17) rfl (fun hc13 => ?_) (fun hc13 => ?_)
  · -- T
    refine VO.gy rfl ⟨_, rfl, rfl⟩ (.mv rfl) ?_
    refine VO.gy rfl ⟨_, rfl, rfl⟩ (.eql rfl rfl) ?_
    refine VO.y rfl (.pT rfl rfl) ?_
    refine VO.y rfl (.mv rfl) ?_
    refine VO.dec (t := 21) rfl (fun hc14 => ?_) (fun hc14 => ?_)
    · -- TT
      refine VO.gy rfl ⟨_, rfl, rfl⟩ (.fa rfl tst72 rfl) ?_
      refine VO.gy rfl ⟨_, rfl, rfl⟩ (.ld1 106 rfl tk3 rfl (cellsAt_one rfl rfl)) ?_
      refine VO.gy rfl ⟨_, rfl, rfl⟩ (.eql rfl rfl) ?_
      refine VO.y rfl (.pT rfl rfl) ?_
      refine VO.y rfl (.mv rfl) ?_
      refine VO.dec (t := 26) rfl (fun hc15 => ?_) (fun hc15 => ?_)
      · -- TTT
        refine VO.gy rfl ⟨_, rfl, rfl⟩ (.fa rfl tst72 rfl) ?_
        refine VO.gy rfl ⟨_, rfl, rfl⟩ (.ld1 106 rfl tk3 rfl (cellsAt_one rfl rfl)) ?_
        refine VO.gy rfl ⟨_, rfl, rfl⟩ (.eql rfl rfl) ?_
        refine VO.y rfl (.pT rfl rfl) ?_
        refine VO.y rfl (.mv rfl) ?_
        refine VO.dec (t := 31) rfl (fun hc16 => ?_) (fun hc16 => ?_)
        · -- TTTT
          refine VO.gy rfl ⟨_, rfl, rfl⟩ (.fa rfl tst72 rfl) ?_
          refine VO.gy rfl ⟨_, rfl, rfl⟩ (.ld1 106 rfl tk3 rfl (cellsAt_one rfl rfl)) ?_
          refine VO.gy rfl ⟨_, rfl, rfl⟩ (.eql rfl rfl) ?_
          refine VO.y rfl (.pT rfl rfl) ?_
          refine VO.y rfl (.mv rfl) ?_
          refine VO.dec (t := 36) rfl (fun hc17 => ?_) (fun hc17 => ?_)
          · -- TTTTT
            refine VO.gy rfl ⟨_, rfl, rfl⟩ (.fa rfl tst72 rfl) ?_
            refine VO.gy rfl ⟨_, rfl, rfl⟩ (.ld1 106 rfl tk61 rfl (cellsAt_one rfl rfl)) ?_
            refine VO.gy rfl ⟨_, rfl, rfl⟩ (.lenS rfl tsl61) ?_
            refine VO.gy rfl ⟨_, rfl, rfl⟩ (.eql rfl rfl) ?_
            refine VO.y rfl (.pT rfl rfl) ?_
            refine VO.y rfl (.mv rfl) ?_
            refine VO.dec (t := 42) rfl (fun hc18 => ?_) (fun hc18 => ?_)
            · -- TTTTTT
              refine VO.gy rfl ⟨_, rfl, rfl⟩ (.ldA 112 rfl tk72 rfl (cellsAt_one rfl rfl)) ?_
              refine VO.gy rfl ⟨_, rfl, rfl⟩ (.bst (cs := [Value.int .i64 (1), Value.int .i64 (1)]) rfl tst90 tz90 rfl) ?_
              refine VO.gy rfl ⟨_, rfl, rfl⟩ (.bst (cs := [Value.int .i64 (3), Value.int .i64 (6)]) rfl tst90 tz90 rfl) ?_
              refine VO.gbsl (cs := [Value.int .i64 (1), Value.int .i64 (1), Value.int .i64 (3), Value.int .i64 (6)]) 120 rfl ⟨_, rfl, rfl⟩ rfl tsl70 tz90 rfl rfl (fun g19 => ?_)
              refine VO.gy rfl ⟨_, rfl, rfl⟩ (.bst (cs := [Value.int .i64 (1), Value.int .i64 (3), Value.int .u8 (1), Value.int .i64 (6), Value.slice (some ⟨g19, 0, none⟩) (2) (2), Value.int .i64 (0), Value.int .i64 (0), Value.slice none (0) (0)]) rfl tst72 tz72 rfl) ?_
              have ho22 : OwnL TStart (mone g19 (.cells [Value.int .i64 (1), Value.int .i64 (1), Value.int .i64 (3), Value.int .i64 (6)].toArray 90 (0, 0))) mnil (Value.slice (some ⟨g19, 0, none⟩) (2) (2)) [(1, 1), (3, 6)] := OwnL.lit 2 (All2c.cons (c1 := [Value.int .i64 (1), Value.int .i64 (1)]) (mk_Start (m := _) 1 1 (by simp only [inK]; (first | omega | (simp only [List.length_append, List.length_nil, List.length_cons, List.length_take, List.length_drop] at *; omega) | (have : exC.length = 6 := rfl; omega) | decide)) (by simp only [inK]; (first | omega | (simp only [List.length_append, List.length_nil, List.length_cons, List.length_take, List.length_drop] at *; omega) | (have : exC.length = 6 := rfl; omega) | decide))) (All2c.cons (c1 := [Value.int .i64 (3), Value.int .i64 (6)]) (mk_Start (m := _) 3 6 (by simp only [inK]; (first | omega | (simp only [List.length_append, List.length_nil, List.length_cons, List.length_take, List.length_drop] at *; omega) | (have : exC.length = 6 := rfl; omega) | decide)) (by simp only [inK]; (first | omega | (simp only [List.length_append, List.length_nil, List.length_cons, List.length_take, List.length_drop] at *; omega) | (have : exC.length = 6 := rfl; omega) | decide))) All2c.nil)) rfl rfl
              refine VO.gcallN 121 rfl ⟨_, rfl, rfl⟩ fnOk71 rfl (fun W hW => SameMessage_ok W (mk_Message (m := wm W) (((shipHello 3 1 exC).1).1) (((shipHello 3 1 exC).1).2.1) (((shipHello 3 1 exC).1).2.2.1) (((shipHello 3 1 exC).1).2.2.2.1) (((shipHello 3 1 exC).1).2.2.2.2.1) (((shipHello 3 1 exC).1).2.2.2.2.2.1) (((shipHello 3 1 exC).1).2.2.2.2.2.2.1) (((shipHello 3 1 exC).1).2.2.2.2.2.2.2) (by simp only [inK]; (first | omega | (simp only [List.length_append, List.length_nil, List.length_cons, List.length_take, List.length_drop] at *; omega) | (have : exC.length = 6 := rfl; omega) | decide)) (by simp only [inK]; (first | omega | (simp only [List.length_append, List.length_nil, List.length_cons, List.length_take, List.length_drop] at *; omega) | (have : exC.length = 6 := rfl; omega) | decide)) (by simp only [inK]; (first | omega | (simp only [List.length_append, List.length_nil, List.length_cons, List.length_take, List.length_drop] at *; omega) | (have : exC.length = 6 := rfl; omega) | decide)) (by simp only [inK]; (first | omega | (simp only [List.length_append, List.length_nil, List.length_cons, List.length_take, List.length_drop] at *; omega) | (have : exC.length = 6 := rfl; omega) | decide)) (OwnL.rd (Ow.ownl q8_0_4 rfl mnil) (hW.at (i := 109) rfl) (mle_nil _)) (by simp only [inK]; (first | omega | (simp only [List.length_append, List.length_nil, List.length_cons, List.length_take, List.length_drop] at *; omega) | (have : exC.length = 6 := rfl; omega) | decide)) (by simp only [inK]; (first | omega | (simp only [List.length_append, List.length_nil, List.length_cons, List.length_take, List.length_drop] at *; omega) | (have : exC.length = 6 := rfl; omega) | decide)) (Ow.rd q8_0_7 (hW.at (i := 110) rfl))) (mk_Message (m := wm W) 1 3 1 6 ([(1, 1), (3, 6)]) 0 0 ([]) (by simp only [inK]; (first | omega | (simp only [List.length_append, List.length_nil, List.length_cons, List.length_take, List.length_drop] at *; omega) | (have : exC.length = 6 := rfl; omega) | decide)) (by simp only [inK]; (first | omega | (simp only [List.length_append, List.length_nil, List.length_cons, List.length_take, List.length_drop] at *; omega) | (have : exC.length = 6 := rfl; omega) | decide)) (by simp only [inK]; (first | omega | (simp only [List.length_append, List.length_nil, List.length_cons, List.length_take, List.length_drop] at *; omega) | (have : exC.length = 6 := rfl; omega) | decide)) (by simp only [inK]; (first | omega | (simp only [List.length_append, List.length_nil, List.length_cons, List.length_take, List.length_drop] at *; omega) | (have : exC.length = 6 := rfl; omega) | decide)) (OwnL.rd ho22 (hW.at (i := 120) rfl) (mle_nil _)) (by simp only [inK]; (first | omega | (simp only [List.length_append, List.length_nil, List.length_cons, List.length_take, List.length_drop] at *; omega) | (have : exC.length = 6 := rfl; omega) | decide)) (by simp only [inK]; (first | omega | (simp only [List.length_append, List.length_nil, List.length_cons, List.length_take, List.length_drop] at *; omega) | (have : exC.length = 6 := rfl; omega) | decide)) (Rd.nil _ _ none 0 (Nat.zero_le _)))) (fun v21 m21 hv21 => ?_)
              subst hv21
              refine VO.y rfl (.pT rfl rfl) ?_
              refine VO.y rfl (.as rfl) ?_
              refine VO.esub [(0, _), (1, _), (2, _), (3, _), (4, _)] ⟨rfl, rfl, rfl, rfl, rfl, trivial⟩ (VO.nil ?_)
              refine VC.ret ?_
              refine ⟨_, _, res_run (rs := [.tmp 0]) rfl (.tmp rfl .nil), fun W_ hI => out_of (l := []) hI [] rfl rfl (mle_refl _) (fun hS_ => ?_)⟩
              dsimp only [packV]
              all_goals (first | rfl | (exact congrArg Value.bool (decide_eq_true (by first | rfl | decide))))
            · -- TTTTTF
              exact absurd (by first | rfl | decide) hc18
          · -- TTTTF
            exact absurd (by first | rfl | decide) hc17
        · -- TTTF
          exact absurd (by first | rfl | decide) hc16
      · -- TTF
        exact absurd (by first | rfl | decide) hc15
    · -- TF
      exact absurd (by first | rfl | decide) hc14
  · -- F
    exact absurd (by first | rfl | decide) hc13
set_option maxHeartbeats 1000000 in
theorem shipNames_ok (W : World) : CallR Try.prog 15 [] W (mnil) (fun v m' => v = .bool true) := by
  refine CallR.ofA (n := 120) Try.func15 rfl rfl rfl ?_
  refine VC.rs ?_
  refine VO.y rfl (.as rfl) ?_
  refine VO.esub [(0, _)] ⟨rfl, trivial⟩ (VO.nil ?_)
  refine VC.rs ?_
  refine VO.y rfl (.as rfl) ?_
  refine VO.esub [(0, _), (1, _)] ⟨rfl, rfl, trivial⟩ (VO.nil ?_)
  refine VC.rs ?_
  refine VO.callN 101 rfl fnOk66 rfl (fun W hW => example17_ok W ) (fun v1 m1 hv1 => ?_)
  obtain ⟨s1_0, rfl, f1_0⟩ := hv1
  obtain ⟨A1_0, c1_0, eq1_0, l1_0, k1_0⟩ := f1_0.slice
  subst eq1_0
  simp only [maxLen] at k1_0
  refine VO.callN 102 rfl fnOk65 rfl (fun W hW => next_ok W 3 (by simp only [inK]; (first | omega | (simp only [List.length_append, List.length_nil, List.length_cons, List.length_take, List.length_drop] at *; omega) | (have : exC.length = 6 := rfl; omega) | decide)) (Ow.rd f1_0 (hW.at (i := 101) rfl)) 0 (by simp only [inK]; (first | omega | (simp only [List.length_append, List.length_nil, List.length_cons, List.length_take, List.length_drop] at *; omega) | (have : exC.length = 6 := rfl; omega) | decide))) (fun v2 m2 hv2 => ?_)
  obtain ⟨s2_0, rfl, f2_0⟩ := hv2
  obtain ⟨q2_0_A4, q2_0_c4, q2_0_A7, q2_0_c7, q2_0_n4, q2_0_n7, rfl, q2_0_S, q2_0_0, q2_0_1, q2_0_2, q2_0_3, q2_0_4, q2_0_5, q2_0_6, q2_0_7⟩ := openO_Message (x0 := ((shipNext 3 exC 0).1).1) (x1 := ((shipNext 3 exC 0).1).2.1) (x2 := ((shipNext 3 exC 0).1).2.2.1) (x3 := ((shipNext 3 exC 0).1).2.2.2.1) (x4 := ((shipNext 3 exC 0).1).2.2.2.2.1) (x5 := ((shipNext 3 exC 0).1).2.2.2.2.2.1) (x6 := ((shipNext 3 exC 0).1).2.2.2.2.2.2.1) (x7 := ((shipNext 3 exC 0).1).2.2.2.2.2.2.2) f2_0
  simp only [inK] at q2_0_0
  simp only [inK] at q2_0_1
  simp only [inK] at q2_0_2
  simp only [inK] at q2_0_3
  have q2_0_r4 := Rd.room (q2_0_4.rd (mle_refl _))
  simp only [inK] at q2_0_5
  simp only [inK] at q2_0_6
  have q2_0_r7 := Rd.room (q2_0_7.rd (mle_refl _))
  refine VO.inv _ (fun _ h => h.parts (i := 102) rfl q2_0_S [103, 104]) ?_
  refine VO.y rfl (.mv rfl) ?_
  refine VO.y rfl (.ext rfl rfl) ?_
  refine VO.y rfl (.ext rfl rfl) ?_
  refine VO.alloc 106 rfl tz72 (fun g5 => ?_)
  refine VO.store (k := 8) (c' := [Value.int .i64 (((shipNext 3 exC 0).1).1), Value.int .i64 (((shipNext 3 exC 0).1).2.1), Value.int .u8 (((shipNext 3 exC 0).1).2.2.1), Value.int .i64 (((shipNext 3 exC 0).1).2.2.2.1), Value.slice q2_0_A4 ((((shipNext 3 exC 0).1).2.2.2.2.1).length) (q2_0_c4), Value.int .i64 (((shipNext 3 exC 0).1).2.2.2.2.2.1), Value.int .i64 (((shipNext 3 exC 0).1).2.2.2.2.2.2.1), Value.slice q2_0_A7 ((((shipNext 3 exC 0).1).2.2.2.2.2.2.2).length) (q2_0_c7)]) 106 rfl rfl (.inl tk72) rfl rfl rfl rfl rfl ?_
  refine VO.y rfl (.as rfl) ?_
  refine VO.esub [(0, _), (1, _), (2, _), (3, _)] ⟨rfl, rfl, rfl, rfl, trivial⟩ (VO.nil ?_)
  refine VC.rs ?_
  refine VO.callN 107 rfl fnOk66 rfl (fun W hW => example17_ok W ) (fun v7 m7 hv7 => ?_)
  obtain ⟨s7_0, rfl, f7_0⟩ := hv7
  obtain ⟨A7_0, c7_0, eq7_0, l7_0, k7_0⟩ := f7_0.slice
  subst eq7_0
  simp only [maxLen] at k7_0
  refine VO.callN 108 rfl fnOk65 rfl (fun W hW => next_ok W 3 (by simp only [inK]; (first | omega | (simp only [List.length_append, List.length_nil, List.length_cons, List.length_take, List.length_drop] at *; omega) | (have : exC.length = 6 := rfl; omega) | decide)) (Ow.rd f7_0 (hW.at (i := 107) rfl)) 6 (by simp only [inK]; (first | omega | (simp only [List.length_append, List.length_nil, List.length_cons, List.length_take, List.length_drop] at *; omega) | (have : exC.length = 6 := rfl; omega) | decide))) (fun v8 m8 hv8 => ?_)
  obtain ⟨s8_0, rfl, f8_0⟩ := hv8
  obtain ⟨q8_0_A4, q8_0_c4, q8_0_A7, q8_0_c7, q8_0_n4, q8_0_n7, rfl, q8_0_S, q8_0_0, q8_0_1, q8_0_2, q8_0_3, q8_0_4, q8_0_5, q8_0_6, q8_0_7⟩ := openO_Message (x0 := ((shipNext 3 exC 6).1).1) (x1 := ((shipNext 3 exC 6).1).2.1) (x2 := ((shipNext 3 exC 6).1).2.2.1) (x3 := ((shipNext 3 exC 6).1).2.2.2.1) (x4 := ((shipNext 3 exC 6).1).2.2.2.2.1) (x5 := ((shipNext 3 exC 6).1).2.2.2.2.2.1) (x6 := ((shipNext 3 exC 6).1).2.2.2.2.2.2.1) (x7 := ((shipNext 3 exC 6).1).2.2.2.2.2.2.2) f8_0
  simp only [inK] at q8_0_0
  simp only [inK] at q8_0_1
  simp only [inK] at q8_0_2
  simp only [inK] at q8_0_3
  have q8_0_r4 := Rd.room (q8_0_4.rd (mle_refl _))
  simp only [inK] at q8_0_5
  simp only [inK] at q8_0_6
  have q8_0_r7 := Rd.room (q8_0_7.rd (mle_refl _))
  refine VO.inv _ (fun _ h => h.parts (i := 108) rfl q8_0_S [109, 110]) ?_
  refine VO.y rfl (.mv rfl) ?_
  refine VO.y rfl (.ext rfl rfl) ?_
  refine VO.y rfl (.ext rfl rfl) ?_
  refine VO.alloc 112 rfl tz72 (fun g11 => ?_)
  refine VO.store (k := 8) (c' := [Value.int .i64 (((shipNext 3 exC 6).1).1), Value.int .i64 (((shipNext 3 exC 6).1).2.1), Value.int .u8 (((shipNext 3 exC 6).1).2.2.1), Value.int .i64 (((shipNext 3 exC 6).1).2.2.2.1), Value.slice q8_0_A4 ((((shipNext 3 exC 6).1).2.2.2.2.1).length) (q8_0_c4), Value.int .i64 (((shipNext 3 exC 6).1).2.2.2.2.2.1), Value.int .i64 (((shipNext 3 exC 6).1).2.2.2.2.2.2.1), Value.slice q8_0_A7 ((((shipNext 3 exC 6).1).2.2.2.2.2.2.2).length) (q8_0_c7)]) 112 rfl rfl (.inl tk72) rfl rfl rfl rfl rfl ?_
  refine VO.y rfl (.as rfl) ?_
  refine VO.esub [(0, _), (1, _), (2, _), (3, _), (4, _), (5, _)] ⟨rfl, rfl, rfl, rfl, rfl, rfl, trivial⟩ (VO.nil ?_)
  refine VC.rs ?_
  refine VO.callN 113 rfl fnOk66 rfl (fun W hW => example17_ok W ) (fun v13 m13 hv13 => ?_)
  obtain ⟨s13_0, rfl, f13_0⟩ := hv13
  obtain ⟨A13_0, c13_0, eq13_0, l13_0, k13_0⟩ := f13_0.slice
  subst eq13_0
  simp only [maxLen] at k13_0
  refine VO.callN 114 rfl fnOk65 rfl (fun W hW => next_ok W 2 (by simp only [inK]; (first | omega | (simp only [List.length_append, List.length_nil, List.length_cons, List.length_take, List.length_drop] at *; omega) | (have : exC.length = 6 := rfl; omega) | decide)) (Ow.rd f13_0 (hW.at (i := 113) rfl)) 0 (by simp only [inK]; (first | omega | (simp only [List.length_append, List.length_nil, List.length_cons, List.length_take, List.length_drop] at *; omega) | (have : exC.length = 6 := rfl; omega) | decide))) (fun v14 m14 hv14 => ?_)
  obtain ⟨s14_0, rfl, f14_0⟩ := hv14
  obtain ⟨q14_0_A4, q14_0_c4, q14_0_A7, q14_0_c7, q14_0_n4, q14_0_n7, rfl, q14_0_S, q14_0_0, q14_0_1, q14_0_2, q14_0_3, q14_0_4, q14_0_5, q14_0_6, q14_0_7⟩ := openO_Message (x0 := ((shipNext 2 exC 0).1).1) (x1 := ((shipNext 2 exC 0).1).2.1) (x2 := ((shipNext 2 exC 0).1).2.2.1) (x3 := ((shipNext 2 exC 0).1).2.2.2.1) (x4 := ((shipNext 2 exC 0).1).2.2.2.2.1) (x5 := ((shipNext 2 exC 0).1).2.2.2.2.2.1) (x6 := ((shipNext 2 exC 0).1).2.2.2.2.2.2.1) (x7 := ((shipNext 2 exC 0).1).2.2.2.2.2.2.2) f14_0
  simp only [inK] at q14_0_0
  simp only [inK] at q14_0_1
  simp only [inK] at q14_0_2
  simp only [inK] at q14_0_3
  have q14_0_r4 := Rd.room (q14_0_4.rd (mle_refl _))
  simp only [inK] at q14_0_5
  simp only [inK] at q14_0_6
  have q14_0_r7 := Rd.room (q14_0_7.rd (mle_refl _))
  refine VO.inv _ (fun _ h => h.parts (i := 114) rfl q14_0_S [115, 116]) ?_
  refine VO.y rfl (.mv rfl) ?_
  refine VO.y rfl (.ext rfl rfl) ?_
  refine VO.y rfl (.ext rfl rfl) ?_
  refine VO.alloc 118 rfl tz72 (fun g17 => ?_)
  refine VO.store (k := 8) (c' := [Value.int .i64 (((shipNext 2 exC 0).1).1), Value.int .i64 (((shipNext 2 exC 0).1).2.1), Value.int .u8 (((shipNext 2 exC 0).1).2.2.1), Value.int .i64 (((shipNext 2 exC 0).1).2.2.2.1), Value.slice q14_0_A4 ((((shipNext 2 exC 0).1).2.2.2.2.1).length) (q14_0_c4), Value.int .i64 (((shipNext 2 exC 0).1).2.2.2.2.2.1), Value.int .i64 (((shipNext 2 exC 0).1).2.2.2.2.2.2.1), Value.slice q14_0_A7 ((((shipNext 2 exC 0).1).2.2.2.2.2.2.2).length) (q14_0_c7)]) 118 rfl rfl (.inl tk72) rfl rfl rfl rfl rfl ?_
  refine VO.y rfl (.as rfl) ?_
  refine VO.inv [(112, _), (109, _), (110, _), (106, _), (103, _), (104, _), (0, _)] (fun _ h => h.sub [112, 109, 110, 106, 103, 104, 0]) ?_
  refine VO.esub [(0, _), (1, _), (2, _), (3, _), (4, _), (5, _), (7, _)] ⟨rfl, rfl, rfl, rfl, rfl, rfl, rfl, trivial⟩ (VO.nil ?_)
  refine VC.rs ?_
  refine VO.callN 119 rfl fnOk66 rfl (fun W hW => example17_ok W ) (fun v19 m19 hv19 => ?_)
  obtain ⟨s19_0, rfl, f19_0⟩ := hv19
  obtain ⟨A19_0, c19_0, eq19_0, l19_0, k19_0⟩ := f19_0.slice
  subst eq19_0
  simp only [maxLen] at k19_0
  refine VO.callN 120 rfl fnOk65 rfl (fun W hW => next_ok W 3 (by simp only [inK]; (first | omega | (simp only [List.length_append, List.length_nil, List.length_cons, List.length_take, List.length_drop] at *; omega) | (have : exC.length = 6 := rfl; omega) | decide)) (Ow.rd f19_0 (hW.at (i := 119) rfl)) 7 (by simp only [inK]; (first | omega | (simp only [List.length_append, List.length_nil, List.length_cons, List.length_take, List.length_drop] at *; omega) | (have : exC.length = 6 := rfl; omega) | decide))) (fun v20 m20 hv20 => ?_)
  obtain ⟨s20_0, rfl, f20_0⟩ := hv20
  obtain ⟨q20_0_A4, q20_0_c4, q20_0_A7, q20_0_c7, q20_0_n4, q20_0_n7, rfl, q20_0_S, q20_0_0, q20_0_1, q20_0_2, q20_0_3, q20_0_4, q20_0_5, q20_0_6, q20_0_7⟩ := openO_Message (x0 := ((shipNext 3 exC 7).1).1) (x1 := ((shipNext 3 exC 7).1).2.1) (x2 := ((shipNext 3 exC 7).1).2.2.1) (x3 := ((shipNext 3 exC 7).1).2.2.2.1) (x4 := ((shipNext 3 exC 7).1).2.2.2.2.1) (x5 := ((shipNext 3 exC 7).1).2.2.2.2.2.1) (x6 := ((shipNext 3 exC 7).1).2.2.2.2.2.2.1) (x7 := ((shipNext 3 exC 7).1).2.2.2.2.2.2.2) f20_0
  simp only [inK] at q20_0_0
  simp only [inK] at q20_0_1
  simp only [inK] at q20_0_2
  simp only [inK] at q20_0_3
  have q20_0_r4 := Rd.room (q20_0_4.rd (mle_refl _))
  simp only [inK] at q20_0_5
  simp only [inK] at q20_0_6
  have q20_0_r7 := Rd.room (q20_0_7.rd (mle_refl _))
  refine VO.inv _ (fun _ h => h.parts (i := 120) rfl q20_0_S [121, 122]) ?_
  refine VO.y rfl (.mv rfl) ?_
  refine VO.y rfl (.ext rfl rfl) ?_
  refine VO.y rfl (.ext rfl rfl) ?_
  refine VO.alloc 124 rfl tz72 (fun g23 => ?_)
  refine VO.store (k := 8) (c' := [Value.int .i64 (((shipNext 3 exC 7).1).1), Value.int .i64 (((shipNext 3 exC 7).1).2.1), Value.int .u8 (((shipNext 3 exC 7).1).2.2.1), Value.int .i64 (((shipNext 3 exC 7).1).2.2.2.1), Value.slice q20_0_A4 ((((shipNext 3 exC 7).1).2.2.2.2.1).length) (q20_0_c4), Value.int .i64 (((shipNext 3 exC 7).1).2.2.2.2.2.1), Value.int .i64 (((shipNext 3 exC 7).1).2.2.2.2.2.2.1), Value.slice q20_0_A7 ((((shipNext 3 exC 7).1).2.2.2.2.2.2.2).length) (q20_0_c7)]) 124 rfl rfl (.inl tk72) rfl rfl rfl rfl rfl ?_
  refine VO.y rfl (.as rfl) ?_
  refine VO.esub [(0, _), (1, _), (2, _), (3, _), (4, _), (5, _), (7, _), (9, _)] ⟨rfl, rfl, rfl, rfl, rfl, rfl, rfl, rfl, trivial⟩ (VO.nil ?_)
  refine VC.rs ?_
  refine VO.callN 125 rfl fnOk67 rfl (fun W hW => hello_ok W 3 (by simp only [inK]; (first | omega | (simp only [List.length_append, List.length_nil, List.length_cons, List.length_take, List.length_drop] at *; omega) | (have : exC.length = 6 := rfl; omega) | decide)) 0 (by simp only [inK]; (first | omega | (simp only [List.length_append, List.length_nil, List.length_cons, List.length_take, List.length_drop] at *; omega) | (have : exC.length = 6 := rfl; omega) | decide)) (Rd.nil _ _ none 0 (Nat.zero_le _)) (by first | omega | (simp only [List.length_append, List.length_nil, List.length_cons, List.length_take, List.length_drop] at *; omega) | (have : exC.length = 6 := rfl; omega) | decide)) (fun v25 m25 hv25 => ?_)
  obtain ⟨s25_0, rfl, f25_0⟩ := hv25
  obtain ⟨q25_0_A4, q25_0_c4, q25_0_A7, q25_0_c7, q25_0_n4, q25_0_n7, rfl, q25_0_S, q25_0_0, q25_0_1, q25_0_2, q25_0_3, q25_0_4, q25_0_5, q25_0_6, q25_0_7⟩ := openO_Message (x0 := ((shipHello 3 0 ([])).1).1) (x1 := ((shipHello 3 0 ([])).1).2.1) (x2 := ((shipHello 3 0 ([])).1).2.2.1) (x3 := ((shipHello 3 0 ([])).1).2.2.2.1) (x4 := ((shipHello 3 0 ([])).1).2.2.2.2.1) (x5 := ((shipHello 3 0 ([])).1).2.2.2.2.2.1) (x6 := ((shipHello 3 0 ([])).1).2.2.2.2.2.2.1) (x7 := ((shipHello 3 0 ([])).1).2.2.2.2.2.2.2) f25_0
  simp only [inK] at q25_0_0
  simp only [inK] at q25_0_1
  simp only [inK] at q25_0_2
  simp only [inK] at q25_0_3
  have q25_0_r4 := Rd.room (q25_0_4.rd (mle_refl _))
  simp only [inK] at q25_0_5
  simp only [inK] at q25_0_6
  have q25_0_r7 := Rd.room (q25_0_7.rd (mle_refl _))
  refine VO.inv _ (fun _ h => h.parts (i := 125) rfl q25_0_S [126, 127]) ?_
  refine VO.y rfl (.mv rfl) ?_
  refine VO.y rfl (.ext rfl rfl) ?_
  refine VO.y rfl (.ext rfl rfl) ?_
  refine VO.alloc 129 rfl tz72 (fun g28 => ?_)
  refine VO.store (k := 8) (c' := [Value.int .i64 (((shipHello 3 0 ([])).1).1), Value.int .i64 (((shipHello 3 0 ([])).1).2.1), Value.int .u8 (((shipHello 3 0 ([])).1).2.2.1), Value.int .i64 (((shipHello 3 0 ([])).1).2.2.2.1), Value.slice q25_0_A4 ((((shipHello 3 0 ([])).1).2.2.2.2.1).length) (q25_0_c4), Value.int .i64 (((shipHello 3 0 ([])).1).2.2.2.2.2.1), Value.int .i64 (((shipHello 3 0 ([])).1).2.2.2.2.2.2.1), Value.slice q25_0_A7 ((((shipHello 3 0 ([])).1).2.2.2.2.2.2.2).length) (q25_0_c7)]) 129 rfl rfl (.inl tk72) rfl rfl rfl rfl rfl ?_
  refine VO.y rfl (.as rfl) ?_
  refine VO.inv [(112, _), (109, _), (110, _), (106, _), (103, _), (104, _), (0, _)] (fun _ h => h.sub [112, 109, 110, 106, 103, 104, 0]) ?_
  refine VO.esub [(0, _), (1, _), (2, _), (3, _), (4, _), (5, _), (7, _), (9, _), (11, _)] ⟨rfl, rfl, rfl, rfl, rfl, rfl, rfl, rfl, rfl, trivial⟩ (VO.nil ?_)
  refine VC.rs ?_
  refine VO.callN 130 rfl fnOk68 rfl (fun W hW => ack_ok W 2 (by simp only [inK]; (first | omega | (simp only [List.length_append, List.length_nil, List.length_cons, List.length_take, List.length_drop] at *; omega) | (have : exC.length = 6 := rfl; omega) | decide)) 7 (by simp only [inK]; (first | omega | (simp only [List.length_append, List.length_nil, List.length_cons, List.length_take, List.length_drop] at *; omega) | (have : exC.length = 6 := rfl; omega) | decide))) (fun v30 m30 hv30 => ?_)
  obtain ⟨s30_0, rfl, f30_0⟩ := hv30
  obtain ⟨q30_0_A4, q30_0_c4, q30_0_A7, q30_0_c7, q30_0_n4, q30_0_n7, rfl, q30_0_S, q30_0_0, q30_0_1, q30_0_2, q30_0_3, q30_0_4, q30_0_5, q30_0_6, q30_0_7⟩ := openO_Message (x0 := ((shipAck 2 7).1).1) (x1 := ((shipAck 2 7).1).2.1) (x2 := ((shipAck 2 7).1).2.2.1) (x3 := ((shipAck 2 7).1).2.2.2.1) (x4 := ((shipAck 2 7).1).2.2.2.2.1) (x5 := ((shipAck 2 7).1).2.2.2.2.2.1) (x6 := ((shipAck 2 7).1).2.2.2.2.2.2.1) (x7 := ((shipAck 2 7).1).2.2.2.2.2.2.2) f30_0
  simp only [inK] at q30_0_0
  simp only [inK] at q30_0_1
  simp only [inK] at q30_0_2
  simp only [inK] at q30_0_3
  have q30_0_r4 := Rd.room (q30_0_4.rd (mle_refl _))
  simp only [inK] at q30_0_5
  simp only [inK] at q30_0_6
  have q30_0_r7 := Rd.room (q30_0_7.rd (mle_refl _))
  refine VO.inv _ (fun _ h => h.parts (i := 130) rfl q30_0_S [131, 132]) ?_
  refine VO.y rfl (.mv rfl) ?_
  refine VO.y rfl (.ext rfl rfl) ?_
  refine VO.y rfl (.ext rfl rfl) ?_
  refine VO.alloc 134 rfl tz72 (fun g33 => ?_)
  refine VO.store (k := 8) (c' := [Value.int .i64 (((shipAck 2 7).1).1), Value.int .i64 (((shipAck 2 7).1).2.1), Value.int .u8 (((shipAck 2 7).1).2.2.1), Value.int .i64 (((shipAck 2 7).1).2.2.2.1), Value.slice q30_0_A4 ((((shipAck 2 7).1).2.2.2.2.1).length) (q30_0_c4), Value.int .i64 (((shipAck 2 7).1).2.2.2.2.2.1), Value.int .i64 (((shipAck 2 7).1).2.2.2.2.2.2.1), Value.slice q30_0_A7 ((((shipAck 2 7).1).2.2.2.2.2.2.2).length) (q30_0_c7)]) 134 rfl rfl (.inl tk72) rfl rfl rfl rfl rfl ?_
  refine VO.y rfl (.as rfl) ?_
  refine VO.esub [(0, _), (1, _), (2, _), (3, _), (4, _), (5, _), (7, _), (9, _), (11, _), (12, _), (13, _)] ⟨rfl, rfl, rfl, rfl, rfl, rfl, rfl, rfl, rfl, rfl, rfl, trivial⟩ (VO.nil ?_)
  refine VC.rs ?_
  refine VO.callN 135 rfl fnOk68 rfl (fun W hW => ack_ok W 0 (by simp only [inK]; (first | omega | (simp only [List.length_append, List.length_nil, List.length_cons, List.length_take, List.length_drop] at *; omega) | (have : exC.length = 6 := rfl; omega) | decide)) 7 (by simp only [inK]; (first | omega | (simp only [List.length_append, List.length_nil, List.length_cons, List.length_take, List.length_drop] at *; omega) | (have : exC.length = 6 := rfl; omega) | decide))) (fun v35 m35 hv35 => ?_)
  obtain ⟨s35_0, rfl, f35_0⟩ := hv35
  obtain ⟨q35_0_A4, q35_0_c4, q35_0_A7, q35_0_c7, q35_0_n4, q35_0_n7, rfl, q35_0_S, q35_0_0, q35_0_1, q35_0_2, q35_0_3, q35_0_4, q35_0_5, q35_0_6, q35_0_7⟩ := openO_Message (x0 := ((shipAck 0 7).1).1) (x1 := ((shipAck 0 7).1).2.1) (x2 := ((shipAck 0 7).1).2.2.1) (x3 := ((shipAck 0 7).1).2.2.2.1) (x4 := ((shipAck 0 7).1).2.2.2.2.1) (x5 := ((shipAck 0 7).1).2.2.2.2.2.1) (x6 := ((shipAck 0 7).1).2.2.2.2.2.2.1) (x7 := ((shipAck 0 7).1).2.2.2.2.2.2.2) f35_0
  simp only [inK] at q35_0_0
  simp only [inK] at q35_0_1
  simp only [inK] at q35_0_2
  simp only [inK] at q35_0_3
  have q35_0_r4 := Rd.room (q35_0_4.rd (mle_refl _))
  simp only [inK] at q35_0_5
  simp only [inK] at q35_0_6
  have q35_0_r7 := Rd.room (q35_0_7.rd (mle_refl _))
  refine VO.inv _ (fun _ h => h.parts (i := 135) rfl q35_0_S [136, 137]) ?_
  refine VO.y rfl (.mv rfl) ?_
  refine VO.y rfl (.ext rfl rfl) ?_
  refine VO.y rfl (.ext rfl rfl) ?_
  refine VO.alloc 139 rfl tz72 (fun g38 => ?_)
  refine VO.store (k := 8) (c' := [Value.int .i64 (((shipAck 0 7).1).1), Value.int .i64 (((shipAck 0 7).1).2.1), Value.int .u8 (((shipAck 0 7).1).2.2.1), Value.int .i64 (((shipAck 0 7).1).2.2.2.1), Value.slice q35_0_A4 ((((shipAck 0 7).1).2.2.2.2.1).length) (q35_0_c4), Value.int .i64 (((shipAck 0 7).1).2.2.2.2.2.1), Value.int .i64 (((shipAck 0 7).1).2.2.2.2.2.2.1), Value.slice q35_0_A7 ((((shipAck 0 7).1).2.2.2.2.2.2.2).length) (q35_0_c7)]) 139 rfl rfl (.inl tk72) rfl rfl rfl rfl rfl ?_
  refine VO.y rfl (.as rfl) ?_
  refine VO.esub [(0, _), (1, _), (2, _), (3, _), (4, _), (5, _), (7, _), (9, _), (11, _), (12, _), (13, _), (15, _)] ⟨rfl, rfl, rfl, rfl, rfl, rfl, rfl, rfl, rfl, rfl, rfl, rfl, trivial⟩ (VO.nil ?_)
  refine VC.seq ?_
  refine VC.regD _ 17 [(0, true), (1, true), (2, true), (3, true), (4, true), (5, true), (6, true), (7, true), (8, true), (9, true), (10, true), (11, true), (12, true), (13, true), (14, true), (15, false), (16, true)] follows (by kernel_rfl) (fun _ h => h.sub [139, 136, 137, 134, 131, 132, 112, 109, 110, 106, 103, 104, 0]) ?_
  refine VD.y rfl rfl (.inl rfl) (.mv rfl) ?_
  refine VD.y rfl rfl (.inl rfl) (.eql rfl rfl) ?_
  refine VD.y rfl rfl (.inl rfl) (.mv rfl) ?_
  refine VD.dec (s := 51) rfl (fun hc40 => ?_) (fun hc40 => ?_)
  · -- T
    refine VD.y rfl rfl (.inr ⟨_, _, rfl, _, rfl, rfl⟩) (.fa rfl tst72 rfl) ?_
    refine VD.y rfl rfl (.inr ⟨_, _, rfl, _, rfl, rfl⟩) (.ld1 106 rfl tk3 rfl (cellsAt_one rfl rfl)) ?_
    refine VD.y rfl rfl (.inr ⟨_, _, rfl, _, rfl, rfl⟩) (.eql rfl rfl) ?_
    refine VD.y rfl rfl (.inl rfl) (.pT rfl rfl) ?_
    refine VD.y rfl rfl (.inl rfl) (.mv rfl) ?_
    refine VD.dec (s := 56) rfl (fun hc41 => ?_) (fun hc41 => ?_)
    · -- TT
      refine VD.y rfl rfl (.inr ⟨_, _, rfl, _, rfl, rfl⟩) (.fa rfl tst72 rfl) ?_
      refine VD.y rfl rfl (.inr ⟨_, _, rfl, _, rfl, rfl⟩) (.ld1 106 rfl tk3 rfl (cellsAt_one rfl rfl)) ?_
      refine VD.y rfl rfl (.inr ⟨_, _, rfl, _, rfl, rfl⟩) (.eql rfl rfl) ?_
      refine VD.y rfl rfl (.inl rfl) (.pT rfl rfl) ?_
      refine VD.y rfl rfl (.inl rfl) (.mv rfl) ?_
      refine VD.dec (s := 61) rfl (fun hc42 => ?_) (fun hc42 => ?_)
      · -- TTT
        refine VD.y rfl rfl (.inr ⟨_, _, rfl, _, rfl, rfl⟩) (.fa rfl tst72 rfl) ?_
        refine VD.y rfl rfl (.inr ⟨_, _, rfl, _, rfl, rfl⟩) (.ld1 106 rfl tk61 rfl (cellsAt_one rfl rfl)) ?_
        refine VD.callN 143 rfl rfl (.inr ⟨_, _, rfl, _, rfl, rfl⟩) fnOk66 rfl (fun _ h => h.sub [139, 136, 137, 134, 131, 132, 112, 109, 110, 106, 103, 104, 0]) (fun W hW => example17_ok W ) (fun v43 m43 hv43 => ?_)
        obtain ⟨s43_0, rfl, f43_0⟩ := hv43
        obtain ⟨A43_0, c43_0, eq43_0, l43_0, k43_0⟩ := f43_0.slice
        subst eq43_0
        simp only [maxLen] at k43_0
        have hs44 := (Ow.rd f43_0 (mle_refl _)).pre (j := 4) (by first | omega | (simp only [List.length_append, List.length_nil, List.length_cons, List.length_take, List.length_drop] at *; omega) | (have : exC.length = 6 := rfl; omega) | decide)
        refine VD.y rfl rfl (.inr ⟨_, _, rfl, _, rfl, rfl⟩) (.slHI 4 rfl rfl tsl61 rfl (by first | omega | (simp only [List.length_append, List.length_nil, List.length_cons, List.length_take, List.length_drop] at *; omega) | (have : exC.length = 6 := rfl; omega) | decide)) ?_
        refine VD.nil rfl ?_ rfl
        refine VO.gcallN 145 rfl ⟨_, rfl, rfl⟩ fnOk69 rfl (fun W hW => SameCommits_ok W (Ow.rd q2_0_7 (hW.at (i := 104) rfl)) (Ow.rd (f43_0.pre (j := 4) (by first | omega | (simp only [List.length_append, List.length_nil, List.length_cons, List.length_take, List.length_drop] at *; omega) | (have : exC.length = 6 := rfl; omega) | decide)) (hW.at (i := 143) rfl))) (fun v45 m45 hv45 => ?_)
        subst hv45
        refine VO.y rfl (.pT rfl rfl) ?_
        refine VO.y rfl (.mv rfl) ?_
        refine VO.dec (t := 68) rfl (fun hc46 => ?_) (fun hc46 => ?_)
        · -- TTTT
          refine VO.gy rfl ⟨_, rfl, rfl⟩ (.mv rfl) ?_
          refine VO.gy rfl ⟨_, rfl, rfl⟩ (.eql rfl rfl) ?_
          refine VO.y rfl (.pT rfl rfl) ?_
          refine VO.y rfl (.mv rfl) ?_
          refine VO.dec (t := 72) rfl (fun hc47 => ?_) (fun hc47 => ?_)
          · -- TTTTT
            refine VO.gy rfl ⟨_, rfl, rfl⟩ (.fa rfl tst72 rfl) ?_
            refine VO.gy rfl ⟨_, rfl, rfl⟩ (.ld1 112 rfl tk3 rfl (cellsAt_one rfl rfl)) ?_
            refine VO.gy rfl ⟨_, rfl, rfl⟩ (.eql rfl rfl) ?_
            refine VO.y rfl (.pT rfl rfl) ?_
            refine VO.y rfl (.mv rfl) ?_
            refine VO.dec (t := 77) rfl (fun hc48 => ?_) (fun hc48 => ?_)
            · -- TTTTTT
              refine VO.gy rfl ⟨_, rfl, rfl⟩ (.fa rfl tst72 rfl) ?_
              refine VO.gy rfl ⟨_, rfl, rfl⟩ (.ld1 112 rfl tk3 rfl (cellsAt_one rfl rfl)) ?_
              refine VO.gy rfl ⟨_, rfl, rfl⟩ (.eql rfl rfl) ?_
              refine VO.y rfl (.pT rfl rfl) ?_
              refine VO.y rfl (.mv rfl) ?_
              refine VO.dec (t := 82) rfl (fun hc49 => ?_) (fun hc49 => ?_)
              · -- TTTTTTT
                refine VO.gy rfl ⟨_, rfl, rfl⟩ (.fa rfl tst72 rfl) ?_
                refine VO.gy rfl ⟨_, rfl, rfl⟩ (.ld1 112 rfl tk61 rfl (cellsAt_one rfl rfl)) ?_
                refine VO.gy rfl ⟨_, rfl, rfl⟩ (.lenS rfl tsl61) ?_
                refine VO.gy rfl ⟨_, rfl, rfl⟩ (.eql rfl rfl) ?_
                refine VO.y rfl (.pT rfl rfl) ?_
                refine VO.y rfl (.mv rfl) ?_
                refine VO.dec (t := 88) rfl (fun hc50 => ?_) (fun hc50 => ?_)
                · -- TTTTTTTT
                  refine VO.gy rfl ⟨_, rfl, rfl⟩ (.mv rfl) ?_
                  refine VO.gy rfl ⟨_, rfl, rfl⟩ (.eql rfl rfl) ?_
                  refine VO.y rfl (.pT rfl rfl) ?_
                  refine VO.y rfl (.mv rfl) ?_
                  refine VO.dec (t := 92) rfl (fun hc51 => ?_) (fun hc51 => ?_)
                  · -- TTTTTTTTT
                    refine VO.gy rfl ⟨_, rfl, rfl⟩ (.mv rfl) ?_
                    refine VO.gy rfl ⟨_, rfl, rfl⟩ (.eql rfl rfl) ?_
                    refine VO.y rfl (.pT rfl rfl) ?_
                    refine VO.y rfl (.as rfl) ?_
                    refine VO.esub [(0, _), (1, _), (2, _), (3, _), (4, _), (5, _), (7, _), (9, _), (11, _), (12, _), (13, _), (15, _), (16, _)] ⟨rfl, rfl, rfl, rfl, rfl, rfl, rfl, rfl, rfl, rfl, rfl, rfl, rfl, trivial⟩ (VO.nil ?_)
                    refine outN ?_
                    refine VC.rs ?_
                    refine VO.y rfl (.mv rfl) ?_
                    refine VO.y rfl (.mv rfl) ?_
                    refine VO.gcallN 152 rfl ⟨_, rfl, rfl⟩ fnOk70 rfl (fun W hW => lives17_ok W ) (fun v52 m52 hv52 => ?_)
                    subst hv52
                    refine VO.y rfl (.pT rfl rfl) ?_
                    refine VO.y rfl (.mv rfl) ?_
                    refine VO.gy rfl ⟨_, rfl, rfl⟩ (.mv rfl) ?_
                    refine VO.y rfl (.pT rfl rfl) ?_
                    refine VO.y rfl (.mv rfl) ?_
                    refine VO.dec (t := 103) rfl (fun hc53 => ?_) (fun hc53 => ?_)
                    · -- TTTTTTTTTT
                      refine VO.gy rfl ⟨_, rfl, rfl⟩ (.mv rfl) ?_
                      refine VO.gy rfl ⟨_, rfl, rfl⟩ (.eql rfl rfl) ?_
                      refine VO.y rfl (.pT rfl rfl) ?_
                      refine VO.y rfl (.mv rfl) ?_
                      refine VO.dec (t := 107) rfl (fun hc54 => ?_) (fun hc54 => ?_)
                      · -- TTTTTTTTTTT
                        refine VO.gy rfl ⟨_, rfl, rfl⟩ (.mv rfl) ?_
                        refine VO.gy rfl ⟨_, rfl, rfl⟩ (.eql rfl rfl) ?_
                        refine VO.y rfl (.pT rfl rfl) ?_
                        refine VO.y rfl (.mv rfl) ?_
                        refine VO.dec (t := 111) rfl (fun hc55 => ?_) (fun hc55 => ?_)
                        · -- TTTTTTTTTTTT
                          refine VO.gy rfl ⟨_, rfl, rfl⟩ (.ldA 134 rfl tk72 rfl (cellsAt_one rfl rfl)) ?_
                          refine VO.gy rfl ⟨_, rfl, rfl⟩ (.bst (cs := [Value.int .i64 (3), Value.int .i64 (2), Value.int .u8 (0), Value.int .i64 (7), Value.slice none (0) (0), Value.int .i64 (0), Value.int .i64 (0), Value.slice none (0) (0)]) rfl tst72 tz72 rfl) ?_
                          refine VO.gcallN 156 rfl ⟨_, rfl, rfl⟩ fnOk71 rfl (fun W hW => SameMessage_ok W (mk_Message (m := wm W) (((shipAck 2 7).1).1) (((shipAck 2 7).1).2.1) (((shipAck 2 7).1).2.2.1) (((shipAck 2 7).1).2.2.2.1) (((shipAck 2 7).1).2.2.2.2.1) (((shipAck 2 7).1).2.2.2.2.2.1) (((shipAck 2 7).1).2.2.2.2.2.2.1) (((shipAck 2 7).1).2.2.2.2.2.2.2) (by simp only [inK]; (first | omega | (simp only [List.length_append, List.length_nil, List.length_cons, List.length_take, List.length_drop] at *; omega) | (have : exC.length = 6 := rfl; omega) | decide)) (by simp only [inK]; (first | omega | (simp only [List.length_append, List.length_nil, List.length_cons, List.length_take, List.length_drop] at *; omega) | (have : exC.length = 6 := rfl; omega) | decide)) (by simp only [inK]; (first | omega | (simp only [List.length_append, List.length_nil, List.length_cons, List.length_take, List.length_drop] at *; omega) | (have : exC.length = 6 := rfl; omega) | decide)) (by simp only [inK]; (first | omega | (simp only [List.length_append, List.length_nil, List.length_cons, List.length_take, List.length_drop] at *; omega) | (have : exC.length = 6 := rfl; omega) | decide)) (OwnL.rd (Ow.ownl q30_0_4 rfl mnil) (hW.at (i := 131) rfl) (mle_nil _)) (by simp only [inK]; (first | omega | (simp only [List.length_append, List.length_nil, List.length_cons, List.length_take, List.length_drop] at *; omega) | (have : exC.length = 6 := rfl; omega) | decide)) (by simp only [inK]; (first | omega | (simp only [List.length_append, List.length_nil, List.length_cons, List.length_take, List.length_drop] at *; omega) | (have : exC.length = 6 := rfl; omega) | decide)) (Ow.rd q30_0_7 (hW.at (i := 132) rfl))) (mk_Message (m := wm W) 3 2 0 7 ([]) 0 0 ([]) (by simp only [inK]; (first | omega | (simp only [List.length_append, List.length_nil, List.length_cons, List.length_take, List.length_drop] at *; omega) | (have : exC.length = 6 := rfl; omega) | decide)) (by simp only [inK]; (first | omega | (simp only [List.length_append, List.length_nil, List.length_cons, List.length_take, List.length_drop] at *; omega) | (have : exC.length = 6 := rfl; omega) | decide)) (by simp only [inK]; (first | omega | (simp only [List.length_append, List.length_nil, List.length_cons, List.length_take, List.length_drop] at *; omega) | (have : exC.length = 6 := rfl; omega) | decide)) (by simp only [inK]; (first | omega | (simp only [List.length_append, List.length_nil, List.length_cons, List.length_take, List.length_drop] at *; omega) | (have : exC.length = 6 := rfl; omega) | decide)) (Rd.nil _ _ none 0 (Nat.zero_le _)) (by simp only [inK]; (first | omega | (simp only [List.length_append, List.length_nil, List.length_cons, List.length_take, List.length_drop] at *; omega) | (have : exC.length = 6 := rfl; omega) | decide)) (by simp only [inK]; (first | omega | (simp only [List.length_append, List.length_nil, List.length_cons, List.length_take, List.length_drop] at *; omega) | (have : exC.length = 6 := rfl; omega) | decide)) (Rd.nil _ _ none 0 (Nat.zero_le _)))) (fun v56 m56 hv56 => ?_)
                          subst hv56
                          refine VO.y rfl (.pT rfl rfl) ?_
                          refine VO.y rfl (.mv rfl) ?_
                          refine VO.dec (t := 116) rfl (fun hc57 => ?_) (fun hc57 => ?_)
                          · -- TTTTTTTTTTTTT
                            refine VO.gy rfl ⟨_, rfl, rfl⟩ (.mv rfl) ?_
                            refine VO.gy rfl ⟨_, rfl, rfl⟩ (.eql rfl rfl) ?_
                            refine VO.y rfl (.pT rfl rfl) ?_
                            refine VO.y rfl (.as rfl) ?_
                            refine VO.inv [(134, _), (131, _), (132, _), (112, _), (109, _), (110, _), (106, _), (103, _), (104, _), (0, _)] (fun _ h => h.sub [134, 131, 132, 112, 109, 110, 106, 103, 104, 0]) ?_
                            refine VO.esub [(0, _), (1, _), (2, _), (3, _), (4, _), (5, _), (7, _), (9, _), (11, _), (12, _), (13, _), (15, _), (16, _)] ⟨rfl, rfl, rfl, rfl, rfl, rfl, rfl, rfl, rfl, rfl, rfl, rfl, rfl, trivial⟩ (VO.nil ?_)
                            refine VC.ret ?_
                            refine ⟨_, _, res_run (rs := [.tmp 0]) rfl (.tmp rfl .nil), fun W_ hI => out_of (l := []) hI [] rfl rfl (mle_refl _) (fun hS_ => ?_)⟩
                            dsimp only [packV]
                            all_goals (first | rfl | (exact congrArg Value.bool (decide_eq_true (by first | rfl | decide))))
                          · -- TTTTTTTTTTTTF
                            exact absurd (by first | rfl | decide) hc57
                        · -- TTTTTTTTTTTF
                          exact absurd (by first | rfl | decide) hc55
                      · -- TTTTTTTTTTF
                        exact absurd (by first | rfl | decide) hc54
                    · -- TTTTTTTTTF
                      exact absurd (by first | rfl | decide) hc53
                  · -- TTTTTTTTF
                    exact absurd (by first | rfl | decide) hc51
                · -- TTTTTTTF
                  exact absurd (by first | rfl | decide) hc50
              · -- TTTTTTF
                exact absurd (by first | rfl | decide) hc49
            · -- TTTTTF
              exact absurd (by first | rfl | decide) hc48
          · -- TTTTF
            exact absurd (by first | rfl | decide) hc47
        · -- TTTF
          exact absurd (by first | rfl | decide) hc46
      · -- TTF
        exact absurd (by first | rfl | decide) hc42
    · -- TF
      exact absurd (by first | rfl | decide) hc41
  · -- F
    exact absurd (by first | rfl | decide) hc40
end Go.Proofs.Ytfaknkkaegjdaaa
