/- Walks, printed by program: what lagleashlaw17 ShipAll compute. Conditions: those named in each theorem. -/
import Derived.Test.YtfaknkkaegjdaaaW9
import Derived.Test.YtfaknkkaegjdaaaW6
import Derived.Test.YtfaknkkaegjdaaaSpec5
set_option linter.unusedVariables false
set_option linter.unusedSimpArgs false
set_option maxRecDepth 4000
namespace Go.Proofs.Ytfaknkkaegjdaaa
theorem fnOk43 : fnOk Try.prog 43 = true := by kernel_rfl
theorem fnOk72 : fnOk Try.prog 72 = true := by kernel_rfl
theorem shipAll_ok (W : World) {v0 : Value} {d0 : List DCommit} (h0 : Rd (.sl TCommit) (wm W) [v0] d0) (d1 : Int) (h1 : inK .i64 d1) : CallR Try.prog 20 [v0, .int .i64 d1] W mnil (fun v m' => v = .bool true) := by
  have h1' := h1; simp only [inK] at h1'
  obtain ⟨A0, c0, rfl, l0, k0⟩ := h0.slice
  simp only [maxLen] at k0
  refine CallR.ofA (n := 135) Try.func20 rfl rfl rfl ?_
  refine VC.rs ?_
  refine VO.y rfl (.as rfl) ?_
  refine VO.esub [(0, _), (1, _), (4, _)] ⟨rfl, rfl, rfl, trivial⟩ (VO.nil ?_)
  refine VC.seq ?_
  refine VC.rs ?_
  refine VO.callN 101 rfl fnOk70 rfl (fun W hW => lives17_ok W ) (fun v1 m1 hv1 => ?_)
  subst hv1
  refine VO.y rfl (.not rfl) ?_
  refine VO.esub [(0, _), (1, _), (4, _), (16, _)] ⟨rfl, rfl, rfl, rfl, trivial⟩ (VO.nil ?_)
  refine VC.condF rfl ?_
  refine VC.skip ?_
  refine outN ?_
  refine VC.seq ?_
  refine VC.rs ?_
  refine VO.y rfl (.mv rfl) ?_
  refine VO.callN 102 rfl fnOk72 rfl (fun W hW => small17_ok W (Rd.mono h0 (hW.at (i := 0) rfl))) (fun v2 m2 hv2 => ?_)
  subst hv2
  refine VO.y rfl (.notD rfl) ?_
  refine VO.y rfl (.mv rfl) ?_
  refine VO.dec (t := 20) rfl (fun hc3 => ?_) (fun hc3 => ?_)
  · -- T
    refine VO.gn rfl (.inl ⟨_, rfl, rfl⟩) ?_
    refine VO.gn rfl (.inl ⟨_, rfl, rfl⟩) ?_
    refine VO.gn rfl (.inl ⟨_, rfl, rfl⟩) ?_
    refine VO.gn rfl (.inl ⟨_, rfl, rfl⟩) ?_
    refine VO.y rfl (.pT rfl rfl) ?_
    refine VO.esub [(0, _), (1, _), (4, _), (16, _), (25, _)] ⟨rfl, rfl, rfl, rfl, rfl, trivial⟩ (VO.nil ?_)
    refine VC.condT rfl ?_
    refine VC.rs ?_
    refine VO.y rfl (.as rfl) ?_
    refine VO.esub [(0, _), (1, _), (4, _), (16, _), (25, _)] ⟨rfl, rfl, rfl, rfl, rfl, trivial⟩ (VO.nil ?_)
    refine VC.ret ?_
    refine outR ?_
    refine ⟨_, mnil, res_run (rs := [.tmp 4]) rfl (.tmp rfl .nil), fun W_ hI => ⟨?_, own_nil rfl _ hI⟩⟩
    dsimp only [packV]
    all_goals (first | rfl | (exact congrArg Value.bool (decide_eq_true (by rw [hg, List.take_of_length_le (by simp only [List.length_drop]; omega)]))))
  · -- F
    refine VO.gy rfl ⟨_, rfl, rfl⟩ (.mv rfl) ?_
    refine VO.gcallN 104 rfl ⟨_, rfl, rfl⟩ fnOk52 rfl (fun W hW => follows_ok W 0 (by simp only [inK]; (first | omega | (simp only [List.length_append, List.length_nil, List.length_cons, List.length_take, List.length_drop] at *; omega) | (simp only [hn (by omega), List.length_take, List.length_drop]; omega))) 0 (by simp only [inK]; (first | omega | (simp only [List.length_append, List.length_nil, List.length_cons, List.length_take, List.length_drop] at *; omega) | (simp only [hn (by omega), List.length_take, List.length_drop]; omega))) (Rd.mono h0 (hW.at (i := 0) rfl))) (fun v4 m4 hv4 => ?_)
    obtain ⟨s4_0, rfl, f4_0⟩ := hv4
    obtain ⟨rfl, q4_0_0, q4_0_1⟩ := open_Fault f4_0
    simp only [inK] at q4_0_0
    simp only [inK] at q4_0_1
    refine VO.gy rfl ⟨_, rfl, rfl⟩ (.bst (cs := [Value.int .i64 (0), Value.int .i64 (0)]) rfl tst57 tz57 rfl) ?_
    refine VO.gy rfl ⟨_, rfl, rfl⟩ (.stneq (p := ((cFollows 0 0 d0).1) = 0 ∧ ((cFollows 0 0 d0).2) = 0) rfl rfl (teq57 ((cFollows 0 0 d0).1) ((cFollows 0 0 d0).2)) (teq57 0 0) (by simp [ceq, ba_toList])) ?_
    refine VO.y rfl (.pF rfl rfl) ?_
    refine VO.esub [(0, _), (1, _), (4, _), (16, _), (25, _)] ⟨rfl, rfl, rfl, rfl, rfl, trivial⟩ (VO.nil ?_)
    refine VC.cond rfl (fun hc5 => ?_) (fun hc5 => ?_)
    · -- FT
      refine VC.rs ?_
      refine VO.y rfl (.as rfl) ?_
      refine VO.esub [(0, _), (1, _), (4, _), (16, _), (25, _)] ⟨rfl, rfl, rfl, rfl, rfl, trivial⟩ (VO.nil ?_)
      refine VC.ret ?_
      refine outR ?_
      refine ⟨_, mnil, res_run (rs := [.tmp 4]) rfl (.tmp rfl .nil), fun W_ hI => ⟨?_, own_nil rfl _ hI⟩⟩
      dsimp only [packV]
      all_goals (first | rfl | (exact congrArg Value.bool (decide_eq_true (by rw [hg, List.take_of_length_le (by simp only [List.length_drop]; omega)]))))
    · -- FF
      refine VC.skip ?_
      refine outN ?_
      refine VC.rs ?_
      refine VO.y rfl (.as rfl) ?_
      refine VO.esub [(0, _), (1, _), (4, _), (5, _), (16, _), (25, _)] ⟨rfl, rfl, rfl, rfl, rfl, rfl, trivial⟩ (VO.nil ?_)
      refine VC.seq ?_
      refine VC.rs ?_
      refine VO.y rfl (.mv rfl) ?_
      refine VO.y rfl (.lenS rfl tsl61) ?_
      refine VO.y rfl (.gtr rfl rfl) ?_
      refine VO.esub [(0, _), (1, _), (4, _), (5, _), (16, _), (25, _), (28, _)] ⟨rfl, rfl, rfl, rfl, rfl, rfl, rfl, trivial⟩ (VO.nil ?_)
      refine VC.cond rfl (fun hc6 => ?_) (fun hc6 => ?_)
      · -- FFT
        refine VC.reg ?_
        refine VO.y rfl (.mv rfl) ?_
        refine VO.y rfl (.mv rfl) ?_
        refine VO.y rfl (.lenS rfl tsl61) ?_
        refine VO.y rfl (.sub rfl rfl rfl ⟨by first | omega | (simp only [List.length_append, List.length_nil, List.length_cons, List.length_take, List.length_drop] at *; omega) | (simp only [hn (by omega), List.length_take, List.length_drop]; omega), by first | omega | (simp only [List.length_append, List.length_nil, List.length_cons, List.length_take, List.length_drop] at *; omega) | (simp only [hn (by omega), List.length_take, List.length_drop]; omega)⟩) ?_
        obtain ⟨x7, hx7⟩ : ∃ x, (d0)[(((d0.length : Nat) : Int) - 1).toNat]? = some x := ⟨_, List.getElem?_eq_getElem (by first | omega | (simp only [List.length_append, List.length_nil, List.length_cons, List.length_take, List.length_drop] at *; omega) | (simp only [hn (by omega), List.length_take, List.length_drop]; omega))⟩
        obtain ⟨gg7, oo7, ec7, ea7, hce7, hre7⟩ := h0.elem hx7
        cases ea7
        obtain ⟨q7_A2, q7_c2, rfl, q7_0, q7_1, q7_2⟩ := open_Commit hre7
        simp only [inK] at q7_0
        simp only [inK] at q7_1
        have q7_r2 := Rd.room q7_2
        refine VO.y rfl (.ixI ((((d0.length : Nat) : Int) - 1).toNat) rfl rfl tsl61 (by first | omega | (simp only [List.length_append, List.length_nil, List.length_cons, List.length_take, List.length_drop] at *; omega) | (simp only [hn (by omega), List.length_take, List.length_drop]; omega)) (by first | omega | (simp only [List.length_append, List.length_nil, List.length_cons, List.length_take, List.length_drop] at *; omega) | (simp only [hn (by omega), List.length_take, List.length_drop]; omega))) ?_
        refine VO.y rfl (.fa rfl tst52 rfl) ?_
        refine VO.y rfl (.ld1 0 rfl tk3 rfl (hce7.at1 (j := 0) rfl)) ?_
        refine VO.y rfl (.as rfl) ?_
        refine VO.esub [(0, _), (1, _), (4, _), (5, _), (16, _), (25, _), (28, _)] ⟨rfl, rfl, rfl, rfl, rfl, rfl, rfl, trivial⟩ (VO.nil ?_)
        refine outN ?_
        refine VC.rs ?_
        refine VO.y rfl (.mv rfl) ?_
        refine VO.y rfl (.mv rfl) ?_
        refine VO.y rfl (.lenS rfl tsl61) ?_
        refine VO.y rfl (.add (c := ((d0.length + 1 : Nat) : Int)) rfl rfl (by omega) ⟨by first | omega | (simp only [List.length_append, List.length_nil, List.length_cons, List.length_take, List.length_drop] at *; omega) | (simp only [hn (by omega), List.length_take, List.length_drop]; omega), by first | omega | (simp only [List.length_append, List.length_nil, List.length_cons, List.length_take, List.length_drop] at *; omega) | (simp only [hn (by omega), List.length_take, List.length_drop]; omega)⟩) ?_
        refine VO.callN 108 rfl fnOk43 rfl (fun W hW => pick_ok W d1 (by simp only [inK]; (first | omega | (simp only [List.length_append, List.length_nil, List.length_cons, List.length_take, List.length_drop] at *; omega) | (simp only [hn (by omega), List.length_take, List.length_drop]; omega))) ((d0.length + 1 : Nat) : Int) (by simp only [inK]; (first | omega | (simp only [List.length_append, List.length_nil, List.length_cons, List.length_take, List.length_drop] at *; omega) | (simp only [hn (by omega), List.length_take, List.length_drop]; omega))) (by first | omega | (simp only [List.length_append, List.length_nil, List.length_cons, List.length_take, List.length_drop] at *; omega) | (simp only [hn (by omega), List.length_take, List.length_drop]; omega))) (fun v8 m8 hv8 => ?_)
        subst hv8
        have hfa9 := pickI_bounds d1 ((d0.length + 1 : Nat) : Int) (by omega)
        refine VO.y rfl (.as rfl) ?_
        refine VO.esub [(0, _), (1, _), (4, _), (5, _), (6, _), (16, _), (25, _), (28, _)] ⟨rfl, rfl, rfl, rfl, rfl, rfl, rfl, rfl, trivial⟩ (VO.nil ?_)
        refine VC.rs ?_
        refine VO.y rfl (.as rfl) ?_
        refine VO.esub [(0, _), (1, _), (4, _), (5, _), (6, _), (7, _), (16, _), (25, _), (28, _)] ⟨rfl, rfl, rfl, rfl, rfl, rfl, rfl, rfl, rfl, trivial⟩ (VO.nil ?_)
        refine VC.rs ?_
        refine VO.y rfl (.mv rfl) ?_
        refine VO.y rfl (.as rfl) ?_
        refine VO.esub [(0, _), (1, _), (4, _), (5, _), (6, _), (7, _), (8, _), (16, _), (25, _), (28, _)] ⟨rfl, rfl, rfl, rfl, rfl, rfl, rfl, rfl, rfl, rfl, trivial⟩ (VO.nil ?_)
        refine VC.seq ?_
        refine VC.block ?_
        refine VC.inv ((110, mnil) :: _) (fun _ h => h.nilc 110) ?_
        have ho110 : OwnL TCommit 52 mnil mnil (.slice none 0 0) [] := .nil _ _ _
        refine VC.inv ((111, mnil) :: _) (fun _ h => h.nilc 111) ?_
        refine VC.loop (G := Int × (List DCommit) × (Option Addr) × Nat × Mem × Mem) (fun g => [(7, Value.slice (g.2.2.1) ((g.2.1).length) ((g.2.2.2.1))), (8, Value.int .i64 ((g.1))), (0, Value.slice (some ⟨gg7, oo7, none⟩) (d0.length) (c0)), (1, Value.int .i64 (d1)), (5, Value.int .i64 (x7.1)), (6, Value.int .i64 (pickI d1 ((d0.length + 1 : Nat) : Int))), (16, Value.bool false), (25, Value.bool (decide (¬ (((cFollows 0 0 d0).1) = 0 ∧ ((cFollows 0 0 d0).2) = 0)))), (28, Value.bool (decide (0 < ((d0.length : Nat) : Int))))]) (fun g => [(111, (g.2.2.2.2.2)), (110, (g.2.2.2.2.1)), (0, wm W)]) (fun g => (pickI d1 ((d0.length + 1 : Nat) : Int) ≤ (g.1)) ∧ ((g.1) ≤ d0.length) ∧ ((g.2.1) = (d0.drop (pickI d1 ((d0.length + 1 : Nat) : Int)).toNat).take ((g.1) - pickI d1 ((d0.length + 1 : Nat) : Int)).toNat) ∧ (OwnL TCommit 52 (g.2.2.2.2.1) (g.2.2.2.2.2) (.slice (g.2.2.1) (g.2.1).length (g.2.2.2.1)) (g.2.1))) (fun g => ((d0.length : Int) - (g.1)).toNat) (pickI d1 ((d0.length + 1 : Nat) : Int), [], none, 0, mnil, mnil) (⟨by omega, by omega, by simp, ho110⟩) ⟨⟨rfl, rfl, rfl, rfl, rfl, rfl, rfl, rfl, rfl, trivial⟩, fun _ h => h.sub [111, 110, 0]⟩ ?_
        rintro ⟨a, got, got_A, got_c, got_m, got_i⟩ ⟨ia, ib, hg, h_got⟩
        replace ia : pickI d1 ((d0.length + 1 : Nat) : Int) ≤ a := ia
        replace ib : a ≤ d0.length := ib
        replace hg : got = (d0.drop (pickI d1 ((d0.length + 1 : Nat) : Int)).toNat).take (a - pickI d1 ((d0.length + 1 : Nat) : Int)).toNat := hg
        replace h_got : OwnL TCommit 52 got_m got_i (.slice got_A got.length got_c) got := h_got
        show VC _ _ _ _ _ [(7, Value.slice got_A (got.length) (got_c)), (8, Value.int .i64 (a)), (0, Value.slice (some ⟨gg7, oo7, none⟩) (d0.length) (c0)), (1, Value.int .i64 (d1)), (5, Value.int .i64 (x7.1)), (6, Value.int .i64 (pickI d1 ((d0.length + 1 : Nat) : Int))), (16, Value.bool false), (25, Value.bool (decide (¬ (((cFollows 0 0 d0).1) = 0 ∧ ((cFollows 0 0 d0).2) = 0)))), (28, Value.bool (decide (0 < ((d0.length : Nat) : Int))))] [(111, got_i), (110, got_m), (0, wm W)]
        have l_got : got.length ≤ got_c := by obtain ⟨_, _, he, hl, _⟩ := h_got.slice; simp only [Value.slice.injEq] at he; omega
        have k_got : got_c ≤ 9223372036854775807 := by obtain ⟨_, _, he, _, hl⟩ := h_got.slice; simp only [Value.slice.injEq, maxLen] at he hl; omega
        first | have hE := lastE_of ‹d0[_]? = some _› (by omega) | have hE := lastE_nil (l := d0) (by omega)
        have hv : (cFollows 0 0 d0).1 = 0 := by omega
        have hn := fun (hb : a < d0.length) => next_last (k := a) hv (by omega) (by omega) (by omega)
        have hc := fun (hb : a < d0.length) => next_lCheck (k := a) hv (by omega) (by omega) (by omega)
        rw [hE] at hn hc
        have hn2 := next_last (k := (d0.length : Int)) hv (by omega) (by omega) (by omega)
        have hh := hello_lCheck (r := 2) hv (by omega)
        rw [hE] at hn2 hh
        have hgl : got.length ≤ 40 := by rw [hg]; simp only [List.length_take, List.length_drop]; omega
        refine VC.seq ?_
        refine VC.rs ?_
        refine VO.y rfl (.mv rfl) ?_
        refine VO.y rfl (.mv rfl) ?_
        refine VO.y rfl (.lenS rfl tsl61) ?_
        refine VO.y rfl (.lss rfl rfl) ?_
        refine VO.esub [(0, _), (1, _), (5, _), (6, _), (7, _), (8, _), (16, _), (25, _), (28, _), (45, _)] ⟨rfl, rfl, rfl, rfl, rfl, rfl, rfl, rfl, rfl, rfl, trivial⟩ (VO.nil ?_)
        refine VC.cond rfl (fun hc12 => ?_) (fun hc12 => ?_)
        · -- FFTT
          refine VC.skip ?_
          refine outN ?_
          refine VC.block ?_
          refine VC.rs ?_
          refine VO.y rfl (.mv rfl) ?_
          refine VO.y rfl (.mv rfl) ?_
          refine VO.y rfl (.mv rfl) ?_
          refine VO.callN 113 rfl fnOk65 rfl (fun W hW => next_ok W x7.1 (by simp only [inK]; (first | omega | (simp only [List.length_append, List.length_nil, List.length_cons, List.length_take, List.length_drop] at *; omega) | (simp only [hn (by omega), List.length_take, List.length_drop]; omega))) (Rd.mono h0 (hW.at (i := 0) rfl)) a (by simp only [inK]; (first | omega | (simp only [List.length_append, List.length_nil, List.length_cons, List.length_take, List.length_drop] at *; omega) | (simp only [hn (by omega), List.length_take, List.length_drop]; omega)))) (fun v13 m13 hv13 => ?_)
          obtain ⟨s13_0, rfl, f13_0⟩ := hv13
          obtain ⟨q13_0_A4, q13_0_c4, q13_0_A7, q13_0_c7, rfl, q13_0_0, q13_0_1, q13_0_2, q13_0_3, q13_0_4, q13_0_5, q13_0_6, q13_0_7⟩ := open_Message f13_0
          simp only [inK] at q13_0_0
          simp only [inK] at q13_0_1
          simp only [inK] at q13_0_2
          simp only [inK] at q13_0_3
          have q13_0_r4 := Rd.room q13_0_4
          simp only [inK] at q13_0_5
          simp only [inK] at q13_0_6
          have q13_0_r7 := Rd.room q13_0_7
          refine VO.y rfl (.mv rfl) ?_
          refine VO.y rfl (.ext rfl rfl) ?_
          refine VO.y rfl (.ext rfl rfl) ?_
          refine VO.alloc 115 rfl tz72 (fun g14 => ?_)
          refine VO.store (k := 8) (c' := [Value.int .i64 (((shipNext x7.1 d0 a).1).1), Value.int .i64 (((shipNext x7.1 d0 a).1).2.1), Value.int .u8 (((shipNext x7.1 d0 a).1).2.2.1), Value.int .i64 (((shipNext x7.1 d0 a).1).2.2.2.1), Value.slice q13_0_A4 ((((shipNext x7.1 d0 a).1).2.2.2.2.1).length) (q13_0_c4), Value.int .i64 (((shipNext x7.1 d0 a).1).2.2.2.2.2.1), Value.int .i64 (((shipNext x7.1 d0 a).1).2.2.2.2.2.2.1), Value.slice q13_0_A7 ((((shipNext x7.1 d0 a).1).2.2.2.2.2.2.2).length) (q13_0_c7)]) 115 rfl rfl (.inl tk72) rfl rfl rfl rfl rfl ?_
          refine VO.y rfl (.as rfl) ?_
          refine VO.esub [(0, _), (1, _), (5, _), (6, _), (7, _), (8, _), (9, _), (10, _), (16, _), (25, _), (28, _), (45, _)] ⟨rfl, rfl, rfl, rfl, rfl, rfl, rfl, rfl, rfl, rfl, rfl, rfl, trivial⟩ (VO.nil ?_)
          refine VC.seq ?_
          refine VC.rs ?_
          refine VO.y rfl (.mv rfl) ?_
          refine VO.y rfl (.neq rfl rfl) ?_
          refine VO.y rfl (.mv rfl) ?_
          refine VO.dec (t := 55) rfl (fun hc16 => ?_) (fun hc16 => ?_)
          · -- FFTTT
            exfalso; exact hc16 (by rw [hn (by omega)])
          · -- FFTTF
            refine VO.gy rfl ⟨_, rfl, rfl⟩ (.ldA 115 rfl tk72 rfl (cellsAt_one rfl rfl)) ?_
            refine VO.gcallN 117 rfl ⟨_, rfl, rfl⟩ fnOk87 rfl (fun W hW => lCheck_ok W (Rd.mono f13_0 (hW.at (i := 113) rfl))) (fun v17 m17 hv17 => ?_)
            subst hv17
            have hfa18 := lCheck_range ((shipNext x7.1 d0 a).1)
            refine VO.gy rfl ⟨_, rfl, rfl⟩ (.neq rfl rfl) ?_
            refine VO.y rfl (.pF rfl rfl) ?_
            refine VO.y rfl (.mv rfl) ?_
            refine VO.dec (t := 60) rfl (fun hc19 => ?_) (fun hc19 => ?_)
            · -- FFTTFT
              exfalso; exact hc19 (by rw [hn (by omega)]; exact hc (by omega))
            · -- FFTTFF
              refine VO.gy rfl ⟨_, rfl, rfl⟩ (.fa rfl tst72 rfl) ?_
              refine VO.gy rfl ⟨_, rfl, rfl⟩ (.ld1 115 rfl tk3 rfl (cellsAt_one rfl rfl)) ?_
              refine VO.gy rfl ⟨_, rfl, rfl⟩ (.mv rfl) ?_
              refine VO.gy rfl ⟨_, rfl, rfl⟩ (.add rfl rfl rfl ⟨by first | omega | (simp only [List.length_append, List.length_nil, List.length_cons, List.length_take, List.length_drop] at *; omega) | (simp only [hn (by omega), List.length_take, List.length_drop]; omega), by first | omega | (simp only [List.length_append, List.length_nil, List.length_cons, List.length_take, List.length_drop] at *; omega) | (simp only [hn (by omega), List.length_take, List.length_drop]; omega)⟩) ?_
              refine VO.gy rfl ⟨_, rfl, rfl⟩ (.neq rfl rfl) ?_
              refine VO.y rfl (.pF rfl rfl) ?_
              refine VO.y rfl (.mv rfl) ?_
              refine VO.dec (t := 67) rfl (fun hc20 => ?_) (fun hc20 => ?_)
              · -- FFTTFFT
                exfalso; exact hc20 (by rw [hn (by omega)])
              · -- FFTTFFF
                refine VO.gy rfl ⟨_, rfl, rfl⟩ (.fa rfl tst72 rfl) ?_
                refine VO.gy rfl ⟨_, rfl, rfl⟩ (.ld1 115 rfl tk61 rfl (cellsAt_one rfl rfl)) ?_
                refine VO.gy rfl ⟨_, rfl, rfl⟩ (.lenS rfl tsl61) ?_
                refine VO.gy rfl ⟨_, rfl, rfl⟩ (.eql rfl rfl) ?_
                refine VO.y rfl (.pF rfl rfl) ?_
                refine VO.y rfl (.mv rfl) ?_
                refine VO.dec (t := 73) rfl (fun hc21 => ?_) (fun hc21 => ?_)
                · -- FFTTFFFT
                  exfalso; rw [hn (by omega)] at hc21; simp only [List.length_take, List.length_drop] at hc21; omega
                · -- FFTTFFFF
                  refine VO.gy rfl ⟨_, rfl, rfl⟩ (.fa rfl tst72 rfl) ?_
                  refine VO.gy rfl ⟨_, rfl, rfl⟩ (.ld1 115 rfl tk61 rfl (cellsAt_one rfl rfl)) ?_
                  refine VO.gy rfl ⟨_, rfl, rfl⟩ (.lenS rfl tsl61) ?_
                  refine VO.gy rfl ⟨_, rfl, rfl⟩ (.gtr rfl rfl) ?_
                  refine VO.y rfl (.pF rfl rfl) ?_
                  refine VO.esub [(0, _), (1, _), (5, _), (6, _), (7, _), (8, _), (9, _), (10, _), (16, _), (25, _), (28, _), (45, _), (78, _)] ⟨rfl, rfl, rfl, rfl, rfl, rfl, rfl, rfl, rfl, rfl, rfl, rfl, rfl, trivial⟩ (VO.nil ?_)
                  refine VC.cond rfl (fun hc22 => ?_) (fun hc22 => ?_)
                  · -- FFTTFFFFT
                    exfalso; rw [hn (by omega)] at hc22; simp only [List.length_take, List.length_drop] at hc22; omega
                  · -- FFTTFFFFF
                    refine VC.skip ?_
                    refine outN ?_
                    refine VC.rs ?_
                    refine VO.y rfl (.mv rfl) ?_
                    refine VO.y rfl (.fa rfl tst72 rfl) ?_
                    refine VO.y rfl (.ld1 115 rfl tk61 rfl (cellsAt_one rfl rfl)) ?_
                    refine VO.join 111 113 111 rfl rfl (fun hj24 => ?_)
                    have fj25 : OwnL TCommit _ (got_m) (mun (got_i) (m13)) (Value.slice got_A (got.length) (got_c)) (got) := OwnL.mono h_got (mle_un_left _ _)
                    have fj26 : Rd (.sl TCommit) (mun (got_i) (m13)) [Value.slice q13_0_A7 ((((shipNext x7.1 d0 a).1).2.2.2.2.2.2.2).length) (q13_0_c7)] (((shipNext x7.1 d0 a).1).2.2.2.2.2.2.2) := Rd.mono q13_0_7 hj24
                    have fj27 : Rd (.sl TStart) (mun (got_i) (m13)) [Value.slice q13_0_A4 ((((shipNext x7.1 d0 a).1).2.2.2.2.1).length) (q13_0_c4)] (((shipNext x7.1 d0 a).1).2.2.2.2.1) := Rd.mono q13_0_4 hj24
                    have fj28 : Rd TMessage (mun (got_i) (m13)) [Value.int .i64 (((shipNext x7.1 d0 a).1).1), Value.int .i64 (((shipNext x7.1 d0 a).1).2.1), Value.int .u8 (((shipNext x7.1 d0 a).1).2.2.1), Value.int .i64 (((shipNext x7.1 d0 a).1).2.2.2.1), Value.slice q13_0_A4 ((((shipNext x7.1 d0 a).1).2.2.2.2.1).length) (q13_0_c4), Value.int .i64 (((shipNext x7.1 d0 a).1).2.2.2.2.2.1), Value.int .i64 (((shipNext x7.1 d0 a).1).2.2.2.2.2.2.1), Value.slice q13_0_A7 ((((shipNext x7.1 d0 a).1).2.2.2.2.2.2.2).length) (q13_0_c7)] ((shipNext x7.1 d0 a).1) := Rd.mono f13_0 hj24
                    obtain ⟨cs23, hA23, hC23⟩ := fj25
                    obtain ⟨all23, hS23, hR23⟩ := Rd.srcI (P := Try.prog) (fj26) Try.underlying61
                    refine VO.app 110 rfl rfl rfl tsl61 tz52 rfl rfl hA23 (hS23 _ 111 rfl) hR23.nice (by simp only [maxLen]; (first | omega | (simp only [List.length_append, List.length_nil, List.length_cons, List.length_take, List.length_drop] at *; omega) | (simp only [hn (by omega), List.length_take, List.length_drop]; omega))) (by first | omega | (simp only [List.length_append, List.length_nil, List.length_cons, List.length_take, List.length_drop] at *; omega) | (simp only [hn (by omega), List.length_take, List.length_drop]; omega)) (by decide) (fun v23 m23 hN23 => ?_)
                    have ho23 : OwnL TCommit 52 m23 (mun (got_i) (m13)) v23 (got ++ (((shipNext x7.1 d0 a).1).2.2.2.2.2.2.2)) := OwnL.more hC23 hN23 hR23
                    obtain ⟨A23, c23, rfl, l23, k23⟩ := ho23.slice
                    simp only [maxLen] at k23
                    refine VO.y rfl (.as rfl) ?_
                    refine VO.esub [(0, _), (1, _), (5, _), (6, _), (7, _), (8, _), (9, _), (10, _), (16, _), (25, _), (28, _), (45, _), (78, _)] ⟨rfl, rfl, rfl, rfl, rfl, rfl, rfl, rfl, rfl, rfl, rfl, rfl, rfl, trivial⟩ (VO.nil ?_)
                    refine VC.reg ?_
                    refine VO.y rfl (.fa rfl tst72 rfl) ?_
                    refine VO.y rfl (.ld1 115 rfl tk3 rfl (cellsAt_one rfl rfl)) ?_
                    refine VO.y rfl (.sub rfl rfl rfl ⟨by first | omega | (simp only [List.length_append, List.length_nil, List.length_cons, List.length_take, List.length_drop] at *; omega) | (simp only [hn (by omega), List.length_take, List.length_drop]; omega), by first | omega | (simp only [List.length_append, List.length_nil, List.length_cons, List.length_take, List.length_drop] at *; omega) | (simp only [hn (by omega), List.length_take, List.length_drop]; omega)⟩) ?_
                    refine VO.y rfl (.fa rfl tst72 rfl) ?_
                    refine VO.y rfl (.ld1 115 rfl tk61 rfl (cellsAt_one rfl rfl)) ?_
                    refine VO.y rfl (.lenS rfl tsl61) ?_
                    refine VO.y rfl (.add rfl rfl rfl ⟨by first | omega | (simp only [List.length_append, List.length_nil, List.length_cons, List.length_take, List.length_drop] at *; omega) | (simp only [hn (by omega), List.length_take, List.length_drop]; omega), by first | omega | (simp only [List.length_append, List.length_nil, List.length_cons, List.length_take, List.length_drop] at *; omega) | (simp only [hn (by omega), List.length_take, List.length_drop]; omega)⟩) ?_
                    refine VO.y rfl (.as rfl) ?_
                    refine VO.esub [(0, _), (1, _), (5, _), (6, _), (7, _), (8, _), (9, _), (10, _), (16, _), (25, _), (28, _), (45, _), (78, _)] ⟨rfl, rfl, rfl, rfl, rfl, rfl, rfl, rfl, rfl, rfl, rfl, rfl, rfl, trivial⟩ (VO.nil ?_)
                    refine outBN ?_
                    exact outN ⟨⟨((((shipNext x7.1 d0 a).1).2.2.2.2.2.1) - 1) + (((((shipNext x7.1 d0 a).1).2.2.2.2.2.2.2).length : Nat) : Int), got ++ (((shipNext x7.1 d0 a).1).2.2.2.2.2.2.2), A23, c23, m23, mun (got_i) (m13)⟩, ⟨by (simp only [hn (by omega), List.length_take, List.length_drop]; omega), by (simp only [hn (by omega), List.length_take, List.length_drop]; omega), by (simp only [hn (by omega)]; exact got_next hg (by omega) ia (by omega)), ho23⟩, by (simp only [hn (by omega), List.length_take, List.length_drop]; omega), ⟨⟨rfl, rfl, rfl, rfl, rfl, rfl, rfl, rfl, rfl, trivial⟩, fun _ h => h.sub [111, 110, 0]⟩⟩
        · -- FFTF
          refine VC.exit ?_
          refine outE ?_
          refine outE ?_
          refine outBB ?_
          refine outN ?_
          refine VC.rs ?_
          refine VO.y rfl (.mv rfl) ?_
          refine VO.y rfl (.mv rfl) ?_
          refine VO.y rfl (.mv rfl) ?_
          refine VO.y rfl (.lenS rfl tsl61) ?_
          refine VO.callN 129 rfl fnOk65 rfl (fun W hW => next_ok W x7.1 (by simp only [inK]; (first | omega | (simp only [List.length_append, List.length_nil, List.length_cons, List.length_take, List.length_drop] at *; omega) | (simp only [hn (by omega), List.length_take, List.length_drop]; omega))) (Rd.mono h0 (hW.at (i := 0) rfl)) ((d0.length : Nat) : Int) (by simp only [inK]; (first | omega | (simp only [List.length_append, List.length_nil, List.length_cons, List.length_take, List.length_drop] at *; omega) | (simp only [hn (by omega), List.length_take, List.length_drop]; omega)))) (fun v29 m29 hv29 => ?_)
          obtain ⟨s29_0, rfl, f29_0⟩ := hv29
          obtain ⟨q29_0_A4, q29_0_c4, q29_0_A7, q29_0_c7, rfl, q29_0_0, q29_0_1, q29_0_2, q29_0_3, q29_0_4, q29_0_5, q29_0_6, q29_0_7⟩ := open_Message f29_0
          simp only [inK] at q29_0_0
          simp only [inK] at q29_0_1
          simp only [inK] at q29_0_2
          simp only [inK] at q29_0_3
          have q29_0_r4 := Rd.room q29_0_4
          simp only [inK] at q29_0_5
          simp only [inK] at q29_0_6
          have q29_0_r7 := Rd.room q29_0_7
          refine VO.y rfl (.mv rfl) ?_
          refine VO.y rfl (.ext rfl rfl) ?_
          refine VO.y rfl (.ext rfl rfl) ?_
          refine VO.alloc 131 rfl tz72 (fun g30 => ?_)
          refine VO.store (k := 8) (c' := [Value.int .i64 (((shipNext x7.1 d0 ((d0.length : Nat) : Int)).1).1), Value.int .i64 (((shipNext x7.1 d0 ((d0.length : Nat) : Int)).1).2.1), Value.int .u8 (((shipNext x7.1 d0 ((d0.length : Nat) : Int)).1).2.2.1), Value.int .i64 (((shipNext x7.1 d0 ((d0.length : Nat) : Int)).1).2.2.2.1), Value.slice q29_0_A4 ((((shipNext x7.1 d0 ((d0.length : Nat) : Int)).1).2.2.2.2.1).length) (q29_0_c4), Value.int .i64 (((shipNext x7.1 d0 ((d0.length : Nat) : Int)).1).2.2.2.2.2.1), Value.int .i64 (((shipNext x7.1 d0 ((d0.length : Nat) : Int)).1).2.2.2.2.2.2.1), Value.slice q29_0_A7 ((((shipNext x7.1 d0 ((d0.length : Nat) : Int)).1).2.2.2.2.2.2.2).length) (q29_0_c7)]) 131 rfl rfl (.inl tk72) rfl rfl rfl rfl rfl ?_
          refine VO.y rfl (.as rfl) ?_
          refine VO.esub [(0, _), (1, _), (5, _), (6, _), (7, _), (8, _), (11, _), (12, _), (16, _), (25, _), (28, _), (45, _)] ⟨rfl, rfl, rfl, rfl, rfl, rfl, rfl, rfl, rfl, rfl, rfl, rfl, trivial⟩ (VO.nil ?_)
          refine VC.rs ?_
          refine VO.y rfl (.mv rfl) ?_
          refine VO.y rfl (.mv rfl) ?_
          refine VO.callN 132 rfl fnOk67 rfl (fun W hW => hello_ok W x7.1 (by simp only [inK]; (first | omega | (simp only [List.length_append, List.length_nil, List.length_cons, List.length_take, List.length_drop] at *; omega) | (simp only [hn (by omega), List.length_take, List.length_drop]; omega))) 2 (by simp only [inK]; (first | omega | (simp only [List.length_append, List.length_nil, List.length_cons, List.length_take, List.length_drop] at *; omega) | (simp only [hn (by omega), List.length_take, List.length_drop]; omega))) (Rd.mono h0 (hW.at (i := 0) rfl)) (by first | omega | (simp only [List.length_append, List.length_nil, List.length_cons, List.length_take, List.length_drop] at *; omega) | (simp only [hn (by omega), List.length_take, List.length_drop]; omega))) (fun v32 m32 hv32 => ?_)
          obtain ⟨s32_0, rfl, f32_0⟩ := hv32
          obtain ⟨q32_0_A4, q32_0_c4, q32_0_A7, q32_0_c7, rfl, q32_0_0, q32_0_1, q32_0_2, q32_0_3, q32_0_4, q32_0_5, q32_0_6, q32_0_7⟩ := open_Message f32_0
          simp only [inK] at q32_0_0
          simp only [inK] at q32_0_1
          simp only [inK] at q32_0_2
          simp only [inK] at q32_0_3
          have q32_0_r4 := Rd.room q32_0_4
          simp only [inK] at q32_0_5
          simp only [inK] at q32_0_6
          have q32_0_r7 := Rd.room q32_0_7
          refine VO.y rfl (.mv rfl) ?_
          refine VO.y rfl (.ext rfl rfl) ?_
          refine VO.y rfl (.ext rfl rfl) ?_
          refine VO.alloc 134 rfl tz72 (fun g33 => ?_)
          refine VO.store (k := 8) (c' := [Value.int .i64 (((shipHello x7.1 2 d0).1).1), Value.int .i64 (((shipHello x7.1 2 d0).1).2.1), Value.int .u8 (((shipHello x7.1 2 d0).1).2.2.1), Value.int .i64 (((shipHello x7.1 2 d0).1).2.2.2.1), Value.slice q32_0_A4 ((((shipHello x7.1 2 d0).1).2.2.2.2.1).length) (q32_0_c4), Value.int .i64 (((shipHello x7.1 2 d0).1).2.2.2.2.2.1), Value.int .i64 (((shipHello x7.1 2 d0).1).2.2.2.2.2.2.1), Value.slice q32_0_A7 ((((shipHello x7.1 2 d0).1).2.2.2.2.2.2.2).length) (q32_0_c7)]) 134 rfl rfl (.inl tk72) rfl rfl rfl rfl rfl ?_
          refine VO.y rfl (.as rfl) ?_
          refine VO.esub [(0, _), (1, _), (5, _), (6, _), (7, _), (8, _), (11, _), (12, _), (13, _), (14, _), (16, _), (25, _), (28, _), (45, _)] ⟨rfl, rfl, rfl, rfl, rfl, rfl, rfl, rfl, rfl, rfl, rfl, rfl, rfl, rfl, trivial⟩ (VO.nil ?_)
          refine VC.rs ?_
          refine VO.y rfl (.mv rfl) ?_
          refine VO.y rfl (.eql rfl rfl) ?_
          refine VO.y rfl (.mv rfl) ?_
          refine VO.dec (t := 106) rfl (fun hc35 => ?_) (fun hc35 => ?_)
          · -- FFTFT
            refine VO.gy rfl ⟨_, rfl, rfl⟩ (.fa rfl tst72 rfl) ?_
            refine VO.gy rfl ⟨_, rfl, rfl⟩ (.ld1 131 rfl tk61 rfl (cellsAt_one rfl rfl)) ?_
            refine VO.gy rfl ⟨_, rfl, rfl⟩ (.lenS rfl tsl61) ?_
            refine VO.gy rfl ⟨_, rfl, rfl⟩ (.eql rfl rfl) ?_
            refine VO.y rfl (.pT rfl rfl) ?_
            refine VO.y rfl (.mv rfl) ?_
            refine VO.dec (t := 112) rfl (fun hc36 => ?_) (fun hc36 => ?_)
            · -- FFTFTT
              refine VO.gy rfl ⟨_, rfl, rfl⟩ (.mv rfl) ?_
              refine VO.gy rfl ⟨_, rfl, rfl⟩ (.eql rfl rfl) ?_
              refine VO.y rfl (.pT rfl rfl) ?_
              refine VO.y rfl (.mv rfl) ?_
              refine VO.dec (t := 116) rfl (fun hc37 => ?_) (fun hc37 => ?_)
              · -- FFTFTTT
                refine VO.gy rfl ⟨_, rfl, rfl⟩ (.ldA 134 rfl tk72 rfl (cellsAt_one rfl rfl)) ?_
                refine VO.gcallN 138 rfl ⟨_, rfl, rfl⟩ fnOk87 rfl (fun W hW => lCheck_ok W (Rd.mono f32_0 (hW.at (i := 132) rfl))) (fun v38 m38 hv38 => ?_)
                subst hv38
                have hfa39 := lCheck_range ((shipHello x7.1 2 d0).1)
                refine VO.gy rfl ⟨_, rfl, rfl⟩ (.eql rfl rfl) ?_
                refine VO.y rfl (.pT rfl rfl) ?_
                refine VO.y rfl (.mv rfl) ?_
                refine VO.dec (t := 121) rfl (fun hc40 => ?_) (fun hc40 => ?_)
                · -- FFTFTTTT
                  refine VO.gy rfl ⟨_, rfl, rfl⟩ (.fa rfl tst72 rfl) ?_
                  refine VO.gy rfl ⟨_, rfl, rfl⟩ (.ld1 134 rfl tk3 rfl (cellsAt_one rfl rfl)) ?_
                  refine VO.gy rfl ⟨_, rfl, rfl⟩ (.mv rfl) ?_
                  refine VO.gy rfl ⟨_, rfl, rfl⟩ (.lenS rfl tsl61) ?_
                  refine VO.gy rfl ⟨_, rfl, rfl⟩ (.eql rfl rfl) ?_
                  refine VO.y rfl (.pT rfl rfl) ?_
                  refine VO.y rfl (.mv rfl) ?_
                  refine VO.dec (t := 128) rfl (fun hc41 => ?_) (fun hc41 => ?_)
                  · -- FFTFTTTTT
                    refine VO.gy rfl ⟨_, rfl, rfl⟩ (.mv rfl) ?_
                    refine VO.gy rfl ⟨_, rfl, rfl⟩ (.mv rfl) ?_
                    refine VO.gy rfl ⟨_, rfl, rfl⟩ (.mv rfl) ?_
                    obtain ⟨A42, hA42, hs42⟩ := h0.drop 3 ((pickI d1 ((d0.length + 1 : Nat) : Int)).toNat) rfl (by first | omega | (simp only [List.length_append, List.length_nil, List.length_cons, List.length_take, List.length_drop] at *; omega) | (simp only [hn (by omega), List.length_take, List.length_drop]; omega))
                    refine VO.gy rfl ⟨_, rfl, rfl⟩ (.slLI ((pickI d1 ((d0.length + 1 : Nat) : Int)).toNat) A42 rfl rfl tsl61 (by first | omega | (simp only [List.length_append, List.length_nil, List.length_cons, List.length_take, List.length_drop] at *; omega) | (simp only [hn (by omega), List.length_take, List.length_drop]; omega)) hA42 (by first | omega | (simp only [List.length_append, List.length_nil, List.length_cons, List.length_take, List.length_drop] at *; omega) | (simp only [hn (by omega), List.length_take, List.length_drop]; omega))) ?_
                    refine VO.gcallN 143 rfl ⟨_, rfl, rfl⟩ fnOk69 rfl (fun W hW => SameCommits_ok W (OwnL.rd h_got (hW.at (i := 110) rfl) (hW.at (i := 111) rfl)) (Rd.mono hs42 (hW.at (i := 0) rfl))) (fun v43 m43 hv43 => ?_)
                    subst hv43
                    refine VO.y rfl (.pT rfl rfl) ?_
                    refine VO.y rfl (.as rfl) ?_
                    refine VO.esub [(0, _), (1, _), (4, _), (5, _), (6, _), (7, _), (8, _), (11, _), (12, _), (13, _), (14, _), (16, _), (25, _), (28, _), (45, _)] ⟨rfl, rfl, rfl, rfl, rfl, rfl, rfl, rfl, rfl, rfl, rfl, rfl, rfl, rfl, rfl, trivial⟩ (VO.nil ?_)
                    refine VC.ret ?_
                    refine ⟨_, mnil, res_run (rs := [.tmp 4]) rfl (.tmp rfl .nil), fun W_ hI => ⟨?_, own_nil rfl _ hI⟩⟩
                    dsimp only [packV]
                    all_goals (first | rfl | (exact congrArg Value.bool (decide_eq_true (by rw [hg, List.take_of_length_le (by simp only [List.length_drop]; omega)]))))
                  · -- FFTFTTTTF
                    exfalso; exact hc41 (by rw [hh.1])
                · -- FFTFTTTF
                  exfalso; exact hc40 (by rw [hh.1]; exact hh.2)
              · -- FFTFTTF
                exfalso; exact hc37 (by rw [hh.1])
            · -- FFTFTF
              exfalso; exact hc36 (by rw [hn2]; simp)
          · -- FFTFF
            exfalso; exact hc35 (by rw [hn2])
      · -- FFF
        refine VC.skip ?_
        refine outN ?_
        refine VC.rs ?_
        refine VO.y rfl (.mv rfl) ?_
        refine VO.y rfl (.mv rfl) ?_
        refine VO.y rfl (.lenS rfl tsl61) ?_
        refine VO.y rfl (.add (c := ((d0.length + 1 : Nat) : Int)) rfl rfl (by omega) ⟨by first | omega | (simp only [List.length_append, List.length_nil, List.length_cons, List.length_take, List.length_drop] at *; omega) | (simp only [hn (by omega), List.length_take, List.length_drop]; omega), by first | omega | (simp only [List.length_append, List.length_nil, List.length_cons, List.length_take, List.length_drop] at *; omega) | (simp only [hn (by omega), List.length_take, List.length_drop]; omega)⟩) ?_
        refine VO.callN 144 rfl fnOk43 rfl (fun W hW => pick_ok W d1 (by simp only [inK]; (first | omega | (simp only [List.length_append, List.length_nil, List.length_cons, List.length_take, List.length_drop] at *; omega) | (simp only [hn (by omega), List.length_take, List.length_drop]; omega))) ((d0.length + 1 : Nat) : Int) (by simp only [inK]; (first | omega | (simp only [List.length_append, List.length_nil, List.length_cons, List.length_take, List.length_drop] at *; omega) | (simp only [hn (by omega), List.length_take, List.length_drop]; omega))) (by first | omega | (simp only [List.length_append, List.length_nil, List.length_cons, List.length_take, List.length_drop] at *; omega) | (simp only [hn (by omega), List.length_take, List.length_drop]; omega))) (fun v44 m44 hv44 => ?_)
        subst hv44
        have hfa45 := pickI_bounds d1 ((d0.length + 1 : Nat) : Int) (by omega)
        refine VO.y rfl (.as rfl) ?_
        refine VO.esub [(0, _), (1, _), (4, _), (5, _), (6, _), (16, _), (25, _), (28, _)] ⟨rfl, rfl, rfl, rfl, rfl, rfl, rfl, rfl, trivial⟩ (VO.nil ?_)
        refine VC.rs ?_
        refine VO.y rfl (.as rfl) ?_
        refine VO.esub [(0, _), (1, _), (4, _), (5, _), (6, _), (7, _), (16, _), (25, _), (28, _)] ⟨rfl, rfl, rfl, rfl, rfl, rfl, rfl, rfl, rfl, trivial⟩ (VO.nil ?_)
        refine VC.rs ?_
        refine VO.y rfl (.mv rfl) ?_
        refine VO.y rfl (.as rfl) ?_
        refine VO.esub [(0, _), (1, _), (4, _), (5, _), (6, _), (7, _), (8, _), (16, _), (25, _), (28, _)] ⟨rfl, rfl, rfl, rfl, rfl, rfl, rfl, rfl, rfl, rfl, trivial⟩ (VO.nil ?_)
        refine VC.seq ?_
        refine VC.block ?_
        refine VC.inv ((146, mnil) :: _) (fun _ h => h.nilc 146) ?_
        have ho146 : OwnL TCommit 52 mnil mnil (.slice none 0 0) [] := .nil _ _ _
        refine VC.inv ((147, mnil) :: _) (fun _ h => h.nilc 147) ?_
        refine VC.loop (G := Int × (List DCommit) × (Option Addr) × Nat × Mem × Mem) (fun g => [(7, Value.slice (g.2.2.1) ((g.2.1).length) ((g.2.2.2.1))), (8, Value.int .i64 ((g.1))), (0, Value.slice A0 (d0.length) (c0)), (1, Value.int .i64 (d1)), (5, Value.int .i64 (1)), (6, Value.int .i64 (pickI d1 ((d0.length + 1 : Nat) : Int))), (16, Value.bool false), (25, Value.bool (decide (¬ (((cFollows 0 0 d0).1) = 0 ∧ ((cFollows 0 0 d0).2) = 0)))), (28, Value.bool (decide (0 < ((d0.length : Nat) : Int))))]) (fun g => [(147, (g.2.2.2.2.2)), (146, (g.2.2.2.2.1)), (0, wm W)]) (fun g => (pickI d1 ((d0.length + 1 : Nat) : Int) ≤ (g.1)) ∧ ((g.1) ≤ d0.length) ∧ ((g.2.1) = (d0.drop (pickI d1 ((d0.length + 1 : Nat) : Int)).toNat).take ((g.1) - pickI d1 ((d0.length + 1 : Nat) : Int)).toNat) ∧ (OwnL TCommit 52 (g.2.2.2.2.1) (g.2.2.2.2.2) (.slice (g.2.2.1) (g.2.1).length (g.2.2.2.1)) (g.2.1))) (fun g => ((d0.length : Int) - (g.1)).toNat) (pickI d1 ((d0.length + 1 : Nat) : Int), [], none, 0, mnil, mnil) (⟨by omega, by omega, by simp, ho146⟩) ⟨⟨rfl, rfl, rfl, rfl, rfl, rfl, rfl, rfl, rfl, trivial⟩, fun _ h => h.sub [147, 146, 0]⟩ ?_
        rintro ⟨a, got, got_A, got_c, got_m, got_i⟩ ⟨ia, ib, hg, h_got⟩
        replace ia : pickI d1 ((d0.length + 1 : Nat) : Int) ≤ a := ia
        replace ib : a ≤ d0.length := ib
        replace hg : got = (d0.drop (pickI d1 ((d0.length + 1 : Nat) : Int)).toNat).take (a - pickI d1 ((d0.length + 1 : Nat) : Int)).toNat := hg
        replace h_got : OwnL TCommit 52 got_m got_i (.slice got_A got.length got_c) got := h_got
        show VC _ _ _ _ _ [(7, Value.slice got_A (got.length) (got_c)), (8, Value.int .i64 (a)), (0, Value.slice A0 (d0.length) (c0)), (1, Value.int .i64 (d1)), (5, Value.int .i64 (1)), (6, Value.int .i64 (pickI d1 ((d0.length + 1 : Nat) : Int))), (16, Value.bool false), (25, Value.bool (decide (¬ (((cFollows 0 0 d0).1) = 0 ∧ ((cFollows 0 0 d0).2) = 0)))), (28, Value.bool (decide (0 < ((d0.length : Nat) : Int))))] [(147, got_i), (146, got_m), (0, wm W)]
        have l_got : got.length ≤ got_c := by obtain ⟨_, _, he, hl, _⟩ := h_got.slice; simp only [Value.slice.injEq] at he; omega
        have k_got : got_c ≤ 9223372036854775807 := by obtain ⟨_, _, he, _, hl⟩ := h_got.slice; simp only [Value.slice.injEq, maxLen] at he hl; omega
        first | have hE := lastE_of ‹d0[_]? = some _› (by omega) | have hE := lastE_nil (l := d0) (by omega)
        have hv : (cFollows 0 0 d0).1 = 0 := by omega
        have hn := fun (hb : a < d0.length) => next_last (k := a) hv (by omega) (by omega) (by omega)
        have hc := fun (hb : a < d0.length) => next_lCheck (k := a) hv (by omega) (by omega) (by omega)
        rw [hE] at hn hc
        have hn2 := next_last (k := (d0.length : Int)) hv (by omega) (by omega) (by omega)
        have hh := hello_lCheck (r := 2) hv (by omega)
        rw [hE] at hn2 hh
        have hgl : got.length ≤ 40 := by rw [hg]; simp only [List.length_take, List.length_drop]; omega
        refine VC.seq ?_
        refine VC.rs ?_
        refine VO.y rfl (.mv rfl) ?_
        refine VO.y rfl (.mv rfl) ?_
        refine VO.y rfl (.lenS rfl tsl61) ?_
        refine VO.y rfl (.lss rfl rfl) ?_
        refine VO.esub [(0, _), (1, _), (5, _), (6, _), (7, _), (8, _), (16, _), (25, _), (28, _), (45, _)] ⟨rfl, rfl, rfl, rfl, rfl, rfl, rfl, rfl, rfl, rfl, trivial⟩ (VO.nil ?_)
        refine VC.cond rfl (fun hc48 => ?_) (fun hc48 => ?_)
        · -- FFFT
          refine VC.skip ?_
          refine outN ?_
          refine VC.block ?_
          refine VC.rs ?_
          refine VO.y rfl (.mv rfl) ?_
          refine VO.y rfl (.mv rfl) ?_
          refine VO.y rfl (.mv rfl) ?_
          refine VO.callN 149 rfl fnOk65 rfl (fun W hW => next_ok W 1 (by simp only [inK]; (first | omega | (simp only [List.length_append, List.length_nil, List.length_cons, List.length_take, List.length_drop] at *; omega) | (simp only [hn (by omega), List.length_take, List.length_drop]; omega))) (Rd.mono h0 (hW.at (i := 0) rfl)) a (by simp only [inK]; (first | omega | (simp only [List.length_append, List.length_nil, List.length_cons, List.length_take, List.length_drop] at *; omega) | (simp only [hn (by omega), List.length_take, List.length_drop]; omega)))) (fun v49 m49 hv49 => ?_)
          obtain ⟨s49_0, rfl, f49_0⟩ := hv49
          obtain ⟨q49_0_A4, q49_0_c4, q49_0_A7, q49_0_c7, rfl, q49_0_0, q49_0_1, q49_0_2, q49_0_3, q49_0_4, q49_0_5, q49_0_6, q49_0_7⟩ := open_Message f49_0
          simp only [inK] at q49_0_0
          simp only [inK] at q49_0_1
          simp only [inK] at q49_0_2
          simp only [inK] at q49_0_3
          have q49_0_r4 := Rd.room q49_0_4
          simp only [inK] at q49_0_5
          simp only [inK] at q49_0_6
          have q49_0_r7 := Rd.room q49_0_7
          refine VO.y rfl (.mv rfl) ?_
          refine VO.y rfl (.ext rfl rfl) ?_
          refine VO.y rfl (.ext rfl rfl) ?_
          refine VO.alloc 151 rfl tz72 (fun g50 => ?_)
          refine VO.store (k := 8) (c' := [Value.int .i64 (((shipNext 1 d0 a).1).1), Value.int .i64 (((shipNext 1 d0 a).1).2.1), Value.int .u8 (((shipNext 1 d0 a).1).2.2.1), Value.int .i64 (((shipNext 1 d0 a).1).2.2.2.1), Value.slice q49_0_A4 ((((shipNext 1 d0 a).1).2.2.2.2.1).length) (q49_0_c4), Value.int .i64 (((shipNext 1 d0 a).1).2.2.2.2.2.1), Value.int .i64 (((shipNext 1 d0 a).1).2.2.2.2.2.2.1), Value.slice q49_0_A7 ((((shipNext 1 d0 a).1).2.2.2.2.2.2.2).length) (q49_0_c7)]) 151 rfl rfl (.inl tk72) rfl rfl rfl rfl rfl ?_
          refine VO.y rfl (.as rfl) ?_
          refine VO.esub [(0, _), (1, _), (5, _), (6, _), (7, _), (8, _), (9, _), (10, _), (16, _), (25, _), (28, _), (45, _)] ⟨rfl, rfl, rfl, rfl, rfl, rfl, rfl, rfl, rfl, rfl, rfl, rfl, trivial⟩ (VO.nil ?_)
          refine VC.seq ?_
          refine VC.rs ?_
          refine VO.y rfl (.mv rfl) ?_
          refine VO.y rfl (.neq rfl rfl) ?_
          refine VO.y rfl (.mv rfl) ?_
          refine VO.dec (t := 55) rfl (fun hc52 => ?_) (fun hc52 => ?_)
          · -- FFFTT
            exfalso; exact hc52 (by rw [hn (by omega)])
          · -- FFFTF
            refine VO.gy rfl ⟨_, rfl, rfl⟩ (.ldA 151 rfl tk72 rfl (cellsAt_one rfl rfl)) ?_
            refine VO.gcallN 153 rfl ⟨_, rfl, rfl⟩ fnOk87 rfl (fun W hW => lCheck_ok W (Rd.mono f49_0 (hW.at (i := 149) rfl))) (fun v53 m53 hv53 => ?_)
            subst hv53
            have hfa54 := lCheck_range ((shipNext 1 d0 a).1)
            refine VO.gy rfl ⟨_, rfl, rfl⟩ (.neq rfl rfl) ?_
            refine VO.y rfl (.pF rfl rfl) ?_
            refine VO.y rfl (.mv rfl) ?_
            refine VO.dec (t := 60) rfl (fun hc55 => ?_) (fun hc55 => ?_)
            · -- FFFTFT
              exfalso; exact hc55 (by rw [hn (by omega)]; exact hc (by omega))
            · -- FFFTFF
              refine VO.gy rfl ⟨_, rfl, rfl⟩ (.fa rfl tst72 rfl) ?_
              refine VO.gy rfl ⟨_, rfl, rfl⟩ (.ld1 151 rfl tk3 rfl (cellsAt_one rfl rfl)) ?_
              refine VO.gy rfl ⟨_, rfl, rfl⟩ (.mv rfl) ?_
              refine VO.gy rfl ⟨_, rfl, rfl⟩ (.add rfl rfl rfl ⟨by first | omega | (simp only [List.length_append, List.length_nil, List.length_cons, List.length_take, List.length_drop] at *; omega) | (simp only [hn (by omega), List.length_take, List.length_drop]; omega), by first | omega | (simp only [List.length_append, List.length_nil, List.length_cons, List.length_take, List.length_drop] at *; omega) | (simp only [hn (by omega), List.length_take, List.length_drop]; omega)⟩) ?_
              refine VO.gy rfl ⟨_, rfl, rfl⟩ (.neq rfl rfl) ?_
              refine VO.y rfl (.pF rfl rfl) ?_
              refine VO.y rfl (.mv rfl) ?_
              refine VO.dec (t := 67) rfl (fun hc56 => ?_) (fun hc56 => ?_)
              · -- FFFTFFT
                exfalso; exact hc56 (by rw [hn (by omega)])
              · -- FFFTFFF
                refine VO.gy rfl ⟨_, rfl, rfl⟩ (.fa rfl tst72 rfl) ?_
                refine VO.gy rfl ⟨_, rfl, rfl⟩ (.ld1 151 rfl tk61 rfl (cellsAt_one rfl rfl)) ?_
                refine VO.gy rfl ⟨_, rfl, rfl⟩ (.lenS rfl tsl61) ?_
                refine VO.gy rfl ⟨_, rfl, rfl⟩ (.eql rfl rfl) ?_
                refine VO.y rfl (.pF rfl rfl) ?_
                refine VO.y rfl (.mv rfl) ?_
                refine VO.dec (t := 73) rfl (fun hc57 => ?_) (fun hc57 => ?_)
                · -- FFFTFFFT
                  exfalso; rw [hn (by omega)] at hc57; simp only [List.length_take, List.length_drop] at hc57; omega
                · -- FFFTFFFF
                  refine VO.gy rfl ⟨_, rfl, rfl⟩ (.fa rfl tst72 rfl) ?_
                  refine VO.gy rfl ⟨_, rfl, rfl⟩ (.ld1 151 rfl tk61 rfl (cellsAt_one rfl rfl)) ?_
                  refine VO.gy rfl ⟨_, rfl, rfl⟩ (.lenS rfl tsl61) ?_
                  refine VO.gy rfl ⟨_, rfl, rfl⟩ (.gtr rfl rfl) ?_
                  refine VO.y rfl (.pF rfl rfl) ?_
                  refine VO.esub [(0, _), (1, _), (5, _), (6, _), (7, _), (8, _), (9, _), (10, _), (16, _), (25, _), (28, _), (45, _), (78, _)] ⟨rfl, rfl, rfl, rfl, rfl, rfl, rfl, rfl, rfl, rfl, rfl, rfl, rfl, trivial⟩ (VO.nil ?_)
                  refine VC.cond rfl (fun hc58 => ?_) (fun hc58 => ?_)
                  · -- FFFTFFFFT
                    exfalso; rw [hn (by omega)] at hc58; simp only [List.length_take, List.length_drop] at hc58; omega
                  · -- FFFTFFFFF
                    refine VC.skip ?_
                    refine outN ?_
                    refine VC.rs ?_
                    refine VO.y rfl (.mv rfl) ?_
                    refine VO.y rfl (.fa rfl tst72 rfl) ?_
                    refine VO.y rfl (.ld1 151 rfl tk61 rfl (cellsAt_one rfl rfl)) ?_
                    refine VO.join 147 149 147 rfl rfl (fun hj60 => ?_)
                    have fj61 : OwnL TCommit _ (got_m) (mun (got_i) (m49)) (Value.slice got_A (got.length) (got_c)) (got) := OwnL.mono h_got (mle_un_left _ _)
                    have fj62 : Rd (.sl TCommit) (mun (got_i) (m49)) [Value.slice q49_0_A7 ((((shipNext 1 d0 a).1).2.2.2.2.2.2.2).length) (q49_0_c7)] (((shipNext 1 d0 a).1).2.2.2.2.2.2.2) := Rd.mono q49_0_7 hj60
                    have fj63 : Rd (.sl TStart) (mun (got_i) (m49)) [Value.slice q49_0_A4 ((((shipNext 1 d0 a).1).2.2.2.2.1).length) (q49_0_c4)] (((shipNext 1 d0 a).1).2.2.2.2.1) := Rd.mono q49_0_4 hj60
                    have fj64 : Rd TMessage (mun (got_i) (m49)) [Value.int .i64 (((shipNext 1 d0 a).1).1), Value.int .i64 (((shipNext 1 d0 a).1).2.1), Value.int .u8 (((shipNext 1 d0 a).1).2.2.1), Value.int .i64 (((shipNext 1 d0 a).1).2.2.2.1), Value.slice q49_0_A4 ((((shipNext 1 d0 a).1).2.2.2.2.1).length) (q49_0_c4), Value.int .i64 (((shipNext 1 d0 a).1).2.2.2.2.2.1), Value.int .i64 (((shipNext 1 d0 a).1).2.2.2.2.2.2.1), Value.slice q49_0_A7 ((((shipNext 1 d0 a).1).2.2.2.2.2.2.2).length) (q49_0_c7)] ((shipNext 1 d0 a).1) := Rd.mono f49_0 hj60
                    obtain ⟨cs59, hA59, hC59⟩ := fj61
                    obtain ⟨all59, hS59, hR59⟩ := Rd.srcI (P := Try.prog) (fj62) Try.underlying61
                    refine VO.app 146 rfl rfl rfl tsl61 tz52 rfl rfl hA59 (hS59 _ 147 rfl) hR59.nice (by simp only [maxLen]; (first | omega | (simp only [List.length_append, List.length_nil, List.length_cons, List.length_take, List.length_drop] at *; omega) | (simp only [hn (by omega), List.length_take, List.length_drop]; omega))) (by first | omega | (simp only [List.length_append, List.length_nil, List.length_cons, List.length_take, List.length_drop] at *; omega) | (simp only [hn (by omega), List.length_take, List.length_drop]; omega)) (by decide) (fun v59 m59 hN59 => ?_)
                    have ho59 : OwnL TCommit 52 m59 (mun (got_i) (m49)) v59 (got ++ (((shipNext 1 d0 a).1).2.2.2.2.2.2.2)) := OwnL.more hC59 hN59 hR59
                    obtain ⟨A59, c59, rfl, l59, k59⟩ := ho59.slice
                    simp only [maxLen] at k59
                    refine VO.y rfl (.as rfl) ?_
                    refine VO.esub [(0, _), (1, _), (5, _), (6, _), (7, _), (8, _), (9, _), (10, _), (16, _), (25, _), (28, _), (45, _), (78, _)] ⟨rfl, rfl, rfl, rfl, rfl, rfl, rfl, rfl, rfl, rfl, rfl, rfl, rfl, trivial⟩ (VO.nil ?_)
                    refine VC.reg ?_
                    refine VO.y rfl (.fa rfl tst72 rfl) ?_
                    refine VO.y rfl (.ld1 151 rfl tk3 rfl (cellsAt_one rfl rfl)) ?_
                    refine VO.y rfl (.sub rfl rfl rfl ⟨by first | omega | (simp only [List.length_append, List.length_nil, List.length_cons, List.length_take, List.length_drop] at *; omega) | (simp only [hn (by omega), List.length_take, List.length_drop]; omega), by first | omega | (simp only [List.length_append, List.length_nil, List.length_cons, List.length_take, List.length_drop] at *; omega) | (simp only [hn (by omega), List.length_take, List.length_drop]; omega)⟩) ?_
                    refine VO.y rfl (.fa rfl tst72 rfl) ?_
                    refine VO.y rfl (.ld1 151 rfl tk61 rfl (cellsAt_one rfl rfl)) ?_
                    refine VO.y rfl (.lenS rfl tsl61) ?_
                    refine VO.y rfl (.add rfl rfl rfl ⟨by first | omega | (simp only [List.length_append, List.length_nil, List.length_cons, List.length_take, List.length_drop] at *; omega) | (simp only [hn (by omega), List.length_take, List.length_drop]; omega), by first | omega | (simp only [List.length_append, List.length_nil, List.length_cons, List.length_take, List.length_drop] at *; omega) | (simp only [hn (by omega), List.length_take, List.length_drop]; omega)⟩) ?_
                    refine VO.y rfl (.as rfl) ?_
                    refine VO.esub [(0, _), (1, _), (5, _), (6, _), (7, _), (8, _), (9, _), (10, _), (16, _), (25, _), (28, _), (45, _), (78, _)] ⟨rfl, rfl, rfl, rfl, rfl, rfl, rfl, rfl, rfl, rfl, rfl, rfl, rfl, trivial⟩ (VO.nil ?_)
                    refine outBN ?_
                    exact outN ⟨⟨((((shipNext 1 d0 a).1).2.2.2.2.2.1) - 1) + (((((shipNext 1 d0 a).1).2.2.2.2.2.2.2).length : Nat) : Int), got ++ (((shipNext 1 d0 a).1).2.2.2.2.2.2.2), A59, c59, m59, mun (got_i) (m49)⟩, ⟨by (simp only [hn (by omega), List.length_take, List.length_drop]; omega), by (simp only [hn (by omega), List.length_take, List.length_drop]; omega), by (simp only [hn (by omega)]; exact got_next hg (by omega) ia (by omega)), ho59⟩, by (simp only [hn (by omega), List.length_take, List.length_drop]; omega), ⟨⟨rfl, rfl, rfl, rfl, rfl, rfl, rfl, rfl, rfl, trivial⟩, fun _ h => h.sub [147, 146, 0]⟩⟩
        · -- FFFF
          refine VC.exit ?_
          refine outE ?_
          refine outE ?_
          refine outBB ?_
          refine outN ?_
          refine VC.rs ?_
          refine VO.y rfl (.mv rfl) ?_
          refine VO.y rfl (.mv rfl) ?_
          refine VO.y rfl (.mv rfl) ?_
          refine VO.y rfl (.lenS rfl tsl61) ?_
          refine VO.callN 165 rfl fnOk65 rfl (fun W hW => next_ok W 1 (by simp only [inK]; (first | omega | (simp only [List.length_append, List.length_nil, List.length_cons, List.length_take, List.length_drop] at *; omega) | (simp only [hn (by omega), List.length_take, List.length_drop]; omega))) (Rd.mono h0 (hW.at (i := 0) rfl)) ((d0.length : Nat) : Int) (by simp only [inK]; (first | omega | (simp only [List.length_append, List.length_nil, List.length_cons, List.length_take, List.length_drop] at *; omega) | (simp only [hn (by omega), List.length_take, List.length_drop]; omega)))) (fun v65 m65 hv65 => ?_)
          obtain ⟨s65_0, rfl, f65_0⟩ := hv65
          obtain ⟨q65_0_A4, q65_0_c4, q65_0_A7, q65_0_c7, rfl, q65_0_0, q65_0_1, q65_0_2, q65_0_3, q65_0_4, q65_0_5, q65_0_6, q65_0_7⟩ := open_Message f65_0
          simp only [inK] at q65_0_0
          simp only [inK] at q65_0_1
          simp only [inK] at q65_0_2
          simp only [inK] at q65_0_3
          have q65_0_r4 := Rd.room q65_0_4
          simp only [inK] at q65_0_5
          simp only [inK] at q65_0_6
          have q65_0_r7 := Rd.room q65_0_7
          refine VO.y rfl (.mv rfl) ?_
          refine VO.y rfl (.ext rfl rfl) ?_
          refine VO.y rfl (.ext rfl rfl) ?_
          refine VO.alloc 167 rfl tz72 (fun g66 => ?_)
          refine VO.store (k := 8) (c' := [Value.int .i64 (((shipNext 1 d0 ((d0.length : Nat) : Int)).1).1), Value.int .i64 (((shipNext 1 d0 ((d0.length : Nat) : Int)).1).2.1), Value.int .u8 (((shipNext 1 d0 ((d0.length : Nat) : Int)).1).2.2.1), Value.int .i64 (((shipNext 1 d0 ((d0.length : Nat) : Int)).1).2.2.2.1), Value.slice q65_0_A4 ((((shipNext 1 d0 ((d0.length : Nat) : Int)).1).2.2.2.2.1).length) (q65_0_c4), Value.int .i64 (((shipNext 1 d0 ((d0.length : Nat) : Int)).1).2.2.2.2.2.1), Value.int .i64 (((shipNext 1 d0 ((d0.length : Nat) : Int)).1).2.2.2.2.2.2.1), Value.slice q65_0_A7 ((((shipNext 1 d0 ((d0.length : Nat) : Int)).1).2.2.2.2.2.2.2).length) (q65_0_c7)]) 167 rfl rfl (.inl tk72) rfl rfl rfl rfl rfl ?_
          refine VO.y rfl (.as rfl) ?_
          refine VO.esub [(0, _), (1, _), (5, _), (6, _), (7, _), (8, _), (11, _), (12, _), (16, _), (25, _), (28, _), (45, _)] ⟨rfl, rfl, rfl, rfl, rfl, rfl, rfl, rfl, rfl, rfl, rfl, rfl, trivial⟩ (VO.nil ?_)
          refine VC.rs ?_
          refine VO.y rfl (.mv rfl) ?_
          refine VO.y rfl (.mv rfl) ?_
          refine VO.callN 168 rfl fnOk67 rfl (fun W hW => hello_ok W 1 (by simp only [inK]; (first | omega | (simp only [List.length_append, List.length_nil, List.length_cons, List.length_take, List.length_drop] at *; omega) | (simp only [hn (by omega), List.length_take, List.length_drop]; omega))) 2 (by simp only [inK]; (first | omega | (simp only [List.length_append, List.length_nil, List.length_cons, List.length_take, List.length_drop] at *; omega) | (simp only [hn (by omega), List.length_take, List.length_drop]; omega))) (Rd.mono h0 (hW.at (i := 0) rfl)) (by first | omega | (simp only [List.length_append, List.length_nil, List.length_cons, List.length_take, List.length_drop] at *; omega) | (simp only [hn (by omega), List.length_take, List.length_drop]; omega))) (fun v68 m68 hv68 => ?_)
          obtain ⟨s68_0, rfl, f68_0⟩ := hv68
          obtain ⟨q68_0_A4, q68_0_c4, q68_0_A7, q68_0_c7, rfl, q68_0_0, q68_0_1, q68_0_2, q68_0_3, q68_0_4, q68_0_5, q68_0_6, q68_0_7⟩ := open_Message f68_0
          simp only [inK] at q68_0_0
          simp only [inK] at q68_0_1
          simp only [inK] at q68_0_2
          simp only [inK] at q68_0_3
          have q68_0_r4 := Rd.room q68_0_4
          simp only [inK] at q68_0_5
          simp only [inK] at q68_0_6
          have q68_0_r7 := Rd.room q68_0_7
          refine VO.y rfl (.mv rfl) ?_
          refine VO.y rfl (.ext rfl rfl) ?_
          refine VO.y rfl (.ext rfl rfl) ?_
          refine VO.alloc 170 rfl tz72 (fun g69 => ?_)
          refine VO.store (k := 8) (c' := [Value.int .i64 (((shipHello 1 2 d0).1).1), Value.int .i64 (((shipHello 1 2 d0).1).2.1), Value.int .u8 (((shipHello 1 2 d0).1).2.2.1), Value.int .i64 (((shipHello 1 2 d0).1).2.2.2.1), Value.slice q68_0_A4 ((((shipHello 1 2 d0).1).2.2.2.2.1).length) (q68_0_c4), Value.int .i64 (((shipHello 1 2 d0).1).2.2.2.2.2.1), Value.int .i64 (((shipHello 1 2 d0).1).2.2.2.2.2.2.1), Value.slice q68_0_A7 ((((shipHello 1 2 d0).1).2.2.2.2.2.2.2).length) (q68_0_c7)]) 170 rfl rfl (.inl tk72) rfl rfl rfl rfl rfl ?_
          refine VO.y rfl (.as rfl) ?_
          refine VO.esub [(0, _), (1, _), (5, _), (6, _), (7, _), (8, _), (11, _), (12, _), (13, _), (14, _), (16, _), (25, _), (28, _), (45, _)] ⟨rfl, rfl, rfl, rfl, rfl, rfl, rfl, rfl, rfl, rfl, rfl, rfl, rfl, rfl, trivial⟩ (VO.nil ?_)
          refine VC.rs ?_
          refine VO.y rfl (.mv rfl) ?_
          refine VO.y rfl (.eql rfl rfl) ?_
          refine VO.y rfl (.mv rfl) ?_
          refine VO.dec (t := 106) rfl (fun hc71 => ?_) (fun hc71 => ?_)
          · -- FFFFT
            refine VO.gy rfl ⟨_, rfl, rfl⟩ (.fa rfl tst72 rfl) ?_
            refine VO.gy rfl ⟨_, rfl, rfl⟩ (.ld1 167 rfl tk61 rfl (cellsAt_one rfl rfl)) ?_
            refine VO.gy rfl ⟨_, rfl, rfl⟩ (.lenS rfl tsl61) ?_
            refine VO.gy rfl ⟨_, rfl, rfl⟩ (.eql rfl rfl) ?_
            refine VO.y rfl (.pT rfl rfl) ?_
            refine VO.y rfl (.mv rfl) ?_
            refine VO.dec (t := 112) rfl (fun hc72 => ?_) (fun hc72 => ?_)
            · -- FFFFTT
              refine VO.gy rfl ⟨_, rfl, rfl⟩ (.mv rfl) ?_
              refine VO.gy rfl ⟨_, rfl, rfl⟩ (.eql rfl rfl) ?_
              refine VO.y rfl (.pT rfl rfl) ?_
              refine VO.y rfl (.mv rfl) ?_
              refine VO.dec (t := 116) rfl (fun hc73 => ?_) (fun hc73 => ?_)
              · -- FFFFTTT
                refine VO.gy rfl ⟨_, rfl, rfl⟩ (.ldA 170 rfl tk72 rfl (cellsAt_one rfl rfl)) ?_
                refine VO.gcallN 174 rfl ⟨_, rfl, rfl⟩ fnOk87 rfl (fun W hW => lCheck_ok W (Rd.mono f68_0 (hW.at (i := 168) rfl))) (fun v74 m74 hv74 => ?_)
                subst hv74
                have hfa75 := lCheck_range ((shipHello 1 2 d0).1)
                refine VO.gy rfl ⟨_, rfl, rfl⟩ (.eql rfl rfl) ?_
                refine VO.y rfl (.pT rfl rfl) ?_
                refine VO.y rfl (.mv rfl) ?_
                refine VO.dec (t := 121) rfl (fun hc76 => ?_) (fun hc76 => ?_)
                · -- FFFFTTTT
                  refine VO.gy rfl ⟨_, rfl, rfl⟩ (.fa rfl tst72 rfl) ?_
                  refine VO.gy rfl ⟨_, rfl, rfl⟩ (.ld1 170 rfl tk3 rfl (cellsAt_one rfl rfl)) ?_
                  refine VO.gy rfl ⟨_, rfl, rfl⟩ (.mv rfl) ?_
                  refine VO.gy rfl ⟨_, rfl, rfl⟩ (.lenS rfl tsl61) ?_
                  refine VO.gy rfl ⟨_, rfl, rfl⟩ (.eql rfl rfl) ?_
                  refine VO.y rfl (.pT rfl rfl) ?_
                  refine VO.y rfl (.mv rfl) ?_
                  refine VO.dec (t := 128) rfl (fun hc77 => ?_) (fun hc77 => ?_)
                  · -- FFFFTTTTT
                    refine VO.gy rfl ⟨_, rfl, rfl⟩ (.mv rfl) ?_
                    refine VO.gy rfl ⟨_, rfl, rfl⟩ (.mv rfl) ?_
                    refine VO.gy rfl ⟨_, rfl, rfl⟩ (.mv rfl) ?_
                    obtain ⟨A78, hA78, hs78⟩ := h0.drop 3 ((pickI d1 ((d0.length + 1 : Nat) : Int)).toNat) rfl (by first | omega | (simp only [List.length_append, List.length_nil, List.length_cons, List.length_take, List.length_drop] at *; omega) | (simp only [hn (by omega), List.length_take, List.length_drop]; omega))
                    refine VO.gy rfl ⟨_, rfl, rfl⟩ (.slLI ((pickI d1 ((d0.length + 1 : Nat) : Int)).toNat) A78 rfl rfl tsl61 (by first | omega | (simp only [List.length_append, List.length_nil, List.length_cons, List.length_take, List.length_drop] at *; omega) | (simp only [hn (by omega), List.length_take, List.length_drop]; omega)) hA78 (by first | omega | (simp only [List.length_append, List.length_nil, List.length_cons, List.length_take, List.length_drop] at *; omega) | (simp only [hn (by omega), List.length_take, List.length_drop]; omega))) ?_
                    refine VO.gcallN 179 rfl ⟨_, rfl, rfl⟩ fnOk69 rfl (fun W hW => SameCommits_ok W (OwnL.rd h_got (hW.at (i := 146) rfl) (hW.at (i := 147) rfl)) (Rd.mono hs78 (hW.at (i := 0) rfl))) (fun v79 m79 hv79 => ?_)
                    subst hv79
                    refine VO.y rfl (.pT rfl rfl) ?_
                    refine VO.y rfl (.as rfl) ?_
                    refine VO.esub [(0, _), (1, _), (4, _), (5, _), (6, _), (7, _), (8, _), (11, _), (12, _), (13, _), (14, _), (16, _), (25, _), (28, _), (45, _)] ⟨rfl, rfl, rfl, rfl, rfl, rfl, rfl, rfl, rfl, rfl, rfl, rfl, rfl, rfl, rfl, trivial⟩ (VO.nil ?_)
                    refine VC.ret ?_
                    refine ⟨_, mnil, res_run (rs := [.tmp 4]) rfl (.tmp rfl .nil), fun W_ hI => ⟨?_, own_nil rfl _ hI⟩⟩
                    dsimp only [packV]
                    all_goals (first | rfl | (exact congrArg Value.bool (decide_eq_true (by rw [hg, List.take_of_length_le (by simp only [List.length_drop]; omega)]))))
                  · -- FFFFTTTTF
                    exfalso; exact hc77 (by rw [hh.1])
                · -- FFFFTTTF
                  exfalso; exact hc76 (by rw [hh.1]; exact hh.2)
              · -- FFFFTTF
                exfalso; exact hc73 (by rw [hh.1])
            · -- FFFFTF
              exfalso; exact hc72 (by rw [hn2]; simp)
          · -- FFFFF
            exfalso; exact hc71 (by rw [hn2])
end Go.Proofs.Ytfaknkkaegjdaaa
