/- Walks, printed by program: what lagleashlaw17 ShipAll compute. Conditions: those named in each theorem. -/
import Derived.Test.YtfaknkkaegjdaaaW9
import Derived.Test.YtfaknkkaegjdaaaW6
import Derived.Test.YtfaknkkaegjdaaaSpec5
set_option linter.unusedVariables false
set_option linter.unusedSimpArgs false
set_option maxRecDepth 4000
namespace Go.Proofs.Ytfaknkkaegjdaaa
theorem fnOk43 : fnOk Try.prog 43 = true := by kernel_rfl
theorem fnOk72 : fnOk Try.prog 72 = true := by kernel_rfl
theorem shipAll_ok (W : World) {v0 : Value} {d0 : List DCommit} (h0 : Rd (.sl TCommit) (wm W) [v0] d0) (d1 : Int) (h1 : inK .i64 d1) : CallR Try.prog 20 [v0, .int .i64 d1] W (mnil) (fun v m' => v = .bool true) := by
  obtain ⟨A0, c0, rfl, l0, k0⟩ := h0.slice
  simp only [maxLen] at k0
  have h1' := h1; simp only [inK] at h1'
  refine CallR.ofA (n := 135) Try.func20 rfl rfl rfl ?_
  refine VC.rs ?_
  refine VO.y rfl (.as rfl) ?_
  refine VO.esub [(0, _), (1, _), (4, _)] ⟨rfl, rfl, rfl, trivial⟩ (VO.nil ?_)
  refine VC.seq ?_
  refine VC.rs ?_
  refine VO.callN 101 rfl fnOk70 rfl (fun W hW => lives17_ok W ) (fun v1 m1 hv1 => ?_)
  subst hv1
  refine VO.y rfl (.not rfl) ?_
  refine VO.esub [(0, _), (1, _), (4, _), (16, _)] ⟨rfl, rfl, rfl, rfl, trivial⟩ (VO.nil ?_)
  refine VC.condF rfl ?_
  refine VC.skip ?_
  refine outN ?_
  refine VC.seq ?_
  refine VC.rs ?_
  refine VO.y rfl (.mv rfl) ?_
  refine VO.callN 102 rfl fnOk72 rfl (fun W hW => small17_ok W (Rd.mono h0 (hW.at (i := 0) rfl))) (fun v2 m2 hv2 => ?_)
  subst hv2
  refine VO.y rfl (.notD rfl) ?_
  refine VO.y rfl (.mv rfl) ?_
  refine VO.dec (t := 20) rfl (fun hc3 => ?_) (fun hc3 => ?_)
  · -- T
    refine VO.gn rfl (.inl ⟨_, rfl, rfl⟩) ?_
    refine VO.gn rfl (.inl ⟨_, rfl, rfl⟩) ?_
    refine VO.gn rfl (.inl ⟨_, rfl, rfl⟩) ?_
    refine VO.gn rfl (.inl ⟨_, rfl, rfl⟩) ?_
    refine VO.y rfl (.pT rfl rfl) ?_
    refine VO.esub [(0, _), (1, _), (4, _), (16, _), (25, _)] ⟨rfl, rfl, rfl, rfl, rfl, trivial⟩ (VO.nil ?_)
    refine VC.condT rfl ?_
    refine VC.rs ?_
    refine VO.y rfl (.as rfl) ?_
    refine VO.esub [(0, _), (1, _), (4, _), (16, _), (25, _)] ⟨rfl, rfl, rfl, rfl, rfl, trivial⟩ (VO.nil ?_)
    refine VC.ret ?_
    refine outR ?_
    refine ⟨_, _, res_run (rs := [.tmp 4]) rfl (.tmp rfl .nil), fun W_ hI => out_of (l := []) hI [] rfl rfl (mle_refl _) (fun hS_ => ?_)⟩
    dsimp only [packV]
    all_goals (first | rfl | (exact congrArg Value.bool (decide_eq_true (by rw [hg, List.take_of_length_le (by simp only [List.length_drop]; omega)]))))
  · -- F
    refine VO.gy rfl ⟨_, rfl, rfl⟩ (.mv rfl) ?_
    refine VO.gcallN 104 rfl ⟨_, rfl, rfl⟩ fnOk52 rfl (fun W hW => follows_ok W 0 (by simp only [inK]; (first | omega | (simp only [List.length_append, List.length_nil, List.length_cons, List.length_take, List.length_drop] at *; omega) | (simp only [hn (by omega), List.length_take, List.length_drop]; omega))) 0 (by simp only [inK]; (first | omega | (simp only [List.length_append, List.length_nil, List.length_cons, List.length_take, List.length_drop] at *; omega) | (simp only [hn (by omega), List.length_take, List.length_drop]; omega))) (Rd.mono h0 (hW.at (i := 0) rfl))) (fun v4 m4 hv4 => ?_)
    obtain ⟨s4_0, rfl, f4_0⟩ := hv4
    obtain ⟨rfl, q4_0_0, q4_0_1⟩ := open_Fault (x0 := (cFollows 0 0 d0).1) (x1 := (cFollows 0 0 d0).2) (f4_0.rd (mle_refl _))
    simp only [inK] at q4_0_0
    simp only [inK] at q4_0_1
    refine VO.gy rfl ⟨_, rfl, rfl⟩ (.bst (cs := [Value.int .i64 (0), Value.int .i64 (0)]) rfl tst57 tz57 rfl) ?_
    refine VO.gy rfl ⟨_, rfl, rfl⟩ (.stneq (p := ((cFollows 0 0 d0).1) = 0 ∧ ((cFollows 0 0 d0).2) = 0) rfl rfl (teq57 ((cFollows 0 0 d0).1) ((cFollows 0 0 d0).2)) (teq57 0 0) (by simp [ceq, ba_toList])) ?_
    refine VO.y rfl (.pF rfl rfl) ?_
    refine VO.esub [(0, _), (1, _), (4, _), (16, _), (25, _)] ⟨rfl, rfl, rfl, rfl, rfl, trivial⟩ (VO.nil ?_)
    refine VC.cond rfl (fun hc5 => ?_) (fun hc5 => ?_)
    · -- FT
      refine VC.rs ?_
      refine VO.y rfl (.as rfl) ?_
      refine VO.esub [(0, _), (1, _), (4, _), (16, _), (25, _)] ⟨rfl, rfl, rfl, rfl, rfl, trivial⟩ (VO.nil ?_)
      refine VC.ret ?_
      refine outR ?_
      refine ⟨_, _, res_run (rs := [.tmp 4]) rfl (.tmp rfl .nil), fun W_ hI => out_of (l := []) hI [] rfl rfl (mle_refl _) (fun hS_ => ?_)⟩
      dsimp only [packV]
      all_goals (first | rfl | (exact congrArg Value.bool (decide_eq_true (by rw [hg, List.take_of_length_le (by simp only [List.length_drop]; omega)]))))
    · -- FF
      refine VC.skip ?_
      refine outN ?_
      refine VC.rs ?_
      refine VO.y rfl (.as rfl) ?_
      refine VO.esub [(0, _), (1, _), (4, _), (5, _), (16, _), (25, _)] ⟨rfl, rfl, rfl, rfl, rfl, rfl, trivial⟩ (VO.nil ?_)
      refine VC.seq ?_
      refine VC.rs ?_
      refine VO.y rfl (.mv rfl) ?_
      refine VO.y rfl (.lenS rfl tsl61) ?_
      refine VO.y rfl (.gtr rfl rfl) ?_
      refine VO.esub [(0, _), (1, _), (4, _), (5, _), (16, _), (25, _), (28, _)] ⟨rfl, rfl, rfl, rfl, rfl, rfl, rfl, trivial⟩ (VO.nil ?_)
      refine VC.cond rfl (fun hc6 => ?_) (fun hc6 => ?_)
      · -- FFT
        refine VC.reg ?_
        refine VO.y rfl (.mv rfl) ?_
        refine VO.y rfl (.mv rfl) ?_
        refine VO.y rfl (.lenS rfl tsl61) ?_
        refine VO.y rfl (.sub rfl rfl rfl ⟨by first | omega | (simp only [List.length_append, List.length_nil, List.length_cons, List.length_take, List.length_drop] at *; omega) | (simp only [hn (by omega), List.length_take, List.length_drop]; omega), by first | omega | (simp only [List.length_append, List.length_nil, List.length_cons, List.length_take, List.length_drop] at *; omega) | (simp only [hn (by omega), List.length_take, List.length_drop]; omega)⟩) ?_
        obtain ⟨x7, hx7⟩ : ∃ x, (d0)[(((d0.length : Nat) : Int) - 1).toNat]? = some x := ⟨_, List.getElem?_eq_getElem (by first | omega | (simp only [List.length_append, List.length_nil, List.length_cons, List.length_take, List.length_drop] at *; omega) | (simp only [hn (by omega), List.length_take, List.length_drop]; omega))⟩
        obtain ⟨gg7, oo7, ec7, ea7, hce7, hre7⟩ := h0.elem hx7
        cases ea7
        obtain ⟨q7_A2, q7_c2, rfl, q7_0, q7_1, q7_2⟩ := open_Commit (x0 := x7.1) (x1 := x7.2.1) (x2 := x7.2.2) hre7
        simp only [inK] at q7_0
        simp only [inK] at q7_1
        have q7_r2 := Rd.room q7_2
        refine VO.y rfl (.ixI ((((d0.length : Nat) : Int) - 1).toNat) rfl rfl tsl61 (by first | omega | (simp only [List.length_append, List.length_nil, List.length_cons, List.length_take, List.length_drop] at *; omega) | (simp only [hn (by omega), List.length_take, List.length_drop]; omega)) (by first | omega | (simp only [List.length_append, List.length_nil, List.length_cons, List.length_take, List.length_drop] at *; omega) | (simp only [hn (by omega), List.length_take, List.length_drop]; omega))) ?_
        refine VO.y rfl (.fa rfl tst52 rfl) ?_
        refine VO.y rfl (.ld1 0 rfl tk3 rfl (hce7.at1 (j := 0) rfl)) ?_
        refine VO.y rfl (.as rfl) ?_
        refine VO.esub [(0, _), (1, _), (4, _), (5, _), (16, _), (25, _), (28, _)] ⟨rfl, rfl, rfl, rfl, rfl, rfl, rfl, trivial⟩ (VO.nil ?_)
        refine outN ?_
        refine VC.rs ?_
        refine VO.y rfl (.mv rfl) ?_
        refine VO.y rfl (.mv rfl) ?_
        refine VO.y rfl (.lenS rfl tsl61) ?_
        refine VO.y rfl (.add (c := ((d0.length + 1 : Nat) : Int)) rfl rfl (by omega) ⟨by first | omega | (simp only [List.length_append, List.length_nil, List.length_cons, List.length_take, List.length_drop] at *; omega) | (simp only [hn (by omega), List.length_take, List.length_drop]; omega), by first | omega | (simp only [List.length_append, List.length_nil, List.length_cons, List.length_take, List.length_drop] at *; omega) | (simp only [hn (by omega), List.length_take, List.length_drop]; omega)⟩) ?_
        refine VO.callN 108 rfl fnOk43 rfl (fun W hW => pick_ok W d1 (by simp only [inK]; (first | omega | (simp only [List.length_append, List.length_nil, List.length_cons, List.length_take, List.length_drop] at *; omega) | (simp only [hn (by omega), List.length_take, List.length_drop]; omega))) ((d0.length + 1 : Nat) : Int) (by simp only [inK]; (first | omega | (simp only [List.length_append, List.length_nil, List.length_cons, List.length_take, List.length_drop] at *; omega) | (simp only [hn (by omega), List.length_take, List.length_drop]; omega))) (by first | omega | (simp only [List.length_append, List.length_nil, List.length_cons, List.length_take, List.length_drop] at *; omega) | (simp only [hn (by omega), List.length_take, List.length_drop]; omega))) (fun v8 m8 hv8 => ?_)
        subst hv8
        have hfa9 := pickI_bounds d1 ((d0.length + 1 : Nat) : Int) (by omega)
        refine VO.y rfl (.as rfl) ?_
        refine VO.esub [(0, _), (1, _), (4, _), (5, _), (6, _), (16, _), (25, _), (28, _)] ⟨rfl, rfl, rfl, rfl, rfl, rfl, rfl, rfl, trivial⟩ (VO.nil ?_)
        refine VC.rs ?_
        refine VO.y rfl (.as rfl) ?_
        refine VO.esub [(0, _), (1, _), (4, _), (5, _), (6, _), (7, _), (16, _), (25, _), (28, _)] ⟨rfl, rfl, rfl, rfl, rfl, rfl, rfl, rfl, rfl, trivial⟩ (VO.nil ?_)
        refine VC.rs ?_
        refine VO.y rfl (.mv rfl) ?_
        refine VO.y rfl (.as rfl) ?_
        refine VO.esub [(0, _), (1, _), (4, _), (5, _), (6, _), (7, _), (8, _), (16, _), (25, _), (28, _)] ⟨rfl, rfl, rfl, rfl, rfl, rfl, rfl, rfl, rfl, rfl, trivial⟩ (VO.nil ?_)
        refine VC.seq ?_
        refine VC.block ?_
        refine VC.inv ((110, mnil) :: _) (fun _ h => h.nilc 110) ?_
        refine VC.loop (G := Int × (List DCommit) × (Option Addr) × Nat × Mem) (fun g => [(7, Value.slice (g.2.2.1) ((g.2.1).length) ((g.2.2.2.1))), (8, Value.int .i64 ((g.1))), (0, Value.slice (some ⟨gg7, oo7, none⟩) (d0.length) (c0)), (1, Value.int .i64 (d1)), (5, Value.int .i64 (x7.1)), (6, Value.int .i64 (pickI d1 ((d0.length + 1 : Nat) : Int))), (16, Value.bool false), (25, Value.bool (decide (¬ (((cFollows 0 0 d0).1) = 0 ∧ ((cFollows 0 0 d0).2) = 0)))), (28, Value.bool (decide (0 < ((d0.length : Nat) : Int))))]) (fun g => [(110, (g.2.2.2.2)), (0, wm W)]) (fun g => (pickI d1 ((d0.length + 1 : Nat) : Int) ≤ (g.1)) ∧ ((g.1) ≤ d0.length) ∧ ((g.2.1) = (d0.drop (pickI d1 ((d0.length + 1 : Nat) : Int)).toNat).take ((g.1) - pickI d1 ((d0.length + 1 : Nat) : Int)).toNat) ∧ (Ow (.sl TCommit) (g.2.2.2.2) [.slice (g.2.2.1) (g.2.1).length (g.2.2.2.1)] (g.2.1))) (fun g => ((d0.length : Int) - (g.1)).toNat) (pickI d1 ((d0.length + 1 : Nat) : Int), [], none, 0, mnil) (⟨by omega, by omega, by simp, (Ow.nil TCommit mnil)⟩) ⟨⟨rfl, rfl, rfl, rfl, rfl, rfl, rfl, rfl, rfl, trivial⟩, fun _ h => h.sub [110, 0]⟩ ?_
        rintro ⟨a, got, got_A, got_c, got_m⟩ ⟨ia, ib, hg, h_got⟩
        replace ia : pickI d1 ((d0.length + 1 : Nat) : Int) ≤ a := ia
        replace ib : a ≤ d0.length := ib
        replace hg : got = (d0.drop (pickI d1 ((d0.length + 1 : Nat) : Int)).toNat).take (a - pickI d1 ((d0.length + 1 : Nat) : Int)).toNat := hg
        replace h_got : Ow (.sl TCommit) got_m [.slice got_A got.length got_c] got := h_got
        show VC _ _ _ _ _ [(7, Value.slice got_A (got.length) (got_c)), (8, Value.int .i64 (a)), (0, Value.slice (some ⟨gg7, oo7, none⟩) (d0.length) (c0)), (1, Value.int .i64 (d1)), (5, Value.int .i64 (x7.1)), (6, Value.int .i64 (pickI d1 ((d0.length + 1 : Nat) : Int))), (16, Value.bool false), (25, Value.bool (decide (¬ (((cFollows 0 0 d0).1) = 0 ∧ ((cFollows 0 0 d0).2) = 0)))), (28, Value.bool (decide (0 < ((d0.length : Nat) : Int))))] [(110, got_m), (0, wm W)]
        have l_got : got.length ≤ got_c := by obtain ⟨_, _, he, hl, _⟩ := h_got.slice; simp only [Value.slice.injEq] at he; omega
        have k_got : got_c ≤ 9223372036854775807 := by obtain ⟨_, _, he, _, hl⟩ := h_got.slice; simp only [Value.slice.injEq, maxLen] at he hl; omega
        first | have hE := lastE_of ‹d0[_]? = some _› (by omega) | have hE := lastE_nil (l := d0) (by omega)
        have hv : (cFollows 0 0 d0).1 = 0 := by omega
        have hn := fun (hb : a < d0.length) => next_last (k := a) hv (by omega) (by omega) (by omega)
        have hc := fun (hb : a < d0.length) => next_lCheck (k := a) hv (by omega) (by omega) (by omega)
        rw [hE] at hn hc
        have hn2 := next_last (k := (d0.length : Int)) hv (by omega) (by omega) (by omega)
        have hh := hello_lCheck (r := 2) hv (by omega)
        rw [hE] at hn2 hh
        have hgl : got.length ≤ 40 := by rw [hg]; simp only [List.length_take, List.length_drop]; omega
        refine VC.seq ?_
        refine VC.rs ?_
        refine VO.y rfl (.mv rfl) ?_
        refine VO.y rfl (.mv rfl) ?_
        refine VO.y rfl (.lenS rfl tsl61) ?_
        refine VO.y rfl (.lss rfl rfl) ?_
        refine VO.esub [(0, _), (1, _), (5, _), (6, _), (7, _), (8, _), (16, _), (25, _), (28, _), (45, _)] ⟨rfl, rfl, rfl, rfl, rfl, rfl, rfl, rfl, rfl, rfl, trivial⟩ (VO.nil ?_)
        refine VC.cond rfl (fun hc11 => ?_) (fun hc11 => ?_)
        · -- FFTT
          refine VC.skip ?_
          refine outN ?_
          refine VC.block ?_
          refine VC.rs ?_
          refine VO.y rfl (.mv rfl) ?_
          refine VO.y rfl (.mv rfl) ?_
          refine VO.y rfl (.mv rfl) ?_
          refine VO.callN 112 rfl fnOk65 rfl (fun W hW => next_ok W x7.1 (by simp only [inK]; (first | omega | (simp only [List.length_append, List.length_nil, List.length_cons, List.length_take, List.length_drop] at *; omega) | (simp only [hn (by omega), List.length_take, List.length_drop]; omega))) (Rd.mono h0 (hW.at (i := 0) rfl)) a (by simp only [inK]; (first | omega | (simp only [List.length_append, List.length_nil, List.length_cons, List.length_take, List.length_drop] at *; omega) | (simp only [hn (by omega), List.length_take, List.length_drop]; omega)))) (fun v12 m12 hv12 => ?_)
          obtain ⟨s12_0, rfl, f12_0⟩ := hv12
          obtain ⟨q12_0_A4, q12_0_c4, q12_0_A7, q12_0_c7, q12_0_n4, q12_0_n7, rfl, q12_0_S, q12_0_0, q12_0_1, q12_0_2, q12_0_3, q12_0_4, q12_0_5, q12_0_6, q12_0_7⟩ := openO_Message (x0 := ((shipNext x7.1 d0 a).1).1) (x1 := ((shipNext x7.1 d0 a).1).2.1) (x2 := ((shipNext x7.1 d0 a).1).2.2.1) (x3 := ((shipNext x7.1 d0 a).1).2.2.2.1) (x4 := ((shipNext x7.1 d0 a).1).2.2.2.2.1) (x5 := ((shipNext x7.1 d0 a).1).2.2.2.2.2.1) (x6 := ((shipNext x7.1 d0 a).1).2.2.2.2.2.2.1) (x7 := ((shipNext x7.1 d0 a).1).2.2.2.2.2.2.2) f12_0
          simp only [inK] at q12_0_0
          simp only [inK] at q12_0_1
          simp only [inK] at q12_0_2
          simp only [inK] at q12_0_3
          have q12_0_r4 := Rd.room (q12_0_4.rd (mle_refl _))
          simp only [inK] at q12_0_5
          simp only [inK] at q12_0_6
          have q12_0_r7 := Rd.room (q12_0_7.rd (mle_refl _))
          refine VO.inv _ (fun _ h => h.parts (i := 112) rfl q12_0_S [113, 114]) ?_
          refine VO.y rfl (.mv rfl) ?_
          refine VO.y rfl (.ext rfl rfl) ?_
          refine VO.y rfl (.ext rfl rfl) ?_
          refine VO.alloc 116 rfl tz72 (fun g15 => ?_)
          refine VO.store (k := 8) (c' := [Value.int .i64 (((shipNext x7.1 d0 a).1).1), Value.int .i64 (((shipNext x7.1 d0 a).1).2.1), Value.int .u8 (((shipNext x7.1 d0 a).1).2.2.1), Value.int .i64 (((shipNext x7.1 d0 a).1).2.2.2.1), Value.slice q12_0_A4 ((((shipNext x7.1 d0 a).1).2.2.2.2.1).length) (q12_0_c4), Value.int .i64 (((shipNext x7.1 d0 a).1).2.2.2.2.2.1), Value.int .i64 (((shipNext x7.1 d0 a).1).2.2.2.2.2.2.1), Value.slice q12_0_A7 ((((shipNext x7.1 d0 a).1).2.2.2.2.2.2.2).length) (q12_0_c7)]) 116 rfl rfl (.inl tk72) rfl rfl rfl rfl rfl ?_
          refine VO.y rfl (.as rfl) ?_
          refine VO.esub [(0, _), (1, _), (5, _), (6, _), (7, _), (8, _), (9, _), (10, _), (16, _), (25, _), (28, _), (45, _)] ⟨rfl, rfl, rfl, rfl, rfl, rfl, rfl, rfl, rfl, rfl, rfl, rfl, trivial⟩ (VO.nil ?_)
          refine VC.seq ?_
          refine VC.rs ?_
          refine VO.y rfl (.mv rfl) ?_
          refine VO.y rfl (.neq rfl rfl) ?_
          refine VO.y rfl (.mv rfl) ?_
          refine VO.dec (t := 55) rfl (fun hc17 => ?_) (fun hc17 => ?_)
          · -- FFTTT
            exfalso; exact hc17 (by rw [hn (by omega)])
          · -- FFTTF
            refine VO.gy rfl ⟨_, rfl, rfl⟩ (.ldA 116 rfl tk72 rfl (cellsAt_one rfl rfl)) ?_
            refine VO.gcallN 118 rfl ⟨_, rfl, rfl⟩ fnOk87 rfl (fun W hW => lCheck_ok W (mk_Message (m := wm W) (((shipNext x7.1 d0 a).1).1) (((shipNext x7.1 d0 a).1).2.1) (((shipNext x7.1 d0 a).1).2.2.1) (((shipNext x7.1 d0 a).1).2.2.2.1) (((shipNext x7.1 d0 a).1).2.2.2.2.1) (((shipNext x7.1 d0 a).1).2.2.2.2.2.1) (((shipNext x7.1 d0 a).1).2.2.2.2.2.2.1) (((shipNext x7.1 d0 a).1).2.2.2.2.2.2.2) (by simp only [inK]; (first | omega | (simp only [List.length_append, List.length_nil, List.length_cons, List.length_take, List.length_drop] at *; omega) | (simp only [hn (by omega), List.length_take, List.length_drop]; omega))) (by simp only [inK]; (first | omega | (simp only [List.length_append, List.length_nil, List.length_cons, List.length_take, List.length_drop] at *; omega) | (simp only [hn (by omega), List.length_take, List.length_drop]; omega))) (by simp only [inK]; (first | omega | (simp only [List.length_append, List.length_nil, List.length_cons, List.length_take, List.length_drop] at *; omega) | (simp only [hn (by omega), List.length_take, List.length_drop]; omega))) (by simp only [inK]; (first | omega | (simp only [List.length_append, List.length_nil, List.length_cons, List.length_take, List.length_drop] at *; omega) | (simp only [hn (by omega), List.length_take, List.length_drop]; omega))) (OwnL.rd (Ow.ownl q12_0_4 rfl mnil) (hW.at (i := 113) rfl) (mle_nil _)) (by simp only [inK]; (first | omega | (simp only [List.length_append, List.length_nil, List.length_cons, List.length_take, List.length_drop] at *; omega) | (simp only [hn (by omega), List.length_take, List.length_drop]; omega))) (by simp only [inK]; (first | omega | (simp only [List.length_append, List.length_nil, List.length_cons, List.length_take, List.length_drop] at *; omega) | (simp only [hn (by omega), List.length_take, List.length_drop]; omega))) (Ow.rd q12_0_7 (hW.at (i := 114) rfl)))) (fun v18 m18 hv18 => ?_)
            subst hv18
            have hfa19 := lCheck_range (((shipNext x7.1 d0 a).1).1, ((shipNext x7.1 d0 a).1).2.1, ((shipNext x7.1 d0 a).1).2.2.1, ((shipNext x7.1 d0 a).1).2.2.2.1, ((shipNext x7.1 d0 a).1).2.2.2.2.1, ((shipNext x7.1 d0 a).1).2.2.2.2.2.1, ((shipNext x7.1 d0 a).1).2.2.2.2.2.2.1, ((shipNext x7.1 d0 a).1).2.2.2.2.2.2.2)
            refine VO.gy rfl ⟨_, rfl, rfl⟩ (.neq rfl rfl) ?_
            refine VO.y rfl (.pF rfl rfl) ?_
            refine VO.y rfl (.mv rfl) ?_
            refine VO.dec (t := 60) rfl (fun hc20 => ?_) (fun hc20 => ?_)
            · -- FFTTFT
              exfalso; exact hc20 (by rw [hn (by omega)]; exact hc (by omega))
            · -- FFTTFF
              refine VO.gy rfl ⟨_, rfl, rfl⟩ (.fa rfl tst72 rfl) ?_
              refine VO.gy rfl ⟨_, rfl, rfl⟩ (.ld1 116 rfl tk3 rfl (cellsAt_one rfl rfl)) ?_
              refine VO.gy rfl ⟨_, rfl, rfl⟩ (.mv rfl) ?_
              refine VO.gy rfl ⟨_, rfl, rfl⟩ (.add rfl rfl rfl ⟨by first | omega | (simp only [List.length_append, List.length_nil, List.length_cons, List.length_take, List.length_drop] at *; omega) | (simp only [hn (by omega), List.length_take, List.length_drop]; omega), by first | omega | (simp only [List.length_append, List.length_nil, List.length_cons, List.length_take, List.length_drop] at *; omega) | (simp only [hn (by omega), List.length_take, List.length_drop]; omega)⟩) ?_
              refine VO.gy rfl ⟨_, rfl, rfl⟩ (.neq rfl rfl) ?_
              refine VO.y rfl (.pF rfl rfl) ?_
              refine VO.y rfl (.mv rfl) ?_
              refine VO.dec (t := 67) rfl (fun hc21 => ?_) (fun hc21 => ?_)
              · -- FFTTFFT
                exfalso; exact hc21 (by rw [hn (by omega)])
              · -- FFTTFFF
                refine VO.gy rfl ⟨_, rfl, rfl⟩ (.fa rfl tst72 rfl) ?_
                refine VO.gy rfl ⟨_, rfl, rfl⟩ (.ld1 116 rfl tk61 rfl (cellsAt_one rfl rfl)) ?_
                refine VO.gy rfl ⟨_, rfl, rfl⟩ (.lenS rfl tsl61) ?_
                refine VO.gy rfl ⟨_, rfl, rfl⟩ (.eql rfl rfl) ?_
                refine VO.y rfl (.pF rfl rfl) ?_
                refine VO.y rfl (.mv rfl) ?_
                refine VO.dec (t := 73) rfl (fun hc22 => ?_) (fun hc22 => ?_)
                · -- FFTTFFFT
                  exfalso; rw [hn (by omega)] at hc22; simp only [List.length_take, List.length_drop] at hc22; omega
                · -- FFTTFFFF
                  refine VO.gy rfl ⟨_, rfl, rfl⟩ (.fa rfl tst72 rfl) ?_
                  refine VO.gy rfl ⟨_, rfl, rfl⟩ (.ld1 116 rfl tk61 rfl (cellsAt_one rfl rfl)) ?_
                  refine VO.gy rfl ⟨_, rfl, rfl⟩ (.lenS rfl tsl61) ?_
                  refine VO.gy rfl ⟨_, rfl, rfl⟩ (.gtr rfl rfl) ?_
                  refine VO.y rfl (.pF rfl rfl) ?_
                  refine VO.inv [(116, _), (113, _), (114, _), (110, _), (0, _)] (fun _ h => h.sub [116, 113, 114, 110, 0]) ?_
                  refine VO.esub [(0, _), (1, _), (5, _), (6, _), (7, _), (8, _), (9, _), (10, _), (16, _), (25, _), (28, _), (45, _), (78, _)] ⟨rfl, rfl, rfl, rfl, rfl, rfl, rfl, rfl, rfl, rfl, rfl, rfl, rfl, trivial⟩ (VO.nil ?_)
                  refine VC.cond rfl (fun hc23 => ?_) (fun hc23 => ?_)
                  · -- FFTTFFFFT
                    exfalso; rw [hn (by omega)] at hc23; simp only [List.length_take, List.length_drop] at hc23; omega
                  · -- FFTTFFFFF
                    refine VC.skip ?_
                    refine outN ?_
                    refine VC.rs ?_
                    refine VO.y rfl (.mv rfl) ?_
                    refine VO.y rfl (.fa rfl tst72 rfl) ?_
                    refine VO.y rfl (.ld1 116 rfl tk61 rfl (cellsAt_one rfl rfl)) ?_
                    refine VO.appOs (e := TCommit) 110 114 rfl rfl rfl tsl61 tz52 rfl rfl rfl h_got q12_0_7 Try.underlying61 (by simp only [maxLen]; (first | omega | (simp only [List.length_append, List.length_nil, List.length_cons, List.length_take, List.length_drop] at *; omega) | (simp only [hn (by omega), List.length_take, List.length_drop]; omega))) (by first | omega | (simp only [List.length_append, List.length_nil, List.length_cons, List.length_take, List.length_drop] at *; omega) | (simp only [hn (by omega), List.length_take, List.length_drop]; omega)) (by decide) (fun v24 m24 ho24 => ?_)
                    obtain ⟨A24, c24, rfl, l24, k24⟩ := ho24.slice
                    simp only [maxLen] at k24
                    refine VO.y rfl (.as rfl) ?_
                    refine VO.esub [(0, _), (1, _), (5, _), (6, _), (7, _), (8, _), (9, _), (10, _), (16, _), (25, _), (28, _), (45, _), (78, _)] ⟨rfl, rfl, rfl, rfl, rfl, rfl, rfl, rfl, rfl, rfl, rfl, rfl, rfl, trivial⟩ (VO.nil ?_)
                    refine VC.reg ?_
                    refine VO.y rfl (.fa rfl tst72 rfl) ?_
                    refine VO.y rfl (.ld1 116 rfl tk3 rfl (cellsAt_one rfl rfl)) ?_
                    refine VO.y rfl (.sub rfl rfl rfl ⟨by first | omega | (simp only [List.length_append, List.length_nil, List.length_cons, List.length_take, List.length_drop] at *; omega) | (simp only [hn (by omega), List.length_take, List.length_drop]; omega), by first | omega | (simp only [List.length_append, List.length_nil, List.length_cons, List.length_take, List.length_drop] at *; omega) | (simp only [hn (by omega), List.length_take, List.length_drop]; omega)⟩) ?_
                    refine VO.y rfl (.fa rfl tst72 rfl) ?_
                    refine VO.y rfl (.ld1 116 rfl tk61 rfl (cellsAt_one rfl rfl)) ?_
                    refine VO.y rfl (.lenS rfl tsl61) ?_
                    refine VO.y rfl (.add rfl rfl rfl ⟨by first | omega | (simp only [List.length_append, List.length_nil, List.length_cons, List.length_take, List.length_drop] at *; omega) | (simp only [hn (by omega), List.length_take, List.length_drop]; omega), by first | omega | (simp only [List.length_append, List.length_nil, List.length_cons, List.length_take, List.length_drop] at *; omega) | (simp only [hn (by omega), List.length_take, List.length_drop]; omega)⟩) ?_
                    refine VO.y rfl (.as rfl) ?_
                    refine VO.esub [(0, _), (1, _), (5, _), (6, _), (7, _), (8, _), (9, _), (10, _), (16, _), (25, _), (28, _), (45, _), (78, _)] ⟨rfl, rfl, rfl, rfl, rfl, rfl, rfl, rfl, rfl, rfl, rfl, rfl, rfl, trivial⟩ (VO.nil ?_)
                    refine outBN ?_
                    exact outN ⟨⟨((((shipNext x7.1 d0 a).1).2.2.2.2.2.1) - 1) + (((((shipNext x7.1 d0 a).1).2.2.2.2.2.2.2).length : Nat) : Int), got ++ (((shipNext x7.1 d0 a).1).2.2.2.2.2.2.2), A24, c24, m24⟩, ⟨by (simp only [hn (by omega), List.length_take, List.length_drop]; omega), by (simp only [hn (by omega), List.length_take, List.length_drop]; omega), by (simp only [hn (by omega)]; exact got_next hg (by omega) ia (by omega)), ho24⟩, by (simp only [hn (by omega), List.length_take, List.length_drop]; omega), ⟨⟨rfl, rfl, rfl, rfl, rfl, rfl, rfl, rfl, rfl, trivial⟩, fun _ h => Inv.sub h [110, 0]⟩⟩
        · -- FFTF
          refine VC.exit ?_
          refine outE ?_
          refine outE ?_
          refine outBB ?_
          refine outN ?_
          refine VC.rs ?_
          refine VO.y rfl (.mv rfl) ?_
          refine VO.y rfl (.mv rfl) ?_
          refine VO.y rfl (.mv rfl) ?_
          refine VO.y rfl (.lenS rfl tsl61) ?_
          refine VO.callN 125 rfl fnOk65 rfl (fun W hW => next_ok W x7.1 (by simp only [inK]; (first | omega | (simp only [List.length_append, List.length_nil, List.length_cons, List.length_take, List.length_drop] at *; omega) | (simp only [hn (by omega), List.length_take, List.length_drop]; omega))) (Rd.mono h0 (hW.at (i := 0) rfl)) ((d0.length : Nat) : Int) (by simp only [inK]; (first | omega | (simp only [List.length_append, List.length_nil, List.length_cons, List.length_take, List.length_drop] at *; omega) | (simp only [hn (by omega), List.length_take, List.length_drop]; omega)))) (fun v25 m25 hv25 => ?_)
          obtain ⟨s25_0, rfl, f25_0⟩ := hv25
          obtain ⟨q25_0_A4, q25_0_c4, q25_0_A7, q25_0_c7, q25_0_n4, q25_0_n7, rfl, q25_0_S, q25_0_0, q25_0_1, q25_0_2, q25_0_3, q25_0_4, q25_0_5, q25_0_6, q25_0_7⟩ := openO_Message (x0 := ((shipNext x7.1 d0 ((d0.length : Nat) : Int)).1).1) (x1 := ((shipNext x7.1 d0 ((d0.length : Nat) : Int)).1).2.1) (x2 := ((shipNext x7.1 d0 ((d0.length : Nat) : Int)).1).2.2.1) (x3 := ((shipNext x7.1 d0 ((d0.length : Nat) : Int)).1).2.2.2.1) (x4 := ((shipNext x7.1 d0 ((d0.length : Nat) : Int)).1).2.2.2.2.1) (x5 := ((shipNext x7.1 d0 ((d0.length : Nat) : Int)).1).2.2.2.2.2.1) (x6 := ((shipNext x7.1 d0 ((d0.length : Nat) : Int)).1).2.2.2.2.2.2.1) (x7 := ((shipNext x7.1 d0 ((d0.length : Nat) : Int)).1).2.2.2.2.2.2.2) f25_0
          simp only [inK] at q25_0_0
          simp only [inK] at q25_0_1
          simp only [inK] at q25_0_2
          simp only [inK] at q25_0_3
          have q25_0_r4 := Rd.room (q25_0_4.rd (mle_refl _))
          simp only [inK] at q25_0_5
          simp only [inK] at q25_0_6
          have q25_0_r7 := Rd.room (q25_0_7.rd (mle_refl _))
          refine VO.inv _ (fun _ h => h.parts (i := 125) rfl q25_0_S [126, 127]) ?_
          refine VO.y rfl (.mv rfl) ?_
          refine VO.y rfl (.ext rfl rfl) ?_
          refine VO.y rfl (.ext rfl rfl) ?_
          refine VO.alloc 129 rfl tz72 (fun g28 => ?_)
          refine VO.store (k := 8) (c' := [Value.int .i64 (((shipNext x7.1 d0 ((d0.length : Nat) : Int)).1).1), Value.int .i64 (((shipNext x7.1 d0 ((d0.length : Nat) : Int)).1).2.1), Value.int .u8 (((shipNext x7.1 d0 ((d0.length : Nat) : Int)).1).2.2.1), Value.int .i64 (((shipNext x7.1 d0 ((d0.length : Nat) : Int)).1).2.2.2.1), Value.slice q25_0_A4 ((((shipNext x7.1 d0 ((d0.length : Nat) : Int)).1).2.2.2.2.1).length) (q25_0_c4), Value.int .i64 (((shipNext x7.1 d0 ((d0.length : Nat) : Int)).1).2.2.2.2.2.1), Value.int .i64 (((shipNext x7.1 d0 ((d0.length : Nat) : Int)).1).2.2.2.2.2.2.1), Value.slice q25_0_A7 ((((shipNext x7.1 d0 ((d0.length : Nat) : Int)).1).2.2.2.2.2.2.2).length) (q25_0_c7)]) 129 rfl rfl (.inl tk72) rfl rfl rfl rfl rfl ?_
          refine VO.y rfl (.as rfl) ?_
          refine VO.esub [(0, _), (1, _), (5, _), (6, _), (7, _), (8, _), (11, _), (12, _), (16, _), (25, _), (28, _), (45, _)] ⟨rfl, rfl, rfl, rfl, rfl, rfl, rfl, rfl, rfl, rfl, rfl, rfl, trivial⟩ (VO.nil ?_)
          refine VC.rs ?_
          refine VO.y rfl (.mv rfl) ?_
          refine VO.y rfl (.mv rfl) ?_
          refine VO.callN 130 rfl fnOk67 rfl (fun W hW => hello_ok W x7.1 (by simp only [inK]; (first | omega | (simp only [List.length_append, List.length_nil, List.length_cons, List.length_take, List.length_drop] at *; omega) | (simp only [hn (by omega), List.length_take, List.length_drop]; omega))) 2 (by simp only [inK]; (first | omega | (simp only [List.length_append, List.length_nil, List.length_cons, List.length_take, List.length_drop] at *; omega) | (simp only [hn (by omega), List.length_take, List.length_drop]; omega))) (Rd.mono h0 (hW.at (i := 0) rfl)) (by first | omega | (simp only [List.length_append, List.length_nil, List.length_cons, List.length_take, List.length_drop] at *; omega) | (simp only [hn (by omega), List.length_take, List.length_drop]; omega))) (fun v30 m30 hv30 => ?_)
          obtain ⟨s30_0, rfl, f30_0⟩ := hv30
          obtain ⟨q30_0_A4, q30_0_c4, q30_0_A7, q30_0_c7, q30_0_n4, q30_0_n7, rfl, q30_0_S, q30_0_0, q30_0_1, q30_0_2, q30_0_3, q30_0_4, q30_0_5, q30_0_6, q30_0_7⟩ := openO_Message (x0 := ((shipHello x7.1 2 d0).1).1) (x1 := ((shipHello x7.1 2 d0).1).2.1) (x2 := ((shipHello x7.1 2 d0).1).2.2.1) (x3 := ((shipHello x7.1 2 d0).1).2.2.2.1) (x4 := ((shipHello x7.1 2 d0).1).2.2.2.2.1) (x5 := ((shipHello x7.1 2 d0).1).2.2.2.2.2.1) (x6 := ((shipHello x7.1 2 d0).1).2.2.2.2.2.2.1) (x7 := ((shipHello x7.1 2 d0).1).2.2.2.2.2.2.2) f30_0
          simp only [inK] at q30_0_0
          simp only [inK] at q30_0_1
          simp only [inK] at q30_0_2
          simp only [inK] at q30_0_3
          have q30_0_r4 := Rd.room (q30_0_4.rd (mle_refl _))
          simp only [inK] at q30_0_5
          simp only [inK] at q30_0_6
          have q30_0_r7 := Rd.room (q30_0_7.rd (mle_refl _))
          refine VO.inv _ (fun _ h => h.parts (i := 130) rfl q30_0_S [131, 132]) ?_
          refine VO.y rfl (.mv rfl) ?_
          refine VO.y rfl (.ext rfl rfl) ?_
          refine VO.y rfl (.ext rfl rfl) ?_
          refine VO.alloc 134 rfl tz72 (fun g33 => ?_)
          refine VO.store (k := 8) (c' := [Value.int .i64 (((shipHello x7.1 2 d0).1).1), Value.int .i64 (((shipHello x7.1 2 d0).1).2.1), Value.int .u8 (((shipHello x7.1 2 d0).1).2.2.1), Value.int .i64 (((shipHello x7.1 2 d0).1).2.2.2.1), Value.slice q30_0_A4 ((((shipHello x7.1 2 d0).1).2.2.2.2.1).length) (q30_0_c4), Value.int .i64 (((shipHello x7.1 2 d0).1).2.2.2.2.2.1), Value.int .i64 (((shipHello x7.1 2 d0).1).2.2.2.2.2.2.1), Value.slice q30_0_A7 ((((shipHello x7.1 2 d0).1).2.2.2.2.2.2.2).length) (q30_0_c7)]) 134 rfl rfl (.inl tk72) rfl rfl rfl rfl rfl ?_
          refine VO.y rfl (.as rfl) ?_
          refine VO.inv [(134, _), (131, _), (132, _), (129, _), (126, _), (127, _), (110, _), (0, _)] (fun _ h => h.sub [134, 131, 132, 129, 126, 127, 110, 0]) ?_
          refine VO.esub [(0, _), (1, _), (5, _), (6, _), (7, _), (8, _), (11, _), (12, _), (13, _), (14, _), (16, _), (25, _), (28, _), (45, _)] ⟨rfl, rfl, rfl, rfl, rfl, rfl, rfl, rfl, rfl, rfl, rfl, rfl, rfl, rfl, trivial⟩ (VO.nil ?_)
          refine VC.rs ?_
          refine VO.y rfl (.mv rfl) ?_
          refine VO.y rfl (.eql rfl rfl) ?_
          refine VO.y rfl (.mv rfl) ?_
          refine VO.dec (t := 106) rfl (fun hc35 => ?_) (fun hc35 => ?_)
          · -- FFTFT
            refine VO.gy rfl ⟨_, rfl, rfl⟩ (.fa rfl tst72 rfl) ?_
            refine VO.gy rfl ⟨_, rfl, rfl⟩ (.ld1 129 rfl tk61 rfl (cellsAt_one rfl rfl)) ?_
            refine VO.gy rfl ⟨_, rfl, rfl⟩ (.lenS rfl tsl61) ?_
            refine VO.gy rfl ⟨_, rfl, rfl⟩ (.eql rfl rfl) ?_
            refine VO.y rfl (.pT rfl rfl) ?_
            refine VO.y rfl (.mv rfl) ?_
            refine VO.dec (t := 112) rfl (fun hc36 => ?_) (fun hc36 => ?_)
            · -- FFTFTT
              refine VO.gy rfl ⟨_, rfl, rfl⟩ (.mv rfl) ?_
              refine VO.gy rfl ⟨_, rfl, rfl⟩ (.eql rfl rfl) ?_
              refine VO.y rfl (.pT rfl rfl) ?_
              refine VO.y rfl (.mv rfl) ?_
              refine VO.dec (t := 116) rfl (fun hc37 => ?_) (fun hc37 => ?_)
              · -- FFTFTTT
                refine VO.gy rfl ⟨_, rfl, rfl⟩ (.ldA 134 rfl tk72 rfl (cellsAt_one rfl rfl)) ?_
                refine VO.gcallN 138 rfl ⟨_, rfl, rfl⟩ fnOk87 rfl (fun W hW => lCheck_ok W (mk_Message (m := wm W) (((shipHello x7.1 2 d0).1).1) (((shipHello x7.1 2 d0).1).2.1) (((shipHello x7.1 2 d0).1).2.2.1) (((shipHello x7.1 2 d0).1).2.2.2.1) (((shipHello x7.1 2 d0).1).2.2.2.2.1) (((shipHello x7.1 2 d0).1).2.2.2.2.2.1) (((shipHello x7.1 2 d0).1).2.2.2.2.2.2.1) (((shipHello x7.1 2 d0).1).2.2.2.2.2.2.2) (by simp only [inK]; (first | omega | (simp only [List.length_append, List.length_nil, List.length_cons, List.length_take, List.length_drop] at *; omega) | (simp only [hn (by omega), List.length_take, List.length_drop]; omega))) (by simp only [inK]; (first | omega | (simp only [List.length_append, List.length_nil, List.length_cons, List.length_take, List.length_drop] at *; omega) | (simp only [hn (by omega), List.length_take, List.length_drop]; omega))) (by simp only [inK]; (first | omega | (simp only [List.length_append, List.length_nil, List.length_cons, List.length_take, List.length_drop] at *; omega) | (simp only [hn (by omega), List.length_take, List.length_drop]; omega))) (by simp only [inK]; (first | omega | (simp only [List.length_append, List.length_nil, List.length_cons, List.length_take, List.length_drop] at *; omega) | (simp only [hn (by omega), List.length_take, List.length_drop]; omega))) (OwnL.rd (Ow.ownl q30_0_4 rfl mnil) (hW.at (i := 131) rfl) (mle_nil _)) (by simp only [inK]; (first | omega | (simp only [List.length_append, List.length_nil, List.length_cons, List.length_take, List.length_drop] at *; omega) | (simp only [hn (by omega), List.length_take, List.length_drop]; omega))) (by simp only [inK]; (first | omega | (simp only [List.length_append, List.length_nil, List.length_cons, List.length_take, List.length_drop] at *; omega) | (simp only [hn (by omega), List.length_take, List.length_drop]; omega))) (Ow.rd q30_0_7 (hW.at (i := 132) rfl)))) (fun v38 m38 hv38 => ?_)
                subst hv38
                have hfa39 := lCheck_range (((shipHello x7.1 2 d0).1).1, ((shipHello x7.1 2 d0).1).2.1, ((shipHello x7.1 2 d0).1).2.2.1, ((shipHello x7.1 2 d0).1).2.2.2.1, ((shipHello x7.1 2 d0).1).2.2.2.2.1, ((shipHello x7.1 2 d0).1).2.2.2.2.2.1, ((shipHello x7.1 2 d0).1).2.2.2.2.2.2.1, ((shipHello x7.1 2 d0).1).2.2.2.2.2.2.2)
                refine VO.gy rfl ⟨_, rfl, rfl⟩ (.eql rfl rfl) ?_
                refine VO.y rfl (.pT rfl rfl) ?_
                refine VO.y rfl (.mv rfl) ?_
                refine VO.dec (t := 121) rfl (fun hc40 => ?_) (fun hc40 => ?_)
                · -- FFTFTTTT
                  refine VO.gy rfl ⟨_, rfl, rfl⟩ (.fa rfl tst72 rfl) ?_
                  refine VO.gy rfl ⟨_, rfl, rfl⟩ (.ld1 134 rfl tk3 rfl (cellsAt_one rfl rfl)) ?_
                  refine VO.gy rfl ⟨_, rfl, rfl⟩ (.mv rfl) ?_
                  refine VO.gy rfl ⟨_, rfl, rfl⟩ (.lenS rfl tsl61) ?_
                  refine VO.gy rfl ⟨_, rfl, rfl⟩ (.eql rfl rfl) ?_
                  refine VO.y rfl (.pT rfl rfl) ?_
                  refine VO.y rfl (.mv rfl) ?_
                  refine VO.dec (t := 128) rfl (fun hc41 => ?_) (fun hc41 => ?_)
                  · -- FFTFTTTTT
                    refine VO.gy rfl ⟨_, rfl, rfl⟩ (.mv rfl) ?_
                    refine VO.gy rfl ⟨_, rfl, rfl⟩ (.mv rfl) ?_
                    refine VO.gy rfl ⟨_, rfl, rfl⟩ (.mv rfl) ?_
                    obtain ⟨A42, hA42, hs42⟩ := h0.drop 3 ((pickI d1 ((d0.length + 1 : Nat) : Int)).toNat) rfl (by first | omega | (simp only [List.length_append, List.length_nil, List.length_cons, List.length_take, List.length_drop] at *; omega) | (simp only [hn (by omega), List.length_take, List.length_drop]; omega))
                    refine VO.gy rfl ⟨_, rfl, rfl⟩ (.slLI ((pickI d1 ((d0.length + 1 : Nat) : Int)).toNat) A42 rfl rfl tsl61 (by first | omega | (simp only [List.length_append, List.length_nil, List.length_cons, List.length_take, List.length_drop] at *; omega) | (simp only [hn (by omega), List.length_take, List.length_drop]; omega)) hA42 (by first | omega | (simp only [List.length_append, List.length_nil, List.length_cons, List.length_take, List.length_drop] at *; omega) | (simp only [hn (by omega), List.length_take, List.length_drop]; omega))) ?_
                    refine VO.gcallN 143 rfl ⟨_, rfl, rfl⟩ fnOk69 rfl (fun W hW => SameCommits_ok W (Ow.rd h_got (hW.at (i := 110) rfl)) (Rd.mono hs42 (hW.at (i := 0) rfl))) (fun v43 m43 hv43 => ?_)
                    subst hv43
                    refine VO.y rfl (.pT rfl rfl) ?_
                    refine VO.y rfl (.as rfl) ?_
                    refine VO.esub [(0, _), (1, _), (4, _), (5, _), (6, _), (7, _), (8, _), (11, _), (12, _), (13, _), (14, _), (16, _), (25, _), (28, _), (45, _)] ⟨rfl, rfl, rfl, rfl, rfl, rfl, rfl, rfl, rfl, rfl, rfl, rfl, rfl, rfl, rfl, trivial⟩ (VO.nil ?_)
                    refine VC.ret ?_
                    refine ⟨_, _, res_run (rs := [.tmp 4]) rfl (.tmp rfl .nil), fun W_ hI => out_of (l := []) hI [] rfl rfl (mle_refl _) (fun hS_ => ?_)⟩
                    dsimp only [packV]
                    all_goals (first | rfl | (exact congrArg Value.bool (decide_eq_true (by rw [hg, List.take_of_length_le (by simp only [List.length_drop]; omega)]))))
                  · -- FFTFTTTTF
                    exfalso; exact hc41 (by rw [hh.1])
                · -- FFTFTTTF
                  exfalso; exact hc40 (by rw [hh.1]; exact hh.2)
              · -- FFTFTTF
                exfalso; exact hc37 (by rw [hh.1])
            · -- FFTFTF
              exfalso; exact hc36 (by rw [hn2]; simp)
          · -- FFTFF
            exfalso; exact hc35 (by rw [hn2])
      · -- FFF
        refine VC.skip ?_
        refine outN ?_
        refine VC.rs ?_
        refine VO.y rfl (.mv rfl) ?_
        refine VO.y rfl (.mv rfl) ?_
        refine VO.y rfl (.lenS rfl tsl61) ?_
        refine VO.y rfl (.add (c := ((d0.length + 1 : Nat) : Int)) rfl rfl (by omega) ⟨by first | omega | (simp only [List.length_append, List.length_nil, List.length_cons, List.length_take, List.length_drop] at *; omega) | (simp only [hn (by omega), List.length_take, List.length_drop]; omega), by first | omega | (simp only [List.length_append, List.length_nil, List.length_cons, List.length_take, List.length_drop] at *; omega) | (simp only [hn (by omega), List.length_take, List.length_drop]; omega)⟩) ?_
        refine VO.callN 144 rfl fnOk43 rfl (fun W hW => pick_ok W d1 (by simp only [inK]; (first | omega | (simp only [List.length_append, List.length_nil, List.length_cons, List.length_take, List.length_drop] at *; omega) | (simp only [hn (by omega), List.length_take, List.length_drop]; omega))) ((d0.length + 1 : Nat) : Int) (by simp only [inK]; (first | omega | (simp only [List.length_append, List.length_nil, List.length_cons, List.length_take, List.length_drop] at *; omega) | (simp only [hn (by omega), List.length_take, List.length_drop]; omega))) (by first | omega | (simp only [List.length_append, List.length_nil, List.length_cons, List.length_take, List.length_drop] at *; omega) | (simp only [hn (by omega), List.length_take, List.length_drop]; omega))) (fun v44 m44 hv44 => ?_)
        subst hv44
        have hfa45 := pickI_bounds d1 ((d0.length + 1 : Nat) : Int) (by omega)
        refine VO.y rfl (.as rfl) ?_
        refine VO.esub [(0, _), (1, _), (4, _), (5, _), (6, _), (16, _), (25, _), (28, _)] ⟨rfl, rfl, rfl, rfl, rfl, rfl, rfl, rfl, trivial⟩ (VO.nil ?_)
        refine VC.rs ?_
        refine VO.y rfl (.as rfl) ?_
        refine VO.esub [(0, _), (1, _), (4, _), (5, _), (6, _), (7, _), (16, _), (25, _), (28, _)] ⟨rfl, rfl, rfl, rfl, rfl, rfl, rfl, rfl, rfl, trivial⟩ (VO.nil ?_)
        refine VC.rs ?_
        refine VO.y rfl (.mv rfl) ?_
        refine VO.y rfl (.as rfl) ?_
        refine VO.esub [(0, _), (1, _), (4, _), (5, _), (6, _), (7, _), (8, _), (16, _), (25, _), (28, _)] ⟨rfl, rfl, rfl, rfl, rfl, rfl, rfl, rfl, rfl, rfl, trivial⟩ (VO.nil ?_)
        refine VC.seq ?_
        refine VC.block ?_
        refine VC.inv ((146, mnil) :: _) (fun _ h => h.nilc 146) ?_
        refine VC.loop (G := Int × (List DCommit) × (Option Addr) × Nat × Mem) (fun g => [(7, Value.slice (g.2.2.1) ((g.2.1).length) ((g.2.2.2.1))), (8, Value.int .i64 ((g.1))), (0, Value.slice A0 (d0.length) (c0)), (1, Value.int .i64 (d1)), (5, Value.int .i64 (1)), (6, Value.int .i64 (pickI d1 ((d0.length + 1 : Nat) : Int))), (16, Value.bool false), (25, Value.bool (decide (¬ (((cFollows 0 0 d0).1) = 0 ∧ ((cFollows 0 0 d0).2) = 0)))), (28, Value.bool (decide (0 < ((d0.length : Nat) : Int))))]) (fun g => [(146, (g.2.2.2.2)), (0, wm W)]) (fun g => (pickI d1 ((d0.length + 1 : Nat) : Int) ≤ (g.1)) ∧ ((g.1) ≤ d0.length) ∧ ((g.2.1) = (d0.drop (pickI d1 ((d0.length + 1 : Nat) : Int)).toNat).take ((g.1) - pickI d1 ((d0.length + 1 : Nat) : Int)).toNat) ∧ (Ow (.sl TCommit) (g.2.2.2.2) [.slice (g.2.2.1) (g.2.1).length (g.2.2.2.1)] (g.2.1))) (fun g => ((d0.length : Int) - (g.1)).toNat) (pickI d1 ((d0.length + 1 : Nat) : Int), [], none, 0, mnil) (⟨by omega, by omega, by simp, (Ow.nil TCommit mnil)⟩) ⟨⟨rfl, rfl, rfl, rfl, rfl, rfl, rfl, rfl, rfl, trivial⟩, fun _ h => h.sub [146, 0]⟩ ?_
        rintro ⟨a, got, got_A, got_c, got_m⟩ ⟨ia, ib, hg, h_got⟩
        replace ia : pickI d1 ((d0.length + 1 : Nat) : Int) ≤ a := ia
        replace ib : a ≤ d0.length := ib
        replace hg : got = (d0.drop (pickI d1 ((d0.length + 1 : Nat) : Int)).toNat).take (a - pickI d1 ((d0.length + 1 : Nat) : Int)).toNat := hg
        replace h_got : Ow (.sl TCommit) got_m [.slice got_A got.length got_c] got := h_got
        show VC _ _ _ _ _ [(7, Value.slice got_A (got.length) (got_c)), (8, Value.int .i64 (a)), (0, Value.slice A0 (d0.length) (c0)), (1, Value.int .i64 (d1)), (5, Value.int .i64 (1)), (6, Value.int .i64 (pickI d1 ((d0.length + 1 : Nat) : Int))), (16, Value.bool false), (25, Value.bool (decide (¬ (((cFollows 0 0 d0).1) = 0 ∧ ((cFollows 0 0 d0).2) = 0)))), (28, Value.bool (decide (0 < ((d0.length : Nat) : Int))))] [(146, got_m), (0, wm W)]
        have l_got : got.length ≤ got_c := by obtain ⟨_, _, he, hl, _⟩ := h_got.slice; simp only [Value.slice.injEq] at he; omega
        have k_got : got_c ≤ 9223372036854775807 := by obtain ⟨_, _, he, _, hl⟩ := h_got.slice; simp only [Value.slice.injEq, maxLen] at he hl; omega
        first | have hE := lastE_of ‹d0[_]? = some _› (by omega) | have hE := lastE_nil (l := d0) (by omega)
        have hv : (cFollows 0 0 d0).1 = 0 := by omega
        have hn := fun (hb : a < d0.length) => next_last (k := a) hv (by omega) (by omega) (by omega)
        have hc := fun (hb : a < d0.length) => next_lCheck (k := a) hv (by omega) (by omega) (by omega)
        rw [hE] at hn hc
        have hn2 := next_last (k := (d0.length : Int)) hv (by omega) (by omega) (by omega)
        have hh := hello_lCheck (r := 2) hv (by omega)
        rw [hE] at hn2 hh
        have hgl : got.length ≤ 40 := by rw [hg]; simp only [List.length_take, List.length_drop]; omega
        refine VC.seq ?_
        refine VC.rs ?_
        refine VO.y rfl (.mv rfl) ?_
        refine VO.y rfl (.mv rfl) ?_
        refine VO.y rfl (.lenS rfl tsl61) ?_
        refine VO.y rfl (.lss rfl rfl) ?_
        refine VO.esub [(0, _), (1, _), (5, _), (6, _), (7, _), (8, _), (16, _), (25, _), (28, _), (45, _)] ⟨rfl, rfl, rfl, rfl, rfl, rfl, rfl, rfl, rfl, rfl, trivial⟩ (VO.nil ?_)
        refine VC.cond rfl (fun hc47 => ?_) (fun hc47 => ?_)
        · -- FFFT
          refine VC.skip ?_
          refine outN ?_
          refine VC.block ?_
          refine VC.rs ?_
          refine VO.y rfl (.mv rfl) ?_
          refine VO.y rfl (.mv rfl) ?_
          refine VO.y rfl (.mv rfl) ?_
          refine VO.callN 148 rfl fnOk65 rfl (fun W hW => next_ok W 1 (by simp only [inK]; (first | omega | (simp only [List.length_append, List.length_nil, List.length_cons, List.length_take, List.length_drop] at *; omega) | (simp only [hn (by omega), List.length_take, List.length_drop]; omega))) (Rd.mono h0 (hW.at (i := 0) rfl)) a (by simp only [inK]; (first | omega | (simp only [List.length_append, List.length_nil, List.length_cons, List.length_take, List.length_drop] at *; omega) | (simp only [hn (by omega), List.length_take, List.length_drop]; omega)))) (fun v48 m48 hv48 => ?_)
          obtain ⟨s48_0, rfl, f48_0⟩ := hv48
          obtain ⟨q48_0_A4, q48_0_c4, q48_0_A7, q48_0_c7, q48_0_n4, q48_0_n7, rfl, q48_0_S, q48_0_0, q48_0_1, q48_0_2, q48_0_3, q48_0_4, q48_0_5, q48_0_6, q48_0_7⟩ := openO_Message (x0 := ((shipNext 1 d0 a).1).1) (x1 := ((shipNext 1 d0 a).1).2.1) (x2 := ((shipNext 1 d0 a).1).2.2.1) (x3 := ((shipNext 1 d0 a).1).2.2.2.1) (x4 := ((shipNext 1 d0 a).1).2.2.2.2.1) (x5 := ((shipNext 1 d0 a).1).2.2.2.2.2.1) (x6 := ((shipNext 1 d0 a).1).2.2.2.2.2.2.1) (x7 := ((shipNext 1 d0 a).1).2.2.2.2.2.2.2) f48_0
          simp only [inK] at q48_0_0
          simp only [inK] at q48_0_1
          simp only [inK] at q48_0_2
          simp only [inK] at q48_0_3
          have q48_0_r4 := Rd.room (q48_0_4.rd (mle_refl _))
          simp only [inK] at q48_0_5
          simp only [inK] at q48_0_6
          have q48_0_r7 := Rd.room (q48_0_7.rd (mle_refl _))
          refine VO.inv _ (fun _ h => h.parts (i := 148) rfl q48_0_S [149, 150]) ?_
          refine VO.y rfl (.mv rfl) ?_
          refine VO.y rfl (.ext rfl rfl) ?_
          refine VO.y rfl (.ext rfl rfl) ?_
          refine VO.alloc 152 rfl tz72 (fun g51 => ?_)
          refine VO.store (k := 8) (c' := [Value.int .i64 (((shipNext 1 d0 a).1).1), Value.int .i64 (((shipNext 1 d0 a).1).2.1), Value.int .u8 (((shipNext 1 d0 a).1).2.2.1), Value.int .i64 (((shipNext 1 d0 a).1).2.2.2.1), Value.slice q48_0_A4 ((((shipNext 1 d0 a).1).2.2.2.2.1).length) (q48_0_c4), Value.int .i64 (((shipNext 1 d0 a).1).2.2.2.2.2.1), Value.int .i64 (((shipNext 1 d0 a).1).2.2.2.2.2.2.1), Value.slice q48_0_A7 ((((shipNext 1 d0 a).1).2.2.2.2.2.2.2).length) (q48_0_c7)]) 152 rfl rfl (.inl tk72) rfl rfl rfl rfl rfl ?_
          refine VO.y rfl (.as rfl) ?_
          refine VO.esub [(0, _), (1, _), (5, _), (6, _), (7, _), (8, _), (9, _), (10, _), (16, _), (25, _), (28, _), (45, _)] ⟨rfl, rfl, rfl, rfl, rfl, rfl, rfl, rfl, rfl, rfl, rfl, rfl, trivial⟩ (VO.nil ?_)
          refine VC.seq ?_
          refine VC.rs ?_
          refine VO.y rfl (.mv rfl) ?_
          refine VO.y rfl (.neq rfl rfl) ?_
          refine VO.y rfl (.mv rfl) ?_
          refine VO.dec (t := 55) rfl (fun hc53 => ?_) (fun hc53 => ?_)
          · -- FFFTT
            exfalso; exact hc53 (by rw [hn (by omega)])
          · -- FFFTF
            refine VO.gy rfl ⟨_, rfl, rfl⟩ (.ldA 152 rfl tk72 rfl (cellsAt_one rfl rfl)) ?_
            refine VO.gcallN 154 rfl ⟨_, rfl, rfl⟩ fnOk87 rfl (fun W hW => lCheck_ok W (mk_Message (m := wm W) (((shipNext 1 d0 a).1).1) (((shipNext 1 d0 a).1).2.1) (((shipNext 1 d0 a).1).2.2.1) (((shipNext 1 d0 a).1).2.2.2.1) (((shipNext 1 d0 a).1).2.2.2.2.1) (((shipNext 1 d0 a).1).2.2.2.2.2.1) (((shipNext 1 d0 a).1).2.2.2.2.2.2.1) (((shipNext 1 d0 a).1).2.2.2.2.2.2.2) (by simp only [inK]; (first | omega | (simp only [List.length_append, List.length_nil, List.length_cons, List.length_take, List.length_drop] at *; omega) | (simp only [hn (by omega), List.length_take, List.length_drop]; omega))) (by simp only [inK]; (first | omega | (simp only [List.length_append, List.length_nil, List.length_cons, List.length_take, List.length_drop] at *; omega) | (simp only [hn (by omega), List.length_take, List.length_drop]; omega))) (by simp only [inK]; (first | omega | (simp only [List.length_append, List.length_nil, List.length_cons, List.length_take, List.length_drop] at *; omega) | (simp only [hn (by omega), List.length_take, List.length_drop]; omega))) (by simp only [inK]; (first | omega | (simp only [List.length_append, List.length_nil, List.length_cons, List.length_take, List.length_drop] at *; omega) | (simp only [hn (by omega), List.length_take, List.length_drop]; omega))) (OwnL.rd (Ow.ownl q48_0_4 rfl mnil) (hW.at (i := 149) rfl) (mle_nil _)) (by simp only [inK]; (first | omega | (simp only [List.length_append, List.length_nil, List.length_cons, List.length_take, List.length_drop] at *; omega) | (simp only [hn (by omega), List.length_take, List.length_drop]; omega))) (by simp only [inK]; (first | omega | (simp only [List.length_append, List.length_nil, List.length_cons, List.length_take, List.length_drop] at *; omega) | (simp only [hn (by omega), List.length_take, List.length_drop]; omega))) (Ow.rd q48_0_7 (hW.at (i := 150) rfl)))) (fun v54 m54 hv54 => ?_)
            subst hv54
            have hfa55 := lCheck_range (((shipNext 1 d0 a).1).1, ((shipNext 1 d0 a).1).2.1, ((shipNext 1 d0 a).1).2.2.1, ((shipNext 1 d0 a).1).2.2.2.1, ((shipNext 1 d0 a).1).2.2.2.2.1, ((shipNext 1 d0 a).1).2.2.2.2.2.1, ((shipNext 1 d0 a).1).2.2.2.2.2.2.1, ((shipNext 1 d0 a).1).2.2.2.2.2.2.2)
            refine VO.gy rfl ⟨_, rfl, rfl⟩ (.neq rfl rfl) ?_
            refine VO.y rfl (.pF rfl rfl) ?_
            refine VO.y rfl (.mv rfl) ?_
            refine VO.dec (t := 60) rfl (fun hc56 => ?_) (fun hc56 => ?_)
            · -- FFFTFT
              exfalso; exact hc56 (by rw [hn (by omega)]; exact hc (by omega))
            · -- FFFTFF
              refine VO.gy rfl ⟨_, rfl, rfl⟩ (.fa rfl tst72 rfl) ?_
              refine VO.gy rfl ⟨_, rfl, rfl⟩ (.ld1 152 rfl tk3 rfl (cellsAt_one rfl rfl)) ?_
              refine VO.gy rfl ⟨_, rfl, rfl⟩ (.mv rfl) ?_
              refine VO.gy rfl ⟨_, rfl, rfl⟩ (.add rfl rfl rfl ⟨by first | omega | (simp only [List.length_append, List.length_nil, List.length_cons, List.length_take, List.length_drop] at *; omega) | (simp only [hn (by omega), List.length_take, List.length_drop]; omega), by first | omega | (simp only [List.length_append, List.length_nil, List.length_cons, List.length_take, List.length_drop] at *; omega) | (simp only [hn (by omega), List.length_take, List.length_drop]; omega)⟩) ?_
              refine VO.gy rfl ⟨_, rfl, rfl⟩ (.neq rfl rfl) ?_
              refine VO.y rfl (.pF rfl rfl) ?_
              refine VO.y rfl (.mv rfl) ?_
              refine VO.dec (t := 67) rfl (fun hc57 => ?_) (fun hc57 => ?_)
              · -- FFFTFFT
                exfalso; exact hc57 (by rw [hn (by omega)])
              · -- FFFTFFF
                refine VO.gy rfl ⟨_, rfl, rfl⟩ (.fa rfl tst72 rfl) ?_
                refine VO.gy rfl ⟨_, rfl, rfl⟩ (.ld1 152 rfl tk61 rfl (cellsAt_one rfl rfl)) ?_
                refine VO.gy rfl ⟨_, rfl, rfl⟩ (.lenS rfl tsl61) ?_
                refine VO.gy rfl ⟨_, rfl, rfl⟩ (.eql rfl rfl) ?_
                refine VO.y rfl (.pF rfl rfl) ?_
                refine VO.y rfl (.mv rfl) ?_
                refine VO.dec (t := 73) rfl (fun hc58 => ?_) (fun hc58 => ?_)
                · -- FFFTFFFT
                  exfalso; rw [hn (by omega)] at hc58; simp only [List.length_take, List.length_drop] at hc58; omega
                · -- FFFTFFFF
                  refine VO.gy rfl ⟨_, rfl, rfl⟩ (.fa rfl tst72 rfl) ?_
                  refine VO.gy rfl ⟨_, rfl, rfl⟩ (.ld1 152 rfl tk61 rfl (cellsAt_one rfl rfl)) ?_
                  refine VO.gy rfl ⟨_, rfl, rfl⟩ (.lenS rfl tsl61) ?_
                  refine VO.gy rfl ⟨_, rfl, rfl⟩ (.gtr rfl rfl) ?_
                  refine VO.y rfl (.pF rfl rfl) ?_
                  refine VO.esub [(0, _), (1, _), (5, _), (6, _), (7, _), (8, _), (9, _), (10, _), (16, _), (25, _), (28, _), (45, _), (78, _)] ⟨rfl, rfl, rfl, rfl, rfl, rfl, rfl, rfl, rfl, rfl, rfl, rfl, rfl, trivial⟩ (VO.nil ?_)
                  refine VC.cond rfl (fun hc59 => ?_) (fun hc59 => ?_)
                  · -- FFFTFFFFT
                    exfalso; rw [hn (by omega)] at hc59; simp only [List.length_take, List.length_drop] at hc59; omega
                  · -- FFFTFFFFF
                    refine VC.skip ?_
                    refine outN ?_
                    refine VC.rs ?_
                    refine VO.y rfl (.mv rfl) ?_
                    refine VO.y rfl (.fa rfl tst72 rfl) ?_
                    refine VO.y rfl (.ld1 152 rfl tk61 rfl (cellsAt_one rfl rfl)) ?_
                    refine VO.appOs (e := TCommit) 146 150 rfl rfl rfl tsl61 tz52 rfl rfl rfl h_got q48_0_7 Try.underlying61 (by simp only [maxLen]; (first | omega | (simp only [List.length_append, List.length_nil, List.length_cons, List.length_take, List.length_drop] at *; omega) | (simp only [hn (by omega), List.length_take, List.length_drop]; omega))) (by first | omega | (simp only [List.length_append, List.length_nil, List.length_cons, List.length_take, List.length_drop] at *; omega) | (simp only [hn (by omega), List.length_take, List.length_drop]; omega)) (by decide) (fun v60 m60 ho60 => ?_)
                    obtain ⟨A60, c60, rfl, l60, k60⟩ := ho60.slice
                    simp only [maxLen] at k60
                    refine VO.y rfl (.as rfl) ?_
                    refine VO.inv [(146, _), (152, _), (149, _), (0, _)] (fun _ h => h.sub [146, 152, 149, 0]) ?_
                    refine VO.esub [(0, _), (1, _), (5, _), (6, _), (7, _), (8, _), (9, _), (10, _), (16, _), (25, _), (28, _), (45, _), (78, _)] ⟨rfl, rfl, rfl, rfl, rfl, rfl, rfl, rfl, rfl, rfl, rfl, rfl, rfl, trivial⟩ (VO.nil ?_)
                    refine VC.reg ?_
                    refine VO.y rfl (.fa rfl tst72 rfl) ?_
                    refine VO.y rfl (.ld1 152 rfl tk3 rfl (cellsAt_one rfl rfl)) ?_
                    refine VO.y rfl (.sub rfl rfl rfl ⟨by first | omega | (simp only [List.length_append, List.length_nil, List.length_cons, List.length_take, List.length_drop] at *; omega) | (simp only [hn (by omega), List.length_take, List.length_drop]; omega), by first | omega | (simp only [List.length_append, List.length_nil, List.length_cons, List.length_take, List.length_drop] at *; omega) | (simp only [hn (by omega), List.length_take, List.length_drop]; omega)⟩) ?_
                    refine VO.y rfl (.fa rfl tst72 rfl) ?_
                    refine VO.y rfl (.ld1 152 rfl tk61 rfl (cellsAt_one rfl rfl)) ?_
                    refine VO.y rfl (.lenS rfl tsl61) ?_
                    refine VO.y rfl (.add rfl rfl rfl ⟨by first | omega | (simp only [List.length_append, List.length_nil, List.length_cons, List.length_take, List.length_drop] at *; omega) | (simp only [hn (by omega), List.length_take, List.length_drop]; omega), by first | omega | (simp only [List.length_append, List.length_nil, List.length_cons, List.length_take, List.length_drop] at *; omega) | (simp only [hn (by omega), List.length_take, List.length_drop]; omega)⟩) ?_
                    refine VO.y rfl (.as rfl) ?_
                    refine VO.esub [(0, _), (1, _), (5, _), (6, _), (7, _), (8, _), (9, _), (10, _), (16, _), (25, _), (28, _), (45, _), (78, _)] ⟨rfl, rfl, rfl, rfl, rfl, rfl, rfl, rfl, rfl, rfl, rfl, rfl, rfl, trivial⟩ (VO.nil ?_)
                    refine outBN ?_
                    exact outN ⟨⟨((((shipNext 1 d0 a).1).2.2.2.2.2.1) - 1) + (((((shipNext 1 d0 a).1).2.2.2.2.2.2.2).length : Nat) : Int), got ++ (((shipNext 1 d0 a).1).2.2.2.2.2.2.2), A60, c60, m60⟩, ⟨by (simp only [hn (by omega), List.length_take, List.length_drop]; omega), by (simp only [hn (by omega), List.length_take, List.length_drop]; omega), by (simp only [hn (by omega)]; exact got_next hg (by omega) ia (by omega)), ho60⟩, by (simp only [hn (by omega), List.length_take, List.length_drop]; omega), ⟨⟨rfl, rfl, rfl, rfl, rfl, rfl, rfl, rfl, rfl, trivial⟩, fun _ h => Inv.sub h [146, 0]⟩⟩
        · -- FFFF
          refine VC.exit ?_
          refine outE ?_
          refine outE ?_
          refine outBB ?_
          refine outN ?_
          refine VC.rs ?_
          refine VO.y rfl (.mv rfl) ?_
          refine VO.y rfl (.mv rfl) ?_
          refine VO.y rfl (.mv rfl) ?_
          refine VO.y rfl (.lenS rfl tsl61) ?_
          refine VO.callN 161 rfl fnOk65 rfl (fun W hW => next_ok W 1 (by simp only [inK]; (first | omega | (simp only [List.length_append, List.length_nil, List.length_cons, List.length_take, List.length_drop] at *; omega) | (simp only [hn (by omega), List.length_take, List.length_drop]; omega))) (Rd.mono h0 (hW.at (i := 0) rfl)) ((d0.length : Nat) : Int) (by simp only [inK]; (first | omega | (simp only [List.length_append, List.length_nil, List.length_cons, List.length_take, List.length_drop] at *; omega) | (simp only [hn (by omega), List.length_take, List.length_drop]; omega)))) (fun v61 m61 hv61 => ?_)
          obtain ⟨s61_0, rfl, f61_0⟩ := hv61
          obtain ⟨q61_0_A4, q61_0_c4, q61_0_A7, q61_0_c7, q61_0_n4, q61_0_n7, rfl, q61_0_S, q61_0_0, q61_0_1, q61_0_2, q61_0_3, q61_0_4, q61_0_5, q61_0_6, q61_0_7⟩ := openO_Message (x0 := ((shipNext 1 d0 ((d0.length : Nat) : Int)).1).1) (x1 := ((shipNext 1 d0 ((d0.length : Nat) : Int)).1).2.1) (x2 := ((shipNext 1 d0 ((d0.length : Nat) : Int)).1).2.2.1) (x3 := ((shipNext 1 d0 ((d0.length : Nat) : Int)).1).2.2.2.1) (x4 := ((shipNext 1 d0 ((d0.length : Nat) : Int)).1).2.2.2.2.1) (x5 := ((shipNext 1 d0 ((d0.length : Nat) : Int)).1).2.2.2.2.2.1) (x6 := ((shipNext 1 d0 ((d0.length : Nat) : Int)).1).2.2.2.2.2.2.1) (x7 := ((shipNext 1 d0 ((d0.length : Nat) : Int)).1).2.2.2.2.2.2.2) f61_0
          simp only [inK] at q61_0_0
          simp only [inK] at q61_0_1
          simp only [inK] at q61_0_2
          simp only [inK] at q61_0_3
          have q61_0_r4 := Rd.room (q61_0_4.rd (mle_refl _))
          simp only [inK] at q61_0_5
          simp only [inK] at q61_0_6
          have q61_0_r7 := Rd.room (q61_0_7.rd (mle_refl _))
          refine VO.inv _ (fun _ h => h.parts (i := 161) rfl q61_0_S [162, 163]) ?_
          refine VO.y rfl (.mv rfl) ?_
          refine VO.y rfl (.ext rfl rfl) ?_
          refine VO.y rfl (.ext rfl rfl) ?_
          refine VO.alloc 165 rfl tz72 (fun g64 => ?_)
          refine VO.store (k := 8) (c' := [Value.int .i64 (((shipNext 1 d0 ((d0.length : Nat) : Int)).1).1), Value.int .i64 (((shipNext 1 d0 ((d0.length : Nat) : Int)).1).2.1), Value.int .u8 (((shipNext 1 d0 ((d0.length : Nat) : Int)).1).2.2.1), Value.int .i64 (((shipNext 1 d0 ((d0.length : Nat) : Int)).1).2.2.2.1), Value.slice q61_0_A4 ((((shipNext 1 d0 ((d0.length : Nat) : Int)).1).2.2.2.2.1).length) (q61_0_c4), Value.int .i64 (((shipNext 1 d0 ((d0.length : Nat) : Int)).1).2.2.2.2.2.1), Value.int .i64 (((shipNext 1 d0 ((d0.length : Nat) : Int)).1).2.2.2.2.2.2.1), Value.slice q61_0_A7 ((((shipNext 1 d0 ((d0.length : Nat) : Int)).1).2.2.2.2.2.2.2).length) (q61_0_c7)]) 165 rfl rfl (.inl tk72) rfl rfl rfl rfl rfl ?_
          refine VO.y rfl (.as rfl) ?_
          refine VO.esub [(0, _), (1, _), (5, _), (6, _), (7, _), (8, _), (11, _), (12, _), (16, _), (25, _), (28, _), (45, _)] ⟨rfl, rfl, rfl, rfl, rfl, rfl, rfl, rfl, rfl, rfl, rfl, rfl, trivial⟩ (VO.nil ?_)
          refine VC.rs ?_
          refine VO.y rfl (.mv rfl) ?_
          refine VO.y rfl (.mv rfl) ?_
          refine VO.callN 166 rfl fnOk67 rfl (fun W hW => hello_ok W 1 (by simp only [inK]; (first | omega | (simp only [List.length_append, List.length_nil, List.length_cons, List.length_take, List.length_drop] at *; omega) | (simp only [hn (by omega), List.length_take, List.length_drop]; omega))) 2 (by simp only [inK]; (first | omega | (simp only [List.length_append, List.length_nil, List.length_cons, List.length_take, List.length_drop] at *; omega) | (simp only [hn (by omega), List.length_take, List.length_drop]; omega))) (Rd.mono h0 (hW.at (i := 0) rfl)) (by first | omega | (simp only [List.length_append, List.length_nil, List.length_cons, List.length_take, List.length_drop] at *; omega) | (simp only [hn (by omega), List.length_take, List.length_drop]; omega))) (fun v66 m66 hv66 => ?_)
          obtain ⟨s66_0, rfl, f66_0⟩ := hv66
          obtain ⟨q66_0_A4, q66_0_c4, q66_0_A7, q66_0_c7, q66_0_n4, q66_0_n7, rfl, q66_0_S, q66_0_0, q66_0_1, q66_0_2, q66_0_3, q66_0_4, q66_0_5, q66_0_6, q66_0_7⟩ := openO_Message (x0 := ((shipHello 1 2 d0).1).1) (x1 := ((shipHello 1 2 d0).1).2.1) (x2 := ((shipHello 1 2 d0).1).2.2.1) (x3 := ((shipHello 1 2 d0).1).2.2.2.1) (x4 := ((shipHello 1 2 d0).1).2.2.2.2.1) (x5 := ((shipHello 1 2 d0).1).2.2.2.2.2.1) (x6 := ((shipHello 1 2 d0).1).2.2.2.2.2.2.1) (x7 := ((shipHello 1 2 d0).1).2.2.2.2.2.2.2) f66_0
          simp only [inK] at q66_0_0
          simp only [inK] at q66_0_1
          simp only [inK] at q66_0_2
          simp only [inK] at q66_0_3
          have q66_0_r4 := Rd.room (q66_0_4.rd (mle_refl _))
          simp only [inK] at q66_0_5
          simp only [inK] at q66_0_6
          have q66_0_r7 := Rd.room (q66_0_7.rd (mle_refl _))
          refine VO.inv _ (fun _ h => h.parts (i := 166) rfl q66_0_S [167, 168]) ?_
          refine VO.y rfl (.mv rfl) ?_
          refine VO.y rfl (.ext rfl rfl) ?_
          refine VO.y rfl (.ext rfl rfl) ?_
          refine VO.alloc 170 rfl tz72 (fun g69 => ?_)
          refine VO.store (k := 8) (c' := [Value.int .i64 (((shipHello 1 2 d0).1).1), Value.int .i64 (((shipHello 1 2 d0).1).2.1), Value.int .u8 (((shipHello 1 2 d0).1).2.2.1), Value.int .i64 (((shipHello 1 2 d0).1).2.2.2.1), Value.slice q66_0_A4 ((((shipHello 1 2 d0).1).2.2.2.2.1).length) (q66_0_c4), Value.int .i64 (((shipHello 1 2 d0).1).2.2.2.2.2.1), Value.int .i64 (((shipHello 1 2 d0).1).2.2.2.2.2.2.1), Value.slice q66_0_A7 ((((shipHello 1 2 d0).1).2.2.2.2.2.2.2).length) (q66_0_c7)]) 170 rfl rfl (.inl tk72) rfl rfl rfl rfl rfl ?_
          refine VO.y rfl (.as rfl) ?_
          refine VO.esub [(0, _), (1, _), (5, _), (6, _), (7, _), (8, _), (11, _), (12, _), (13, _), (14, _), (16, _), (25, _), (28, _), (45, _)] ⟨rfl, rfl, rfl, rfl, rfl, rfl, rfl, rfl, rfl, rfl, rfl, rfl, rfl, rfl, trivial⟩ (VO.nil ?_)
          refine VC.rs ?_
          refine VO.y rfl (.mv rfl) ?_
          refine VO.y rfl (.eql rfl rfl) ?_
          refine VO.y rfl (.mv rfl) ?_
          refine VO.dec (t := 106) rfl (fun hc71 => ?_) (fun hc71 => ?_)
          · -- FFFFT
            refine VO.gy rfl ⟨_, rfl, rfl⟩ (.fa rfl tst72 rfl) ?_
            refine VO.gy rfl ⟨_, rfl, rfl⟩ (.ld1 165 rfl tk61 rfl (cellsAt_one rfl rfl)) ?_
            refine VO.gy rfl ⟨_, rfl, rfl⟩ (.lenS rfl tsl61) ?_
            refine VO.gy rfl ⟨_, rfl, rfl⟩ (.eql rfl rfl) ?_
            refine VO.y rfl (.pT rfl rfl) ?_
            refine VO.y rfl (.mv rfl) ?_
            refine VO.dec (t := 112) rfl (fun hc72 => ?_) (fun hc72 => ?_)
            · -- FFFFTT
              refine VO.gy rfl ⟨_, rfl, rfl⟩ (.mv rfl) ?_
              refine VO.gy rfl ⟨_, rfl, rfl⟩ (.eql rfl rfl) ?_
              refine VO.y rfl (.pT rfl rfl) ?_
              refine VO.y rfl (.mv rfl) ?_
              refine VO.dec (t := 116) rfl (fun hc73 => ?_) (fun hc73 => ?_)
              · -- FFFFTTT
                refine VO.gy rfl ⟨_, rfl, rfl⟩ (.ldA 170 rfl tk72 rfl (cellsAt_one rfl rfl)) ?_
                refine VO.gcallN 174 rfl ⟨_, rfl, rfl⟩ fnOk87 rfl (fun W hW => lCheck_ok W (mk_Message (m := wm W) (((shipHello 1 2 d0).1).1) (((shipHello 1 2 d0).1).2.1) (((shipHello 1 2 d0).1).2.2.1) (((shipHello 1 2 d0).1).2.2.2.1) (((shipHello 1 2 d0).1).2.2.2.2.1) (((shipHello 1 2 d0).1).2.2.2.2.2.1) (((shipHello 1 2 d0).1).2.2.2.2.2.2.1) (((shipHello 1 2 d0).1).2.2.2.2.2.2.2) (by simp only [inK]; (first | omega | (simp only [List.length_append, List.length_nil, List.length_cons, List.length_take, List.length_drop] at *; omega) | (simp only [hn (by omega), List.length_take, List.length_drop]; omega))) (by simp only [inK]; (first | omega | (simp only [List.length_append, List.length_nil, List.length_cons, List.length_take, List.length_drop] at *; omega) | (simp only [hn (by omega), List.length_take, List.length_drop]; omega))) (by simp only [inK]; (first | omega | (simp only [List.length_append, List.length_nil, List.length_cons, List.length_take, List.length_drop] at *; omega) | (simp only [hn (by omega), List.length_take, List.length_drop]; omega))) (by simp only [inK]; (first | omega | (simp only [List.length_append, List.length_nil, List.length_cons, List.length_take, List.length_drop] at *; omega) | (simp only [hn (by omega), List.length_take, List.length_drop]; omega))) (OwnL.rd (Ow.ownl q66_0_4 rfl mnil) (hW.at (i := 167) rfl) (mle_nil _)) (by simp only [inK]; (first | omega | (simp only [List.length_append, List.length_nil, List.length_cons, List.length_take, List.length_drop] at *; omega) | (simp only [hn (by omega), List.length_take, List.length_drop]; omega))) (by simp only [inK]; (first | omega | (simp only [List.length_append, List.length_nil, List.length_cons, List.length_take, List.length_drop] at *; omega) | (simp only [hn (by omega), List.length_take, List.length_drop]; omega))) (Ow.rd q66_0_7 (hW.at (i := 168) rfl)))) (fun v74 m74 hv74 => ?_)
                subst hv74
                have hfa75 := lCheck_range (((shipHello 1 2 d0).1).1, ((shipHello 1 2 d0).1).2.1, ((shipHello 1 2 d0).1).2.2.1, ((shipHello 1 2 d0).1).2.2.2.1, ((shipHello 1 2 d0).1).2.2.2.2.1, ((shipHello 1 2 d0).1).2.2.2.2.2.1, ((shipHello 1 2 d0).1).2.2.2.2.2.2.1, ((shipHello 1 2 d0).1).2.2.2.2.2.2.2)
                refine VO.gy rfl ⟨_, rfl, rfl⟩ (.eql rfl rfl) ?_
                refine VO.y rfl (.pT rfl rfl) ?_
                refine VO.y rfl (.mv rfl) ?_
                refine VO.dec (t := 121) rfl (fun hc76 => ?_) (fun hc76 => ?_)
                · -- FFFFTTTT
                  refine VO.gy rfl ⟨_, rfl, rfl⟩ (.fa rfl tst72 rfl) ?_
                  refine VO.gy rfl ⟨_, rfl, rfl⟩ (.ld1 170 rfl tk3 rfl (cellsAt_one rfl rfl)) ?_
                  refine VO.gy rfl ⟨_, rfl, rfl⟩ (.mv rfl) ?_
                  refine VO.gy rfl ⟨_, rfl, rfl⟩ (.lenS rfl tsl61) ?_
                  refine VO.gy rfl ⟨_, rfl, rfl⟩ (.eql rfl rfl) ?_
                  refine VO.y rfl (.pT rfl rfl) ?_
                  refine VO.y rfl (.mv rfl) ?_
                  refine VO.dec (t := 128) rfl (fun hc77 => ?_) (fun hc77 => ?_)
                  · -- FFFFTTTTT
                    refine VO.gy rfl ⟨_, rfl, rfl⟩ (.mv rfl) ?_
                    refine VO.gy rfl ⟨_, rfl, rfl⟩ (.mv rfl) ?_
                    refine VO.gy rfl ⟨_, rfl, rfl⟩ (.mv rfl) ?_
                    obtain ⟨A78, hA78, hs78⟩ := h0.drop 3 ((pickI d1 ((d0.length + 1 : Nat) : Int)).toNat) rfl (by first | omega | (simp only [List.length_append, List.length_nil, List.length_cons, List.length_take, List.length_drop] at *; omega) | (simp only [hn (by omega), List.length_take, List.length_drop]; omega))
                    refine VO.gy rfl ⟨_, rfl, rfl⟩ (.slLI ((pickI d1 ((d0.length + 1 : Nat) : Int)).toNat) A78 rfl rfl tsl61 (by first | omega | (simp only [List.length_append, List.length_nil, List.length_cons, List.length_take, List.length_drop] at *; omega) | (simp only [hn (by omega), List.length_take, List.length_drop]; omega)) hA78 (by first | omega | (simp only [List.length_append, List.length_nil, List.length_cons, List.length_take, List.length_drop] at *; omega) | (simp only [hn (by omega), List.length_take, List.length_drop]; omega))) ?_
                    refine VO.gcallN 179 rfl ⟨_, rfl, rfl⟩ fnOk69 rfl (fun W hW => SameCommits_ok W (Ow.rd h_got (hW.at (i := 146) rfl)) (Rd.mono hs78 (hW.at (i := 0) rfl))) (fun v79 m79 hv79 => ?_)
                    subst hv79
                    refine VO.y rfl (.pT rfl rfl) ?_
                    refine VO.y rfl (.as rfl) ?_
                    refine VO.inv [(170, _), (167, _), (168, _), (165, _), (162, _), (163, _), (146, _), (0, _)] (fun _ h => h.sub [170, 167, 168, 165, 162, 163, 146, 0]) ?_
                    refine VO.esub [(0, _), (1, _), (4, _), (5, _), (6, _), (7, _), (8, _), (11, _), (12, _), (13, _), (14, _), (16, _), (25, _), (28, _), (45, _)] ⟨rfl, rfl, rfl, rfl, rfl, rfl, rfl, rfl, rfl, rfl, rfl, rfl, rfl, rfl, rfl, trivial⟩ (VO.nil ?_)
                    refine VC.ret ?_
                    refine ⟨_, _, res_run (rs := [.tmp 4]) rfl (.tmp rfl .nil), fun W_ hI => out_of (l := []) hI [] rfl rfl (mle_refl _) (fun hS_ => ?_)⟩
                    dsimp only [packV]
                    all_goals (first | rfl | (exact congrArg Value.bool (decide_eq_true (by rw [hg, List.take_of_length_le (by simp only [List.length_drop]; omega)]))))
                  · -- FFFFTTTTF
                    exfalso; exact hc77 (by rw [hh.1])
                · -- FFFFTTTF
                  exfalso; exact hc76 (by rw [hh.1]; exact hh.2)
              · -- FFFFTTF
                exfalso; exact hc73 (by rw [hh.1])
            · -- FFFFTF
              exfalso; exact hc72 (by rw [hn2]; simp)
          · -- FFFFF
            exfalso; exact hc71 (by rw [hn2])
end Go.Proofs.Ytfaknkkaegjdaaa
