/- Walks, printed by program: what lagleashlaw18 TakeAll compute. Conditions: those named in each theorem. -/
import Derived.Test.YtfaknkkaegjdaaaW11
import Derived.Test.YtfaknkkaegjdaaaW10
import Derived.Test.YtfaknkkaegjdaaaSpec7
set_option linter.unusedVariables false
set_option linter.unusedSimpArgs false
set_option maxRecDepth 4000
namespace Go.Proofs.Ytfaknkkaegjdaaa

theorem takeAll_ok (W : World) {v0 : Value} {d0 : List DCommit} (h0 : Rd (.sl TCommit) (wm W) [v0] d0) (d1 : Int) (h1 : inK .i64 d1) {v2 : Value} {d2 : List Int} (h2 : Rd (.sl (.int .i64)) (wm W) [v2] d2) : CallR Try.prog 21 [v0, .int .i64 d1, v2] W (mnil) (fun v m' => v = .bool true) := by
  obtain ⟨A0, c0, rfl, l0, k0⟩ := h0.slice
  simp only [maxLen] at k0
  have h1' := h1; simp only [inK] at h1'
  obtain ⟨A2, c2, rfl, l2, k2⟩ := h2.slice
  simp only [maxLen] at k2
  refine CallR.ofA (n := 122) Try.func21 rfl rfl rfl ?_
  refine VC.rs ?_
  refine VO.y rfl (.as rfl) ?_
  refine VO.esub [(0, _), (1, _), (2, _), (6, _)] ⟨rfl, rfl, rfl, rfl, trivial⟩ (VO.nil ?_)
  refine VC.seq ?_
  refine VC.rs ?_
  refine VO.callN 101 rfl fnOk81 rfl (fun W hW => lives18_ok W ) (fun v1 m1 hv1 => ?_)
  subst hv1
  refine VO.y rfl (.not rfl) ?_
  refine VO.esub [(0, _), (1, _), (2, _), (6, _), (15, _)] ⟨rfl, rfl, rfl, rfl, rfl, trivial⟩ (VO.nil ?_)
  refine VC.condF rfl ?_
  refine VC.skip ?_
  refine outN ?_
  refine VC.seq ?_
  refine VC.rs ?_
  refine VO.y rfl (.mv rfl) ?_
  refine VO.callN 102 rfl fnOk82 rfl (fun W hW => small18_ok W (Rd.mono h0 (hW.at (i := 0) rfl))) (fun v2 m2 hv2 => ?_)
  subst hv2
  refine VO.y rfl (.notD rfl) ?_
  refine VO.y rfl (.mv rfl) ?_
  refine VO.dec (t := 19) rfl (fun hc3 => ?_) (fun hc3 => ?_)
  · -- T
    refine VO.gn rfl (.inl ⟨_, rfl, rfl⟩) ?_
    refine VO.gn rfl (.inl ⟨_, rfl, rfl⟩) ?_
    refine VO.gn rfl (.inl ⟨_, rfl, rfl⟩) ?_
    refine VO.gn rfl (.inl ⟨_, rfl, rfl⟩) ?_
    refine VO.y rfl (.pT rfl rfl) ?_
    refine VO.y rfl (.mv rfl) ?_
    refine VO.gn rfl (.inl ⟨_, rfl, rfl⟩) ?_
    refine VO.gn rfl (.inl ⟨_, rfl, rfl⟩) ?_
    refine VO.gn rfl (.inl ⟨_, rfl, rfl⟩) ?_
    refine VO.y rfl (.pT rfl rfl) ?_
    refine VO.esub [(0, _), (1, _), (2, _), (6, _), (15, _), (29, _)] ⟨rfl, rfl, rfl, rfl, rfl, rfl, trivial⟩ (VO.nil ?_)
    refine VC.condT rfl ?_
    refine VC.rs ?_
    refine VO.y rfl (.as rfl) ?_
    refine VO.esub [(0, _), (1, _), (2, _), (6, _), (15, _), (29, _)] ⟨rfl, rfl, rfl, rfl, rfl, rfl, trivial⟩ (VO.nil ?_)
    refine VC.ret ?_
    refine outR ?_
    refine ⟨_, _, res_run (rs := [.tmp 6]) rfl (.tmp rfl .nil), fun W_ hI => out_of (l := []) hI [] rfl rfl (mle_refl _) (fun hS_ => ?_)⟩
    dsimp only [packV]
    all_goals (first | rfl | (exact congrArg Value.bool (decide_eq_true (by omega))))
  · -- F
    refine VO.gy rfl ⟨_, rfl, rfl⟩ (.mv rfl) ?_
    refine VO.gcallN 104 rfl ⟨_, rfl, rfl⟩ fnOk52 rfl (fun W hW => follows_ok W 0 (by simp only [inK]; (first | omega | (simp only [List.length_append, List.length_nil, List.length_cons, List.length_take, List.length_drop] at *; omega))) 0 (by simp only [inK]; (first | omega | (simp only [List.length_append, List.length_nil, List.length_cons, List.length_take, List.length_drop] at *; omega))) (Rd.mono h0 (hW.at (i := 0) rfl))) (fun v4 m4 hv4 => ?_)
    obtain ⟨s4_0, rfl, f4_0⟩ := hv4
    obtain ⟨rfl, q4_0_0, q4_0_1⟩ := open_Fault (x0 := (cFollows 0 0 d0).1) (x1 := (cFollows 0 0 d0).2) (f4_0.rd (mle_refl _))
    simp only [inK] at q4_0_0
    simp only [inK] at q4_0_1
    refine VO.gy rfl ⟨_, rfl, rfl⟩ (.bst (cs := [Value.int .i64 (0), Value.int .i64 (0)]) rfl tst57 tz57 rfl) ?_
    refine VO.gy rfl ⟨_, rfl, rfl⟩ (.stneq (p := ((cFollows 0 0 d0).1) = 0 ∧ ((cFollows 0 0 d0).2) = 0) rfl rfl (teq57 ((cFollows 0 0 d0).1) ((cFollows 0 0 d0).2)) (teq57 0 0) (by simp [ceq, ba_toList])) ?_
    refine VO.y rfl (.pF rfl rfl) ?_
    refine VO.y rfl (.mv rfl) ?_
    refine VO.dec (t := 25) rfl (fun hc5 => ?_) (fun hc5 => ?_)
    · -- FT
      refine VO.gn rfl (.inl ⟨_, rfl, rfl⟩) ?_
      refine VO.gn rfl (.inl ⟨_, rfl, rfl⟩) ?_
      refine VO.gn rfl (.inl ⟨_, rfl, rfl⟩) ?_
      refine VO.y rfl (.pT rfl rfl) ?_
      refine VO.esub [(0, _), (1, _), (2, _), (6, _), (15, _), (29, _)] ⟨rfl, rfl, rfl, rfl, rfl, rfl, trivial⟩ (VO.nil ?_)
      refine VC.condT rfl ?_
      refine VC.rs ?_
      refine VO.y rfl (.as rfl) ?_
      refine VO.esub [(0, _), (1, _), (2, _), (6, _), (15, _), (29, _)] ⟨rfl, rfl, rfl, rfl, rfl, rfl, trivial⟩ (VO.nil ?_)
      refine VC.ret ?_
      refine outR ?_
      refine ⟨_, _, res_run (rs := [.tmp 6]) rfl (.tmp rfl .nil), fun W_ hI => out_of (l := []) hI [] rfl rfl (mle_refl _) (fun hS_ => ?_)⟩
      dsimp only [packV]
      all_goals (first | rfl | (exact congrArg Value.bool (decide_eq_true (by omega))))
    · -- FF
      refine VO.gy rfl ⟨_, rfl, rfl⟩ (.mv rfl) ?_
      refine VO.gy rfl ⟨_, rfl, rfl⟩ (.lenS rfl tsl96) ?_
      refine VO.gy rfl ⟨_, rfl, rfl⟩ (.gtr rfl rfl) ?_
      refine VO.y rfl (.pF rfl rfl) ?_
      refine VO.esub [(0, _), (1, _), (2, _), (6, _), (15, _), (29, _)] ⟨rfl, rfl, rfl, rfl, rfl, rfl, trivial⟩ (VO.nil ?_)
      refine VC.cond rfl (fun hc6 => ?_) (fun hc6 => ?_)
      · -- FFT
        refine VC.rs ?_
        refine VO.y rfl (.as rfl) ?_
        refine VO.esub [(0, _), (1, _), (2, _), (6, _), (15, _), (29, _)] ⟨rfl, rfl, rfl, rfl, rfl, rfl, trivial⟩ (VO.nil ?_)
        refine VC.ret ?_
        refine outR ?_
        refine ⟨_, _, res_run (rs := [.tmp 6]) rfl (.tmp rfl .nil), fun W_ hI => out_of (l := []) hI [] rfl rfl (mle_refl _) (fun hS_ => ?_)⟩
        dsimp only [packV]
        all_goals (first | rfl | (exact congrArg Value.bool (decide_eq_true (by omega))))
      · -- FFF
        refine VC.skip ?_
        refine outN ?_
        refine VC.rs ?_
        refine VO.y rfl (.as rfl) ?_
        refine VO.esub [(0, _), (1, _), (2, _), (6, _), (7, _), (15, _), (29, _)] ⟨rfl, rfl, rfl, rfl, rfl, rfl, rfl, trivial⟩ (VO.nil ?_)
        refine VC.seq ?_
        refine VC.rs ?_
        refine VO.y rfl (.mv rfl) ?_
        refine VO.y rfl (.lenS rfl tsl61) ?_
        refine VO.y rfl (.gtr rfl rfl) ?_
        refine VO.esub [(0, _), (1, _), (2, _), (6, _), (7, _), (15, _), (29, _), (32, _)] ⟨rfl, rfl, rfl, rfl, rfl, rfl, rfl, rfl, trivial⟩ (VO.nil ?_)
        refine VC.cond rfl (fun hc7 => ?_) (fun hc7 => ?_)
        · -- FFFT
          refine VC.reg ?_
          refine VO.y rfl (.mv rfl) ?_
          refine VO.y rfl (.mv rfl) ?_
          refine VO.y rfl (.lenS rfl tsl61) ?_
          refine VO.y rfl (.sub rfl rfl rfl ⟨by first | omega | (simp only [List.length_append, List.length_nil, List.length_cons, List.length_take, List.length_drop] at *; omega), by first | omega | (simp only [List.length_append, List.length_nil, List.length_cons, List.length_take, List.length_drop] at *; omega)⟩) ?_
          obtain ⟨x8, hx8⟩ : ∃ x, (d0)[(((d0.length : Nat) : Int) - 1).toNat]? = some x := ⟨_, List.getElem?_eq_getElem (by first | omega | (simp only [List.length_append, List.length_nil, List.length_cons, List.length_take, List.length_drop] at *; omega))⟩
          obtain ⟨gg8, oo8, ec8, ea8, hce8, hre8⟩ := h0.elem hx8
          cases ea8
          obtain ⟨q8_A2, q8_c2, rfl, q8_0, q8_1, q8_2⟩ := open_Commit (x0 := x8.1) (x1 := x8.2.1) (x2 := x8.2.2) hre8
          simp only [inK] at q8_0
          simp only [inK] at q8_1
          have q8_r2 := Rd.room q8_2
          refine VO.y rfl (.ixI ((((d0.length : Nat) : Int) - 1).toNat) rfl rfl tsl61 (by first | omega | (simp only [List.length_append, List.length_nil, List.length_cons, List.length_take, List.length_drop] at *; omega)) (by first | omega | (simp only [List.length_append, List.length_nil, List.length_cons, List.length_take, List.length_drop] at *; omega))) ?_
          refine VO.y rfl (.fa rfl tst52 rfl) ?_
          refine VO.y rfl (.ld1 0 rfl tk3 rfl (hce8.at1 (j := 0) rfl)) ?_
          refine VO.y rfl (.as rfl) ?_
          refine VO.esub [(0, _), (1, _), (2, _), (6, _), (7, _), (15, _), (29, _), (32, _)] ⟨rfl, rfl, rfl, rfl, rfl, rfl, rfl, rfl, trivial⟩ (VO.nil ?_)
          refine outN ?_
          refine VC.rs ?_
          refine VO.y rfl (.mv rfl) ?_
          refine VO.y rfl (.mv rfl) ?_
          refine VO.y rfl (.mv rfl) ?_
          refine VO.y rfl (.lenS rfl tsl61) ?_
          refine VO.y rfl (.add (c := ((d0.length + 1 : Nat) : Int)) rfl rfl (by omega) ⟨by first | omega | (simp only [List.length_append, List.length_nil, List.length_cons, List.length_take, List.length_drop] at *; omega), by first | omega | (simp only [List.length_append, List.length_nil, List.length_cons, List.length_take, List.length_drop] at *; omega)⟩) ?_
          refine VO.callN 109 rfl fnOk43 rfl (fun W hW => pick_ok W d1 (by simp only [inK]; (first | omega | (simp only [List.length_append, List.length_nil, List.length_cons, List.length_take, List.length_drop] at *; omega))) ((d0.length + 1 : Nat) : Int) (by simp only [inK]; (first | omega | (simp only [List.length_append, List.length_nil, List.length_cons, List.length_take, List.length_drop] at *; omega))) (by first | omega | (simp only [List.length_append, List.length_nil, List.length_cons, List.length_take, List.length_drop] at *; omega))) (fun v9 m9 hv9 => ?_)
          subst hv9
          have hfa10 := pickI_bounds d1 ((d0.length + 1 : Nat) : Int) (by omega)
          have hs11 := h0.pre (j := ((pickI d1 ((d0.length + 1 : Nat) : Int)).toNat)) (by first | omega | (simp only [List.length_append, List.length_nil, List.length_cons, List.length_take, List.length_drop] at *; omega))
          refine VO.y rfl (.slHI ((pickI d1 ((d0.length + 1 : Nat) : Int)).toNat) rfl rfl tsl61 (by first | omega | (simp only [List.length_append, List.length_nil, List.length_cons, List.length_take, List.length_drop] at *; omega)) (by first | omega | (simp only [List.length_append, List.length_nil, List.length_cons, List.length_take, List.length_drop] at *; omega))) ?_
          refine VO.callN 112 rfl fnOk56 rfl (fun W hW => CopyCommits_ok W (Rd.mono hs11 (hW.at (i := 0) rfl)) (by first | omega | (simp only [List.length_append, List.length_nil, List.length_cons, List.length_take, List.length_drop] at *; omega)) (by exact fun c hc => by have := (Decidable.not_not.1 ‹¬ ¬ ((∀ c ∈ d0, c.2.2.length ≤ 40) ∧ _)›).1 c (List.mem_of_mem_take hc); omega)) (fun v12 m12 hv12 => ?_)
          obtain ⟨s12_0, rfl, f12_0⟩ := hv12
          obtain ⟨A12_0, c12_0, eq12_0, l12_0, k12_0⟩ := f12_0.slice
          subst eq12_0
          simp only [maxLen] at k12_0
          refine VO.y rfl (.as rfl) ?_
          refine VO.esub [(0, _), (1, _), (2, _), (6, _), (7, _), (8, _), (15, _), (29, _), (32, _)] ⟨rfl, rfl, rfl, rfl, rfl, rfl, rfl, rfl, rfl, trivial⟩ (VO.nil ?_)
          refine VC.seq ?_
          refine VC.rs ?_
          refine VO.y rfl (.as rfl) ?_
          refine VO.esub [(0, _), (1, _), (2, _), (6, _), (7, _), (8, _), (9, _), (15, _), (29, _), (32, _)] ⟨rfl, rfl, rfl, rfl, rfl, rfl, rfl, rfl, rfl, rfl, trivial⟩ (VO.nil ?_)
          refine VC.block ?_
          refine VC.loop (G := Nat × (List DCommit) × (Option Addr) × Nat × Mem) (fun g => [(8, Value.slice (g.2.2.1) ((g.2.1).length) ((g.2.2.2.1))), (9, Value.int .i64 ((((g.1) : Nat) : Int))), (0, Value.slice (some ⟨gg8, oo8, none⟩) (d0.length) (c0)), (1, Value.int .i64 (d1)), (2, Value.slice A2 (d2.length) (c2)), (7, Value.int .i64 (x8.1)), (15, Value.bool false), (29, Value.bool (decide (60 < ((d2.length : Nat) : Int)))), (32, Value.bool (decide (0 < ((d0.length : Nat) : Int))))]) (fun g => [(112, (g.2.2.2.2)), (0, wm W)]) (fun g => ((g.1) ≤ d2.length + d0.length + 1) ∧ ((g.2.1) = d0.take (g.2.1).length) ∧ ((g.2.1).length ≤ d0.length) ∧ (((g.1) : Int) - d2.length ≤ (g.2.1).length ∨ (g.2.1).length = d0.length) ∧ (Ow (.sl TCommit) (g.2.2.2.2) [.slice (g.2.2.1) (g.2.1).length (g.2.2.2.1)] (g.2.1))) (fun g => d2.length + d0.length + 1 - (g.1)) (0, ((d0).take ((pickI d1 ((d0.length + 1 : Nat) : Int)).toNat)), A12_0, c12_0, m12) (⟨by omega, by simp, by (simp; omega), by omega, f12_0⟩) ⟨⟨rfl, rfl, rfl, rfl, rfl, rfl, rfl, rfl, rfl, trivial⟩, fun _ h => h.sub [112, 0]⟩ ?_
          rintro ⟨i, own, own_A, own_c, own_m⟩ ⟨hi, ho, hl, hp, h_own⟩
          replace hi : i ≤ d2.length + d0.length + 1 := hi
          replace ho : own = d0.take own.length := ho
          replace hl : own.length ≤ d0.length := hl
          replace hp : (i : Int) - d2.length ≤ own.length ∨ own.length = d0.length := hp
          replace h_own : Ow (.sl TCommit) own_m [.slice own_A own.length own_c] own := h_own
          show VC _ _ _ _ _ [(8, Value.slice own_A (own.length) (own_c)), (9, Value.int .i64 (((i : Nat) : Int))), (0, Value.slice (some ⟨gg8, oo8, none⟩) (d0.length) (c0)), (1, Value.int .i64 (d1)), (2, Value.slice A2 (d2.length) (c2)), (7, Value.int .i64 (x8.1)), (15, Value.bool false), (29, Value.bool (decide (60 < ((d2.length : Nat) : Int)))), (32, Value.bool (decide (0 < ((d0.length : Nat) : Int))))] [(112, own_m), (0, wm W)]
          have l_own : own.length ≤ own_c := by obtain ⟨_, _, he, hl, _⟩ := h_own.slice; simp only [Value.slice.injEq] at he; omega
          have k_own : own_c ≤ 9223372036854775807 := by obtain ⟨_, _, he, _, hl⟩ := h_own.slice; simp only [Value.slice.injEq, maxLen] at he hl; omega
          first | have hE := lastE_of ‹d0[_]? = some _› (by omega) | have hE := lastE_nil (l := d0) (by omega)
          have hv : (cFollows 0 0 d0).1 = 0 := by omega
          have hst := fun (at_ : Int) (h0 : 0 ≤ at_) (h1 : at_ ≤ d0.length) => ta_step (at_ := at_) hv ho hl (by omega) h0 h1
          have hnx := fun (at_ : Int) (h0 : 0 ≤ at_) (h1 : at_ ≤ d0.length) => next_last (k := at_) hv h0 h1 (by omega)
          simp only [hE] at hst hnx
          refine VC.seq ?_
          refine VC.rs ?_
          refine VO.y rfl (.mv rfl) ?_
          refine VO.y rfl (.mv rfl) ?_
          refine VO.y rfl (.lenS rfl tsl96) ?_
          refine VO.y rfl (.mv rfl) ?_
          refine VO.y rfl (.lenS rfl tsl61) ?_
          refine VO.y rfl (.add (c := ((d2.length + d0.length : Nat) : Int)) rfl rfl (by omega) ⟨by first | omega | (simp only [List.length_append, List.length_nil, List.length_cons, List.length_take, List.length_drop] at *; omega), by first | omega | (simp only [List.length_append, List.length_nil, List.length_cons, List.length_take, List.length_drop] at *; omega)⟩) ?_
          refine VO.y rfl (.add (c := ((d2.length + d0.length + 1 : Nat) : Int)) rfl rfl (by omega) ⟨by first | omega | (simp only [List.length_append, List.length_nil, List.length_cons, List.length_take, List.length_drop] at *; omega), by first | omega | (simp only [List.length_append, List.length_nil, List.length_cons, List.length_take, List.length_drop] at *; omega)⟩) ?_
          refine VO.y rfl (.lss rfl rfl) ?_
          refine VO.esub [(0, _), (1, _), (2, _), (7, _), (8, _), (9, _), (15, _), (29, _), (32, _), (55, _)] ⟨rfl, rfl, rfl, rfl, rfl, rfl, rfl, rfl, rfl, rfl, trivial⟩ (VO.nil ?_)
          refine VC.cond rfl (fun hc13 => ?_) (fun hc13 => ?_)
          · -- FFFTT
            refine VC.skip ?_
            refine outN ?_
            refine VC.seq ?_
            refine VC.block ?_
            refine VC.rs ?_
            refine VO.y rfl (.mv rfl) ?_
            refine VO.y rfl (.lenS rfl tsl61) ?_
            refine VO.y rfl (.as rfl) ?_
            refine VO.esub [(0, _), (1, _), (2, _), (7, _), (8, _), (9, _), (10, _), (15, _), (29, _), (32, _), (55, _)] ⟨rfl, rfl, rfl, rfl, rfl, rfl, rfl, rfl, rfl, rfl, rfl, trivial⟩ (VO.nil ?_)
            refine VC.seq ?_
            refine VC.rs ?_
            refine VO.y rfl (.mv rfl) ?_
            refine VO.y rfl (.mv rfl) ?_
            refine VO.y rfl (.lenS rfl tsl96) ?_
            refine VO.y rfl (.lss rfl rfl) ?_
            refine VO.esub [(0, _), (1, _), (2, _), (7, _), (8, _), (9, _), (10, _), (15, _), (29, _), (32, _), (55, _), (63, _)] ⟨rfl, rfl, rfl, rfl, rfl, rfl, rfl, rfl, rfl, rfl, rfl, rfl, trivial⟩ (VO.nil ?_)
            refine VC.cond rfl (fun hc14 => ?_) (fun hc14 => ?_)
            · -- FFFTTT
              refine VC.reg ?_
              refine VO.y rfl (.mv rfl) ?_
              refine VO.y rfl (.mv rfl) ?_
              obtain ⟨x15, hx15⟩ : ∃ x, (d2)[i]? = some x := ⟨_, List.getElem?_eq_getElem (by first | omega | (simp only [List.length_append, List.length_nil, List.length_cons, List.length_take, List.length_drop] at *; omega))⟩
              obtain ⟨gg15, oo15, ec15, ea15, hce15, hre15⟩ := h2.elem hx15
              cases ea15
              obtain ⟨rfl, q15⟩ := hre15; simp only [inK] at q15
              refine VO.y rfl (.ixI i rfl rfl tsl96 rfl (by first | omega | (simp only [List.length_append, List.length_nil, List.length_cons, List.length_take, List.length_drop] at *; omega))) ?_
              refine VO.y rfl (.ld1 0 rfl tk3 rfl hce15) ?_
              refine VO.y rfl (.mv rfl) ?_
              refine VO.y rfl (.lenS rfl tsl61) ?_
              refine VO.y rfl (.add (c := ((d0.length + 1 : Nat) : Int)) rfl rfl (by omega) ⟨by first | omega | (simp only [List.length_append, List.length_nil, List.length_cons, List.length_take, List.length_drop] at *; omega), by first | omega | (simp only [List.length_append, List.length_nil, List.length_cons, List.length_take, List.length_drop] at *; omega)⟩) ?_
              refine VO.callN 116 rfl fnOk43 rfl (fun W hW => pick_ok W x15 (by simp only [inK]; (first | omega | (simp only [List.length_append, List.length_nil, List.length_cons, List.length_take, List.length_drop] at *; omega))) ((d0.length + 1 : Nat) : Int) (by simp only [inK]; (first | omega | (simp only [List.length_append, List.length_nil, List.length_cons, List.length_take, List.length_drop] at *; omega))) (by first | omega | (simp only [List.length_append, List.length_nil, List.length_cons, List.length_take, List.length_drop] at *; omega))) (fun v16 m16 hv16 => ?_)
              subst hv16
              have hfa17 := pickI_bounds x15 ((d0.length + 1 : Nat) : Int) (by omega)
              refine VO.y rfl (.as rfl) ?_
              refine VO.inv [(112, _), (0, _)] (fun _ h => h.sub [112, 0]) ?_
              refine VO.esub [(0, _), (1, _), (2, _), (7, _), (8, _), (9, _), (10, _), (15, _), (29, _), (32, _), (55, _), (63, _)] ⟨rfl, rfl, rfl, rfl, rfl, rfl, rfl, rfl, rfl, rfl, rfl, rfl, trivial⟩ (VO.nil ?_)
              refine outN ?_
              refine VC.rs ?_
              refine VO.y rfl (.mv rfl) ?_
              refine VO.y rfl (.mv rfl) ?_
              refine VO.y rfl (.mv rfl) ?_
              refine VO.callN 118 rfl fnOk65 rfl (fun W hW => next_ok W x8.1 (by simp only [inK]; (first | omega | (simp only [List.length_append, List.length_nil, List.length_cons, List.length_take, List.length_drop] at *; omega))) (Rd.mono h0 (hW.at (i := 0) rfl)) (pickI x15 ((d0.length + 1 : Nat) : Int)) (by simp only [inK]; (first | omega | (simp only [List.length_append, List.length_nil, List.length_cons, List.length_take, List.length_drop] at *; omega)))) (fun v18 m18 hv18 => ?_)
              obtain ⟨s18_0, rfl, f18_0⟩ := hv18
              obtain ⟨q18_0_A4, q18_0_c4, q18_0_A7, q18_0_c7, q18_0_n4, q18_0_n7, rfl, q18_0_S, q18_0_0, q18_0_1, q18_0_2, q18_0_3, q18_0_4, q18_0_5, q18_0_6, q18_0_7⟩ := openO_Message (x0 := ((shipNext x8.1 d0 (pickI x15 ((d0.length + 1 : Nat) : Int))).1).1) (x1 := ((shipNext x8.1 d0 (pickI x15 ((d0.length + 1 : Nat) : Int))).1).2.1) (x2 := ((shipNext x8.1 d0 (pickI x15 ((d0.length + 1 : Nat) : Int))).1).2.2.1) (x3 := ((shipNext x8.1 d0 (pickI x15 ((d0.length + 1 : Nat) : Int))).1).2.2.2.1) (x4 := ((shipNext x8.1 d0 (pickI x15 ((d0.length + 1 : Nat) : Int))).1).2.2.2.2.1) (x5 := ((shipNext x8.1 d0 (pickI x15 ((d0.length + 1 : Nat) : Int))).1).2.2.2.2.2.1) (x6 := ((shipNext x8.1 d0 (pickI x15 ((d0.length + 1 : Nat) : Int))).1).2.2.2.2.2.2.1) (x7 := ((shipNext x8.1 d0 (pickI x15 ((d0.length + 1 : Nat) : Int))).1).2.2.2.2.2.2.2) f18_0
              simp only [inK] at q18_0_0
              simp only [inK] at q18_0_1
              simp only [inK] at q18_0_2
              simp only [inK] at q18_0_3
              have q18_0_r4 := Rd.room (q18_0_4.rd (mle_refl _))
              simp only [inK] at q18_0_5
              simp only [inK] at q18_0_6
              have q18_0_r7 := Rd.room (q18_0_7.rd (mle_refl _))
              refine VO.inv _ (fun _ h => h.parts (i := 118) rfl q18_0_S [119, 120]) ?_
              have hem : (pickI x15 ((d0.length + 1 : Nat) : Int)) ≤ own.length ∨ own.length < (pickI x15 ((d0.length + 1 : Nat) : Int)) := by omega
              have hs := hst (pickI x15 ((d0.length + 1 : Nat) : Int)) (by omega) (by omega)
              have hx := hnx (pickI x15 ((d0.length + 1 : Nat) : Int)) (by omega) (by omega)
              refine VO.y rfl (.mv rfl) ?_
              refine VO.y rfl (.ext rfl rfl) ?_
              refine VO.y rfl (.ext rfl rfl) ?_
              refine VO.alloc 122 rfl tz72 (fun g21 => ?_)
              refine VO.store (k := 8) (c' := [Value.int .i64 (((shipNext x8.1 d0 (pickI x15 ((d0.length + 1 : Nat) : Int))).1).1), Value.int .i64 (((shipNext x8.1 d0 (pickI x15 ((d0.length + 1 : Nat) : Int))).1).2.1), Value.int .u8 (((shipNext x8.1 d0 (pickI x15 ((d0.length + 1 : Nat) : Int))).1).2.2.1), Value.int .i64 (((shipNext x8.1 d0 (pickI x15 ((d0.length + 1 : Nat) : Int))).1).2.2.2.1), Value.slice q18_0_A4 ((((shipNext x8.1 d0 (pickI x15 ((d0.length + 1 : Nat) : Int))).1).2.2.2.2.1).length) (q18_0_c4), Value.int .i64 (((shipNext x8.1 d0 (pickI x15 ((d0.length + 1 : Nat) : Int))).1).2.2.2.2.2.1), Value.int .i64 (((shipNext x8.1 d0 (pickI x15 ((d0.length + 1 : Nat) : Int))).1).2.2.2.2.2.2.1), Value.slice q18_0_A7 ((((shipNext x8.1 d0 (pickI x15 ((d0.length + 1 : Nat) : Int))).1).2.2.2.2.2.2.2).length) (q18_0_c7)]) 122 rfl rfl (.inl tk72) rfl rfl rfl rfl rfl ?_
              refine VO.y rfl (.as rfl) ?_
              refine VO.esub [(0, _), (1, _), (2, _), (7, _), (8, _), (9, _), (10, _), (11, _), (12, _), (15, _), (29, _), (32, _), (55, _), (63, _)] ⟨rfl, rfl, rfl, rfl, rfl, rfl, rfl, rfl, rfl, rfl, rfl, rfl, rfl, rfl, trivial⟩ (VO.nil ?_)
              refine VC.seq ?_
              refine VC.rs ?_
              refine VO.y rfl (.mv rfl) ?_
              refine VO.y rfl (.neq rfl rfl) ?_
              refine VO.esub [(0, _), (1, _), (2, _), (7, _), (8, _), (9, _), (10, _), (11, _), (12, _), (15, _), (29, _), (32, _), (55, _), (63, _), (80, _)] ⟨rfl, rfl, rfl, rfl, rfl, rfl, rfl, rfl, rfl, rfl, rfl, rfl, rfl, rfl, rfl, trivial⟩ (VO.nil ?_)
              refine VC.cond rfl (fun hc23 => ?_) (fun hc23 => ?_)
              · -- FFFTTTT
                exact absurd (by rw [hx]) hc23
              · -- FFFTTTF
                refine VC.skip ?_
                refine outN ?_
                refine VC.rs ?_
                refine VO.y rfl (.mv rfl) ?_
                refine VO.y rfl (.mv rfl) ?_
                refine VO.y rfl (.ldA 122 rfl tk72 rfl (cellsAt_one rfl rfl)) ?_
                refine VO.callN 124 rfl fnOk78 rfl (fun W hW => take_ok W x8.1 (by simp only [inK]; (first | omega | (simp only [List.length_append, List.length_nil, List.length_cons, List.length_take, List.length_drop] at *; omega))) (Ow.rd h_own (hW.at (i := 112) rfl)) (show Rd TMessage _ _ ((shipNext x8.1 d0 (pickI x15 ((d0.length + 1 : Nat) : Int))).1) from (mk_Message (m := wm W) (((shipNext x8.1 d0 (pickI x15 ((d0.length + 1 : Nat) : Int))).1).1) (((shipNext x8.1 d0 (pickI x15 ((d0.length + 1 : Nat) : Int))).1).2.1) (((shipNext x8.1 d0 (pickI x15 ((d0.length + 1 : Nat) : Int))).1).2.2.1) (((shipNext x8.1 d0 (pickI x15 ((d0.length + 1 : Nat) : Int))).1).2.2.2.1) (((shipNext x8.1 d0 (pickI x15 ((d0.length + 1 : Nat) : Int))).1).2.2.2.2.1) (((shipNext x8.1 d0 (pickI x15 ((d0.length + 1 : Nat) : Int))).1).2.2.2.2.2.1) (((shipNext x8.1 d0 (pickI x15 ((d0.length + 1 : Nat) : Int))).1).2.2.2.2.2.2.1) (((shipNext x8.1 d0 (pickI x15 ((d0.length + 1 : Nat) : Int))).1).2.2.2.2.2.2.2) (by simp only [inK]; (first | omega | (simp only [List.length_append, List.length_nil, List.length_cons, List.length_take, List.length_drop] at *; omega))) (by simp only [inK]; (first | omega | (simp only [List.length_append, List.length_nil, List.length_cons, List.length_take, List.length_drop] at *; omega))) (by simp only [inK]; (first | omega | (simp only [List.length_append, List.length_nil, List.length_cons, List.length_take, List.length_drop] at *; omega))) (by simp only [inK]; (first | omega | (simp only [List.length_append, List.length_nil, List.length_cons, List.length_take, List.length_drop] at *; omega))) (OwnL.rd (Ow.ownl q18_0_4 rfl mnil) (hW.at (i := 119) rfl) (mle_nil _)) (by simp only [inK]; (first | omega | (simp only [List.length_append, List.length_nil, List.length_cons, List.length_take, List.length_drop] at *; omega))) (by simp only [inK]; (first | omega | (simp only [List.length_append, List.length_nil, List.length_cons, List.length_take, List.length_drop] at *; omega))) (Ow.rd q18_0_7 (hW.at (i := 120) rfl))))) (fun v24 m24 hv24 => ?_)
                obtain ⟨s24_0, rfl, f24_0⟩ := hv24
                obtain ⟨A24_0, c24_0, eq24_0, l24_0, k24_0⟩ := f24_0.slice
                subst eq24_0
                simp only [maxLen] at k24_0
                have h4 : ((takeOf x8.1 own ((shipNext x8.1 d0 (pickI x15 ((d0.length + 1 : Nat) : Int))).1)).1).length ≤ 4 := take_le4 _ _ _
                refine VO.y rfl (.mv rfl) ?_
                refine VO.y rfl (.ext rfl rfl) ?_
                refine VO.y rfl (.ext rfl rfl) ?_
                refine VO.y rfl (.as rfl) ?_
                refine VO.y rfl (.as rfl) ?_
                refine VO.esub [(0, _), (1, _), (2, _), (7, _), (8, _), (9, _), (10, _), (11, _), (12, _), (13, _), (15, _), (29, _), (32, _), (55, _), (63, _), (80, _)] ⟨rfl, rfl, rfl, rfl, rfl, rfl, rfl, rfl, rfl, rfl, rfl, rfl, rfl, rfl, rfl, rfl, trivial⟩ (VO.nil ?_)
                refine VC.seq ?_
                refine VC.rs ?_
                refine VO.y rfl (.mv rfl) ?_
                refine VO.y rfl (.neq rfl rfl) ?_
                refine VO.y rfl (.mv rfl) ?_
                refine VO.dec (t := 90) rfl (fun hc25 => ?_) (fun hc25 => ?_)
                · -- FFFTTTFT
                  refine VO.gy rfl ⟨_, rfl, rfl⟩ (.mv rfl) ?_
                  refine VO.gy rfl ⟨_, rfl, rfl⟩ (.neq rfl rfl) ?_
                  refine VO.gy rfl ⟨_, rfl, rfl⟩ (.mv rfl) ?_
                  refine VO.dec (t := 93) rfl (fun hc26 => ?_) (fun hc26 => ?_)
                  · -- FFFTTTFTT
                    rcases hem with hq | hq <;> first | exact absurd (hs.1 hq).1 (by assumption) | exact absurd (by rw [hs.2 hq]) hc26
                  · -- FFFTTTFTF
                    refine VO.gy rfl ⟨_, rfl, rfl⟩ (.mv rfl) ?_
                    refine VO.gy rfl ⟨_, rfl, rfl⟩ (.mv rfl) ?_
                    refine VO.gy rfl ⟨_, rfl, rfl⟩ (.lenS rfl tsl61) ?_
                    refine VO.gy rfl ⟨_, rfl, rfl⟩ (.leq rfl rfl) ?_
                    refine VO.gy rfl ⟨_, rfl, rfl⟩ (.pF rfl rfl) ?_
                    refine VO.y rfl (.pT rfl rfl) ?_
                    refine VO.esub [(0, _), (1, _), (2, _), (7, _), (8, _), (9, _), (10, _), (11, _), (12, _), (13, _), (15, _), (29, _), (32, _), (55, _), (63, _), (80, _), (99, _)] ⟨rfl, rfl, rfl, rfl, rfl, rfl, rfl, rfl, rfl, rfl, rfl, rfl, rfl, rfl, rfl, rfl, rfl, trivial⟩ (VO.nil ?_)
                    refine VC.cond rfl (fun hc27 => ?_) (fun hc27 => ?_)
                    · -- FFFTTTFTFT
                      exact absurd (hs.1 hc27).1 (by assumption)
                    · -- FFFTTTFTFF
                      refine VC.skip ?_
                      refine outN ?_
                      refine VC.rs ?_
                      refine VO.y rfl (.mv rfl) ?_
                      refine VO.y rfl (.mv rfl) ?_
                      refine VO.appOs (e := TCommit) 112 124 rfl rfl rfl tsl61 tz52 rfl rfl rfl h_own f24_0 Try.underlying61 (by simp only [maxLen]; (first | omega | (simp only [List.length_append, List.length_nil, List.length_cons, List.length_take, List.length_drop] at *; omega))) (by first | omega | (simp only [List.length_append, List.length_nil, List.length_cons, List.length_take, List.length_drop] at *; omega)) (by decide) (fun v28 m28 ho28 => ?_)
                      obtain ⟨A28, c28, rfl, l28, k28⟩ := ho28.slice
                      simp only [maxLen] at k28
                      have h2 : own ++ ((takeOf x8.1 own ((shipNext x8.1 d0 (pickI x15 ((d0.length + 1 : Nat) : Int))).1)).1) = own := by rw [hs.2 (by omega)]; simp
                      refine VO.y rfl (.as rfl) ?_
                      refine VO.esub [(0, _), (1, _), (2, _), (7, _), (8, _), (9, _), (10, _), (11, _), (12, _), (13, _), (15, _), (29, _), (32, _), (55, _), (63, _), (80, _), (99, _)] ⟨rfl, rfl, rfl, rfl, rfl, rfl, rfl, rfl, rfl, rfl, rfl, rfl, rfl, rfl, rfl, rfl, rfl, trivial⟩ (VO.nil ?_)
                      refine VC.rs ?_
                      refine VO.y rfl (.mv rfl) ?_
                      refine VO.y rfl (.lenS rfl tsl61) ?_
                      refine VO.y rfl (.mv rfl) ?_
                      refine VO.y rfl (.lenS rfl tsl61) ?_
                      refine VO.y rfl (.gtr rfl rfl) ?_
                      refine VO.y rfl (.mv rfl) ?_
                      refine VO.dec (t := 108) rfl (fun hc29 => ?_) (fun hc29 => ?_)
                      · -- FFFTTTFTFFT
                        rw [h2] at hc29; omega
                      · -- FFFTTTFTFFF
                        refine VO.gy rfl ⟨_, rfl, rfl⟩ (.mv rfl) ?_
                        refine VO.gy rfl ⟨_, rfl, rfl⟩ (.mv rfl) ?_
                        refine VO.gy rfl ⟨_, rfl, rfl⟩ (.mv rfl) ?_
                        refine VO.gy rfl ⟨_, rfl, rfl⟩ (.lenS rfl tsl61) ?_
                        have hs30 := h0.pre (j := ((own ++ ((takeOf x8.1 own ((shipNext x8.1 d0 (pickI x15 ((d0.length + 1 : Nat) : Int))).1)).1)).length)) (by first | omega | (simp only [List.length_append, List.length_nil, List.length_cons, List.length_take, List.length_drop] at *; omega))
                        refine VO.gy rfl ⟨_, rfl, rfl⟩ (.slHI ((own ++ ((takeOf x8.1 own ((shipNext x8.1 d0 (pickI x15 ((d0.length + 1 : Nat) : Int))).1)).1)).length) rfl rfl tsl61 rfl (by first | omega | (simp only [List.length_append, List.length_nil, List.length_cons, List.length_take, List.length_drop] at *; omega))) ?_
                        refine VO.gcallN 131 rfl ⟨_, rfl, rfl⟩ fnOk69 rfl (fun W hW => SameCommits_ok W (Ow.rd ho28 (hW.at (i := 112) rfl)) (Rd.mono hs30 (hW.at (i := 0) rfl))) (fun v31 m31 hv31 => ?_)
                        subst hv31
                        refine VO.gy rfl ⟨_, rfl, rfl⟩ (.notD rfl) ?_
                        refine VO.y rfl (.pF rfl rfl) ?_
                        refine VO.esub [(0, _), (1, _), (2, _), (7, _), (8, _), (9, _), (10, _), (11, _), (12, _), (13, _), (15, _), (29, _), (32, _), (55, _), (63, _), (80, _), (99, _), (116, _)] ⟨rfl, rfl, rfl, rfl, rfl, rfl, rfl, rfl, rfl, rfl, rfl, rfl, rfl, rfl, rfl, rfl, rfl, rfl, trivial⟩ (VO.nil ?_)
                        refine VC.cond rfl (fun hc32 => ?_) (fun hc32 => ?_)
                        · -- FFFTTTFTFFFT
                          exact absurd (by rw [h2]; exact ho) hc32
                        · -- FFFTTTFTFFFF
                          refine VC.skip ?_
                          refine outBN ?_
                          refine outN ?_
                          refine VC.reg ?_
                          refine VO.y rfl (.mv rfl) ?_
                          refine VO.y rfl (.add (c := ((i + 1 : Nat) : Int)) rfl rfl (by omega) ⟨by first | omega | (simp only [List.length_append, List.length_nil, List.length_cons, List.length_take, List.length_drop] at *; omega), by first | omega | (simp only [List.length_append, List.length_nil, List.length_cons, List.length_take, List.length_drop] at *; omega)⟩) ?_
                          refine VO.y rfl (.as rfl) ?_
                          refine VO.esub [(0, _), (1, _), (2, _), (7, _), (8, _), (9, _), (10, _), (11, _), (12, _), (13, _), (15, _), (29, _), (32, _), (55, _), (63, _), (80, _), (99, _), (116, _)] ⟨rfl, rfl, rfl, rfl, rfl, rfl, rfl, rfl, rfl, rfl, rfl, rfl, rfl, rfl, rfl, rfl, rfl, rfl, trivial⟩ (VO.nil ?_)
                          exact outN ⟨⟨i + 1, own ++ ((takeOf x8.1 own ((shipNext x8.1 d0 (pickI x15 ((d0.length + 1 : Nat) : Int))).1)).1), A28, c28, m28⟩, ⟨by omega, by dsimp only; rw [h2]; exact ho, by dsimp only; rw [h2]; exact hl, by dsimp only; rw [h2]; omega, ho28⟩, by first | omega | (simp only [List.length_append, List.length_nil, List.length_cons, List.length_take, List.length_drop] at *; omega), ⟨⟨rfl, rfl, rfl, rfl, rfl, rfl, rfl, rfl, rfl, trivial⟩, fun _ h => Inv.sub h [112, 0]⟩⟩
                · -- FFFTTTFF
                  refine VO.gn rfl (.inl ⟨_, rfl, rfl⟩) ?_
                  refine VO.gn rfl (.inl ⟨_, rfl, rfl⟩) ?_
                  refine VO.gn rfl (.inl ⟨_, rfl, rfl⟩) ?_
                  refine VO.gn rfl (.inr ⟨_, rfl, rfl⟩) ?_
                  refine VO.gn rfl (.inr ⟨_, rfl, rfl⟩) ?_
                  refine VO.gn rfl (.inr ⟨_, rfl, rfl⟩) ?_
                  refine VO.gn rfl (.inr ⟨_, rfl, rfl⟩) ?_
                  refine VO.gn rfl (.inl ⟨_, rfl, rfl⟩) ?_
                  refine VO.y rfl (.pF rfl rfl) ?_
                  refine VO.esub [(0, _), (1, _), (2, _), (7, _), (8, _), (9, _), (10, _), (11, _), (12, _), (13, _), (15, _), (29, _), (32, _), (55, _), (63, _), (80, _), (99, _)] ⟨rfl, rfl, rfl, rfl, rfl, rfl, rfl, rfl, rfl, rfl, rfl, rfl, rfl, rfl, rfl, rfl, rfl, trivial⟩ (VO.nil ?_)
                  refine VC.condF rfl ?_
                  refine VC.skip ?_
                  refine outN ?_
                  refine VC.rs ?_
                  refine VO.y rfl (.mv rfl) ?_
                  refine VO.y rfl (.mv rfl) ?_
                  refine VO.appOs (e := TCommit) 112 124 rfl rfl rfl tsl61 tz52 rfl rfl rfl h_own f24_0 Try.underlying61 (by simp only [maxLen]; (first | omega | (simp only [List.length_append, List.length_nil, List.length_cons, List.length_take, List.length_drop] at *; omega))) (by first | omega | (simp only [List.length_append, List.length_nil, List.length_cons, List.length_take, List.length_drop] at *; omega)) (by decide) (fun v33 m33 ho33 => ?_)
                  obtain ⟨A33, c33, rfl, l33, k33⟩ := ho33.slice
                  simp only [maxLen] at k33
                  have hle := (show _ ≤ _ from by rcases hem with hq | hq <;> first | exact hq | (exfalso; have := ‹¬ ¬ (takeOf _ _ _).2 = 0›; rw [hs.2 hq] at this; simp at this; done))
                  have h2 := (hs.1 hle).2
                  refine VO.y rfl (.as rfl) ?_
                  refine VO.esub [(0, _), (1, _), (2, _), (7, _), (8, _), (9, _), (10, _), (11, _), (12, _), (13, _), (15, _), (29, _), (32, _), (55, _), (63, _), (80, _), (99, _)] ⟨rfl, rfl, rfl, rfl, rfl, rfl, rfl, rfl, rfl, rfl, rfl, rfl, rfl, rfl, rfl, rfl, rfl, trivial⟩ (VO.nil ?_)
                  refine VC.rs ?_
                  refine VO.y rfl (.mv rfl) ?_
                  refine VO.y rfl (.lenS rfl tsl61) ?_
                  refine VO.y rfl (.mv rfl) ?_
                  refine VO.y rfl (.lenS rfl tsl61) ?_
                  refine VO.y rfl (.gtr rfl rfl) ?_
                  refine VO.y rfl (.mv rfl) ?_
                  refine VO.dec (t := 108) rfl (fun hc34 => ?_) (fun hc34 => ?_)
                  · -- FFFTTTFFT
                    rw [h2, List.length_take] at hc34; omega
                  · -- FFFTTTFFF
                    refine VO.gy rfl ⟨_, rfl, rfl⟩ (.mv rfl) ?_
                    refine VO.gy rfl ⟨_, rfl, rfl⟩ (.mv rfl) ?_
                    refine VO.gy rfl ⟨_, rfl, rfl⟩ (.mv rfl) ?_
                    refine VO.gy rfl ⟨_, rfl, rfl⟩ (.lenS rfl tsl61) ?_
                    have hs35 := h0.pre (j := ((own ++ ((takeOf x8.1 own ((shipNext x8.1 d0 (pickI x15 ((d0.length + 1 : Nat) : Int))).1)).1)).length)) (by first | omega | (simp only [List.length_append, List.length_nil, List.length_cons, List.length_take, List.length_drop] at *; omega))
                    refine VO.gy rfl ⟨_, rfl, rfl⟩ (.slHI ((own ++ ((takeOf x8.1 own ((shipNext x8.1 d0 (pickI x15 ((d0.length + 1 : Nat) : Int))).1)).1)).length) rfl rfl tsl61 rfl (by first | omega | (simp only [List.length_append, List.length_nil, List.length_cons, List.length_take, List.length_drop] at *; omega))) ?_
                    refine VO.gcallN 136 rfl ⟨_, rfl, rfl⟩ fnOk69 rfl (fun W hW => SameCommits_ok W (Ow.rd ho33 (hW.at (i := 112) rfl)) (Rd.mono hs35 (hW.at (i := 0) rfl))) (fun v36 m36 hv36 => ?_)
                    subst hv36
                    refine VO.gy rfl ⟨_, rfl, rfl⟩ (.notD rfl) ?_
                    refine VO.y rfl (.pF rfl rfl) ?_
                    refine VO.esub [(0, _), (1, _), (2, _), (7, _), (8, _), (9, _), (10, _), (11, _), (12, _), (13, _), (15, _), (29, _), (32, _), (55, _), (63, _), (80, _), (99, _), (116, _)] ⟨rfl, rfl, rfl, rfl, rfl, rfl, rfl, rfl, rfl, rfl, rfl, rfl, rfl, rfl, rfl, rfl, rfl, rfl, trivial⟩ (VO.nil ?_)
                    refine VC.cond rfl (fun hc37 => ?_) (fun hc37 => ?_)
                    · -- FFFTTTFFFT
                      exact absurd (by rw [h2, List.length_take]; congr 1; omega) hc37
                    · -- FFFTTTFFFF
                      refine VC.skip ?_
                      refine outBN ?_
                      refine outN ?_
                      refine VC.reg ?_
                      refine VO.y rfl (.mv rfl) ?_
                      refine VO.y rfl (.add (c := ((i + 1 : Nat) : Int)) rfl rfl (by omega) ⟨by first | omega | (simp only [List.length_append, List.length_nil, List.length_cons, List.length_take, List.length_drop] at *; omega), by first | omega | (simp only [List.length_append, List.length_nil, List.length_cons, List.length_take, List.length_drop] at *; omega)⟩) ?_
                      refine VO.y rfl (.as rfl) ?_
                      refine VO.esub [(0, _), (1, _), (2, _), (7, _), (8, _), (9, _), (10, _), (11, _), (12, _), (13, _), (15, _), (29, _), (32, _), (55, _), (63, _), (80, _), (99, _), (116, _)] ⟨rfl, rfl, rfl, rfl, rfl, rfl, rfl, rfl, rfl, rfl, rfl, rfl, rfl, rfl, rfl, rfl, rfl, rfl, trivial⟩ (VO.nil ?_)
                      exact outN ⟨⟨i + 1, own ++ ((takeOf x8.1 own ((shipNext x8.1 d0 (pickI x15 ((d0.length + 1 : Nat) : Int))).1)).1), A33, c33, m33⟩, ⟨by omega, by dsimp only; rw [h2, List.length_take]; congr 1; omega, by dsimp only; rw [h2, List.length_take]; omega, by dsimp only; rw [h2, List.length_take]; omega, ho33⟩, by first | omega | (simp only [List.length_append, List.length_nil, List.length_cons, List.length_take, List.length_drop] at *; omega), ⟨⟨rfl, rfl, rfl, rfl, rfl, rfl, rfl, rfl, rfl, trivial⟩, fun _ h => Inv.sub h [112, 0]⟩⟩
            · -- FFFTTF
              refine VC.skip ?_
              refine outN ?_
              refine VC.rs ?_
              refine VO.y rfl (.mv rfl) ?_
              refine VO.y rfl (.mv rfl) ?_
              refine VO.y rfl (.mv rfl) ?_
              refine VO.callN 138 rfl fnOk65 rfl (fun W hW => next_ok W x8.1 (by simp only [inK]; (first | omega | (simp only [List.length_append, List.length_nil, List.length_cons, List.length_take, List.length_drop] at *; omega))) (Rd.mono h0 (hW.at (i := 0) rfl)) ((own.length : Nat) : Int) (by simp only [inK]; (first | omega | (simp only [List.length_append, List.length_nil, List.length_cons, List.length_take, List.length_drop] at *; omega)))) (fun v38 m38 hv38 => ?_)
              obtain ⟨s38_0, rfl, f38_0⟩ := hv38
              obtain ⟨q38_0_A4, q38_0_c4, q38_0_A7, q38_0_c7, q38_0_n4, q38_0_n7, rfl, q38_0_S, q38_0_0, q38_0_1, q38_0_2, q38_0_3, q38_0_4, q38_0_5, q38_0_6, q38_0_7⟩ := openO_Message (x0 := ((shipNext x8.1 d0 ((own.length : Nat) : Int)).1).1) (x1 := ((shipNext x8.1 d0 ((own.length : Nat) : Int)).1).2.1) (x2 := ((shipNext x8.1 d0 ((own.length : Nat) : Int)).1).2.2.1) (x3 := ((shipNext x8.1 d0 ((own.length : Nat) : Int)).1).2.2.2.1) (x4 := ((shipNext x8.1 d0 ((own.length : Nat) : Int)).1).2.2.2.2.1) (x5 := ((shipNext x8.1 d0 ((own.length : Nat) : Int)).1).2.2.2.2.2.1) (x6 := ((shipNext x8.1 d0 ((own.length : Nat) : Int)).1).2.2.2.2.2.2.1) (x7 := ((shipNext x8.1 d0 ((own.length : Nat) : Int)).1).2.2.2.2.2.2.2) f38_0
              simp only [inK] at q38_0_0
              simp only [inK] at q38_0_1
              simp only [inK] at q38_0_2
              simp only [inK] at q38_0_3
              have q38_0_r4 := Rd.room (q38_0_4.rd (mle_refl _))
              simp only [inK] at q38_0_5
              simp only [inK] at q38_0_6
              have q38_0_r7 := Rd.room (q38_0_7.rd (mle_refl _))
              refine VO.inv _ (fun _ h => h.parts (i := 138) rfl q38_0_S [139, 140]) ?_
              have hem : (((own.length : Nat) : Int)) ≤ own.length ∨ own.length < (((own.length : Nat) : Int)) := by omega
              have hs := hst (((own.length : Nat) : Int)) (by omega) (by omega)
              have hx := hnx (((own.length : Nat) : Int)) (by omega) (by omega)
              refine VO.y rfl (.mv rfl) ?_
              refine VO.y rfl (.ext rfl rfl) ?_
              refine VO.y rfl (.ext rfl rfl) ?_
              refine VO.alloc 142 rfl tz72 (fun g41 => ?_)
              refine VO.store (k := 8) (c' := [Value.int .i64 (((shipNext x8.1 d0 ((own.length : Nat) : Int)).1).1), Value.int .i64 (((shipNext x8.1 d0 ((own.length : Nat) : Int)).1).2.1), Value.int .u8 (((shipNext x8.1 d0 ((own.length : Nat) : Int)).1).2.2.1), Value.int .i64 (((shipNext x8.1 d0 ((own.length : Nat) : Int)).1).2.2.2.1), Value.slice q38_0_A4 ((((shipNext x8.1 d0 ((own.length : Nat) : Int)).1).2.2.2.2.1).length) (q38_0_c4), Value.int .i64 (((shipNext x8.1 d0 ((own.length : Nat) : Int)).1).2.2.2.2.2.1), Value.int .i64 (((shipNext x8.1 d0 ((own.length : Nat) : Int)).1).2.2.2.2.2.2.1), Value.slice q38_0_A7 ((((shipNext x8.1 d0 ((own.length : Nat) : Int)).1).2.2.2.2.2.2.2).length) (q38_0_c7)]) 142 rfl rfl (.inl tk72) rfl rfl rfl rfl rfl ?_
              refine VO.y rfl (.as rfl) ?_
              refine VO.inv [(142, _), (139, _), (140, _), (112, _), (0, _)] (fun _ h => h.sub [142, 139, 140, 112, 0]) ?_
              refine VO.esub [(0, _), (1, _), (2, _), (7, _), (8, _), (9, _), (10, _), (11, _), (12, _), (15, _), (29, _), (32, _), (55, _), (63, _)] ⟨rfl, rfl, rfl, rfl, rfl, rfl, rfl, rfl, rfl, rfl, rfl, rfl, rfl, rfl, trivial⟩ (VO.nil ?_)
              refine VC.seq ?_
              refine VC.rs ?_
              refine VO.y rfl (.mv rfl) ?_
              refine VO.y rfl (.neq rfl rfl) ?_
              refine VO.esub [(0, _), (1, _), (2, _), (7, _), (8, _), (9, _), (10, _), (11, _), (12, _), (15, _), (29, _), (32, _), (55, _), (63, _), (80, _)] ⟨rfl, rfl, rfl, rfl, rfl, rfl, rfl, rfl, rfl, rfl, rfl, rfl, rfl, rfl, rfl, trivial⟩ (VO.nil ?_)
              refine VC.cond rfl (fun hc43 => ?_) (fun hc43 => ?_)
              · -- FFFTTFT
                exact absurd (by rw [hx]) hc43
              · -- FFFTTFF
                refine VC.skip ?_
                refine outN ?_
                refine VC.rs ?_
                refine VO.y rfl (.mv rfl) ?_
                refine VO.y rfl (.mv rfl) ?_
                refine VO.y rfl (.ldA 142 rfl tk72 rfl (cellsAt_one rfl rfl)) ?_
                refine VO.callN 144 rfl fnOk78 rfl (fun W hW => take_ok W x8.1 (by simp only [inK]; (first | omega | (simp only [List.length_append, List.length_nil, List.length_cons, List.length_take, List.length_drop] at *; omega))) (Ow.rd h_own (hW.at (i := 112) rfl)) (show Rd TMessage _ _ ((shipNext x8.1 d0 ((own.length : Nat) : Int)).1) from (mk_Message (m := wm W) (((shipNext x8.1 d0 ((own.length : Nat) : Int)).1).1) (((shipNext x8.1 d0 ((own.length : Nat) : Int)).1).2.1) (((shipNext x8.1 d0 ((own.length : Nat) : Int)).1).2.2.1) (((shipNext x8.1 d0 ((own.length : Nat) : Int)).1).2.2.2.1) (((shipNext x8.1 d0 ((own.length : Nat) : Int)).1).2.2.2.2.1) (((shipNext x8.1 d0 ((own.length : Nat) : Int)).1).2.2.2.2.2.1) (((shipNext x8.1 d0 ((own.length : Nat) : Int)).1).2.2.2.2.2.2.1) (((shipNext x8.1 d0 ((own.length : Nat) : Int)).1).2.2.2.2.2.2.2) (by simp only [inK]; (first | omega | (simp only [List.length_append, List.length_nil, List.length_cons, List.length_take, List.length_drop] at *; omega))) (by simp only [inK]; (first | omega | (simp only [List.length_append, List.length_nil, List.length_cons, List.length_take, List.length_drop] at *; omega))) (by simp only [inK]; (first | omega | (simp only [List.length_append, List.length_nil, List.length_cons, List.length_take, List.length_drop] at *; omega))) (by simp only [inK]; (first | omega | (simp only [List.length_append, List.length_nil, List.length_cons, List.length_take, List.length_drop] at *; omega))) (OwnL.rd (Ow.ownl q38_0_4 rfl mnil) (hW.at (i := 139) rfl) (mle_nil _)) (by simp only [inK]; (first | omega | (simp only [List.length_append, List.length_nil, List.length_cons, List.length_take, List.length_drop] at *; omega))) (by simp only [inK]; (first | omega | (simp only [List.length_append, List.length_nil, List.length_cons, List.length_take, List.length_drop] at *; omega))) (Ow.rd q38_0_7 (hW.at (i := 140) rfl))))) (fun v44 m44 hv44 => ?_)
                obtain ⟨s44_0, rfl, f44_0⟩ := hv44
                obtain ⟨A44_0, c44_0, eq44_0, l44_0, k44_0⟩ := f44_0.slice
                subst eq44_0
                simp only [maxLen] at k44_0
                have h4 : ((takeOf x8.1 own ((shipNext x8.1 d0 ((own.length : Nat) : Int)).1)).1).length ≤ 4 := take_le4 _ _ _
                refine VO.y rfl (.mv rfl) ?_
                refine VO.y rfl (.ext rfl rfl) ?_
                refine VO.y rfl (.ext rfl rfl) ?_
                refine VO.y rfl (.as rfl) ?_
                refine VO.y rfl (.as rfl) ?_
                refine VO.esub [(0, _), (1, _), (2, _), (7, _), (8, _), (9, _), (10, _), (11, _), (12, _), (13, _), (15, _), (29, _), (32, _), (55, _), (63, _), (80, _)] ⟨rfl, rfl, rfl, rfl, rfl, rfl, rfl, rfl, rfl, rfl, rfl, rfl, rfl, rfl, rfl, rfl, trivial⟩ (VO.nil ?_)
                refine VC.seq ?_
                refine VC.rs ?_
                refine VO.y rfl (.mv rfl) ?_
                refine VO.y rfl (.neq rfl rfl) ?_
                refine VO.y rfl (.mv rfl) ?_
                refine VO.dec (t := 90) rfl (fun hc45 => ?_) (fun hc45 => ?_)
                · -- FFFTTFFT
                  refine VO.gy rfl ⟨_, rfl, rfl⟩ (.mv rfl) ?_
                  refine VO.gy rfl ⟨_, rfl, rfl⟩ (.neq rfl rfl) ?_
                  refine VO.gy rfl ⟨_, rfl, rfl⟩ (.mv rfl) ?_
                  refine VO.dec (t := 93) rfl (fun hc46 => ?_) (fun hc46 => ?_)
                  · -- FFFTTFFTT
                    rcases hem with hq | hq <;> first | exact absurd (hs.1 hq).1 (by assumption) | exact absurd (by rw [hs.2 hq]) hc46
                  · -- FFFTTFFTF
                    refine VO.gy rfl ⟨_, rfl, rfl⟩ (.mv rfl) ?_
                    refine VO.gy rfl ⟨_, rfl, rfl⟩ (.mv rfl) ?_
                    refine VO.gy rfl ⟨_, rfl, rfl⟩ (.lenS rfl tsl61) ?_
                    refine VO.gy rfl ⟨_, rfl, rfl⟩ (.leq rfl rfl) ?_
                    refine VO.gy rfl ⟨_, rfl, rfl⟩ (.pF rfl rfl) ?_
                    refine VO.y rfl (.pT rfl rfl) ?_
                    refine VO.esub [(0, _), (1, _), (2, _), (7, _), (8, _), (9, _), (10, _), (11, _), (12, _), (13, _), (15, _), (29, _), (32, _), (55, _), (63, _), (80, _), (99, _)] ⟨rfl, rfl, rfl, rfl, rfl, rfl, rfl, rfl, rfl, rfl, rfl, rfl, rfl, rfl, rfl, rfl, rfl, trivial⟩ (VO.nil ?_)
                    refine VC.cond rfl (fun hc47 => ?_) (fun hc47 => ?_)
                    · -- FFFTTFFTFT
                      exact absurd (hs.1 hc47).1 (by assumption)
                    · -- FFFTTFFTFF
                      omega
                · -- FFFTTFFF
                  refine VO.gn rfl (.inl ⟨_, rfl, rfl⟩) ?_
                  refine VO.gn rfl (.inl ⟨_, rfl, rfl⟩) ?_
                  refine VO.gn rfl (.inl ⟨_, rfl, rfl⟩) ?_
                  refine VO.gn rfl (.inr ⟨_, rfl, rfl⟩) ?_
                  refine VO.gn rfl (.inr ⟨_, rfl, rfl⟩) ?_
                  refine VO.gn rfl (.inr ⟨_, rfl, rfl⟩) ?_
                  refine VO.gn rfl (.inr ⟨_, rfl, rfl⟩) ?_
                  refine VO.gn rfl (.inl ⟨_, rfl, rfl⟩) ?_
                  refine VO.y rfl (.pF rfl rfl) ?_
                  refine VO.esub [(0, _), (1, _), (2, _), (7, _), (8, _), (9, _), (10, _), (11, _), (12, _), (13, _), (15, _), (29, _), (32, _), (55, _), (63, _), (80, _), (99, _)] ⟨rfl, rfl, rfl, rfl, rfl, rfl, rfl, rfl, rfl, rfl, rfl, rfl, rfl, rfl, rfl, rfl, rfl, trivial⟩ (VO.nil ?_)
                  refine VC.condF rfl ?_
                  refine VC.skip ?_
                  refine outN ?_
                  refine VC.rs ?_
                  refine VO.y rfl (.mv rfl) ?_
                  refine VO.y rfl (.mv rfl) ?_
                  refine VO.appOs (e := TCommit) 112 144 rfl rfl rfl tsl61 tz52 rfl rfl rfl h_own f44_0 Try.underlying61 (by simp only [maxLen]; (first | omega | (simp only [List.length_append, List.length_nil, List.length_cons, List.length_take, List.length_drop] at *; omega))) (by first | omega | (simp only [List.length_append, List.length_nil, List.length_cons, List.length_take, List.length_drop] at *; omega)) (by decide) (fun v48 m48 ho48 => ?_)
                  obtain ⟨A48, c48, rfl, l48, k48⟩ := ho48.slice
                  simp only [maxLen] at k48
                  have hle := (show _ ≤ _ from by rcases hem with hq | hq <;> first | exact hq | (exfalso; have := ‹¬ ¬ (takeOf _ _ _).2 = 0›; rw [hs.2 hq] at this; simp at this; done))
                  have h2 := (hs.1 hle).2
                  refine VO.y rfl (.as rfl) ?_
                  refine VO.esub [(0, _), (1, _), (2, _), (7, _), (8, _), (9, _), (10, _), (11, _), (12, _), (13, _), (15, _), (29, _), (32, _), (55, _), (63, _), (80, _), (99, _)] ⟨rfl, rfl, rfl, rfl, rfl, rfl, rfl, rfl, rfl, rfl, rfl, rfl, rfl, rfl, rfl, rfl, rfl, trivial⟩ (VO.nil ?_)
                  refine VC.rs ?_
                  refine VO.y rfl (.mv rfl) ?_
                  refine VO.y rfl (.lenS rfl tsl61) ?_
                  refine VO.y rfl (.mv rfl) ?_
                  refine VO.y rfl (.lenS rfl tsl61) ?_
                  refine VO.y rfl (.gtr rfl rfl) ?_
                  refine VO.y rfl (.mv rfl) ?_
                  refine VO.dec (t := 108) rfl (fun hc49 => ?_) (fun hc49 => ?_)
                  · -- FFFTTFFFT
                    rw [h2, List.length_take] at hc49; omega
                  · -- FFFTTFFFF
                    refine VO.gy rfl ⟨_, rfl, rfl⟩ (.mv rfl) ?_
                    refine VO.gy rfl ⟨_, rfl, rfl⟩ (.mv rfl) ?_
                    refine VO.gy rfl ⟨_, rfl, rfl⟩ (.mv rfl) ?_
                    refine VO.gy rfl ⟨_, rfl, rfl⟩ (.lenS rfl tsl61) ?_
                    have hs50 := h0.pre (j := ((own ++ ((takeOf x8.1 own ((shipNext x8.1 d0 ((own.length : Nat) : Int)).1)).1)).length)) (by first | omega | (simp only [List.length_append, List.length_nil, List.length_cons, List.length_take, List.length_drop] at *; omega))
                    refine VO.gy rfl ⟨_, rfl, rfl⟩ (.slHI ((own ++ ((takeOf x8.1 own ((shipNext x8.1 d0 ((own.length : Nat) : Int)).1)).1)).length) rfl rfl tsl61 rfl (by first | omega | (simp only [List.length_append, List.length_nil, List.length_cons, List.length_take, List.length_drop] at *; omega))) ?_
                    refine VO.gcallN 151 rfl ⟨_, rfl, rfl⟩ fnOk69 rfl (fun W hW => SameCommits_ok W (Ow.rd ho48 (hW.at (i := 112) rfl)) (Rd.mono hs50 (hW.at (i := 0) rfl))) (fun v51 m51 hv51 => ?_)
                    subst hv51
                    refine VO.gy rfl ⟨_, rfl, rfl⟩ (.notD rfl) ?_
                    refine VO.y rfl (.pF rfl rfl) ?_
                    refine VO.esub [(0, _), (1, _), (2, _), (7, _), (8, _), (9, _), (10, _), (11, _), (12, _), (13, _), (15, _), (29, _), (32, _), (55, _), (63, _), (80, _), (99, _), (116, _)] ⟨rfl, rfl, rfl, rfl, rfl, rfl, rfl, rfl, rfl, rfl, rfl, rfl, rfl, rfl, rfl, rfl, rfl, rfl, trivial⟩ (VO.nil ?_)
                    refine VC.cond rfl (fun hc52 => ?_) (fun hc52 => ?_)
                    · -- FFFTTFFFFT
                      exact absurd (by rw [h2, List.length_take]; congr 1; omega) hc52
                    · -- FFFTTFFFFF
                      refine VC.skip ?_
                      refine outBN ?_
                      refine outN ?_
                      refine VC.reg ?_
                      refine VO.y rfl (.mv rfl) ?_
                      refine VO.y rfl (.add (c := ((i + 1 : Nat) : Int)) rfl rfl (by omega) ⟨by first | omega | (simp only [List.length_append, List.length_nil, List.length_cons, List.length_take, List.length_drop] at *; omega), by first | omega | (simp only [List.length_append, List.length_nil, List.length_cons, List.length_take, List.length_drop] at *; omega)⟩) ?_
                      refine VO.y rfl (.as rfl) ?_
                      refine VO.esub [(0, _), (1, _), (2, _), (7, _), (8, _), (9, _), (10, _), (11, _), (12, _), (13, _), (15, _), (29, _), (32, _), (55, _), (63, _), (80, _), (99, _), (116, _)] ⟨rfl, rfl, rfl, rfl, rfl, rfl, rfl, rfl, rfl, rfl, rfl, rfl, rfl, rfl, rfl, rfl, rfl, rfl, trivial⟩ (VO.nil ?_)
                      exact outN ⟨⟨i + 1, own ++ ((takeOf x8.1 own ((shipNext x8.1 d0 ((own.length : Nat) : Int)).1)).1), A48, c48, m48⟩, ⟨by omega, by dsimp only; rw [h2, List.length_take]; congr 1; omega, by dsimp only; rw [h2, List.length_take]; omega, by dsimp only; rw [h2, List.length_take]; omega, ho48⟩, by first | omega | (simp only [List.length_append, List.length_nil, List.length_cons, List.length_take, List.length_drop] at *; omega), ⟨⟨rfl, rfl, rfl, rfl, rfl, rfl, rfl, rfl, rfl, trivial⟩, fun _ h => Inv.sub h [112, 0]⟩⟩
          · -- FFFTF
            refine VC.exit ?_
            refine outE ?_
            refine outE ?_
            refine outBB ?_
            refine outN ?_
            refine VC.rs ?_
            refine VO.y rfl (.mv rfl) ?_
            refine VO.y rfl (.lenS rfl tsl61) ?_
            refine VO.y rfl (.mv rfl) ?_
            refine VO.y rfl (.lenS rfl tsl61) ?_
            refine VO.y rfl (.eql rfl rfl) ?_
            refine VO.y rfl (.as rfl) ?_
            refine VO.esub [(0, _), (1, _), (2, _), (6, _), (7, _), (8, _), (9, _), (15, _), (29, _), (32, _), (55, _)] ⟨rfl, rfl, rfl, rfl, rfl, rfl, rfl, rfl, rfl, rfl, rfl, trivial⟩ (VO.nil ?_)
            refine VC.ret ?_
            refine ⟨_, _, res_run (rs := [.tmp 6]) rfl (.tmp rfl .nil), fun W_ hI => out_of (l := []) hI [] rfl rfl (mle_refl _) (fun hS_ => ?_)⟩
            dsimp only [packV]
            all_goals (first | rfl | (exact congrArg Value.bool (decide_eq_true (by omega))))
        · -- FFFF
          refine VC.skip ?_
          refine outN ?_
          refine VC.rs ?_
          refine VO.y rfl (.mv rfl) ?_
          refine VO.y rfl (.mv rfl) ?_
          refine VO.y rfl (.mv rfl) ?_
          refine VO.y rfl (.lenS rfl tsl61) ?_
          refine VO.y rfl (.add (c := ((d0.length + 1 : Nat) : Int)) rfl rfl (by omega) ⟨by first | omega | (simp only [List.length_append, List.length_nil, List.length_cons, List.length_take, List.length_drop] at *; omega), by first | omega | (simp only [List.length_append, List.length_nil, List.length_cons, List.length_take, List.length_drop] at *; omega)⟩) ?_
          refine VO.callN 153 rfl fnOk43 rfl (fun W hW => pick_ok W d1 (by simp only [inK]; (first | omega | (simp only [List.length_append, List.length_nil, List.length_cons, List.length_take, List.length_drop] at *; omega))) ((d0.length + 1 : Nat) : Int) (by simp only [inK]; (first | omega | (simp only [List.length_append, List.length_nil, List.length_cons, List.length_take, List.length_drop] at *; omega))) (by first | omega | (simp only [List.length_append, List.length_nil, List.length_cons, List.length_take, List.length_drop] at *; omega))) (fun v53 m53 hv53 => ?_)
          subst hv53
          have hfa54 := pickI_bounds d1 ((d0.length + 1 : Nat) : Int) (by omega)
          have hs55 := h0.pre (j := ((pickI d1 ((d0.length + 1 : Nat) : Int)).toNat)) (by first | omega | (simp only [List.length_append, List.length_nil, List.length_cons, List.length_take, List.length_drop] at *; omega))
          refine VO.y rfl (.slHI ((pickI d1 ((d0.length + 1 : Nat) : Int)).toNat) rfl rfl tsl61 (by first | omega | (simp only [List.length_append, List.length_nil, List.length_cons, List.length_take, List.length_drop] at *; omega)) (by first | omega | (simp only [List.length_append, List.length_nil, List.length_cons, List.length_take, List.length_drop] at *; omega))) ?_
          refine VO.callN 156 rfl fnOk56 rfl (fun W hW => CopyCommits_ok W (Rd.mono hs55 (hW.at (i := 0) rfl)) (by first | omega | (simp only [List.length_append, List.length_nil, List.length_cons, List.length_take, List.length_drop] at *; omega)) (by exact fun c hc => by have := (Decidable.not_not.1 ‹¬ ¬ ((∀ c ∈ d0, c.2.2.length ≤ 40) ∧ _)›).1 c (List.mem_of_mem_take hc); omega)) (fun v56 m56 hv56 => ?_)
          obtain ⟨s56_0, rfl, f56_0⟩ := hv56
          obtain ⟨A56_0, c56_0, eq56_0, l56_0, k56_0⟩ := f56_0.slice
          subst eq56_0
          simp only [maxLen] at k56_0
          refine VO.y rfl (.as rfl) ?_
          refine VO.esub [(0, _), (1, _), (2, _), (6, _), (7, _), (8, _), (15, _), (29, _), (32, _)] ⟨rfl, rfl, rfl, rfl, rfl, rfl, rfl, rfl, rfl, trivial⟩ (VO.nil ?_)
          refine VC.seq ?_
          refine VC.rs ?_
          refine VO.y rfl (.as rfl) ?_
          refine VO.esub [(0, _), (1, _), (2, _), (6, _), (7, _), (8, _), (9, _), (15, _), (29, _), (32, _)] ⟨rfl, rfl, rfl, rfl, rfl, rfl, rfl, rfl, rfl, rfl, trivial⟩ (VO.nil ?_)
          refine VC.block ?_
          refine VC.loop (G := Nat × (List DCommit) × (Option Addr) × Nat × Mem) (fun g => [(8, Value.slice (g.2.2.1) ((g.2.1).length) ((g.2.2.2.1))), (9, Value.int .i64 ((((g.1) : Nat) : Int))), (0, Value.slice A0 (d0.length) (c0)), (1, Value.int .i64 (d1)), (2, Value.slice A2 (d2.length) (c2)), (7, Value.int .i64 (1)), (15, Value.bool false), (29, Value.bool (decide (60 < ((d2.length : Nat) : Int)))), (32, Value.bool (decide (0 < ((d0.length : Nat) : Int))))]) (fun g => [(156, (g.2.2.2.2)), (0, wm W)]) (fun g => ((g.1) ≤ d2.length + d0.length + 1) ∧ ((g.2.1) = d0.take (g.2.1).length) ∧ ((g.2.1).length ≤ d0.length) ∧ (((g.1) : Int) - d2.length ≤ (g.2.1).length ∨ (g.2.1).length = d0.length) ∧ (Ow (.sl TCommit) (g.2.2.2.2) [.slice (g.2.2.1) (g.2.1).length (g.2.2.2.1)] (g.2.1))) (fun g => d2.length + d0.length + 1 - (g.1)) (0, ((d0).take ((pickI d1 ((d0.length + 1 : Nat) : Int)).toNat)), A56_0, c56_0, m56) (⟨by omega, by simp, by (simp; omega), by omega, f56_0⟩) ⟨⟨rfl, rfl, rfl, rfl, rfl, rfl, rfl, rfl, rfl, trivial⟩, fun _ h => h.sub [156, 0]⟩ ?_
          rintro ⟨i, own, own_A, own_c, own_m⟩ ⟨hi, ho, hl, hp, h_own⟩
          replace hi : i ≤ d2.length + d0.length + 1 := hi
          replace ho : own = d0.take own.length := ho
          replace hl : own.length ≤ d0.length := hl
          replace hp : (i : Int) - d2.length ≤ own.length ∨ own.length = d0.length := hp
          replace h_own : Ow (.sl TCommit) own_m [.slice own_A own.length own_c] own := h_own
          show VC _ _ _ _ _ [(8, Value.slice own_A (own.length) (own_c)), (9, Value.int .i64 (((i : Nat) : Int))), (0, Value.slice A0 (d0.length) (c0)), (1, Value.int .i64 (d1)), (2, Value.slice A2 (d2.length) (c2)), (7, Value.int .i64 (1)), (15, Value.bool false), (29, Value.bool (decide (60 < ((d2.length : Nat) : Int)))), (32, Value.bool (decide (0 < ((d0.length : Nat) : Int))))] [(156, own_m), (0, wm W)]
          have l_own : own.length ≤ own_c := by obtain ⟨_, _, he, hl, _⟩ := h_own.slice; simp only [Value.slice.injEq] at he; omega
          have k_own : own_c ≤ 9223372036854775807 := by obtain ⟨_, _, he, _, hl⟩ := h_own.slice; simp only [Value.slice.injEq, maxLen] at he hl; omega
          first | have hE := lastE_of ‹d0[_]? = some _› (by omega) | have hE := lastE_nil (l := d0) (by omega)
          have hv : (cFollows 0 0 d0).1 = 0 := by omega
          have hst := fun (at_ : Int) (h0 : 0 ≤ at_) (h1 : at_ ≤ d0.length) => ta_step (at_ := at_) hv ho hl (by omega) h0 h1
          have hnx := fun (at_ : Int) (h0 : 0 ≤ at_) (h1 : at_ ≤ d0.length) => next_last (k := at_) hv h0 h1 (by omega)
          simp only [hE] at hst hnx
          refine VC.seq ?_
          refine VC.rs ?_
          refine VO.y rfl (.mv rfl) ?_
          refine VO.y rfl (.mv rfl) ?_
          refine VO.y rfl (.lenS rfl tsl96) ?_
          refine VO.y rfl (.mv rfl) ?_
          refine VO.y rfl (.lenS rfl tsl61) ?_
          refine VO.y rfl (.add (c := ((d2.length + d0.length : Nat) : Int)) rfl rfl (by omega) ⟨by first | omega | (simp only [List.length_append, List.length_nil, List.length_cons, List.length_take, List.length_drop] at *; omega), by first | omega | (simp only [List.length_append, List.length_nil, List.length_cons, List.length_take, List.length_drop] at *; omega)⟩) ?_
          refine VO.y rfl (.add (c := ((d2.length + d0.length + 1 : Nat) : Int)) rfl rfl (by omega) ⟨by first | omega | (simp only [List.length_append, List.length_nil, List.length_cons, List.length_take, List.length_drop] at *; omega), by first | omega | (simp only [List.length_append, List.length_nil, List.length_cons, List.length_take, List.length_drop] at *; omega)⟩) ?_
          refine VO.y rfl (.lss rfl rfl) ?_
          refine VO.esub [(0, _), (1, _), (2, _), (7, _), (8, _), (9, _), (15, _), (29, _), (32, _), (55, _)] ⟨rfl, rfl, rfl, rfl, rfl, rfl, rfl, rfl, rfl, rfl, trivial⟩ (VO.nil ?_)
          refine VC.cond rfl (fun hc57 => ?_) (fun hc57 => ?_)
          · -- FFFFT
            refine VC.skip ?_
            refine outN ?_
            refine VC.seq ?_
            refine VC.block ?_
            refine VC.rs ?_
            refine VO.y rfl (.mv rfl) ?_
            refine VO.y rfl (.lenS rfl tsl61) ?_
            refine VO.y rfl (.as rfl) ?_
            refine VO.esub [(0, _), (1, _), (2, _), (7, _), (8, _), (9, _), (10, _), (15, _), (29, _), (32, _), (55, _)] ⟨rfl, rfl, rfl, rfl, rfl, rfl, rfl, rfl, rfl, rfl, rfl, trivial⟩ (VO.nil ?_)
            refine VC.seq ?_
            refine VC.rs ?_
            refine VO.y rfl (.mv rfl) ?_
            refine VO.y rfl (.mv rfl) ?_
            refine VO.y rfl (.lenS rfl tsl96) ?_
            refine VO.y rfl (.lss rfl rfl) ?_
            refine VO.esub [(0, _), (1, _), (2, _), (7, _), (8, _), (9, _), (10, _), (15, _), (29, _), (32, _), (55, _), (63, _)] ⟨rfl, rfl, rfl, rfl, rfl, rfl, rfl, rfl, rfl, rfl, rfl, rfl, trivial⟩ (VO.nil ?_)
            refine VC.cond rfl (fun hc58 => ?_) (fun hc58 => ?_)
            · -- FFFFTT
              refine VC.reg ?_
              refine VO.y rfl (.mv rfl) ?_
              refine VO.y rfl (.mv rfl) ?_
              obtain ⟨x59, hx59⟩ : ∃ x, (d2)[i]? = some x := ⟨_, List.getElem?_eq_getElem (by first | omega | (simp only [List.length_append, List.length_nil, List.length_cons, List.length_take, List.length_drop] at *; omega))⟩
              obtain ⟨gg59, oo59, ec59, ea59, hce59, hre59⟩ := h2.elem hx59
              cases ea59
              obtain ⟨rfl, q59⟩ := hre59; simp only [inK] at q59
              refine VO.y rfl (.ixI i rfl rfl tsl96 rfl (by first | omega | (simp only [List.length_append, List.length_nil, List.length_cons, List.length_take, List.length_drop] at *; omega))) ?_
              refine VO.y rfl (.ld1 0 rfl tk3 rfl hce59) ?_
              refine VO.y rfl (.mv rfl) ?_
              refine VO.y rfl (.lenS rfl tsl61) ?_
              refine VO.y rfl (.add (c := ((d0.length + 1 : Nat) : Int)) rfl rfl (by omega) ⟨by first | omega | (simp only [List.length_append, List.length_nil, List.length_cons, List.length_take, List.length_drop] at *; omega), by first | omega | (simp only [List.length_append, List.length_nil, List.length_cons, List.length_take, List.length_drop] at *; omega)⟩) ?_
              refine VO.callN 160 rfl fnOk43 rfl (fun W hW => pick_ok W x59 (by simp only [inK]; (first | omega | (simp only [List.length_append, List.length_nil, List.length_cons, List.length_take, List.length_drop] at *; omega))) ((d0.length + 1 : Nat) : Int) (by simp only [inK]; (first | omega | (simp only [List.length_append, List.length_nil, List.length_cons, List.length_take, List.length_drop] at *; omega))) (by first | omega | (simp only [List.length_append, List.length_nil, List.length_cons, List.length_take, List.length_drop] at *; omega))) (fun v60 m60 hv60 => ?_)
              subst hv60
              have hfa61 := pickI_bounds x59 ((d0.length + 1 : Nat) : Int) (by omega)
              refine VO.y rfl (.as rfl) ?_
              refine VO.esub [(0, _), (1, _), (2, _), (7, _), (8, _), (9, _), (10, _), (15, _), (29, _), (32, _), (55, _), (63, _)] ⟨rfl, rfl, rfl, rfl, rfl, rfl, rfl, rfl, rfl, rfl, rfl, rfl, trivial⟩ (VO.nil ?_)
              refine outN ?_
              refine VC.rs ?_
              refine VO.y rfl (.mv rfl) ?_
              refine VO.y rfl (.mv rfl) ?_
              refine VO.y rfl (.mv rfl) ?_
              refine VO.callN 162 rfl fnOk65 rfl (fun W hW => next_ok W 1 (by simp only [inK]; (first | omega | (simp only [List.length_append, List.length_nil, List.length_cons, List.length_take, List.length_drop] at *; omega))) (Rd.mono h0 (hW.at (i := 0) rfl)) (pickI x59 ((d0.length + 1 : Nat) : Int)) (by simp only [inK]; (first | omega | (simp only [List.length_append, List.length_nil, List.length_cons, List.length_take, List.length_drop] at *; omega)))) (fun v62 m62 hv62 => ?_)
              obtain ⟨s62_0, rfl, f62_0⟩ := hv62
              obtain ⟨q62_0_A4, q62_0_c4, q62_0_A7, q62_0_c7, q62_0_n4, q62_0_n7, rfl, q62_0_S, q62_0_0, q62_0_1, q62_0_2, q62_0_3, q62_0_4, q62_0_5, q62_0_6, q62_0_7⟩ := openO_Message (x0 := ((shipNext 1 d0 (pickI x59 ((d0.length + 1 : Nat) : Int))).1).1) (x1 := ((shipNext 1 d0 (pickI x59 ((d0.length + 1 : Nat) : Int))).1).2.1) (x2 := ((shipNext 1 d0 (pickI x59 ((d0.length + 1 : Nat) : Int))).1).2.2.1) (x3 := ((shipNext 1 d0 (pickI x59 ((d0.length + 1 : Nat) : Int))).1).2.2.2.1) (x4 := ((shipNext 1 d0 (pickI x59 ((d0.length + 1 : Nat) : Int))).1).2.2.2.2.1) (x5 := ((shipNext 1 d0 (pickI x59 ((d0.length + 1 : Nat) : Int))).1).2.2.2.2.2.1) (x6 := ((shipNext 1 d0 (pickI x59 ((d0.length + 1 : Nat) : Int))).1).2.2.2.2.2.2.1) (x7 := ((shipNext 1 d0 (pickI x59 ((d0.length + 1 : Nat) : Int))).1).2.2.2.2.2.2.2) f62_0
              simp only [inK] at q62_0_0
              simp only [inK] at q62_0_1
              simp only [inK] at q62_0_2
              simp only [inK] at q62_0_3
              have q62_0_r4 := Rd.room (q62_0_4.rd (mle_refl _))
              simp only [inK] at q62_0_5
              simp only [inK] at q62_0_6
              have q62_0_r7 := Rd.room (q62_0_7.rd (mle_refl _))
              refine VO.inv _ (fun _ h => h.parts (i := 162) rfl q62_0_S [163, 164]) ?_
              have hem : (pickI x59 ((d0.length + 1 : Nat) : Int)) ≤ own.length ∨ own.length < (pickI x59 ((d0.length + 1 : Nat) : Int)) := by omega
              have hs := hst (pickI x59 ((d0.length + 1 : Nat) : Int)) (by omega) (by omega)
              have hx := hnx (pickI x59 ((d0.length + 1 : Nat) : Int)) (by omega) (by omega)
              refine VO.y rfl (.mv rfl) ?_
              refine VO.y rfl (.ext rfl rfl) ?_
              refine VO.y rfl (.ext rfl rfl) ?_
              refine VO.alloc 166 rfl tz72 (fun g65 => ?_)
              refine VO.store (k := 8) (c' := [Value.int .i64 (((shipNext 1 d0 (pickI x59 ((d0.length + 1 : Nat) : Int))).1).1), Value.int .i64 (((shipNext 1 d0 (pickI x59 ((d0.length + 1 : Nat) : Int))).1).2.1), Value.int .u8 (((shipNext 1 d0 (pickI x59 ((d0.length + 1 : Nat) : Int))).1).2.2.1), Value.int .i64 (((shipNext 1 d0 (pickI x59 ((d0.length + 1 : Nat) : Int))).1).2.2.2.1), Value.slice q62_0_A4 ((((shipNext 1 d0 (pickI x59 ((d0.length + 1 : Nat) : Int))).1).2.2.2.2.1).length) (q62_0_c4), Value.int .i64 (((shipNext 1 d0 (pickI x59 ((d0.length + 1 : Nat) : Int))).1).2.2.2.2.2.1), Value.int .i64 (((shipNext 1 d0 (pickI x59 ((d0.length + 1 : Nat) : Int))).1).2.2.2.2.2.2.1), Value.slice q62_0_A7 ((((shipNext 1 d0 (pickI x59 ((d0.length + 1 : Nat) : Int))).1).2.2.2.2.2.2.2).length) (q62_0_c7)]) 166 rfl rfl (.inl tk72) rfl rfl rfl rfl rfl ?_
              refine VO.y rfl (.as rfl) ?_
              refine VO.inv [(166, _), (163, _), (164, _), (156, _), (0, _)] (fun _ h => h.sub [166, 163, 164, 156, 0]) ?_
              refine VO.esub [(0, _), (1, _), (2, _), (7, _), (8, _), (9, _), (10, _), (11, _), (12, _), (15, _), (29, _), (32, _), (55, _), (63, _)] ⟨rfl, rfl, rfl, rfl, rfl, rfl, rfl, rfl, rfl, rfl, rfl, rfl, rfl, rfl, trivial⟩ (VO.nil ?_)
              refine VC.seq ?_
              refine VC.rs ?_
              refine VO.y rfl (.mv rfl) ?_
              refine VO.y rfl (.neq rfl rfl) ?_
              refine VO.esub [(0, _), (1, _), (2, _), (7, _), (8, _), (9, _), (10, _), (11, _), (12, _), (15, _), (29, _), (32, _), (55, _), (63, _), (80, _)] ⟨rfl, rfl, rfl, rfl, rfl, rfl, rfl, rfl, rfl, rfl, rfl, rfl, rfl, rfl, rfl, trivial⟩ (VO.nil ?_)
              refine VC.cond rfl (fun hc67 => ?_) (fun hc67 => ?_)
              · -- FFFFTTT
                exact absurd (by rw [hx]) hc67
              · -- FFFFTTF
                refine VC.skip ?_
                refine outN ?_
                refine VC.rs ?_
                refine VO.y rfl (.mv rfl) ?_
                refine VO.y rfl (.mv rfl) ?_
                refine VO.y rfl (.ldA 166 rfl tk72 rfl (cellsAt_one rfl rfl)) ?_
                refine VO.callN 168 rfl fnOk78 rfl (fun W hW => take_ok W 1 (by simp only [inK]; (first | omega | (simp only [List.length_append, List.length_nil, List.length_cons, List.length_take, List.length_drop] at *; omega))) (Ow.rd h_own (hW.at (i := 156) rfl)) (show Rd TMessage _ _ ((shipNext 1 d0 (pickI x59 ((d0.length + 1 : Nat) : Int))).1) from (mk_Message (m := wm W) (((shipNext 1 d0 (pickI x59 ((d0.length + 1 : Nat) : Int))).1).1) (((shipNext 1 d0 (pickI x59 ((d0.length + 1 : Nat) : Int))).1).2.1) (((shipNext 1 d0 (pickI x59 ((d0.length + 1 : Nat) : Int))).1).2.2.1) (((shipNext 1 d0 (pickI x59 ((d0.length + 1 : Nat) : Int))).1).2.2.2.1) (((shipNext 1 d0 (pickI x59 ((d0.length + 1 : Nat) : Int))).1).2.2.2.2.1) (((shipNext 1 d0 (pickI x59 ((d0.length + 1 : Nat) : Int))).1).2.2.2.2.2.1) (((shipNext 1 d0 (pickI x59 ((d0.length + 1 : Nat) : Int))).1).2.2.2.2.2.2.1) (((shipNext 1 d0 (pickI x59 ((d0.length + 1 : Nat) : Int))).1).2.2.2.2.2.2.2) (by simp only [inK]; (first | omega | (simp only [List.length_append, List.length_nil, List.length_cons, List.length_take, List.length_drop] at *; omega))) (by simp only [inK]; (first | omega | (simp only [List.length_append, List.length_nil, List.length_cons, List.length_take, List.length_drop] at *; omega))) (by simp only [inK]; (first | omega | (simp only [List.length_append, List.length_nil, List.length_cons, List.length_take, List.length_drop] at *; omega))) (by simp only [inK]; (first | omega | (simp only [List.length_append, List.length_nil, List.length_cons, List.length_take, List.length_drop] at *; omega))) (OwnL.rd (Ow.ownl q62_0_4 rfl mnil) (hW.at (i := 163) rfl) (mle_nil _)) (by simp only [inK]; (first | omega | (simp only [List.length_append, List.length_nil, List.length_cons, List.length_take, List.length_drop] at *; omega))) (by simp only [inK]; (first | omega | (simp only [List.length_append, List.length_nil, List.length_cons, List.length_take, List.length_drop] at *; omega))) (Ow.rd q62_0_7 (hW.at (i := 164) rfl))))) (fun v68 m68 hv68 => ?_)
                obtain ⟨s68_0, rfl, f68_0⟩ := hv68
                obtain ⟨A68_0, c68_0, eq68_0, l68_0, k68_0⟩ := f68_0.slice
                subst eq68_0
                simp only [maxLen] at k68_0
                have h4 : ((takeOf 1 own ((shipNext 1 d0 (pickI x59 ((d0.length + 1 : Nat) : Int))).1)).1).length ≤ 4 := take_le4 _ _ _
                refine VO.y rfl (.mv rfl) ?_
                refine VO.y rfl (.ext rfl rfl) ?_
                refine VO.y rfl (.ext rfl rfl) ?_
                refine VO.y rfl (.as rfl) ?_
                refine VO.y rfl (.as rfl) ?_
                refine VO.esub [(0, _), (1, _), (2, _), (7, _), (8, _), (9, _), (10, _), (11, _), (12, _), (13, _), (15, _), (29, _), (32, _), (55, _), (63, _), (80, _)] ⟨rfl, rfl, rfl, rfl, rfl, rfl, rfl, rfl, rfl, rfl, rfl, rfl, rfl, rfl, rfl, rfl, trivial⟩ (VO.nil ?_)
                refine VC.seq ?_
                refine VC.rs ?_
                refine VO.y rfl (.mv rfl) ?_
                refine VO.y rfl (.neq rfl rfl) ?_
                refine VO.y rfl (.mv rfl) ?_
                refine VO.dec (t := 90) rfl (fun hc69 => ?_) (fun hc69 => ?_)
                · -- FFFFTTFT
                  refine VO.gy rfl ⟨_, rfl, rfl⟩ (.mv rfl) ?_
                  refine VO.gy rfl ⟨_, rfl, rfl⟩ (.neq rfl rfl) ?_
                  refine VO.gy rfl ⟨_, rfl, rfl⟩ (.mv rfl) ?_
                  refine VO.dec (t := 93) rfl (fun hc70 => ?_) (fun hc70 => ?_)
                  · -- FFFFTTFTT
                    rcases hem with hq | hq <;> first | exact absurd (hs.1 hq).1 (by assumption) | exact absurd (by rw [hs.2 hq]) hc70
                  · -- FFFFTTFTF
                    refine VO.gy rfl ⟨_, rfl, rfl⟩ (.mv rfl) ?_
                    refine VO.gy rfl ⟨_, rfl, rfl⟩ (.mv rfl) ?_
                    refine VO.gy rfl ⟨_, rfl, rfl⟩ (.lenS rfl tsl61) ?_
                    refine VO.gy rfl ⟨_, rfl, rfl⟩ (.leq rfl rfl) ?_
                    refine VO.gy rfl ⟨_, rfl, rfl⟩ (.pF rfl rfl) ?_
                    refine VO.y rfl (.pT rfl rfl) ?_
                    refine VO.esub [(0, _), (1, _), (2, _), (7, _), (8, _), (9, _), (10, _), (11, _), (12, _), (13, _), (15, _), (29, _), (32, _), (55, _), (63, _), (80, _), (99, _)] ⟨rfl, rfl, rfl, rfl, rfl, rfl, rfl, rfl, rfl, rfl, rfl, rfl, rfl, rfl, rfl, rfl, rfl, trivial⟩ (VO.nil ?_)
                    refine VC.cond rfl (fun hc71 => ?_) (fun hc71 => ?_)
                    · -- FFFFTTFTFT
                      exact absurd (hs.1 hc71).1 (by assumption)
                    · -- FFFFTTFTFF
                      refine VC.skip ?_
                      refine outN ?_
                      refine VC.rs ?_
                      refine VO.y rfl (.mv rfl) ?_
                      refine VO.y rfl (.mv rfl) ?_
                      refine VO.appOs (e := TCommit) 156 168 rfl rfl rfl tsl61 tz52 rfl rfl rfl h_own f68_0 Try.underlying61 (by simp only [maxLen]; (first | omega | (simp only [List.length_append, List.length_nil, List.length_cons, List.length_take, List.length_drop] at *; omega))) (by first | omega | (simp only [List.length_append, List.length_nil, List.length_cons, List.length_take, List.length_drop] at *; omega)) (by decide) (fun v72 m72 ho72 => ?_)
                      obtain ⟨A72, c72, rfl, l72, k72⟩ := ho72.slice
                      simp only [maxLen] at k72
                      have h2 : own ++ ((takeOf 1 own ((shipNext 1 d0 (pickI x59 ((d0.length + 1 : Nat) : Int))).1)).1) = own := by rw [hs.2 (by omega)]; simp
                      refine VO.y rfl (.as rfl) ?_
                      refine VO.esub [(0, _), (1, _), (2, _), (7, _), (8, _), (9, _), (10, _), (11, _), (12, _), (13, _), (15, _), (29, _), (32, _), (55, _), (63, _), (80, _), (99, _)] ⟨rfl, rfl, rfl, rfl, rfl, rfl, rfl, rfl, rfl, rfl, rfl, rfl, rfl, rfl, rfl, rfl, rfl, trivial⟩ (VO.nil ?_)
                      refine VC.rs ?_
                      refine VO.y rfl (.mv rfl) ?_
                      refine VO.y rfl (.lenS rfl tsl61) ?_
                      refine VO.y rfl (.mv rfl) ?_
                      refine VO.y rfl (.lenS rfl tsl61) ?_
                      refine VO.y rfl (.gtr rfl rfl) ?_
                      refine VO.y rfl (.mv rfl) ?_
                      refine VO.dec (t := 108) rfl (fun hc73 => ?_) (fun hc73 => ?_)
                      · -- FFFFTTFTFFT
                        rw [h2] at hc73; omega
                      · -- FFFFTTFTFFF
                        refine VO.gy rfl ⟨_, rfl, rfl⟩ (.mv rfl) ?_
                        refine VO.gy rfl ⟨_, rfl, rfl⟩ (.mv rfl) ?_
                        refine VO.gy rfl ⟨_, rfl, rfl⟩ (.mv rfl) ?_
                        refine VO.gy rfl ⟨_, rfl, rfl⟩ (.lenS rfl tsl61) ?_
                        have hs74 := h0.pre (j := ((own ++ ((takeOf 1 own ((shipNext 1 d0 (pickI x59 ((d0.length + 1 : Nat) : Int))).1)).1)).length)) (by first | omega | (simp only [List.length_append, List.length_nil, List.length_cons, List.length_take, List.length_drop] at *; omega))
                        refine VO.gy rfl ⟨_, rfl, rfl⟩ (.slHI ((own ++ ((takeOf 1 own ((shipNext 1 d0 (pickI x59 ((d0.length + 1 : Nat) : Int))).1)).1)).length) rfl rfl tsl61 rfl (by first | omega | (simp only [List.length_append, List.length_nil, List.length_cons, List.length_take, List.length_drop] at *; omega))) ?_
                        refine VO.gcallN 175 rfl ⟨_, rfl, rfl⟩ fnOk69 rfl (fun W hW => SameCommits_ok W (Ow.rd ho72 (hW.at (i := 156) rfl)) (Rd.mono hs74 (hW.at (i := 0) rfl))) (fun v75 m75 hv75 => ?_)
                        subst hv75
                        refine VO.gy rfl ⟨_, rfl, rfl⟩ (.notD rfl) ?_
                        refine VO.y rfl (.pF rfl rfl) ?_
                        refine VO.esub [(0, _), (1, _), (2, _), (7, _), (8, _), (9, _), (10, _), (11, _), (12, _), (13, _), (15, _), (29, _), (32, _), (55, _), (63, _), (80, _), (99, _), (116, _)] ⟨rfl, rfl, rfl, rfl, rfl, rfl, rfl, rfl, rfl, rfl, rfl, rfl, rfl, rfl, rfl, rfl, rfl, rfl, trivial⟩ (VO.nil ?_)
                        refine VC.cond rfl (fun hc76 => ?_) (fun hc76 => ?_)
                        · -- FFFFTTFTFFFT
                          exact absurd (by rw [h2]; exact ho) hc76
                        · -- FFFFTTFTFFFF
                          refine VC.skip ?_
                          refine outBN ?_
                          refine outN ?_
                          refine VC.reg ?_
                          refine VO.y rfl (.mv rfl) ?_
                          refine VO.y rfl (.add (c := ((i + 1 : Nat) : Int)) rfl rfl (by omega) ⟨by first | omega | (simp only [List.length_append, List.length_nil, List.length_cons, List.length_take, List.length_drop] at *; omega), by first | omega | (simp only [List.length_append, List.length_nil, List.length_cons, List.length_take, List.length_drop] at *; omega)⟩) ?_
                          refine VO.y rfl (.as rfl) ?_
                          refine VO.esub [(0, _), (1, _), (2, _), (7, _), (8, _), (9, _), (10, _), (11, _), (12, _), (13, _), (15, _), (29, _), (32, _), (55, _), (63, _), (80, _), (99, _), (116, _)] ⟨rfl, rfl, rfl, rfl, rfl, rfl, rfl, rfl, rfl, rfl, rfl, rfl, rfl, rfl, rfl, rfl, rfl, rfl, trivial⟩ (VO.nil ?_)
                          exact outN ⟨⟨i + 1, own ++ ((takeOf 1 own ((shipNext 1 d0 (pickI x59 ((d0.length + 1 : Nat) : Int))).1)).1), A72, c72, m72⟩, ⟨by omega, by dsimp only; rw [h2]; exact ho, by dsimp only; rw [h2]; exact hl, by dsimp only; rw [h2]; omega, ho72⟩, by first | omega | (simp only [List.length_append, List.length_nil, List.length_cons, List.length_take, List.length_drop] at *; omega), ⟨⟨rfl, rfl, rfl, rfl, rfl, rfl, rfl, rfl, rfl, trivial⟩, fun _ h => Inv.sub h [156, 0]⟩⟩
                · -- FFFFTTFF
                  refine VO.gn rfl (.inl ⟨_, rfl, rfl⟩) ?_
                  refine VO.gn rfl (.inl ⟨_, rfl, rfl⟩) ?_
                  refine VO.gn rfl (.inl ⟨_, rfl, rfl⟩) ?_
                  refine VO.gn rfl (.inr ⟨_, rfl, rfl⟩) ?_
                  refine VO.gn rfl (.inr ⟨_, rfl, rfl⟩) ?_
                  refine VO.gn rfl (.inr ⟨_, rfl, rfl⟩) ?_
                  refine VO.gn rfl (.inr ⟨_, rfl, rfl⟩) ?_
                  refine VO.gn rfl (.inl ⟨_, rfl, rfl⟩) ?_
                  refine VO.y rfl (.pF rfl rfl) ?_
                  refine VO.esub [(0, _), (1, _), (2, _), (7, _), (8, _), (9, _), (10, _), (11, _), (12, _), (13, _), (15, _), (29, _), (32, _), (55, _), (63, _), (80, _), (99, _)] ⟨rfl, rfl, rfl, rfl, rfl, rfl, rfl, rfl, rfl, rfl, rfl, rfl, rfl, rfl, rfl, rfl, rfl, trivial⟩ (VO.nil ?_)
                  refine VC.condF rfl ?_
                  refine VC.skip ?_
                  refine outN ?_
                  refine VC.rs ?_
                  refine VO.y rfl (.mv rfl) ?_
                  refine VO.y rfl (.mv rfl) ?_
                  refine VO.appOs (e := TCommit) 156 168 rfl rfl rfl tsl61 tz52 rfl rfl rfl h_own f68_0 Try.underlying61 (by simp only [maxLen]; (first | omega | (simp only [List.length_append, List.length_nil, List.length_cons, List.length_take, List.length_drop] at *; omega))) (by first | omega | (simp only [List.length_append, List.length_nil, List.length_cons, List.length_take, List.length_drop] at *; omega)) (by decide) (fun v77 m77 ho77 => ?_)
                  obtain ⟨A77, c77, rfl, l77, k77⟩ := ho77.slice
                  simp only [maxLen] at k77
                  have hle := (show _ ≤ _ from by rcases hem with hq | hq <;> first | exact hq | (exfalso; have := ‹¬ ¬ (takeOf _ _ _).2 = 0›; rw [hs.2 hq] at this; simp at this; done))
                  have h2 := (hs.1 hle).2
                  refine VO.y rfl (.as rfl) ?_
                  refine VO.esub [(0, _), (1, _), (2, _), (7, _), (8, _), (9, _), (10, _), (11, _), (12, _), (13, _), (15, _), (29, _), (32, _), (55, _), (63, _), (80, _), (99, _)] ⟨rfl, rfl, rfl, rfl, rfl, rfl, rfl, rfl, rfl, rfl, rfl, rfl, rfl, rfl, rfl, rfl, rfl, trivial⟩ (VO.nil ?_)
                  refine VC.rs ?_
                  refine VO.y rfl (.mv rfl) ?_
                  refine VO.y rfl (.lenS rfl tsl61) ?_
                  refine VO.y rfl (.mv rfl) ?_
                  refine VO.y rfl (.lenS rfl tsl61) ?_
                  refine VO.y rfl (.gtr rfl rfl) ?_
                  refine VO.y rfl (.mv rfl) ?_
                  refine VO.dec (t := 108) rfl (fun hc78 => ?_) (fun hc78 => ?_)
                  · -- FFFFTTFFT
                    rw [h2, List.length_take] at hc78; omega
                  · -- FFFFTTFFF
                    refine VO.gy rfl ⟨_, rfl, rfl⟩ (.mv rfl) ?_
                    refine VO.gy rfl ⟨_, rfl, rfl⟩ (.mv rfl) ?_
                    refine VO.gy rfl ⟨_, rfl, rfl⟩ (.mv rfl) ?_
                    refine VO.gy rfl ⟨_, rfl, rfl⟩ (.lenS rfl tsl61) ?_
                    have hs79 := h0.pre (j := ((own ++ ((takeOf 1 own ((shipNext 1 d0 (pickI x59 ((d0.length + 1 : Nat) : Int))).1)).1)).length)) (by first | omega | (simp only [List.length_append, List.length_nil, List.length_cons, List.length_take, List.length_drop] at *; omega))
                    refine VO.gy rfl ⟨_, rfl, rfl⟩ (.slHI ((own ++ ((takeOf 1 own ((shipNext 1 d0 (pickI x59 ((d0.length + 1 : Nat) : Int))).1)).1)).length) rfl rfl tsl61 rfl (by first | omega | (simp only [List.length_append, List.length_nil, List.length_cons, List.length_take, List.length_drop] at *; omega))) ?_
                    refine VO.gcallN 180 rfl ⟨_, rfl, rfl⟩ fnOk69 rfl (fun W hW => SameCommits_ok W (Ow.rd ho77 (hW.at (i := 156) rfl)) (Rd.mono hs79 (hW.at (i := 0) rfl))) (fun v80 m80 hv80 => ?_)
                    subst hv80
                    refine VO.gy rfl ⟨_, rfl, rfl⟩ (.notD rfl) ?_
                    refine VO.y rfl (.pF rfl rfl) ?_
                    refine VO.esub [(0, _), (1, _), (2, _), (7, _), (8, _), (9, _), (10, _), (11, _), (12, _), (13, _), (15, _), (29, _), (32, _), (55, _), (63, _), (80, _), (99, _), (116, _)] ⟨rfl, rfl, rfl, rfl, rfl, rfl, rfl, rfl, rfl, rfl, rfl, rfl, rfl, rfl, rfl, rfl, rfl, rfl, trivial⟩ (VO.nil ?_)
                    refine VC.cond rfl (fun hc81 => ?_) (fun hc81 => ?_)
                    · -- FFFFTTFFFT
                      exact absurd (by rw [h2, List.length_take]; congr 1; omega) hc81
                    · -- FFFFTTFFFF
                      refine VC.skip ?_
                      refine outBN ?_
                      refine outN ?_
                      refine VC.reg ?_
                      refine VO.y rfl (.mv rfl) ?_
                      refine VO.y rfl (.add (c := ((i + 1 : Nat) : Int)) rfl rfl (by omega) ⟨by first | omega | (simp only [List.length_append, List.length_nil, List.length_cons, List.length_take, List.length_drop] at *; omega), by first | omega | (simp only [List.length_append, List.length_nil, List.length_cons, List.length_take, List.length_drop] at *; omega)⟩) ?_
                      refine VO.y rfl (.as rfl) ?_
                      refine VO.esub [(0, _), (1, _), (2, _), (7, _), (8, _), (9, _), (10, _), (11, _), (12, _), (13, _), (15, _), (29, _), (32, _), (55, _), (63, _), (80, _), (99, _), (116, _)] ⟨rfl, rfl, rfl, rfl, rfl, rfl, rfl, rfl, rfl, rfl, rfl, rfl, rfl, rfl, rfl, rfl, rfl, rfl, trivial⟩ (VO.nil ?_)
                      exact outN ⟨⟨i + 1, own ++ ((takeOf 1 own ((shipNext 1 d0 (pickI x59 ((d0.length + 1 : Nat) : Int))).1)).1), A77, c77, m77⟩, ⟨by omega, by dsimp only; rw [h2, List.length_take]; congr 1; omega, by dsimp only; rw [h2, List.length_take]; omega, by dsimp only; rw [h2, List.length_take]; omega, ho77⟩, by first | omega | (simp only [List.length_append, List.length_nil, List.length_cons, List.length_take, List.length_drop] at *; omega), ⟨⟨rfl, rfl, rfl, rfl, rfl, rfl, rfl, rfl, rfl, trivial⟩, fun _ h => Inv.sub h [156, 0]⟩⟩
            · -- FFFFTF
              refine VC.skip ?_
              refine outN ?_
              refine VC.rs ?_
              refine VO.y rfl (.mv rfl) ?_
              refine VO.y rfl (.mv rfl) ?_
              refine VO.y rfl (.mv rfl) ?_
              refine VO.callN 182 rfl fnOk65 rfl (fun W hW => next_ok W 1 (by simp only [inK]; (first | omega | (simp only [List.length_append, List.length_nil, List.length_cons, List.length_take, List.length_drop] at *; omega))) (Rd.mono h0 (hW.at (i := 0) rfl)) ((own.length : Nat) : Int) (by simp only [inK]; (first | omega | (simp only [List.length_append, List.length_nil, List.length_cons, List.length_take, List.length_drop] at *; omega)))) (fun v82 m82 hv82 => ?_)
              obtain ⟨s82_0, rfl, f82_0⟩ := hv82
              obtain ⟨q82_0_A4, q82_0_c4, q82_0_A7, q82_0_c7, q82_0_n4, q82_0_n7, rfl, q82_0_S, q82_0_0, q82_0_1, q82_0_2, q82_0_3, q82_0_4, q82_0_5, q82_0_6, q82_0_7⟩ := openO_Message (x0 := ((shipNext 1 d0 ((own.length : Nat) : Int)).1).1) (x1 := ((shipNext 1 d0 ((own.length : Nat) : Int)).1).2.1) (x2 := ((shipNext 1 d0 ((own.length : Nat) : Int)).1).2.2.1) (x3 := ((shipNext 1 d0 ((own.length : Nat) : Int)).1).2.2.2.1) (x4 := ((shipNext 1 d0 ((own.length : Nat) : Int)).1).2.2.2.2.1) (x5 := ((shipNext 1 d0 ((own.length : Nat) : Int)).1).2.2.2.2.2.1) (x6 := ((shipNext 1 d0 ((own.length : Nat) : Int)).1).2.2.2.2.2.2.1) (x7 := ((shipNext 1 d0 ((own.length : Nat) : Int)).1).2.2.2.2.2.2.2) f82_0
              simp only [inK] at q82_0_0
              simp only [inK] at q82_0_1
              simp only [inK] at q82_0_2
              simp only [inK] at q82_0_3
              have q82_0_r4 := Rd.room (q82_0_4.rd (mle_refl _))
              simp only [inK] at q82_0_5
              simp only [inK] at q82_0_6
              have q82_0_r7 := Rd.room (q82_0_7.rd (mle_refl _))
              refine VO.inv _ (fun _ h => h.parts (i := 182) rfl q82_0_S [183, 184]) ?_
              have hem : (((own.length : Nat) : Int)) ≤ own.length ∨ own.length < (((own.length : Nat) : Int)) := by omega
              have hs := hst (((own.length : Nat) : Int)) (by omega) (by omega)
              have hx := hnx (((own.length : Nat) : Int)) (by omega) (by omega)
              refine VO.y rfl (.mv rfl) ?_
              refine VO.y rfl (.ext rfl rfl) ?_
              refine VO.y rfl (.ext rfl rfl) ?_
              refine VO.alloc 186 rfl tz72 (fun g85 => ?_)
              refine VO.store (k := 8) (c' := [Value.int .i64 (((shipNext 1 d0 ((own.length : Nat) : Int)).1).1), Value.int .i64 (((shipNext 1 d0 ((own.length : Nat) : Int)).1).2.1), Value.int .u8 (((shipNext 1 d0 ((own.length : Nat) : Int)).1).2.2.1), Value.int .i64 (((shipNext 1 d0 ((own.length : Nat) : Int)).1).2.2.2.1), Value.slice q82_0_A4 ((((shipNext 1 d0 ((own.length : Nat) : Int)).1).2.2.2.2.1).length) (q82_0_c4), Value.int .i64 (((shipNext 1 d0 ((own.length : Nat) : Int)).1).2.2.2.2.2.1), Value.int .i64 (((shipNext 1 d0 ((own.length : Nat) : Int)).1).2.2.2.2.2.2.1), Value.slice q82_0_A7 ((((shipNext 1 d0 ((own.length : Nat) : Int)).1).2.2.2.2.2.2.2).length) (q82_0_c7)]) 186 rfl rfl (.inl tk72) rfl rfl rfl rfl rfl ?_
              refine VO.y rfl (.as rfl) ?_
              refine VO.esub [(0, _), (1, _), (2, _), (7, _), (8, _), (9, _), (10, _), (11, _), (12, _), (15, _), (29, _), (32, _), (55, _), (63, _)] ⟨rfl, rfl, rfl, rfl, rfl, rfl, rfl, rfl, rfl, rfl, rfl, rfl, rfl, rfl, trivial⟩ (VO.nil ?_)
              refine VC.seq ?_
              refine VC.rs ?_
              refine VO.y rfl (.mv rfl) ?_
              refine VO.y rfl (.neq rfl rfl) ?_
              refine VO.inv [(186, _), (183, _), (184, _), (156, _), (0, _)] (fun _ h => h.sub [186, 183, 184, 156, 0]) ?_
              refine VO.esub [(0, _), (1, _), (2, _), (7, _), (8, _), (9, _), (10, _), (11, _), (12, _), (15, _), (29, _), (32, _), (55, _), (63, _), (80, _)] ⟨rfl, rfl, rfl, rfl, rfl, rfl, rfl, rfl, rfl, rfl, rfl, rfl, rfl, rfl, rfl, trivial⟩ (VO.nil ?_)
              refine VC.cond rfl (fun hc87 => ?_) (fun hc87 => ?_)
              · -- FFFFTFT
                exact absurd (by rw [hx]) hc87
              · -- FFFFTFF
                refine VC.skip ?_
                refine outN ?_
                refine VC.rs ?_
                refine VO.y rfl (.mv rfl) ?_
                refine VO.y rfl (.mv rfl) ?_
                refine VO.y rfl (.ldA 186 rfl tk72 rfl (cellsAt_one rfl rfl)) ?_
                refine VO.callN 188 rfl fnOk78 rfl (fun W hW => take_ok W 1 (by simp only [inK]; (first | omega | (simp only [List.length_append, List.length_nil, List.length_cons, List.length_take, List.length_drop] at *; omega))) (Ow.rd h_own (hW.at (i := 156) rfl)) (show Rd TMessage _ _ ((shipNext 1 d0 ((own.length : Nat) : Int)).1) from (mk_Message (m := wm W) (((shipNext 1 d0 ((own.length : Nat) : Int)).1).1) (((shipNext 1 d0 ((own.length : Nat) : Int)).1).2.1) (((shipNext 1 d0 ((own.length : Nat) : Int)).1).2.2.1) (((shipNext 1 d0 ((own.length : Nat) : Int)).1).2.2.2.1) (((shipNext 1 d0 ((own.length : Nat) : Int)).1).2.2.2.2.1) (((shipNext 1 d0 ((own.length : Nat) : Int)).1).2.2.2.2.2.1) (((shipNext 1 d0 ((own.length : Nat) : Int)).1).2.2.2.2.2.2.1) (((shipNext 1 d0 ((own.length : Nat) : Int)).1).2.2.2.2.2.2.2) (by simp only [inK]; (first | omega | (simp only [List.length_append, List.length_nil, List.length_cons, List.length_take, List.length_drop] at *; omega))) (by simp only [inK]; (first | omega | (simp only [List.length_append, List.length_nil, List.length_cons, List.length_take, List.length_drop] at *; omega))) (by simp only [inK]; (first | omega | (simp only [List.length_append, List.length_nil, List.length_cons, List.length_take, List.length_drop] at *; omega))) (by simp only [inK]; (first | omega | (simp only [List.length_append, List.length_nil, List.length_cons, List.length_take, List.length_drop] at *; omega))) (OwnL.rd (Ow.ownl q82_0_4 rfl mnil) (hW.at (i := 183) rfl) (mle_nil _)) (by simp only [inK]; (first | omega | (simp only [List.length_append, List.length_nil, List.length_cons, List.length_take, List.length_drop] at *; omega))) (by simp only [inK]; (first | omega | (simp only [List.length_append, List.length_nil, List.length_cons, List.length_take, List.length_drop] at *; omega))) (Ow.rd q82_0_7 (hW.at (i := 184) rfl))))) (fun v88 m88 hv88 => ?_)
                obtain ⟨s88_0, rfl, f88_0⟩ := hv88
                obtain ⟨A88_0, c88_0, eq88_0, l88_0, k88_0⟩ := f88_0.slice
                subst eq88_0
                simp only [maxLen] at k88_0
                have h4 : ((takeOf 1 own ((shipNext 1 d0 ((own.length : Nat) : Int)).1)).1).length ≤ 4 := take_le4 _ _ _
                refine VO.y rfl (.mv rfl) ?_
                refine VO.y rfl (.ext rfl rfl) ?_
                refine VO.y rfl (.ext rfl rfl) ?_
                refine VO.y rfl (.as rfl) ?_
                refine VO.y rfl (.as rfl) ?_
                refine VO.esub [(0, _), (1, _), (2, _), (7, _), (8, _), (9, _), (10, _), (11, _), (12, _), (13, _), (15, _), (29, _), (32, _), (55, _), (63, _), (80, _)] ⟨rfl, rfl, rfl, rfl, rfl, rfl, rfl, rfl, rfl, rfl, rfl, rfl, rfl, rfl, rfl, rfl, trivial⟩ (VO.nil ?_)
                refine VC.seq ?_
                refine VC.rs ?_
                refine VO.y rfl (.mv rfl) ?_
                refine VO.y rfl (.neq rfl rfl) ?_
                refine VO.y rfl (.mv rfl) ?_
                refine VO.dec (t := 90) rfl (fun hc89 => ?_) (fun hc89 => ?_)
                · -- FFFFTFFT
                  refine VO.gy rfl ⟨_, rfl, rfl⟩ (.mv rfl) ?_
                  refine VO.gy rfl ⟨_, rfl, rfl⟩ (.neq rfl rfl) ?_
                  refine VO.gy rfl ⟨_, rfl, rfl⟩ (.mv rfl) ?_
                  refine VO.dec (t := 93) rfl (fun hc90 => ?_) (fun hc90 => ?_)
                  · -- FFFFTFFTT
                    rcases hem with hq | hq <;> first | exact absurd (hs.1 hq).1 (by assumption) | exact absurd (by rw [hs.2 hq]) hc90
                  · -- FFFFTFFTF
                    refine VO.gy rfl ⟨_, rfl, rfl⟩ (.mv rfl) ?_
                    refine VO.gy rfl ⟨_, rfl, rfl⟩ (.mv rfl) ?_
                    refine VO.gy rfl ⟨_, rfl, rfl⟩ (.lenS rfl tsl61) ?_
                    refine VO.gy rfl ⟨_, rfl, rfl⟩ (.leq rfl rfl) ?_
                    refine VO.gy rfl ⟨_, rfl, rfl⟩ (.pF rfl rfl) ?_
                    refine VO.y rfl (.pT rfl rfl) ?_
                    refine VO.esub [(0, _), (1, _), (2, _), (7, _), (8, _), (9, _), (10, _), (11, _), (12, _), (13, _), (15, _), (29, _), (32, _), (55, _), (63, _), (80, _), (99, _)] ⟨rfl, rfl, rfl, rfl, rfl, rfl, rfl, rfl, rfl, rfl, rfl, rfl, rfl, rfl, rfl, rfl, rfl, trivial⟩ (VO.nil ?_)
                    refine VC.cond rfl (fun hc91 => ?_) (fun hc91 => ?_)
                    · -- FFFFTFFTFT
                      exact absurd (hs.1 hc91).1 (by assumption)
                    · -- FFFFTFFTFF
                      omega
                · -- FFFFTFFF
                  refine VO.gn rfl (.inl ⟨_, rfl, rfl⟩) ?_
                  refine VO.gn rfl (.inl ⟨_, rfl, rfl⟩) ?_
                  refine VO.gn rfl (.inl ⟨_, rfl, rfl⟩) ?_
                  refine VO.gn rfl (.inr ⟨_, rfl, rfl⟩) ?_
                  refine VO.gn rfl (.inr ⟨_, rfl, rfl⟩) ?_
                  refine VO.gn rfl (.inr ⟨_, rfl, rfl⟩) ?_
                  refine VO.gn rfl (.inr ⟨_, rfl, rfl⟩) ?_
                  refine VO.gn rfl (.inl ⟨_, rfl, rfl⟩) ?_
                  refine VO.y rfl (.pF rfl rfl) ?_
                  refine VO.esub [(0, _), (1, _), (2, _), (7, _), (8, _), (9, _), (10, _), (11, _), (12, _), (13, _), (15, _), (29, _), (32, _), (55, _), (63, _), (80, _), (99, _)] ⟨rfl, rfl, rfl, rfl, rfl, rfl, rfl, rfl, rfl, rfl, rfl, rfl, rfl, rfl, rfl, rfl, rfl, trivial⟩ (VO.nil ?_)
                  refine VC.condF rfl ?_
                  refine VC.skip ?_
                  refine outN ?_
                  refine VC.rs ?_
                  refine VO.y rfl (.mv rfl) ?_
                  refine VO.y rfl (.mv rfl) ?_
                  refine VO.appOs (e := TCommit) 156 188 rfl rfl rfl tsl61 tz52 rfl rfl rfl h_own f88_0 Try.underlying61 (by simp only [maxLen]; (first | omega | (simp only [List.length_append, List.length_nil, List.length_cons, List.length_take, List.length_drop] at *; omega))) (by first | omega | (simp only [List.length_append, List.length_nil, List.length_cons, List.length_take, List.length_drop] at *; omega)) (by decide) (fun v92 m92 ho92 => ?_)
                  obtain ⟨A92, c92, rfl, l92, k92⟩ := ho92.slice
                  simp only [maxLen] at k92
                  have hle := (show _ ≤ _ from by rcases hem with hq | hq <;> first | exact hq | (exfalso; have := ‹¬ ¬ (takeOf _ _ _).2 = 0›; rw [hs.2 hq] at this; simp at this; done))
                  have h2 := (hs.1 hle).2
                  refine VO.y rfl (.as rfl) ?_
                  refine VO.esub [(0, _), (1, _), (2, _), (7, _), (8, _), (9, _), (10, _), (11, _), (12, _), (13, _), (15, _), (29, _), (32, _), (55, _), (63, _), (80, _), (99, _)] ⟨rfl, rfl, rfl, rfl, rfl, rfl, rfl, rfl, rfl, rfl, rfl, rfl, rfl, rfl, rfl, rfl, rfl, trivial⟩ (VO.nil ?_)
                  refine VC.rs ?_
                  refine VO.y rfl (.mv rfl) ?_
                  refine VO.y rfl (.lenS rfl tsl61) ?_
                  refine VO.y rfl (.mv rfl) ?_
                  refine VO.y rfl (.lenS rfl tsl61) ?_
                  refine VO.y rfl (.gtr rfl rfl) ?_
                  refine VO.y rfl (.mv rfl) ?_
                  refine VO.dec (t := 108) rfl (fun hc93 => ?_) (fun hc93 => ?_)
                  · -- FFFFTFFFT
                    rw [h2, List.length_take] at hc93; omega
                  · -- FFFFTFFFF
                    refine VO.gy rfl ⟨_, rfl, rfl⟩ (.mv rfl) ?_
                    refine VO.gy rfl ⟨_, rfl, rfl⟩ (.mv rfl) ?_
                    refine VO.gy rfl ⟨_, rfl, rfl⟩ (.mv rfl) ?_
                    refine VO.gy rfl ⟨_, rfl, rfl⟩ (.lenS rfl tsl61) ?_
                    have hs94 := h0.pre (j := ((own ++ ((takeOf 1 own ((shipNext 1 d0 ((own.length : Nat) : Int)).1)).1)).length)) (by first | omega | (simp only [List.length_append, List.length_nil, List.length_cons, List.length_take, List.length_drop] at *; omega))
                    refine VO.gy rfl ⟨_, rfl, rfl⟩ (.slHI ((own ++ ((takeOf 1 own ((shipNext 1 d0 ((own.length : Nat) : Int)).1)).1)).length) rfl rfl tsl61 rfl (by first | omega | (simp only [List.length_append, List.length_nil, List.length_cons, List.length_take, List.length_drop] at *; omega))) ?_
                    refine VO.gcallN 195 rfl ⟨_, rfl, rfl⟩ fnOk69 rfl (fun W hW => SameCommits_ok W (Ow.rd ho92 (hW.at (i := 156) rfl)) (Rd.mono hs94 (hW.at (i := 0) rfl))) (fun v95 m95 hv95 => ?_)
                    subst hv95
                    refine VO.gy rfl ⟨_, rfl, rfl⟩ (.notD rfl) ?_
                    refine VO.y rfl (.pF rfl rfl) ?_
                    refine VO.esub [(0, _), (1, _), (2, _), (7, _), (8, _), (9, _), (10, _), (11, _), (12, _), (13, _), (15, _), (29, _), (32, _), (55, _), (63, _), (80, _), (99, _), (116, _)] ⟨rfl, rfl, rfl, rfl, rfl, rfl, rfl, rfl, rfl, rfl, rfl, rfl, rfl, rfl, rfl, rfl, rfl, rfl, trivial⟩ (VO.nil ?_)
                    refine VC.cond rfl (fun hc96 => ?_) (fun hc96 => ?_)
                    · -- FFFFTFFFFT
                      exact absurd (by rw [h2, List.length_take]; congr 1; omega) hc96
                    · -- FFFFTFFFFF
                      refine VC.skip ?_
                      refine outBN ?_
                      refine outN ?_
                      refine VC.reg ?_
                      refine VO.y rfl (.mv rfl) ?_
                      refine VO.y rfl (.add (c := ((i + 1 : Nat) : Int)) rfl rfl (by omega) ⟨by first | omega | (simp only [List.length_append, List.length_nil, List.length_cons, List.length_take, List.length_drop] at *; omega), by first | omega | (simp only [List.length_append, List.length_nil, List.length_cons, List.length_take, List.length_drop] at *; omega)⟩) ?_
                      refine VO.y rfl (.as rfl) ?_
                      refine VO.esub [(0, _), (1, _), (2, _), (7, _), (8, _), (9, _), (10, _), (11, _), (12, _), (13, _), (15, _), (29, _), (32, _), (55, _), (63, _), (80, _), (99, _), (116, _)] ⟨rfl, rfl, rfl, rfl, rfl, rfl, rfl, rfl, rfl, rfl, rfl, rfl, rfl, rfl, rfl, rfl, rfl, rfl, trivial⟩ (VO.nil ?_)
                      exact outN ⟨⟨i + 1, own ++ ((takeOf 1 own ((shipNext 1 d0 ((own.length : Nat) : Int)).1)).1), A92, c92, m92⟩, ⟨by omega, by dsimp only; rw [h2, List.length_take]; congr 1; omega, by dsimp only; rw [h2, List.length_take]; omega, by dsimp only; rw [h2, List.length_take]; omega, ho92⟩, by first | omega | (simp only [List.length_append, List.length_nil, List.length_cons, List.length_take, List.length_drop] at *; omega), ⟨⟨rfl, rfl, rfl, rfl, rfl, rfl, rfl, rfl, rfl, trivial⟩, fun _ h => Inv.sub h [156, 0]⟩⟩
          · -- FFFFF
            refine VC.exit ?_
            refine outE ?_
            refine outE ?_
            refine outBB ?_
            refine outN ?_
            refine VC.rs ?_
            refine VO.y rfl (.mv rfl) ?_
            refine VO.y rfl (.lenS rfl tsl61) ?_
            refine VO.y rfl (.mv rfl) ?_
            refine VO.y rfl (.lenS rfl tsl61) ?_
            refine VO.y rfl (.eql rfl rfl) ?_
            refine VO.y rfl (.as rfl) ?_
            refine VO.esub [(0, _), (1, _), (2, _), (6, _), (7, _), (8, _), (9, _), (15, _), (29, _), (32, _), (55, _)] ⟨rfl, rfl, rfl, rfl, rfl, rfl, rfl, rfl, rfl, rfl, rfl, trivial⟩ (VO.nil ?_)
            refine VC.ret ?_
            refine ⟨_, _, res_run (rs := [.tmp 6]) rfl (.tmp rfl .nil), fun W_ hI => out_of (l := []) hI [] rfl rfl (mle_refl _) (fun hS_ => ?_)⟩
            dsimp only [packV]
            all_goals (first | rfl | (exact congrArg Value.bool (decide_eq_true (by omega))))
end Go.Proofs.Ytfaknkkaegjdaaa
