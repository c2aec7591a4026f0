/- Walks, printed by program: what lagleashkit Pick, lagleashlaw17 small, lagleashlaw18 small compute. Conditions: those named in each theorem. -/
import Derived.Test.YtfaknkkaegjdaaaW8
import Derived.Test.YtfaknkkaegjdaaaKitK
set_option linter.unusedVariables false
set_option linter.unusedSimpArgs false
set_option maxRecDepth 4000
namespace Go.Proofs.Ytfaknkkaegjdaaa

theorem pick_ok (W : World) (d0 : Int) (h0 : inK .i64 d0) (d1 : Int) (h1 : inK .i64 d1) (e0 : 0 < d1) : CallR Try.prog 43 [.int .i64 d0, .int .i64 d1] W (mnil) (fun v m' => v = .int .i64 (pickI d0 d1)) := by
  have h0' := h0; simp only [inK] at h0'
  have h1' := h1; simp only [inK] at h1'
  refine CallR.ofA (n := 14) Try.func43 rfl rfl rfl ?_
  refine VC.rs ?_
  refine VO.y rfl (.as rfl) ?_
  refine VO.esub [(0, _), (1, _), (4, _)] ⟨rfl, rfl, rfl, trivial⟩ (VO.nil ?_)
  refine VC.rs ?_
  refine VO.y rfl (.mv rfl) ?_
  refine VO.y rfl (.mv rfl) ?_
  have hm1 := tmod_bounds (d0) (d1) (by first | omega | (simp only [List.length_append, List.length_nil, List.length_cons, List.length_take, List.length_drop] at *; omega))
  refine VO.y rfl (.quo (.inr rfl) rfl rfl (rem_int _ _ _ (by first | omega | (simp only [List.length_append, List.length_nil, List.length_cons, List.length_take, List.length_drop] at *; omega)))) ?_
  refine VO.y rfl (.as rfl) ?_
  refine VO.esub [(0, _), (1, _), (4, _)] ⟨rfl, rfl, rfl, trivial⟩ (VO.nil ?_)
  refine VC.seq ?_
  refine VC.rs ?_
  refine VO.y rfl (.mv rfl) ?_
  refine VO.y rfl (.lss rfl rfl) ?_
  refine VO.esub [(0, _), (1, _), (4, _), (9, _)] ⟨rfl, rfl, rfl, rfl, trivial⟩ (VO.nil ?_)
  refine VC.cond rfl (fun hc2 => ?_) (fun hc2 => ?_)
  · -- T
    refine VC.reg ?_
    refine VO.y rfl (.mv rfl) ?_
    refine VO.y rfl (.mv rfl) ?_
    refine VO.y rfl (.add rfl rfl rfl ⟨by first | omega | (simp only [List.length_append, List.length_nil, List.length_cons, List.length_take, List.length_drop] at *; omega), by first | omega | (simp only [List.length_append, List.length_nil, List.length_cons, List.length_take, List.length_drop] at *; omega)⟩) ?_
    refine VO.y rfl (.as rfl) ?_
    refine VO.esub [(0, _), (1, _), (4, _), (9, _)] ⟨rfl, rfl, rfl, rfl, trivial⟩ (VO.nil ?_)
    refine outN ?_
    refine VC.rs ?_
    refine VO.y rfl (.mv rfl) ?_
    refine VO.y rfl (.as rfl) ?_
    refine VO.esub [(0, _), (1, _), (4, _), (9, _)] ⟨rfl, rfl, rfl, rfl, trivial⟩ (VO.nil ?_)
    refine VC.ret ?_
    refine ⟨_, _, res_run (rs := [.tmp 4]) rfl (.tmp rfl .nil), fun W_ hI => out_of (l := []) hI [] rfl rfl (mle_refl _) (fun hS_ => ?_)⟩
    dsimp only [packV]
    all_goals (first | rfl | (congr 1; unfold pickI; split <;> omega))
  · -- F
    refine VC.skip ?_
    refine outN ?_
    refine VC.rs ?_
    refine VO.y rfl (.mv rfl) ?_
    refine VO.y rfl (.as rfl) ?_
    refine VO.esub [(0, _), (1, _), (4, _), (9, _)] ⟨rfl, rfl, rfl, rfl, trivial⟩ (VO.nil ?_)
    refine VC.ret ?_
    refine ⟨_, _, res_run (rs := [.tmp 4]) rfl (.tmp rfl .nil), fun W_ hI => out_of (l := []) hI [] rfl rfl (mle_refl _) (fun hS_ => ?_)⟩
    dsimp only [packV]
    all_goals (first | rfl | (congr 1; unfold pickI; split <;> omega))
theorem small17_ok (W : World) {v0 : Value} {d0 : List DCommit} (h0 : Rd (.sl TCommit) (wm W) [v0] d0) : CallR Try.prog 72 [v0] W (mnil) (fun v m' => v = .bool (decide ((∀ c ∈ d0, c.2.2.length ≤ 40) ∧ d0.length ≤ 40))) := by
  obtain ⟨A0, c0, rfl, l0, k0⟩ := h0.slice
  simp only [maxLen] at k0
  refine CallR.ofA (n := 20) Try.func72 rfl rfl rfl ?_
  refine VC.rs ?_
  refine VO.y rfl (.as rfl) ?_
  refine VO.esub [(0, _), (2, _)] ⟨rfl, rfl, trivial⟩ (VO.nil ?_)
  refine VC.seq ?_
  refine VC.rs ?_
  refine VO.y rfl (.as rfl) ?_
  refine VO.esub [(0, _), (2, _), (3, _)] ⟨rfl, rfl, rfl, trivial⟩ (VO.nil ?_)
  refine VC.block ?_
  refine VC.loop (G := Nat) (fun k => [(3, Value.int .i64 (((k : Nat) : Int))), (0, Value.slice A0 (d0.length) (c0))]) (fun k => [(0, wm W)]) (fun k => (k ≤ d0.length) ∧ (∀ c ∈ d0.take k, c.2.2.length ≤ 40)) (fun k => d0.length - k) 0 (⟨by omega, by simp⟩) ⟨⟨rfl, rfl, trivial⟩, fun _ h => h.sub [0]⟩ ?_
  rintro k ⟨hk, ha⟩
  refine VC.seq ?_
  refine VC.rs ?_
  refine VO.y rfl (.mv rfl) ?_
  refine VO.y rfl (.mv rfl) ?_
  refine VO.y rfl (.lenS rfl tsl61) ?_
  refine VO.y rfl (.lss rfl rfl) ?_
  refine VO.esub [(0, _), (3, _), (7, _)] ⟨rfl, rfl, rfl, trivial⟩ (VO.nil ?_)
  refine VC.cond rfl (fun hc1 => ?_) (fun hc1 => ?_)
  · -- T
    refine VC.skip ?_
    refine outN ?_
    refine VC.seq ?_
    refine VC.block ?_
    refine VC.rs ?_
    refine VO.y rfl (.mv rfl) ?_
    refine VO.y rfl (.mv rfl) ?_
    obtain ⟨x2, hx2⟩ : ∃ x, (d0)[k]? = some x := ⟨_, List.getElem?_eq_getElem (by first | omega | (simp only [List.length_append, List.length_nil, List.length_cons, List.length_take, List.length_drop] at *; omega))⟩
    obtain ⟨gg2, oo2, ec2, ea2, hce2, hre2⟩ := h0.elem hx2
    cases ea2
    obtain ⟨q2_A2, q2_c2, rfl, q2_0, q2_1, q2_2⟩ := open_Commit (x0 := x2.1) (x1 := x2.2.1) (x2 := x2.2.2) hre2
    simp only [inK] at q2_0
    simp only [inK] at q2_1
    have q2_r2 := Rd.room q2_2
    refine VO.y rfl (.ixI k rfl rfl tsl61 rfl (by first | omega | (simp only [List.length_append, List.length_nil, List.length_cons, List.length_take, List.length_drop] at *; omega))) ?_
    refine VO.y rfl (.fa rfl tst52 rfl) ?_
    refine VO.y rfl (.ld1 0 rfl tk22 rfl (hce2.at1 (j := 2) rfl)) ?_
    refine VO.y rfl (.lenS rfl tsl22) ?_
    refine VO.y rfl (.gtr rfl rfl) ?_
    refine VO.esub [(0, _), (3, _), (7, _), (16, _)] ⟨rfl, rfl, rfl, rfl, trivial⟩ (VO.nil ?_)
    refine VC.cond rfl (fun hc3 => ?_) (fun hc3 => ?_)
    · -- TT
      refine VC.rs ?_
      refine VO.y rfl (.as rfl) ?_
      refine VO.esub [(0, _), (2, _), (3, _), (7, _), (16, _)] ⟨rfl, rfl, rfl, rfl, rfl, trivial⟩ (VO.nil ?_)
      refine VC.ret ?_
      refine outBR ?_
      refine outR ?_
      refine outR ?_
      refine outBR ?_
      refine outR ?_
      refine ⟨_, _, res_run (rs := [.tmp 2]) rfl (.tmp rfl .nil), fun W_ hI => out_of (l := []) hI [] rfl rfl (mle_refl _) (fun hS_ => ?_)⟩
      dsimp only [packV]
      all_goals (first | rfl | (first | exact congrArg Value.bool (decide_eq_false (fun e => by have := e.1 _ (List.mem_of_getElem? ‹d0[k]? = some _›); omega)).symm | exact congrArg Value.bool (decide_eq_decide.2 (by have ha2 := ha; rw [List.take_of_length_le (by omega)] at ha2; exact ⟨fun h => ⟨ha2, by omega⟩, fun h => by omega⟩))))
    · -- TF
      refine VC.skip ?_
      refine outBN ?_
      refine outN ?_
      refine VC.reg ?_
      refine VO.y rfl (.mv rfl) ?_
      refine VO.y rfl (.add (c := ((k + 1 : Nat) : Int)) rfl rfl (by omega) ⟨by first | omega | (simp only [List.length_append, List.length_nil, List.length_cons, List.length_take, List.length_drop] at *; omega), by first | omega | (simp only [List.length_append, List.length_nil, List.length_cons, List.length_take, List.length_drop] at *; omega)⟩) ?_
      refine VO.y rfl (.as rfl) ?_
      refine VO.esub [(0, _), (3, _), (7, _), (16, _)] ⟨rfl, rfl, rfl, rfl, trivial⟩ (VO.nil ?_)
      exact outN ⟨k + 1, ⟨by omega, by exact all_next ha ‹d0[k]? = some _› (by omega)⟩, by first | omega | (simp only [List.length_append, List.length_nil, List.length_cons, List.length_take, List.length_drop] at *; omega), ⟨⟨rfl, rfl, trivial⟩, fun _ h => Inv.sub h [0]⟩⟩
  · -- F
    refine VC.exit ?_
    refine outE ?_
    refine outE ?_
    refine outBB ?_
    refine outN ?_
    refine VC.rs ?_
    refine VO.y rfl (.mv rfl) ?_
    refine VO.y rfl (.lenS rfl tsl61) ?_
    refine VO.y rfl (.leq rfl rfl) ?_
    refine VO.y rfl (.as rfl) ?_
    refine VO.esub [(0, _), (2, _), (3, _), (7, _)] ⟨rfl, rfl, rfl, rfl, trivial⟩ (VO.nil ?_)
    refine VC.ret ?_
    refine ⟨_, _, res_run (rs := [.tmp 2]) rfl (.tmp rfl .nil), fun W_ hI => out_of (l := []) hI [] rfl rfl (mle_refl _) (fun hS_ => ?_)⟩
    dsimp only [packV]
    all_goals (first | rfl | (first | exact congrArg Value.bool (decide_eq_false (fun e => by have := e.1 _ (List.mem_of_getElem? ‹d0[k]? = some _›); omega)).symm | exact congrArg Value.bool (decide_eq_decide.2 (by have ha2 := ha; rw [List.take_of_length_le (by omega)] at ha2; exact ⟨fun h => ⟨ha2, by omega⟩, fun h => by omega⟩))))
theorem small18_ok (W : World) {v0 : Value} {d0 : List DCommit} (h0 : Rd (.sl TCommit) (wm W) [v0] d0) : CallR Try.prog 82 [v0] W (mnil) (fun v m' => v = .bool (decide ((∀ c ∈ d0, c.2.2.length ≤ 40) ∧ d0.length ≤ 40))) := by
  obtain ⟨A0, c0, rfl, l0, k0⟩ := h0.slice
  simp only [maxLen] at k0
  refine CallR.ofA (n := 20) Try.func82 rfl rfl rfl ?_
  refine VC.rs ?_
  refine VO.y rfl (.as rfl) ?_
  refine VO.esub [(0, _), (2, _)] ⟨rfl, rfl, trivial⟩ (VO.nil ?_)
  refine VC.seq ?_
  refine VC.rs ?_
  refine VO.y rfl (.as rfl) ?_
  refine VO.esub [(0, _), (2, _), (3, _)] ⟨rfl, rfl, rfl, trivial⟩ (VO.nil ?_)
  refine VC.block ?_
  refine VC.loop (G := Nat) (fun k => [(3, Value.int .i64 (((k : Nat) : Int))), (0, Value.slice A0 (d0.length) (c0))]) (fun k => [(0, wm W)]) (fun k => (k ≤ d0.length) ∧ (∀ c ∈ d0.take k, c.2.2.length ≤ 40)) (fun k => d0.length - k) 0 (⟨by omega, by simp⟩) ⟨⟨rfl, rfl, trivial⟩, fun _ h => h.sub [0]⟩ ?_
  rintro k ⟨hk, ha⟩
  refine VC.seq ?_
  refine VC.rs ?_
  refine VO.y rfl (.mv rfl) ?_
  refine VO.y rfl (.mv rfl) ?_
  refine VO.y rfl (.lenS rfl tsl61) ?_
  refine VO.y rfl (.lss rfl rfl) ?_
  refine VO.esub [(0, _), (3, _), (7, _)] ⟨rfl, rfl, rfl, trivial⟩ (VO.nil ?_)
  refine VC.cond rfl (fun hc1 => ?_) (fun hc1 => ?_)
  · -- T
    refine VC.skip ?_
    refine outN ?_
    refine VC.seq ?_
    refine VC.block ?_
    refine VC.rs ?_
    refine VO.y rfl (.mv rfl) ?_
    refine VO.y rfl (.mv rfl) ?_
    obtain ⟨x2, hx2⟩ : ∃ x, (d0)[k]? = some x := ⟨_, List.getElem?_eq_getElem (by first | omega | (simp only [List.length_append, List.length_nil, List.length_cons, List.length_take, List.length_drop] at *; omega))⟩
    obtain ⟨gg2, oo2, ec2, ea2, hce2, hre2⟩ := h0.elem hx2
    cases ea2
    obtain ⟨q2_A2, q2_c2, rfl, q2_0, q2_1, q2_2⟩ := open_Commit (x0 := x2.1) (x1 := x2.2.1) (x2 := x2.2.2) hre2
    simp only [inK] at q2_0
    simp only [inK] at q2_1
    have q2_r2 := Rd.room q2_2
    refine VO.y rfl (.ixI k rfl rfl tsl61 rfl (by first | omega | (simp only [List.length_append, List.length_nil, List.length_cons, List.length_take, List.length_drop] at *; omega))) ?_
    refine VO.y rfl (.fa rfl tst52 rfl) ?_
    refine VO.y rfl (.ld1 0 rfl tk22 rfl (hce2.at1 (j := 2) rfl)) ?_
    refine VO.y rfl (.lenS rfl tsl22) ?_
    refine VO.y rfl (.gtr rfl rfl) ?_
    refine VO.esub [(0, _), (3, _), (7, _), (16, _)] ⟨rfl, rfl, rfl, rfl, trivial⟩ (VO.nil ?_)
    refine VC.cond rfl (fun hc3 => ?_) (fun hc3 => ?_)
    · -- TT
      refine VC.rs ?_
      refine VO.y rfl (.as rfl) ?_
      refine VO.esub [(0, _), (2, _), (3, _), (7, _), (16, _)] ⟨rfl, rfl, rfl, rfl, rfl, trivial⟩ (VO.nil ?_)
      refine VC.ret ?_
      refine outBR ?_
      refine outR ?_
      refine outR ?_
      refine outBR ?_
      refine outR ?_
      refine ⟨_, _, res_run (rs := [.tmp 2]) rfl (.tmp rfl .nil), fun W_ hI => out_of (l := []) hI [] rfl rfl (mle_refl _) (fun hS_ => ?_)⟩
      dsimp only [packV]
      all_goals (first | rfl | (first | exact congrArg Value.bool (decide_eq_false (fun e => by have := e.1 _ (List.mem_of_getElem? ‹d0[k]? = some _›); omega)).symm | exact congrArg Value.bool (decide_eq_decide.2 (by have ha2 := ha; rw [List.take_of_length_le (by omega)] at ha2; exact ⟨fun h => ⟨ha2, by omega⟩, fun h => by omega⟩))))
    · -- TF
      refine VC.skip ?_
      refine outBN ?_
      refine outN ?_
      refine VC.reg ?_
      refine VO.y rfl (.mv rfl) ?_
      refine VO.y rfl (.add (c := ((k + 1 : Nat) : Int)) rfl rfl (by omega) ⟨by first | omega | (simp only [List.length_append, List.length_nil, List.length_cons, List.length_take, List.length_drop] at *; omega), by first | omega | (simp only [List.length_append, List.length_nil, List.length_cons, List.length_take, List.length_drop] at *; omega)⟩) ?_
      refine VO.y rfl (.as rfl) ?_
      refine VO.esub [(0, _), (3, _), (7, _), (16, _)] ⟨rfl, rfl, rfl, rfl, trivial⟩ (VO.nil ?_)
      exact outN ⟨k + 1, ⟨by omega, by exact all_next ha ‹d0[k]? = some _› (by omega)⟩, by first | omega | (simp only [List.length_append, List.length_nil, List.length_cons, List.length_take, List.length_drop] at *; omega), ⟨⟨rfl, rfl, trivial⟩, fun _ h => Inv.sub h [0]⟩⟩
  · -- F
    refine VC.exit ?_
    refine outE ?_
    refine outE ?_
    refine outBB ?_
    refine outN ?_
    refine VC.rs ?_
    refine VO.y rfl (.mv rfl) ?_
    refine VO.y rfl (.lenS rfl tsl61) ?_
    refine VO.y rfl (.leq rfl rfl) ?_
    refine VO.y rfl (.as rfl) ?_
    refine VO.esub [(0, _), (2, _), (3, _), (7, _)] ⟨rfl, rfl, rfl, rfl, trivial⟩ (VO.nil ?_)
    refine VC.ret ?_
    refine ⟨_, _, res_run (rs := [.tmp 2]) rfl (.tmp rfl .nil), fun W_ hI => out_of (l := []) hI [] rfl rfl (mle_refl _) (fun hS_ => ?_)⟩
    dsimp only [packV]
    all_goals (first | rfl | (first | exact congrArg Value.bool (decide_eq_false (fun e => by have := e.1 _ (List.mem_of_getElem? ‹d0[k]? = some _›); omega)).symm | exact congrArg Value.bool (decide_eq_decide.2 (by have ha2 := ha; rw [List.take_of_length_le (by omega)] at ha2; exact ⟨fun h => ⟨ha2, by omega⟩, fun h => by omega⟩))))
end Go.Proofs.Ytfaknkkaegjdaaa
