/- Plain laws for seat A, part 3: starts, messages that may be, what is taken. -/
import Derived.Test.YtfaknkkaegjdaaaSpec2
set_option linter.unusedVariables false
namespace Go.Proofs.Ytfaknkkaegjdaaa
def sGo (en : Int) : Int → Int → Nat → List DStart → Prop
  | _, _, _, [] => True
  | le, lf, i, s :: r => le < s.1 ∧ s.1 ≤ 1048576 ∧ lf < s.2 ∧ s.2 ≤ en ∧ (i = 0 → s.2 = 1) ∧ sGo en s.1 s.2 (i + 1) r
instance decGo (en : Int) : ∀ (le lf : Int) (i : Nat) (l : List DStart), Decidable (sGo en le lf i l)
  | _, _, _, [] => isTrue trivial
  | le, lf, i, s :: r => by
    have := decGo en s.1 s.2 (i + 1) r
    unfold sGo; infer_instance
def sCheck (l : List DStart) (en : Int) : Int := if 0 ≤ en ∧ en ≤ 1048576 ∧ ((l.length : Int) = 0 ↔ en = 0) ∧ sGo en 0 0 0 l then 0 else 5
section
variable {l : List DStart} {en le lf : Int} {k : Nat} {x : DStart}
theorem sCheck_arg (h : en < 0 ∨ 1048576 < en) : sCheck l en = 5 := if_neg (fun e => by omega)
theorem sCheck_len (h : ¬ decide ((l.length : Int) = 0) = decide (en = 0)) : sCheck l en = 5 := if_neg (fun e => h (decide_eq_decide.2 e.2.2.1))
theorem sGo_at (hx : l[k]? = some x) : sGo en le lf k (l.drop k) ↔ le < x.1 ∧ x.1 ≤ 1048576 ∧ lf < x.2 ∧ x.2 ≤ en ∧ (k = 0 → x.2 = 1) ∧ sGo en x.1 x.2 (k + 1) (l.drop (k + 1)) := by
  rw [drop_next hx]; rfl
theorem sGo_step (hx : l[k]? = some x) (h1 : le < x.1) (h2 : x.1 ≤ 1048576) (h3 : lf < x.2) (h4 : x.2 ≤ en) (h5 : k = 0 → x.2 = 1) : sGo en le lf k (l.drop k) ↔ sGo en x.1 x.2 (k + 1) (l.drop (k + 1)) := by
  rw [sGo_at hx]; exact ⟨fun h => h.2.2.2.2.2, fun h => ⟨h1, h2, h3, h4, h5, h⟩⟩
theorem sCheck_bad (hs : sGo en 0 0 0 l ↔ sGo en le lf k (l.drop k)) (hx : l[k]? = some x) (h : x.1 ≤ le ∨ 1048576 < x.1 ∨ x.2 ≤ lf ∨ en < x.2 ∨ (k = 0 ∧ ¬ x.2 = 1)) : sCheck l en = 5 := by
  refine if_neg (fun e => ?_)
  have := (sGo_at hx).1 (hs.1 e.2.2.2)
  obtain ⟨a, b, c, d, f, _⟩ := this
  rcases h with h | h | h | h | ⟨h, h'⟩
  · omega
  · omega
  · omega
  · omega
  · exact h' (f h)
theorem sCheck_good (h1 : 0 ≤ en) (h2 : en ≤ 1048576) (h3 : ¬ ¬ decide ((l.length : Int) = 0) = decide (en = 0)) (h : sGo en 0 0 0 l) : sCheck l en = 0 := if_pos ⟨h1, h2, decide_eq_decide.1 (Decidable.not_not.1 h3), h⟩
theorem sCheck_range (l : List DStart) (en : Int) : 0 ≤ sCheck l en ∧ sCheck l en ≤ 5 := by unfold sCheck; split <;> omega
end
def bareM (m : DMessage) : Prop := m.2.2.1 = 0 ∧ m.2.2.2.1 = 0 ∧ m.2.2.2.2.1.length = 0 ∧ m.2.2.2.2.2.1 = 0 ∧ m.2.2.2.2.2.2.1 = 0 ∧ m.2.2.2.2.2.2.2.length = 0
instance (m : DMessage) : Decidable (bareM m) := by unfold bareM; infer_instance
def lastOk (l : List DStart) (e : Int) : Bool := match l.getLast? with
  | some s => decide (s.1 ≤ e)
  | none => true
def helloM (m : DMessage) : Prop := (1 ≤ m.2.2.1 ∧ m.2.2.1 ≤ 3) ∧ sCheck m.2.2.2.2.1 m.2.2.2.1 = 0 ∧ lastOk m.2.2.2.2.1 m.2.1 = true ∧ m.2.2.2.2.2.1 = 0 ∧ m.2.2.2.2.2.2.1 = 0 ∧ m.2.2.2.2.2.2.2.length = 0
instance (m : DMessage) : Decidable (helloM m) := by unfold helloM; infer_instance
def shipM (m : DMessage) : Prop := (1 ≤ m.2.2.2.2.2.1 ∧ m.2.2.2.2.2.1 ≤ 1048576) ∧ (0 ≤ m.2.2.2.2.2.2.1 ∧ m.2.2.2.2.2.2.1 ≤ m.2.1) ∧ (m.2.2.2.2.2.2.1 = 0 ↔ m.2.2.2.2.2.1 = 1) ∧ m.2.2.2.2.2.2.2.length ≤ 4 ∧
  (cFollows m.2.2.2.2.2.2.1 (m.2.2.2.2.2.1 - 1) m.2.2.2.2.2.2.2).1 = 0 ∧ (∀ c ∈ m.2.2.2.2.2.2.2, c.1 ≤ m.2.1) ∧ m.2.2.1 = 0 ∧ m.2.2.2.1 = 0 ∧ m.2.2.2.2.1.length = 0
instance (m : DMessage) : Decidable (shipM m) := by unfold shipM; infer_instance
def ackM (m : DMessage) : Prop := (0 ≤ m.2.2.2.1 ∧ m.2.2.2.1 ≤ 1048576) ∧ m.2.2.1 = 0 ∧ m.2.2.2.2.1.length = 0 ∧ m.2.2.2.2.2.1 = 0 ∧ m.2.2.2.2.2.2.1 = 0 ∧ m.2.2.2.2.2.2.2.length = 0
instance (m : DMessage) : Decidable (ackM m) := by unfold ackM; infer_instance
def lCheck (m : DMessage) : Int := if (1 ≤ m.2.1 ∧ m.2.1 ≤ 1048576) ∧ ((m.1 = 1 ∧ helloM m) ∨ (m.1 = 2 ∧ shipM m) ∨ (m.1 = 3 ∧ ackM m)) then 0 else 2
theorem lCheck_good {m : DMessage} (h : (1 ≤ m.2.1 ∧ m.2.1 ≤ 1048576) ∧ ((m.1 = 1 ∧ helloM m) ∨ (m.1 = 2 ∧ shipM m) ∨ (m.1 = 3 ∧ ackM m))) : lCheck m = 0 := if_pos h
theorem lCheck_bad {m : DMessage} (h : ¬ ((1 ≤ m.2.1 ∧ m.2.1 ≤ 1048576) ∧ ((m.1 = 1 ∧ helloM m) ∨ (m.1 = 2 ∧ shipM m) ∨ (m.1 = 3 ∧ ackM m)))) : lCheck m = 2 := if_neg h
theorem lCheck_range (m : DMessage) : 0 ≤ lCheck m ∧ lCheck m ≤ 2 := by unfold lCheck; split <;> omega
theorem lastOk_of {l : List DStart} {e : Int} {k : Nat} {x : DStart} (hx : l[k]? = some x) (h0 : k + 1 = l.length) : lastOk l e = decide (x.1 ≤ e) := by
  unfold lastOk; rw [List.getLast?_eq_getElem?, show l.length - 1 = k by omega, hx]
theorem lastOk_nil {l : List DStart} {e : Int} (h0 : l.length = 0) : lastOk l e = true := by
  rw [List.eq_nil_of_length_eq_zero h0]; rfl
section
variable {m : DMessage}
theorem ack_iff (h : 0 ≤ m.2.2.2.1 ∧ m.2.2.2.1 ≤ 1048576) : bareM (m.1, m.2.1, m.2.2.1, 0, m.2.2.2.2.1, m.2.2.2.2.2.1, m.2.2.2.2.2.2.1, m.2.2.2.2.2.2.2) ↔ ackM m := by
  unfold ackM bareM; dsimp only; omega
theorem hello_iff (h1 : 1 ≤ m.2.2.1 ∧ m.2.2.1 ≤ 3) (h2 : sCheck m.2.2.2.2.1 m.2.2.2.1 = 0) (h3 : lastOk m.2.2.2.2.1 m.2.1 = true) : bareM (m.1, m.2.1, 0, 0, [], m.2.2.2.2.2.1, m.2.2.2.2.2.2.1, m.2.2.2.2.2.2.2) ↔ helloM m :=
  ⟨fun h => ⟨h1, h2, h3, h.2.2.2.1, h.2.2.2.2.1, h.2.2.2.2.2⟩, fun h => ⟨rfl, rfl, rfl, h.2.2.2.1, h.2.2.2.2.1, h.2.2.2.2.2⟩⟩
theorem ship_iff (h1 : 1 ≤ m.2.2.2.2.2.1 ∧ m.2.2.2.2.2.1 ≤ 1048576) (h2 : 0 ≤ m.2.2.2.2.2.2.1 ∧ m.2.2.2.2.2.2.1 ≤ m.2.1) (h3 : ¬ ¬ decide (m.2.2.2.2.2.2.1 = 0) = decide (m.2.2.2.2.2.1 = 1)) (h4 : m.2.2.2.2.2.2.2.length ≤ 4)
    (h5 : (cFollows m.2.2.2.2.2.2.1 (m.2.2.2.2.2.1 - 1) m.2.2.2.2.2.2.2).1 = 0) (h6 : ∀ c ∈ m.2.2.2.2.2.2.2, c.1 ≤ m.2.1) : bareM (m.1, m.2.1, m.2.2.1, m.2.2.2.1, m.2.2.2.2.1, 0, 0, []) ↔ shipM m :=
  ⟨fun h => ⟨h1, h2, decide_eq_decide.1 (Decidable.not_not.1 h3), h4, h5, h6, h.1, h.2.1, h.2.2.1⟩, fun h => ⟨h.2.2.2.2.2.2.1, h.2.2.2.2.2.2.2.1, h.2.2.2.2.2.2.2.2, rfl, rfl, rfl⟩⟩
theorem ship_len (h : ¬ decide (m.2.2.2.2.2.2.1 = 0) = decide (m.2.2.2.2.2.1 = 1)) : ¬ shipM m := fun e => h (decide_eq_decide.2 e.2.2.1)
theorem hello_last {k : Nat} {x : DStart} (hx : m.2.2.2.2.1[k]? = some x) (h0 : k + 1 = m.2.2.2.2.1.length) (h : m.2.1 < x.1) : ¬ helloM m := fun e => by
  have e3 := e.2.2.1
  rw [lastOk_of hx h0] at e3
  have := of_decide_eq_true e3
  omega
theorem lastOk_good {l : List DStart} {e : Int} {k : Nat} {x : DStart} (hx : l[k]? = some x) (h0 : k + 1 = l.length) (h : ¬ e < x.1) : lastOk l e = true := by
  rw [lastOk_of hx h0]; exact decide_eq_true (by omega)
end
end Go.Proofs.Ytfaknkkaegjdaaa
