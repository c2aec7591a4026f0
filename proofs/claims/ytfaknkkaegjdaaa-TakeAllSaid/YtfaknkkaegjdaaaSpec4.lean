/- Plain laws for seat A, part 4: what is taken of ships. -/
import Derived.Test.YtfaknkkaegjdaaaSpec3
set_option linter.unusedVariables false
namespace Go.Proofs.Ytfaknkkaegjdaaa
def logC : Int → List Int → List DCommit
  | _, [] => []
  | n, e :: r => (e, n, [(false, [107], [])]) :: logC (n + 1) r
theorem logC_next {n : Int} {l : List Int} {k : Nat} {x : Int} {out : List DCommit} (h : out ++ logC (n + k) (l.drop k) = logC n l) (hx : l[k]? = some x) : (out ++ [(x, n + k, [(false, [107], [])])]) ++ logC (n + (k + 1 : Nat)) (l.drop (k + 1)) = logC n l := by
  rw [← h, drop_next hx]
  simp [logC]
  congr 1
  omega
theorem logC_len : ∀ (n : Int) (l : List Int), (logC n l).length = l.length
  | _, [] => rfl
  | n, _ :: r => by simp [logC, logC_len (n + 1) r]
def epochAt (l : List DCommit) (n : Int) : Int := match l[n.toNat]? with
  | some c => c.1
  | none => 0
theorem epochAt_of {l : List DCommit} {n : Int} {x : DCommit} (h : l[n.toNat]? = some x) : epochAt l n = x.1 := by unfold epochAt; rw [h]
def fitsM (l : List DCommit) (m : DMessage) : Prop := (1 < m.2.2.2.2.2.1 → epochAt l (m.2.2.2.2.2.1 - 2) = m.2.2.2.2.2.2.1) ∧ ∀ c ∈ m.2.2.2.2.2.2.2, c.2.1 ≤ l.length → epochAt l (c.2.1 - 1) = c.1
instance (l : List DCommit) (m : DMessage) : Decidable (fitsM l m) := by unfold fitsM; infer_instance
def takeOf (e : Int) (l : List DCommit) (m : DMessage) : List DCommit × Int := if (cFollows 0 0 l).1 ≠ 0 then ([], (cFollows 0 0 l).1) else if lCheck m ≠ 0 ∨ m.1 ≠ 2 then ([], 2) else if m.2.1 < e then ([], 12) else if e < m.2.1 then ([], 2) else
  if (l.length : Int) < m.2.2.2.2.2.1 - 1 then ([], 13) else if ¬ fitsM l m then ([], 14) else (m.2.2.2.2.2.2.2.filter (fun c => decide ((l.length : Int) < c.2.1)), 0)
section
variable {e : Int} {l : List DCommit} {m : DMessage}
theorem take_follows (h : ¬ (cFollows 0 0 l).1 = 0) : takeOf e l m = ([], (cFollows 0 0 l).1) := if_pos h
theorem take_check (h : ¬ ¬ (cFollows 0 0 l).1 = 0) (h1 : ¬ lCheck m = 0 ∨ ¬ m.1 = 2) : takeOf e l m = ([], 2) := by unfold takeOf; rw [if_neg h, if_pos h1]
theorem take_stale (h : ¬ ¬ (cFollows 0 0 l).1 = 0) (h1 : lCheck m = 0) (h2 : m.1 = 2) (h3 : m.2.1 < e) : takeOf e l m = ([], 12) := by unfold takeOf; rw [if_neg h, if_neg (by omega), if_pos h3]
theorem take_later (h : ¬ ¬ (cFollows 0 0 l).1 = 0) (h1 : lCheck m = 0) (h2 : m.1 = 2) (h3 : ¬ m.2.1 < e) (h4 : e < m.2.1) : takeOf e l m = ([], 2) := by unfold takeOf; rw [if_neg h, if_neg (by omega), if_neg h3, if_pos h4]
theorem take_gap (h : ¬ ¬ (cFollows 0 0 l).1 = 0) (h1 : lCheck m = 0) (h2 : m.1 = 2) (h3 : ¬ m.2.1 < e) (h4 : ¬ e < m.2.1) (h5 : (l.length : Int) < m.2.2.2.2.2.1 - 1) : takeOf e l m = ([], 13) := by unfold takeOf; rw [if_neg h, if_neg (by omega), if_neg h3, if_neg h4, if_pos h5]
theorem take_fork (h : ¬ ¬ (cFollows 0 0 l).1 = 0) (h1 : lCheck m = 0) (h2 : m.1 = 2) (h3 : ¬ m.2.1 < e) (h4 : ¬ e < m.2.1) (h5 : ¬ (l.length : Int) < m.2.2.2.2.2.1 - 1) (h6 : ¬ fitsM l m) : takeOf e l m = ([], 14) := by unfold takeOf; rw [if_neg h, if_neg (by omega), if_neg h3, if_neg h4, if_neg h5, if_pos h6]
theorem take_good (h : ¬ ¬ (cFollows 0 0 l).1 = 0) (h1 : lCheck m = 0) (h2 : m.1 = 2) (h3 : ¬ m.2.1 < e) (h4 : ¬ e < m.2.1) (h5 : ¬ (l.length : Int) < m.2.2.2.2.2.1 - 1) (h6 : fitsM l m) : takeOf e l m = (m.2.2.2.2.2.2.2.filter (fun c => decide ((l.length : Int) < c.2.1)), 0) := by unfold takeOf; rw [if_neg h, if_neg (by omega), if_neg h3, if_neg h4, if_neg h5, if_neg (by simpa using h6)]
theorem lCheck_ship (h : lCheck m = 0) (h2 : m.1 = 2) : shipM m := by
  unfold lCheck at h
  split at h
  · rename_i h3
    rcases h3.2 with h4 | h4 | h4
    · omega
    · exact h4.2
    · omega
  · cases h
theorem ship_commit (h : lCheck m = 0) (h2 : m.1 = 2) {c : DCommit} (hc : c ∈ m.2.2.2.2.2.2.2) : cCheck c = 0 := cFollowsAt_ok (lCheck_ship h h2).2.2.2.2.1 c hc
theorem ship_room (h : lCheck m = 0) (h2 : m.1 = 2) {k : Nat} {c : DCommit} (hc : m.2.2.2.2.2.2.2[k]? = some c) : c.2.2.length ≤ 3518437208000 := by
  have := batchCheck_ok (cCheck_ok (ship_commit h h2 (List.mem_of_getElem? hc))).2.2.2.2
  omega
theorem ship_pos (h : lCheck m = 0) (h2 : m.1 = 2) : ∀ c ∈ m.2.2.2.2.2.2.2, 1 ≤ c.2.1 := fun c hc => (cCheck_ok (ship_commit h h2 hc)).2.2.1
end
theorem filter_yes {α : Type} {p : α → Bool} {l : List α} {k : Nat} {x : α} (hx : l[k]? = some x) (h : p x = true) : (l.take (k + 1)).filter p = (l.take k).filter p ++ [x] := by
  rw [take_one hx, List.filter_append]; simp [h]
theorem filter_no {α : Type} {p : α → Bool} {l : List α} {k : Nat} {x : α} (hx : l[k]? = some x) (h : p x = false) : (l.take (k + 1)).filter p = (l.take k).filter p := by
  rw [take_one hx, List.filter_append]; simp [h]
def knownOf (e k : Int) (m : DMessage) : Int × Bool × Int := if lCheck m ≠ 0 then (0, false, 2) else if m.2.1 < e then (0, false, 12) else if e < m.2.1 then (0, false, 2) else
  if m.1 = 3 ∨ (m.1 = 1 ∧ m.2.2.1 = 2) then (Max.max (Max.max k 0) m.2.2.2.1, true, 0) else (Max.max k 0, false, 0)
section
variable {e k : Int} {m : DMessage}
theorem known_check (h : ¬ lCheck m = 0) : knownOf e k m = (0, false, 2) := if_pos h
theorem known_stale (h : ¬ ¬ lCheck m = 0) (h1 : m.2.1 < e) : knownOf e k m = (0, false, 12) := by unfold knownOf; rw [if_neg h, if_pos h1]
theorem known_later (h : ¬ ¬ lCheck m = 0) (h1 : ¬ m.2.1 < e) (h2 : e < m.2.1) : knownOf e k m = (0, false, 2) := by unfold knownOf; rw [if_neg h, if_neg h1, if_pos h2]
theorem known_yes (h : ¬ ¬ lCheck m = 0) (h1 : ¬ m.2.1 < e) (h2 : ¬ e < m.2.1) (h3 : m.1 = 3 ∨ (m.1 = 1 ∧ m.2.2.1 = 2)) : knownOf e k m = (Max.max (Max.max k 0) m.2.2.2.1, true, 0) := by unfold knownOf; rw [if_neg h, if_neg h1, if_neg h2, if_pos h3]
theorem known_no (h : ¬ ¬ lCheck m = 0) (h1 : ¬ m.2.1 < e) (h2 : ¬ e < m.2.1) (h3 : ¬ (m.1 = 3 ∨ (m.1 = 1 ∧ m.2.2.1 = 2))) : knownOf e k m = (Max.max k 0, false, 0) := by unfold knownOf; rw [if_neg h, if_neg h1, if_neg h2, if_neg h3]
end
end Go.Proofs.Ytfaknkkaegjdaaa
