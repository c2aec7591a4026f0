/- Plain laws for seat A, part 2: commits, starts, ships. -/
import Derived.Test.YtfaknkkaegjdaaaSpec1
set_option linter.unusedVariables false
namespace Go.Proofs.Ytfaknkkaegjdaaa
def cCheck (c : DCommit) : Int := if 1 ≤ c.1 ∧ c.1 ≤ 1048576 then if 1 ≤ c.2.1 ∧ c.2.1 ≤ 1048576 then batchCheck c.2.2 else 2 else 2
def cFollowsAt : Int → Int → Int → List DCommit → DFault
  | _, _, _, [] => (0, 0)
  | e, n, i, c :: r => if cCheck c ≠ 0 then (cCheck c, i) else if c.2.1 - 1 ≠ n ∨ c.1 < e then (15, i) else cFollowsAt c.1 c.2.1 (i + 1) r
def cFollows (e n : Int) (l : List DCommit) : DFault := cFollowsAt e n 0 l
theorem drop_next {α : Type} {l : List α} {k : Nat} {x : α} (h : l[k]? = some x) : l.drop k = x :: l.drop (k + 1) := by
  obtain ⟨h1, h2⟩ := List.getElem?_eq_some_iff.1 h
  rw [List.drop_eq_getElem_cons h1, h2]
theorem batchCheck_ok {l : List DOp} (h : batchCheck l = 0) : l.length ≤ 8 := by
  unfold batchCheck at h
  split at h
  · omega
  · split at h
    · cases h
    · omega
theorem batchCheck_range (l : List DOp) : 0 ≤ batchCheck l ∧ batchCheck l ≤ 3 := by
  unfold batchCheck
  split
  · omega
  · split
    · omega
    · split <;> omega
theorem cCheck_range (c : DCommit) : 0 ≤ cCheck c ∧ cCheck c ≤ 3 := by
  unfold cCheck
  split
  · split
    · exact batchCheck_range _
    · omega
  · omega
theorem cCheck_ok {c : DCommit} (h : cCheck c = 0) : 1 ≤ c.1 ∧ c.1 ≤ 1048576 ∧ 1 ≤ c.2.1 ∧ c.2.1 ≤ 1048576 ∧ batchCheck c.2.2 = 0 := by
  unfold cCheck at h
  split at h
  · split at h
    · exact ⟨by omega, by omega, by omega, by omega, h⟩
    · cases h
  · cases h
theorem cFollowsAt_ok : ∀ {l : List DCommit} {e n i : Int}, (cFollowsAt e n i l).1 = 0 → ∀ c ∈ l, cCheck c = 0
  | c :: r, e, n, i, h, x, hx => by
    unfold cFollowsAt at h
    split at h
    · exact absurd h (by assumption)
    · rename_i h1
      split at h
      · cases h
      · rcases List.mem_cons.1 hx with rfl | hx
        · exact Decidable.not_not.1 h1
        · exact cFollowsAt_ok h x hx
theorem follows_step {e n i : Int} {l : List DCommit} {k : Nat} {x : DCommit} (h : l[k]? = some x) (h1 : cCheck x = 0) (h2 : ¬ ¬ x.2.1 - 1 = n) (h3 : ¬ x.1 < e) : cFollowsAt e n i (l.drop k) = cFollowsAt x.1 x.2.1 (i + 1) (l.drop (k + 1)) := by
  rw [drop_next h]
  show (if cCheck x ≠ 0 then _ else _) = _
  rw [if_neg (by simpa using h1), if_neg (by simp only [not_or]; exact ⟨h2, h3⟩)]
theorem follows_bad {e n i : Int} {l : List DCommit} {k : Nat} {x : DCommit} (h : l[k]? = some x) (h1 : ¬ cCheck x = 0) : cFollowsAt e n i (l.drop k) = (cCheck x, i) := by
  rw [drop_next h]
  show (if cCheck x ≠ 0 then _ else _) = _
  rw [if_pos h1]
theorem follows_order {e n i : Int} {l : List DCommit} {k : Nat} {x : DCommit} (h : l[k]? = some x) (h1 : cCheck x = 0) (h2 : ¬ x.2.1 - 1 = n ∨ x.1 < e) : cFollowsAt e n i (l.drop k) = (15, i) := by
  rw [drop_next h]
  show (if cCheck x ≠ 0 then _ else _) = _
  rw [if_neg (by simpa using h1), if_pos h2]
theorem all_next {α : Type} {l : List α} {k : Nat} {x : α} {p : α → Prop} (h : ∀ o ∈ l.take k, p o) (hx : l[k]? = some x) (hp : p x) : ∀ o ∈ l.take (k + 1), p o := fun o ho => by
  rw [List.take_add_one, hx] at ho
  rcases List.mem_append.1 ho with h1 | h1
  · exact h o h1
  · simp at h1; rw [h1]; exact hp
theorem bcheck_empty {l : List DOp} (h : (l.length : Int) = 0) : batchCheck l = 2 := if_pos (by omega)
theorem bcheck_long {l : List DOp} (h : (8 : Int) < l.length) : batchCheck l = 3 := by unfold batchCheck; rw [if_neg (by omega), if_pos (by omega)]
theorem bcheck_bad {l : List DOp} {k : Nat} {x : DOp} (h0 : ¬ (l.length : Int) = 0) (h1 : ¬ (8 : Int) < l.length) (hx : l[k]? = some x) (h : ¬ opCheck x = 0) : batchCheck l = opCheck x := by
  have hb : ¬ opOk x := fun e => h (opCheck_good e)
  unfold batchCheck
  rw [if_neg (by omega), if_neg (by omega), if_neg, opCheck_bad hb]
  exact fun e => hb (e x (List.mem_of_getElem? hx))
theorem bcheck_good {l : List DOp} {k : Nat} (h0 : ¬ (l.length : Int) = 0) (h1 : ¬ (8 : Int) < l.length) (h : ∀ o ∈ l.take k, opOk o) (hk : ¬ (k : Int) < l.length) : batchCheck l = 0 := by
  rw [List.take_of_length_le (by omega)] at h
  unfold batchCheck
  rw [if_neg (by omega), if_neg (by omega), if_pos h]

/-! ### Starts -/
def sGrown (l : List DStart) (c : DCommit) : List DStart := match l.getLast? with
  | some s => if s.1 = c.1 then l else l ++ [(c.1, c.2.1)]
  | none => l ++ [(c.1, c.2.1)]
def sOf (l : List DCommit) : List DStart × DFault := if (cFollows 0 0 l).1 ≠ 0 then ([], cFollows 0 0 l) else (l.foldl sGrown [], (0, 0))
theorem sGrown_same {l : List DStart} {c : DCommit} {k : Nat} {s : DStart} (h : l[k]? = some s) (h0 : k + 1 = l.length) (h1 : s.1 = c.1) : sGrown l c = l := by
  unfold sGrown
  rw [List.getLast?_eq_getElem?, show l.length - 1 = k by omega, h]
  exact if_pos h1
theorem sGrown_new {l : List DStart} {c : DCommit} (h : l = [] ∨ ∃ k s, l[k]? = some s ∧ k + 1 = l.length ∧ ¬ s.1 = c.1) : sGrown l c = l ++ [(c.1, c.2.1)] := by
  unfold sGrown
  rcases h with rfl | ⟨k, s, h1, h0, h2⟩
  · rfl
  · rw [List.getLast?_eq_getElem?, show l.length - 1 = k by omega, h1]
    exact if_neg h2
theorem fold_next {α β : Type} {f : β → α → β} {z : β} {l : List α} {k : Nat} {x : α} (h : l[k]? = some x) : (l.take (k + 1)).foldl f z = f ((l.take k).foldl f z) x := by
  rw [List.take_add_one, h, List.foldl_append]; rfl
theorem sGrown_len (l : List DStart) (c : DCommit) : (sGrown l c).length ≤ l.length + 1 := by
  unfold sGrown
  split
  · split <;> simp
  · simp
theorem fold_len (cs : List DCommit) (z : List DStart) : (cs.foldl sGrown z).length ≤ z.length + cs.length := by
  induction cs generalizing z with
  | nil => simp
  | cons c cs ih => have := ih (sGrown z c); have := sGrown_len z c; simp only [List.foldl_cons, List.length_cons]; omega

/-! ### Ships -/
def zeroM : DMessage := (0, 0, 0, 0, [], 0, 0, [])
def shipWrong (e : Int) (l : List DCommit) : Int := if e < 1 ∨ 1048576 < e then 2 else if (cFollows 0 0 l).1 ≠ 0 then (cFollows 0 0 l).1 else match l.getLast? with
  | some c => if e < c.1 then 15 else 0
  | none => 0
def shipHello (e : Int) (r : Int) (l : List DCommit) : DMessage × Int := if shipWrong e l ≠ 0 then (zeroM, shipWrong e l) else if r < 1 ∨ 3 < r then (zeroM, 2) else ((1, e, r, (l.length : Int), (sOf l).1, 0, 0, []), 0)
def prevOf (l : List DCommit) (k : Int) : Int := if 0 < k then (match l[(k - 1).toNat]? with | some c => c.1 | none => 0) else 0
def shipNext (e : Int) (l : List DCommit) (k : Int) : DMessage × Int := if shipWrong e l ≠ 0 then (zeroM, shipWrong e l) else if k < 0 ∨ l.length < k ∨ k = 1048576 then (zeroM, 2) else ((2, e, 0, 0, [], k + 1, prevOf l k, (l.drop k.toNat).take 4), 0)
def shipAck (e n : Int) : DMessage × Int := if e < 1 ∨ 1048576 < e ∨ n < 0 ∨ 1048576 < n then (zeroM, 2) else ((3, e, 0, n, [], 0, 0, []), 0)
def exC : List DCommit := [(1, 1, [(false, [107], [])]), (1, 2, [(false, [107], [])]), (1, 3, [(false, [107], [])]), (1, 4, [(false, [107], [])]), (1, 5, [(false, [107], [])]), (3, 6, [(false, [107], [])])]
theorem exC_next {l : List DCommit} {i : Nat} {e : Int} (h : l = exC.take (i - 1)) (h1 : 1 ≤ i) (h6 : i ≤ 6) (he : e = if i = 6 then 3 else 1) : l ++ [(e, (i : Int), [(false, [107], [])])] = exC.take (i + 1 - 1) := by
  subst h; subst he
  match i, h1, h6 with
  | 1, _, _ | 2, _, _ | 3, _, _ | 4, _, _ | 5, _, _ | 6, _, _ => rfl
section
variable {e : Int} {l : List DCommit} {k : Nat} {x : DCommit}
theorem wrong_arg (h : e < 1 ∨ 1048576 < e) : shipWrong e l = 2 := if_pos h
theorem wrong_follows (h1 : ¬ e < 1) (h2 : ¬ 1048576 < e) (h : ¬ (cFollows 0 0 l).1 = 0) : shipWrong e l = (cFollows 0 0 l).1 := by
  unfold shipWrong; rw [if_neg (by omega), if_pos h]
theorem wrong_order (h1 : ¬ e < 1) (h2 : ¬ 1048576 < e) (h : ¬ ¬ (cFollows 0 0 l).1 = 0) (hx : l[k]? = some x) (h0 : k + 1 = l.length) (hl : e < x.1) : shipWrong e l = 15 := by
  unfold shipWrong; rw [if_neg (by omega), if_neg h, List.getLast?_eq_getElem?, show l.length - 1 = k by omega, hx]; exact if_pos hl
theorem wrong_good (h1 : ¬ e < 1) (h2 : ¬ 1048576 < e) (h : ¬ ¬ (cFollows 0 0 l).1 = 0) (hx : l[k]? = some x) (h0 : k + 1 = l.length) (hl : ¬ e < x.1) : shipWrong e l = 0 := by
  unfold shipWrong; rw [if_neg (by omega), if_neg h, List.getLast?_eq_getElem?, show l.length - 1 = k by omega, hx]; exact if_neg hl
theorem wrong_none (h1 : ¬ e < 1) (h2 : ¬ 1048576 < e) (h : ¬ ¬ (cFollows 0 0 l).1 = 0) (h0 : l.length = 0) : shipWrong e l = 0 := by
  unfold shipWrong; rw [if_neg (by omega), if_neg h, List.eq_nil_of_length_eq_zero h0]; rfl
theorem cFollowsAt_range : ∀ (l : List DCommit) (e n i : Int), 0 ≤ (cFollowsAt e n i l).1 ∧ (cFollowsAt e n i l).1 ≤ 15
  | [], _, _, _ => by simp [cFollowsAt]
  | c :: r, e, n, i => by
    unfold cFollowsAt
    split
    · have := cCheck_range c; simp only; omega
    · split
      · simp
      · exact cFollowsAt_range r _ _ _
theorem shipWrong_range (e : Int) (l : List DCommit) : 0 ≤ shipWrong e l ∧ shipWrong e l ≤ 15 := by
  unfold shipWrong
  split
  · omega
  · split
    · exact cFollowsAt_range l 0 0 0
    · split
      · split <;> omega
      · omega
end
theorem clone_nil {m : Mem} {A : Option Addr} {c : Nat} {l : List DOp} (h : Rd (.sl TOp) m [.slice A l.length c] l) (hA : A = none) : l = [] := by
  subst hA
  obtain ⟨A', c', h1, _, _, h4⟩ := h
  rcases h4 with h4 | ⟨g, off, all, k1, _⟩
  · exact List.eq_nil_of_length_eq_zero h4
  · simp only [List.cons.injEq, Value.slice.injEq, and_true] at h1
    rw [← h1.1] at k1; cases k1
section
variable {l : List DCommit} {e n : Int} {r k : Int}
theorem sOf_bad1 (h : ¬ (cFollows 0 0 l).1 = 0) : (sOf l).1 = [] := by unfold sOf; rw [if_pos h]
theorem sOf_bad2 (h : ¬ (cFollows 0 0 l).1 = 0) : (sOf l).2 = cFollows 0 0 l := by unfold sOf; rw [if_pos h]
theorem sOf_good1 (h : ¬ ¬ (cFollows 0 0 l).1 = 0) : (sOf l).1 = l.foldl sGrown [] := by unfold sOf; rw [if_neg h]
theorem sOf_good2 (h : ¬ ¬ (cFollows 0 0 l).1 = 0) : (sOf l).2 = (0, 0) := by unfold sOf; rw [if_neg h]
theorem ack_bad (h : e < 1 ∨ 1048576 < e ∨ n < 0 ∨ 1048576 < n) : shipAck e n = (zeroM, 2) := if_pos h
theorem ack_good (h1 : ¬ e < 1) (h2 : ¬ 1048576 < e) (h3 : ¬ n < 0) (h4 : ¬ 1048576 < n) : shipAck e n = ((3, e, 0, n, [], 0, 0, []), 0) := if_neg (by omega)
theorem hello_wrong (h : ¬ shipWrong e l = 0) : shipHello e r l = (zeroM, shipWrong e l) := if_pos h
theorem hello_arg (h : ¬ ¬ shipWrong e l = 0) (h1 : r < 1 ∨ 3 < r) : shipHello e r l = (zeroM, 2) := by unfold shipHello; rw [if_neg h, if_pos h1]
theorem hello_good (h : ¬ ¬ shipWrong e l = 0) (h1 : ¬ r < 1) (h2 : ¬ 3 < r) : shipHello e r l = ((1, e, r, (l.length : Int), (sOf l).1, 0, 0, []), 0) := by unfold shipHello; rw [if_neg h, if_neg (by omega)]
end
theorem commit_ext {x y : DCommit} (h1 : x.1 = y.1) (h2 : x.2.1 = y.2.1) (h3 : x.2.2 = y.2.2) : x = y := Prod.ext h1 (Prod.ext h2 h3)
theorem message_ext {x y : DMessage} (h1 : x.1 = y.1) (h2 : x.2.1 = y.2.1) (h3 : x.2.2.1 = y.2.2.1) (h4 : x.2.2.2.1 = y.2.2.2.1) (h5 : x.2.2.2.2.1 = y.2.2.2.2.1) (h6 : x.2.2.2.2.2.1 = y.2.2.2.2.2.1) (h7 : x.2.2.2.2.2.2.1 = y.2.2.2.2.2.2.1) (h8 : x.2.2.2.2.2.2.2 = y.2.2.2.2.2.2.2) : x = y :=
  Prod.ext h1 (Prod.ext h2 (Prod.ext h3 (Prod.ext h4 (Prod.ext h5 (Prod.ext h6 (Prod.ext h7 h8))))))
theorem next_list (l : List DCommit) (k : Int) (h0 : ¬ k < 0) (h1 : ¬ (l.length : Int) < k) : (l.take (min (k + 4) (l.length : Int)).toNat).drop k.toNat = (l.drop k.toNat).take 4 := by
  rw [List.drop_take, show (min (k + 4) (l.length : Int)).toNat - k.toNat = min 4 (l.length - k.toNat) by omega]
  rw [← List.take_take, List.take_of_length_le (by simp : (List.drop k.toNat l).length ≤ l.length - k.toNat)]
theorem follows_len : ∀ {l : List DCommit} {e n i : Int}, (cFollowsAt e n i l).1 = 0 → n ≤ 1048576 → (l.length : Int) + n ≤ 1048576
  | [], _, _, _, _, h => by simpa using h
  | c :: r, e, n, i, h, hn => by
    unfold cFollowsAt at h
    split at h
    · exact absurd h (by assumption)
    · rename_i h1
      split at h
      · cases h
      · rename_i h2
        have h3 := cCheck_ok (Decidable.not_not.1 h1)
        have := follows_len h (by omega)
        simp only [List.length_cons]; omega
theorem wrong_len {e : Int} {l : List DCommit} (h : ¬ ¬ shipWrong e l = 0) : (l.length : Int) ≤ 1048576 := by
  have h' := Decidable.not_not.1 h
  unfold shipWrong at h'
  split at h'
  · cases h'
  · split at h'
    · exact absurd h' (by assumption)
    · rename_i h2
      have := follows_len (Decidable.not_not.1 h2) (by omega)
      omega
theorem next_room {e : Int} {l : List DCommit} {a b k : Nat} {x : DCommit} (h : ¬ ¬ shipWrong e l = 0) (hx : ((l.take b).drop a)[k]? = some x) : x.2.2.length ≤ 3518437208000 := by
  have hm : x ∈ l := List.mem_of_mem_take (List.mem_of_mem_drop (List.mem_of_getElem? hx))
  have h' := Decidable.not_not.1 h
  unfold shipWrong at h'
  split at h'
  · cases h'
  · split at h'
    · exact absurd h' (by assumption)
    · rename_i h2
      have := batchCheck_ok (cCheck_ok (cFollowsAt_ok (Decidable.not_not.1 h2) x hm)).2.2.2.2
      omega
section
variable {e k : Int} {l : List DCommit} {x : DCommit}
theorem next_wrong (h : ¬ shipWrong e l = 0) : shipNext e l k = (zeroM, shipWrong e l) := if_pos h
theorem next_arg (h : ¬ ¬ shipWrong e l = 0) (h1 : k < 0 ∨ (l.length : Int) < k ∨ k = 1048576) : shipNext e l k = (zeroM, 2) := by unfold shipNext; rw [if_neg h, if_pos h1]
theorem next_good (h : ¬ ¬ shipWrong e l = 0) (h1 : ¬ k < 0) (h2 : ¬ (l.length : Int) < k) (h3 : ¬ k = 1048576) : shipNext e l k = ((2, e, 0, 0, [], k + 1, prevOf l k, (l.drop k.toNat).take 4), 0) := by unfold shipNext; rw [if_neg h, if_neg (by omega)]
theorem prevOf_pos (h : 0 < k) (hx : l[(k - 1).toNat]? = some x) : prevOf l k = x.1 := by unfold prevOf; rw [if_pos h, hx]
theorem prevOf_zero (h : ¬ 0 < k) : prevOf l k = 0 := if_neg h
end
theorem take_one {α : Type} {l : List α} {k : Nat} {x : α} (h : l[k]? = some x) : l.take (k + 1) = l.take k ++ [x] := by rw [List.take_add_one, h]; rfl
end Go.Proofs.Ytfaknkkaegjdaaa
