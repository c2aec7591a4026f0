/- Plain laws for seat A, part 5: ships of a log that may be. -/
import Derived.Test.YtfaknkkaegjdaaaSpec4
set_option linter.unusedVariables false
namespace Go.Proofs.Ytfaknkkaegjdaaa
theorem follows_cons {e n i : Int} {c : DCommit} {r : List DCommit} (h : (cFollowsAt e n i (c :: r)).1 = 0) : cCheck c = 0 ∧ c.2.1 = n + 1 ∧ e ≤ c.1 ∧ (cFollowsAt c.1 c.2.1 (i + 1) r).1 = 0 := by
  unfold cFollowsAt at h
  split at h
  · exact absurd h (by assumption)
  · rename_i h1
    split at h
    · cases h
    · exact ⟨Decidable.not_not.1 h1, by omega, by omega, h⟩
theorem follows_mk {e n i : Int} {c : DCommit} {r : List DCommit} (h1 : cCheck c = 0) (h2 : c.2.1 = n + 1) (h3 : e ≤ c.1) (h4 : (cFollowsAt c.1 c.2.1 (i + 1) r).1 = 0) : (cFollowsAt e n i (c :: r)).1 = 0 := by
  unfold cFollowsAt
  rw [if_neg (by omega), if_neg (by omega)]
  exact h4
theorem follows_idx : ∀ {l : List DCommit} {e n i : Int} (j : Int), (cFollowsAt e n i l).1 = 0 → (cFollowsAt e n j l).1 = 0
  | [], _, _, _, _, _ => rfl
  | c :: r, e, n, i, j, h => by
    obtain ⟨h1, h2, h3, h4⟩ := follows_cons h
    exact follows_mk h1 h2 h3 (follows_idx (j + 1) h4)
theorem follows_take : ∀ {l : List DCommit} {e n i : Int} (k : Nat), (cFollowsAt e n i l).1 = 0 → (cFollowsAt e n i (l.take k)).1 = 0
  | [], _, _, _, _, _ => by simp [cFollowsAt]
  | c :: r, _, _, _, 0, _ => rfl
  | c :: r, e, n, i, k + 1, h => by
    obtain ⟨h1, h2, h3, h4⟩ := follows_cons h
    exact follows_mk h1 h2 h3 (follows_take k h4)
theorem follows_get : ∀ {l : List DCommit} {e n i : Int} {k : Nat} {x : DCommit}, (cFollowsAt e n i l).1 = 0 → l[k]? = some x → x.2.1 = n + k + 1 ∧ e ≤ x.1 ∧ cCheck x = 0 ∧ ∀ j, (cFollowsAt x.1 x.2.1 j (l.drop (k + 1))).1 = 0
  | c :: r, e, n, i, 0, x, h, hx => by
    obtain ⟨h1, h2, h3, h4⟩ := follows_cons h
    simp at hx; subst hx
    exact ⟨by omega, h3, h1, fun j => follows_idx j h4⟩
  | c :: r, e, n, i, k + 1, x, h, hx => by
    obtain ⟨h1, h2, h3, h4⟩ := follows_cons h
    obtain ⟨k1, k2, k3, k4⟩ := follows_get h4 (k := k) (x := x) (by simpa using hx)
    exact ⟨by push_cast; omega, by omega, k3, k4⟩
theorem follows_mono {l : List DCommit} {e n i : Int} {j k : Nat} {x y : DCommit} (h : (cFollowsAt e n i l).1 = 0) (hx : l[j]? = some x) (hy : l[k]? = some y) (hjk : j ≤ k) : x.1 ≤ y.1 := by
  rcases Nat.eq_or_lt_of_le hjk with rfl | hlt
  · rw [hx] at hy; cases hy; exact Int.le_refl _
  · obtain ⟨_, _, _, h4⟩ := follows_get h hx
    have := (follows_get (h4 0) (k := k - (j + 1)) (x := y) (by rw [List.getElem?_drop, show j + 1 + (k - (j + 1)) = k by omega]; exact hy)).2.1
    exact this
def lastE (l : List DCommit) : Int := match l.getLast? with
  | some c => c.1
  | none => 1
theorem lastE_of {l : List DCommit} {k : Nat} {x : DCommit} (hx : l[k]? = some x) (h0 : k + 1 = l.length) : lastE l = x.1 := by
  unfold lastE; rw [List.getLast?_eq_getElem?, show l.length - 1 = k by omega, hx]
theorem lastE_nil {l : List DCommit} (h : l.length = 0) : lastE l = 1 := by rw [List.eq_nil_of_length_eq_zero h]; rfl
theorem lastE_ge {l : List DCommit} (h : (cFollows 0 0 l).1 = 0) {c : DCommit} (hc : c ∈ l) : c.1 ≤ lastE l := by
  obtain ⟨j, hj, rfl⟩ := List.getElem_of_mem hc
  have hk : l[l.length - 1]? = some l[l.length - 1] := List.getElem?_eq_getElem (by omega)
  rw [lastE_of hk (by omega)]
  exact follows_mono h (List.getElem?_eq_getElem hj) hk (by omega)
theorem lastE_range {l : List DCommit} (h : (cFollows 0 0 l).1 = 0) : 1 ≤ lastE l ∧ lastE l ≤ 1048576 := by
  by_cases h0 : l.length = 0
  · rw [lastE_nil h0]; omega
  · have hk : l[l.length - 1]? = some l[l.length - 1] := List.getElem?_eq_getElem (by omega)
    rw [lastE_of hk (by omega)]
    have := cCheck_ok (follows_get h hk).2.2.1
    omega
theorem wrong_last {l : List DCommit} (h : (cFollows 0 0 l).1 = 0) : shipWrong (lastE l) l = 0 := by
  have hr := lastE_range h
  by_cases h0 : l.length = 0
  · exact wrong_none (by omega) (by omega) (by omega) h0
  · have hk : l[l.length - 1]? = some l[l.length - 1] := List.getElem?_eq_getElem (by omega)
    exact wrong_good (by omega) (by omega) (by omega) hk (by omega) (by rw [lastE_of hk (by omega)]; omega)
theorem next_last {l : List DCommit} {k : Int} (h : (cFollows 0 0 l).1 = 0) (h0 : 0 ≤ k) (h1 : k ≤ l.length) (h2 : ¬ k = 1048576) : shipNext (lastE l) l k = ((2, lastE l, 0, 0, [], k + 1, prevOf l k, (l.drop k.toNat).take 4), 0) :=
  next_good (by rw [wrong_last h]; omega) (by omega) (by omega) h2
theorem prevOf_facts {l : List DCommit} {k : Int} (h : (cFollows 0 0 l).1 = 0) (h0 : 0 ≤ k) (h1 : k ≤ l.length) : 0 ≤ prevOf l k ∧ prevOf l k ≤ lastE l ∧ (prevOf l k = 0 ↔ k = 0) ∧ (cFollowsAt (prevOf l k) k 0 (l.drop k.toNat)).1 = 0 := by
  by_cases hk : k = 0
  · subst hk
    have hr := lastE_range h
    rw [prevOf_zero (by omega)]
    exact ⟨by omega, by omega, by simp, by simpa [cFollows] using h⟩
  · have hx : l[(k - 1).toNat]? = some l[(k - 1).toNat] := List.getElem?_eq_getElem (by omega)
    rw [prevOf_pos (by omega) hx]
    obtain ⟨k1, k2, k3, k4⟩ := follows_get h hx
    have := cCheck_ok k3
    refine ⟨by omega, lastE_ge h (List.mem_of_getElem? hx), by omega, ?_⟩
    have h4 := k4 0
    rw [show (k - 1).toNat + 1 = k.toNat by omega] at h4
    rw [show l[(k - 1).toNat].2.1 = k by omega] at h4
    exact h4
theorem next_lCheck {l : List DCommit} {k : Int} (h : (cFollows 0 0 l).1 = 0) (h0 : 0 ≤ k) (h1 : k ≤ l.length) (h2 : k < 1048576) : lCheck (2, lastE l, 0, 0, [], k + 1, prevOf l k, (l.drop k.toNat).take 4) = 0 := by
  have hr := lastE_range h
  obtain ⟨p1, p2, p3, p4⟩ := prevOf_facts h h0 h1
  refine lCheck_good ⟨hr, .inr (.inl ⟨rfl, ?_⟩)⟩
  unfold shipM
  dsimp only
  refine ⟨by omega, by omega, by omega, by simp; omega, ?_, fun c hc => lastE_ge h (List.mem_of_mem_drop (List.mem_of_mem_take hc)), rfl, rfl, rfl⟩
  rw [show k + 1 - 1 = k by omega]
  exact follows_take 4 p4
theorem sGo_snoc {en : Int} {s : DStart} : ∀ {S : List DStart} {le lf : Int} {i : Nat}, sGo en le lf i S → (S = [] → le < s.1 ∧ lf < s.2 ∧ (i = 0 → s.2 = 1)) → (∀ t, S.getLast? = some t → t.1 < s.1 ∧ t.2 < s.2) → s.1 ≤ 1048576 → s.2 ≤ en → sGo en le lf i (S ++ [s])
  | [], le, lf, i, _, h0, _, h2, h3 => by
    obtain ⟨a, b, c⟩ := h0 rfl
    exact ⟨a, h2, b, h3, c, trivial⟩
  | t :: r, le, lf, i, h, _, h1, h2, h3 => by
    obtain ⟨a, b, c, d, f, g⟩ := h
    refine ⟨a, b, c, d, f, sGo_snoc g (fun hr => ?_) (fun u hu => h1 u ?_) h2 h3⟩
    · subst hr
      have := h1 t rfl
      exact ⟨this.1, this.2, fun h => by omega⟩
    · cases r with
      | nil => cases hu
      | cons v w => simpa [List.getLast?_cons_cons] using hu
def sInv (en e n : Int) (S : List DStart) : Prop := sGo en 0 0 0 S ∧ 0 ≤ n ∧ (S = [] ↔ n = 0) ∧ ∀ t, S.getLast? = some t → t.1 = e ∧ t.2 ≤ n
theorem sInv_step {en e n : Int} {S : List DStart} {c : DCommit} (h : sInv en e n S) (h1 : cCheck c = 0) (h2 : c.2.1 = n + 1) (h3 : e ≤ c.1) (h4 : n + 1 ≤ en) : sInv en c.1 c.2.1 (sGrown S c) := by
  obtain ⟨a, b, d, f⟩ := h
  have hc := cCheck_ok h1
  unfold sGrown
  cases hl : S.getLast? with
  | none =>
    have hS : S = [] := List.getLast?_eq_none_iff.1 hl
    subst hS
    have hn := d.1 rfl
    refine ⟨?_, by omega, by simp; omega, fun t ht => ?_⟩
    · exact ⟨by simp only; omega, by simp only; omega, by simp only; omega, by simp only; omega, fun _ => by simp only; omega, trivial⟩
    · simp at ht; subst ht; exact ⟨rfl, Int.le_refl _⟩
  | some t =>
    obtain ⟨k1, k2⟩ := f t hl
    have hne : S ≠ [] := by rintro rfl; cases hl
    dsimp only
    split
    · rename_i he
      refine ⟨a, by omega, ⟨fun h => absurd h hne, fun h => by omega⟩, fun u hu => ?_⟩
      rw [hl] at hu; cases hu
      exact ⟨he, by omega⟩
    · rename_i he
      refine ⟨sGo_snoc a (fun h => absurd h hne) (fun u hu => ?_) (by simp only; omega) (by simp only; omega), by omega, ⟨fun h => by simp at h, fun h => by omega⟩, fun u hu => ?_⟩
      · rw [hl] at hu; cases hu
        simp only
        omega
      · simp at hu; subst hu; exact ⟨rfl, Int.le_refl _⟩
theorem sInv_fold {en : Int} : ∀ {l : List DCommit} {e n i : Int} {S : List DStart}, (cFollowsAt e n i l).1 = 0 → sInv en e n S → n + l.length ≤ en → ∃ e', sInv en e' (n + l.length) (l.foldl sGrown S) ∧ (∀ x, l.getLast? = some x → x.1 = e') ∧ (l = [] → e' = e)
  | [], e, n, i, S, _, h, _ => ⟨e, by simpa using h, fun x hx => (by cases hx), fun _ => rfl⟩
  | c :: r, e, n, i, S, h, hS, hl => by
    obtain ⟨h1, h2, h3, h4⟩ := follows_cons h
    simp only [List.length_cons] at hl
    obtain ⟨e', k1, k2, k3⟩ := sInv_fold h4 (sInv_step (en := en) hS h1 h2 h3 (by omega)) (by omega)
    refine ⟨e', ?_, fun x hx => ?_, fun h => by cases h⟩
    · simp only [List.foldl_cons, List.length_cons]
      rw [show n + ((r.length + 1 : Nat) : Int) = c.2.1 + r.length by omega]
      exact k1
    · cases r with
      | nil => simp at hx; subst hx; exact (k3 rfl).symm
      | cons v w => exact k2 x (by simpa [List.getLast?_cons_cons] using hx)
theorem sOf_facts {l : List DCommit} (h : (cFollows 0 0 l).1 = 0) : sCheck (sOf l).1 l.length = 0 ∧ lastOk (sOf l).1 (lastE l) = true := by
  have hlen := follows_len (e := 0) (n := 0) (i := 0) h (by omega)
  obtain ⟨e', k1, k2, k3⟩ := sInv_fold (en := l.length) (S := []) h ⟨trivial, Int.le_refl _, by simp, fun t ht => by cases ht⟩ (by omega)
  rw [sOf_good1 (by omega)]
  obtain ⟨a, b, d, f⟩ := k1
  constructor
  · refine if_pos ⟨by omega, by omega, ?_, a⟩
    rw [Int.zero_add] at d
    rw [← d]
    simp
  · unfold lastOk
    cases hl : (l.foldl sGrown []).getLast? with
    | none => rfl
    | some t =>
      have h1 := (f t hl).1
      apply decide_eq_true
      rw [h1]
      by_cases h0 : l.length = 0
      · rw [k3 (List.eq_nil_of_length_eq_zero h0)]
        have := lastE_range h
        omega
      · have hk : l[l.length - 1]? = some l[l.length - 1] := List.getElem?_eq_getElem (by omega)
        rw [lastE_of hk (by omega), k2 l[l.length - 1] (by rw [List.getLast?_eq_getElem?]; exact hk)]
        exact Int.le_refl _
theorem hello_lCheck {l : List DCommit} {r : Int} (h : (cFollows 0 0 l).1 = 0) (hr : 1 ≤ r ∧ r ≤ 3) : shipHello (lastE l) r l = ((1, lastE l, r, (l.length : Int), (sOf l).1, 0, 0, []), 0) ∧ lCheck (1, lastE l, r, (l.length : Int), (sOf l).1, 0, 0, []) = 0 := by
  refine ⟨hello_good (by rw [wrong_last h]; omega) (by omega) (by omega), lCheck_good ⟨lastE_range h, .inl ⟨rfl, hr, ?_, ?_, rfl, rfl, rfl⟩⟩⟩
  · exact (sOf_facts h).1
  · exact (sOf_facts h).2
theorem got_next {l got : List DCommit} {p a : Int} (hg : got = (l.drop p.toNat).take (a - p).toNat) (h0 : 0 ≤ p) (h1 : p ≤ a) (h2 : a ≤ l.length) :
    got ++ (l.drop a.toNat).take 4 = (l.drop p.toNat).take (a + 1 - 1 + (((l.drop a.toNat).take 4).length : Nat) - p).toNat := by
  subst hg
  have e : l.drop a.toNat = (l.drop p.toNat).drop (a - p).toNat := by rw [List.drop_drop]; congr 1; omega
  have hlen : ((l.drop a.toNat).take 4).length = min 4 (l.length - a.toNat) := by simp
  rw [hlen, show (a + 1 - 1 + ((min 4 (l.length - a.toNat) : Nat) : Int) - p).toNat = (a - p).toNat + min 4 (l.length - a.toNat) by omega, List.take_add, ← e]
  congr 1
  rw [← List.take_take, List.take_of_length_le (by simp : (List.drop a.toNat l).length ≤ l.length - a.toNat)]
end Go.Proofs.Ytfaknkkaegjdaaa
