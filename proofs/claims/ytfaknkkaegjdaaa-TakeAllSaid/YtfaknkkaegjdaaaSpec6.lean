/- Plain laws for seat A, part 6: what is taken fits. -/
import Derived.Test.YtfaknkkaegjdaaaSpec5
set_option linter.unusedVariables false
namespace Go.Proofs.Ytfaknkkaegjdaaa
theorem follows_zero : ∀ {l : List DCommit} {e n i : Int}, (cFollowsAt e n i l).1 = 0 → cFollowsAt e n i l = (0, 0)
  | [], _, _, _, _ => rfl
  | c :: r, e, n, i, h => by
    obtain ⟨h1, h2, h3, h4⟩ := follows_cons h
    unfold cFollowsAt
    rw [if_neg (by omega), if_neg (by omega)]
    exact follows_zero h4
def lastOr (e : Int) (l : List DCommit) : Int := match l.getLast? with
  | some c => c.1
  | none => e
theorem lastOr_cons (e : Int) (c : DCommit) (r : List DCommit) : lastOr e (c :: r) = lastOr c.1 r := by
  cases r with
  | nil => rfl
  | cons d r => unfold lastOr; rw [List.getLast?_cons_cons]; cases h : (d :: r).getLast? with
    | none => simp at h
    | some x => rfl
theorem follows_app : ∀ {l a : List DCommit} {e n i j : Int}, (cFollowsAt e n i l).1 = 0 → (cFollowsAt (lastOr e l) (n + l.length) j a).1 = 0 → (cFollowsAt e n i (l ++ a)).1 = 0
  | [], a, e, n, i, j, _, h => by
    simp only [lastOr, List.getLast?_nil, List.length_nil] at h
    exact follows_idx i (by simpa using h)
  | c :: r, a, e, n, i, j, h, h' => by
    obtain ⟨h1, h2, h3, h4⟩ := follows_cons h
    rw [lastOr_cons] at h'
    refine follows_mk h1 h2 h3 (follows_app (j := j) h4 ?_)
    rwa [show c.2.1 + (r.length : Int) = n + ((c :: r).length : Nat) by simp only [List.length_cons]; omega]
theorem follows_app_left : ∀ {l a : List DCommit} {e n i : Int}, (cFollowsAt e n i (l ++ a)).1 = 0 → (cFollowsAt e n i l).1 = 0
  | [], _, _, _, _, _ => rfl
  | c :: r, a, e, n, i, h => by
    obtain ⟨h1, h2, h3, h4⟩ := follows_cons h
    exact follows_mk h1 h2 h3 (follows_app_left h4)
theorem follows_app_right : ∀ {l a : List DCommit} {e n i : Int} (j : Int), (cFollowsAt e n i (l ++ a)).1 = 0 → (cFollowsAt (lastOr e l) (n + l.length) j a).1 = 0
  | [], a, e, n, i, j, h => by
    simp only [lastOr, List.getLast?_nil, List.length_nil]
    simpa using follows_idx j (show (cFollowsAt e n i a).1 = 0 from h)
  | c :: r, a, e, n, i, j, h => by
    obtain ⟨h1, h2, h3, h4⟩ := follows_cons h
    have := follows_app_right j h4
    rw [lastOr_cons]
    rwa [show c.2.1 + (r.length : Int) = n + ((c :: r).length : Nat) by simp only [List.length_cons]; omega] at this
theorem keep_all : ∀ {cs : List DCommit} {e p i q : Int}, (cFollowsAt e p i cs).1 = 0 → q ≤ p → cs.filter (fun c => decide (q < c.2.1)) = cs
  | [], _, _, _, _, _, _ => rfl
  | c :: r, e, p, i, q, h, hq => by
    obtain ⟨h1, h2, h3, h4⟩ := follows_cons h
    rw [List.filter_cons, if_pos (decide_eq_true (by omega)), keep_all h4 (by omega)]
theorem keep_drop : ∀ {cs : List DCommit} {e p i q : Int}, (cFollowsAt e p i cs).1 = 0 → p ≤ q → cs.filter (fun c => decide (q < c.2.1)) = cs.drop (q - p).toNat
  | [], _, _, _, _, _, _ => by simp
  | c :: r, e, p, i, q, h, hq => by
    by_cases hpq : p = q
    · subst hpq
      rw [keep_all h (Int.le_refl _)]
      simp
    · obtain ⟨h1, h2, h3, h4⟩ := follows_cons h
      rw [List.filter_cons, if_neg (by simp; omega), keep_drop h4 (by omega), show (q - p).toNat = (q - c.2.1).toNat + 1 by omega, List.drop_succ_cons]
theorem lastOr_eq {l : List DCommit} {e : Int} {k : Nat} {x : DCommit} (hx : l[k]? = some x) (h0 : k + 1 = l.length) : lastOr e l = x.1 := by
  unfold lastOr; rw [List.getLast?_eq_getElem?, show l.length - 1 = k by omega, hx]
theorem take_facts {e : Int} {l : List DCommit} {m : DMessage} (h : (takeOf e l m).2 = 0) : (cFollows 0 0 l).1 = 0 ∧ lCheck m = 0 ∧ m.1 = 2 ∧ m.2.1 = e ∧ m.2.2.2.2.2.1 - 1 ≤ (l.length : Int) ∧ fitsM l m ∧ (takeOf e l m).1 = m.2.2.2.2.2.2.2.drop ((l.length : Int) - (m.2.2.2.2.2.1 - 1)).toNat := by
  unfold takeOf at h ⊢
  split at h
  · exact absurd h (by assumption)
  · rename_i h1
    split at h
    · cases h
    · rename_i h2
      split at h
      · cases h
      · rename_i h3
        split at h
        · cases h
        · rename_i h4
          split at h
          · cases h
          · rename_i h5
            split at h
            · cases h
            · rename_i h6
              have hc : lCheck m = 0 := by omega
              have hk : m.1 = 2 := by omega
              have hs := lCheck_ship hc hk
              refine ⟨by omega, hc, hk, by omega, by omega, Decidable.not_not.1 h6, ?_⟩
              rw [if_neg h1, if_neg h2, if_neg h3, if_neg h4, if_neg h5, if_neg h6]
              exact keep_drop hs.2.2.2.2.1 (by omega)
theorem take_bad {e : Int} {l : List DCommit} {m : DMessage} (h : ¬ (takeOf e l m).2 = 0) : (takeOf e l m).1 = [] := by
  unfold takeOf at h ⊢
  split at h
  · rename_i h1; rw [if_pos h1]
  · rename_i h1
    rw [if_neg h1]
    split at h
    · rename_i h2; rw [if_pos h2]
    · rename_i h2
      rw [if_neg h2]
      split at h
      · rename_i h3; rw [if_pos h3]
      · rename_i h3
        rw [if_neg h3]
        split at h
        · rename_i h4; rw [if_pos h4]
        · rename_i h4
          rw [if_neg h4]
          split at h
          · rename_i h5; rw [if_pos h5]
          · rename_i h5
            rw [if_neg h5]
            split at h
            · rename_i h6; rw [if_pos h6]
            · exact absurd rfl h
section
variable {e : Int} {l : List DCommit} {m : DMessage}
theorem take_len (h : (takeOf e l m).2 = 0) : ((takeOf e l m).1.length : Int) = max 0 (m.2.2.2.2.2.1 - 1 + m.2.2.2.2.2.2.2.length - l.length) ∧ (takeOf e l m).1.length ≤ 4 := by
  obtain ⟨h1, h2, h3, h4, h5, h6, h7⟩ := take_facts h
  have hs := lCheck_ship h2 h3
  rw [h7, List.length_drop]
  have := hs.1
  have := hs.2.2.2.1
  omega
theorem take_allen (h : (takeOf e l m).2 = 0) : (((l ++ (takeOf e l m).1).length : Nat) : Int) = max (l.length : Int) (m.2.2.2.2.2.1 - 1 + (m.2.2.2.2.2.2.2.length : Int)) := by
  have := (take_len h).1
  simp only [List.length_append]; omega
/-- each commit of the ship, in what there is then. -/
theorem take_at (h : (takeOf e l m).2 = 0) {i : Nat} {c : DCommit} (hc : m.2.2.2.2.2.2.2[i]? = some c) : c.2.1 = m.2.2.2.2.2.1 + i ∧ 1 ≤ c.2.1 ∧ c.2.1 ≤ ((l ++ (takeOf e l m).1).length : Nat) ∧ ∀ x, (l ++ (takeOf e l m).1)[(c.2.1 - 1).toNat]? = some x → x.1 = c.1 ∧ ((l.length : Int) < c.2.1 → x = c) := by
  have hal := take_allen h
  obtain ⟨h1, h2, h3, h4, h5, h6, h7⟩ := take_facts h
  have hs := lCheck_ship h2 h3
  obtain ⟨g1, g2, g3, g4⟩ := follows_get hs.2.2.2.2.1 hc
  have hlt := (List.getElem?_eq_some_iff.1 hc).1
  have hf := hs.1
  refine ⟨by omega, by omega, by omega, fun x hx => ?_⟩
  by_cases hn : (l.length : Int) < c.2.1
  · rw [List.getElem?_append_right (by omega), h7, List.getElem?_drop, show ((l.length : Int) - (m.2.2.2.2.2.1 - 1)).toNat + ((c.2.1 - 1).toNat - l.length) = i by omega, hc] at hx
    cases hx
    exact ⟨rfl, fun _ => rfl⟩
  · rw [List.getElem?_append_left (by omega)] at hx
    have := h6.2 c (List.mem_of_getElem? hc) (by omega)
    rw [epochAt_of hx] at this
    exact ⟨this, fun h => absurd h hn⟩
theorem follows_epochs {cs : List DCommit} {ep n i : Int} (h : (cFollowsAt ep n i cs).1 = 0) {k : Nat} (hk : k ≤ cs.length) : (cFollowsAt (if k = 0 then ep else lastOr ep (cs.take k)) (n + k) 0 (cs.drop k)).1 = 0 := by
  rw [← List.take_append_drop k cs] at h
  have h2 := follows_app_right 0 h
  have hl : (cs.take k).length = k := by simp; omega
  rw [hl] at h2
  split
  · rename_i h0; subst h0; simpa [lastOr] using h2
  · exact h2
theorem take_fits (h : (takeOf e l m).2 = 0) : (cFollows 0 0 (l ++ (takeOf e l m).1)).1 = 0 := by
  obtain ⟨h1, h2, h3, h4, h5, h6, h7⟩ := take_facts h
  have hs := lCheck_ship h2 h3
  have hfr := hs.1
  have hp := hs.2.2.1
  refine follows_app (j := 0) h1 ?_
  rw [h7]
  generalize hk : ((l.length : Int) - (m.2.2.2.2.2.1 - 1)).toNat = k
  by_cases hkl : k ≤ m.2.2.2.2.2.2.2.length
  · have := follows_epochs hs.2.2.2.2.1 hkl
    rw [show m.2.2.2.2.2.1 - 1 + (k : Int) = 0 + l.length by omega] at this
    have he : (if k = 0 then m.2.2.2.2.2.2.1 else lastOr m.2.2.2.2.2.2.1 (m.2.2.2.2.2.2.2.take k)) = lastOr 0 l := by
      by_cases hl0 : l.length = 0
      · have : k = 0 := by omega
        subst this
        rw [if_pos rfl, List.eq_nil_of_length_eq_zero hl0]
        exact hp.2 (by omega)
      · have hx : l[l.length - 1]? = some l[l.length - 1] := List.getElem?_eq_getElem (by omega)
        rw [lastOr_eq hx (by omega)]
        split
        · rename_i hk0
          have := h6.1 (by omega)
          rw [epochAt_of (x := l[l.length - 1]) (by rw [show (m.2.2.2.2.2.1 - 2).toNat = l.length - 1 by omega]; exact hx)] at this
          exact this.symm
        · have hy : m.2.2.2.2.2.2.2[k - 1]? = some m.2.2.2.2.2.2.2[k - 1] := List.getElem?_eq_getElem (by omega)
          rw [lastOr_eq (k := k - 1) (x := m.2.2.2.2.2.2.2[k - 1]) (by rw [List.getElem?_take_of_lt (by omega)]; exact hy) (by simp; omega)]
          have g := (follows_get hs.2.2.2.2.1 hy).1
          have := h6.2 _ (List.mem_of_getElem? hy) (by omega)
          rw [epochAt_of (x := l[l.length - 1]) (by rw [show (m.2.2.2.2.2.2.2[k - 1].2.1 - 1).toNat = l.length - 1 by omega]; exact hx)] at this
          exact this.symm
    rw [he] at this
    exact this
  · rw [List.drop_of_length_le (by omega)]; rfl
theorem take_again (h : (takeOf e l m).2 = 0) : takeOf e (l ++ (takeOf e l m).1) m = ([], 0) := by
  have hal := take_allen h
  have hat := fun {i : Nat} {c : DCommit} (hc : m.2.2.2.2.2.2.2[i]? = some c) => take_at h hc
  have hfit := take_fits h
  obtain ⟨h1, h2, h3, h4, h5, h6, h7⟩ := take_facts h
  have hs := lCheck_ship h2 h3
  have hfr := hs.1
  have hf : fitsM (l ++ (takeOf e l m).1) m := by
    refine ⟨fun hlt => ?_, fun c hc hn => ?_⟩
    · have hx : l[(m.2.2.2.2.2.1 - 2).toNat]? = some l[(m.2.2.2.2.2.1 - 2).toNat] := List.getElem?_eq_getElem (by omega)
      have := h6.1 hlt
      rw [epochAt_of hx] at this
      rw [epochAt_of (x := l[(m.2.2.2.2.2.1 - 2).toNat]) (by rw [List.getElem?_append_left (by omega)]; exact hx), this]
    · obtain ⟨i, hi, rfl⟩ := List.getElem_of_mem hc
      obtain ⟨a1, a2, a3, a4⟩ := hat (List.getElem?_eq_getElem hi)
      have hx : (l ++ (takeOf e l m).1)[(m.2.2.2.2.2.2.2[i].2.1 - 1).toNat]? = some ((l ++ (takeOf e l m).1)[(m.2.2.2.2.2.2.2[i].2.1 - 1).toNat]'(by omega)) := List.getElem?_eq_getElem _
      rw [epochAt_of hx]
      exact (a4 _ hx).1
  have hg := take_good (e := e) (l := l ++ (takeOf e l m).1) (m := m) (by omega) h2 h3 (by omega) (by omega) (by omega) hf
  rw [hg]
  have : m.2.2.2.2.2.2.2.filter (fun c => decide ((((l ++ (takeOf e l m).1).length : Nat) : Int) < c.2.1)) = [] := by
    rw [keep_drop hs.2.2.2.2.1 (by omega), List.drop_of_length_le (by omega)]
  rw [this]
end
end Go.Proofs.Ytfaknkkaegjdaaa
