/- Plain laws for seat A, part 7: ships in any order. -/
import Derived.Test.YtfaknkkaegjdaaaSpec6
set_option linter.unusedVariables false
namespace Go.Proofs.Ytfaknkkaegjdaaa
theorem own_at {log own : List DCommit} (ho : own = log.take own.length) {i : Nat} (hi : i < own.length) : own[i]? = log[i]? := by
  rw [ho, List.getElem?_take_of_lt hi]
theorem take_app {α : Type} {l : List α} {j a k : Nat} (h : a ≤ j) (hk : j ≤ a + k) : l.take j ++ ((l.drop a).take k).drop (j - a) = l.take (max j (min (a + k) l.length)) := by
  rw [List.drop_take, List.drop_drop, show a + (j - a) = j by omega, ← List.take_add]
  by_cases hl : a + k ≤ l.length
  · congr 1; omega
  · rw [List.take_of_length_le (by omega), List.take_of_length_le (by omega)]
theorem take_app2 {α : Type} {l : List α} {j a k : Nat} (hk : a + k < j) (hj : j ≤ l.length) : l.take j ++ ((l.drop a).take k).drop (j - a) = l.take (max j (min (a + k) l.length)) := by
  rw [List.drop_of_length_le (by simp; omega), List.append_nil]; congr 1; omega
theorem ta_step {log own : List DCommit} {at_ : Int} (h : (cFollows 0 0 log).1 = 0) (ho : own = log.take own.length) (hlen : own.length ≤ log.length) (hl : log.length ≤ 40) (h0 : 0 ≤ at_) (h1 : at_ ≤ log.length) :
    (at_ ≤ own.length → (takeOf (lastE log) own (shipNext (lastE log) log at_).1).2 = 0 ∧ own ++ (takeOf (lastE log) own (shipNext (lastE log) log at_).1).1 = log.take (max own.length (min (at_.toNat + 4) log.length))) ∧
    (own.length < at_ → takeOf (lastE log) own (shipNext (lastE log) log at_).1 = ([], 13)) := by
  rw [next_last h h0 h1 (by omega)]
  have hc := next_lCheck h h0 h1 (by omega)
  have hfo : (cFollows 0 0 own).1 = 0 := by rw [ho]; exact follows_take _ h
  have num : ∀ {i : Nat} {c : DCommit}, ((log.drop at_.toNat).take 4)[i]? = some c → c.2.1 = at_ + i + 1 ∧ log[at_.toNat + i]? = some c := fun {i c} hi => by
    have hi4 : i < 4 := by
      have := (List.getElem?_eq_some_iff.1 hi).1
      simp at this; omega
    rw [List.getElem?_take_of_lt hi4, List.getElem?_drop] at hi
    have := (follows_get h hi).1
    exact ⟨by omega, hi⟩
  refine ⟨fun hle => ?_, fun hlt => ?_⟩
  · have hf : fitsM own (2, lastE log, 0, 0, [], at_ + 1, prevOf log at_, (log.drop at_.toNat).take 4) := by
      refine ⟨fun hgt => ?_, fun c hcm hn => ?_⟩
      · simp only at hgt ⊢
        have hx : log[(at_ - 1).toNat]? = some log[(at_ - 1).toNat] := List.getElem?_eq_getElem (by omega)
        rw [prevOf_pos (by omega) hx]
        exact epochAt_of (by rw [show (at_ + 1 - 2).toNat = (at_ - 1).toNat by omega, own_at ho (by omega)]; exact hx)
      · obtain ⟨i, hi, rfl⟩ := List.getElem_of_mem hcm
        obtain ⟨n1, n2⟩ := num (List.getElem?_eq_getElem hi)
        simp only at n1 n2 hn ⊢
        exact epochAt_of (by rw [own_at ho (by omega), show (((log.drop at_.toNat).take 4)[i].2.1 - 1).toNat = at_.toNat + i by omega]; exact n2)
    have hg := take_good (e := lastE log) (l := own) (by omega) hc rfl (Int.lt_irrefl _) (Int.lt_irrefl _) (by simp only; omega) hf
    obtain ⟨f1, f2, f3, f4, f5, f6, f7⟩ := take_facts (e := lastE log) (l := own) (by rw [hg])
    refine ⟨by rw [hg], ?_⟩
    rw [f7]
    simp only
    rw [show ((own.length : Int) - (at_ + 1 - 1)).toNat = own.length - at_.toNat by omega]
    have key : log.take own.length ++ ((log.drop at_.toNat).take 4).drop (own.length - at_.toNat) = log.take (max own.length (min (at_.toNat + 4) log.length)) := by
      by_cases hj : own.length ≤ at_.toNat + 4
      · exact take_app (by omega) hj
      · exact take_app2 (by omega) hlen
    rw [← ho] at key
    exact key
  · exact take_gap (by omega) hc rfl (Int.lt_irrefl _) (Int.lt_irrefl _) (by simp only; omega)
theorem take_le4 (e : Int) (l : List DCommit) (m : DMessage) : (takeOf e l m).1.length ≤ 4 := by
  by_cases h : (takeOf e l m).2 = 0
  · exact (take_len h).2
  · rw [take_bad h]; simp
theorem ta_len {log : List DCommit} {j : Nat} (h : j ≤ log.length) : (log.take j).length = j := by simp; omega
end Go.Proofs.Ytfaknkkaegjdaaa
