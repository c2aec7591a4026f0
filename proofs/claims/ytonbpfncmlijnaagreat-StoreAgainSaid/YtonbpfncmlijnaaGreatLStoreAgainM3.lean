/- Part 3 of the proof of LStoreAgain: what it needs of the library, the walks and the plain laws. Conditions: those named in each theorem. -/
import Derived.Test.YtonbpfncmlijnaaGreatLStoreAgainM2
set_option linter.unusedVariables false
set_option linter.unusedSimpArgs false
set_option maxRecDepth 4000
namespace Go.Proofs.YtonbpfncmlijnaaGreat
theorem cutN (b : Bytes) (n k : Nat) : (b.take (n + k)).drop n = (b.drop n).take k := by rw [List.drop_take, Nat.add_sub_cancel_left]
def tRd (b : Bytes) (m : Int) : Bytes × Int × Bool := if sE b m = 0 ∧ (sN b m : Int) + sX b m ≤ b.length then ((b.drop (sN b m)).take (sX b m), (sN b m : Int) + sX b m, true) else ([], 0, false)
section
variable {b : Bytes} {m : Int} {x : UInt8}
theorem tRd_no1 (h : ¬ sE b m = 0) : tRd b m = ([], 0, false) := if_neg fun q => h q.1
theorem tRd_no2 (h : (b.length : Int) < (sN b m : Int) + sX b m) : tRd b m = ([], 0, false) := if_neg fun q => by have := q.2; omega
theorem tRd_yes (h : ¬ ¬ sE b m = 0) (h2 : ¬ (b.length : Int) < (sN b m : Int) + sX b m) : tRd b m = ((b.take (sN b m + sX b m)).drop (sN b m), ((sN b m + sX b m : Nat) : Int), true) := by
  rw [cutN]; unfold tRd; rw [if_pos ⟨Decidable.not_not.1 h, by omega⟩]; rfl
theorem tRd_fits (b : Bytes) {m : Int} (hm : 0 ≤ m) (hm2 : m ≤ 1000) : ((tRd b m).1.length : Int) ≤ m ∧ 0 ≤ (tRd b m).2.1 ∧ (tRd b m).2.1 ≤ b.length ∧ ((tRd b m).2.2 = true → 1 ≤ (tRd b m).2.1) := by
  have h := s_bounds b m (by omega)
  have h1 := h.2.1 hm
  unfold tRd; split
  · rename_i q
    have := sN_pos q.1
    exact ⟨by simp only [List.length_take]; omega, by dsimp only; omega, by dsimp only; omega, fun _ => by dsimp only; omega⟩
  · exact ⟨by simpa using hm, Int.le_refl _, by simp, fun h => by cases h⟩
def opEnd (o : DOp) (n : Int) : DOp × Int × Int := if opCheck o = 0 then (o, n, 0) else ((false, [], []), 0, 5)
def opRd (b : Bytes) : DOp × Int × Int :=
  if b.length = 0 ∨ 1 < (b[0]?.getD 0).toNat ∨ (tRd (b.drop 1) 16).2.2 = false then ((false, [], []), 0, 5)
  else if (b[0]?.getD 0).toNat = 1 then
    if (tRd (b.drop (1 + (tRd (b.drop 1) 16).2.1).toNat) 32).2.2 = false then ((false, [], []), 0, 5)
    else opEnd (true, (tRd (b.drop 1) 16).1, (tRd (b.drop (1 + (tRd (b.drop 1) 16).2.1).toNat) 32).1) (1 + (tRd (b.drop 1) 16).2.1 + (tRd (b.drop (1 + (tRd (b.drop 1) 16).2.1).toNat) 32).2.1)
  else opEnd (false, (tRd (b.drop 1) 16).1, []) (1 + (tRd (b.drop 1) 16).2.1)
theorem opRd_nil (h : (b.length : Int) = 0) : opRd b = ((false, [], []), 0, 5) := if_pos (.inl (by omega))
theorem opRd_kind (hx : b[0]? = some x) (h : (1 : Int) < x.toNat) : opRd b = ((false, [], []), 0, 5) := if_pos (.inr (.inl (by rw [hx]; simp only [Option.getD_some]; omega)))
theorem opRd_key (hk : (tRd (b.drop 1) 16).2.2 = false) : opRd b = ((false, [], []), 0, 5) := if_pos (.inr (.inr hk))
theorem opRd_go (h0 : ¬ (b.length : Int) = 0) (hx : b[0]? = some x) (h1 : ¬ (1 : Int) < x.toNat) (hk : (tRd (b.drop 1) 16).2.2 = true) : ¬ (b.length = 0 ∨ 1 < (b[0]?.getD 0).toNat ∨ (tRd (b.drop 1) 16).2.2 = false) := by
  rw [hx, hk]; simp only [Option.getD_some]; intro q
  rcases q with q | q | q
  · omega
  · omega
  · cases q
theorem opRd_val (h0 : ¬ (b.length : Int) = 0) (hx : b[0]? = some x) (h1 : ¬ (1 : Int) < x.toNat) (hk : (tRd (b.drop 1) 16).2.2 = true) (h2 : (x.toNat : Int) = 1)
    (hv : (tRd (b.drop (1 + (tRd (b.drop 1) 16).2.1).toNat) 32).2.2 = false) : opRd b = ((false, [], []), 0, 5) := by
  unfold opRd; rw [if_neg (opRd_go h0 hx h1 hk), if_pos (by rw [hx]; simp only [Option.getD_some]; omega), if_pos hv]
theorem opRd_put (h0 : ¬ (b.length : Int) = 0) (hx : b[0]? = some x) (h1 : ¬ (1 : Int) < x.toNat) (hk : (tRd (b.drop 1) 16).2.2 = true) (h2 : (x.toNat : Int) = 1)
    (hv : (tRd (b.drop (1 + (tRd (b.drop 1) 16).2.1).toNat) 32).2.2 = true) : opRd b = opEnd (decide ((x.toNat : Int) = 1), (tRd (b.drop 1) 16).1, (tRd (b.drop (1 + (tRd (b.drop 1) 16).2.1).toNat) 32).1) (1 + (tRd (b.drop 1) 16).2.1 + (tRd (b.drop (1 + (tRd (b.drop 1) 16).2.1).toNat) 32).2.1) := by
  rw [decide_eq_true h2]; unfold opRd; rw [if_neg (opRd_go h0 hx h1 hk), if_pos (by rw [hx]; simp only [Option.getD_some]; omega), if_neg (by rw [hv]; decide)]
theorem opRd_del (h0 : ¬ (b.length : Int) = 0) (hx : b[0]? = some x) (h1 : ¬ (1 : Int) < x.toNat) (hk : (tRd (b.drop 1) 16).2.2 = true) (h2 : ¬ (x.toNat : Int) = 1) : opRd b = opEnd (decide ((x.toNat : Int) = 1), (tRd (b.drop 1) 16).1, []) (1 + (tRd (b.drop 1) 16).2.1) := by
  rw [decide_eq_false h2]; unfold opRd; rw [if_neg (opRd_go h0 hx h1 hk), if_neg (by rw [hx]; simp only [Option.getD_some]; omega)]
theorem opEnd_bad {o : DOp} {n : Int} (h : ¬ opCheck o = 0) : opEnd o n = ((false, [], []), 0, 5) := if_neg h
theorem opEnd_good {o : DOp} {n : Int} (h : ¬ ¬ opCheck o = 0) : opEnd o n = (o, n, 0) := if_pos (Decidable.not_not.1 h)
theorem opEnd_cases (o : DOp) (n : Int) : (opEnd o n = (o, n, 0) ∧ opOk o) ∨ opEnd o n = ((false, [], []), 0, 5) := by
  unfold opEnd; split
  · rename_i h; exact .inl ⟨rfl, opOk_of h⟩
  · exact .inr rfl
theorem opRd_cases (b : Bytes) : (opOk (opRd b).1 ∧ (opRd b).2.2 = 0 ∧ 1 ≤ (opRd b).2.1 ∧ (opRd b).2.1 ≤ b.length) ∨ opRd b = ((false, [], []), 0, 5) := by
  have f1 := tRd_fits (b.drop 1) (m := 16) (by omega) (by omega)
  have f2 := tRd_fits (b.drop (1 + (tRd (b.drop 1) 16).2.1).toNat) (m := 32) (by omega) (by omega)
  rw [List.length_drop] at f1 f2
  unfold opRd; split
  · exact .inr rfl
  · rename_i h
    split
    · split
      · exact .inr rfl
      · rename_i h2 h3
        rcases opEnd_cases (true, (tRd (b.drop 1) 16).1, (tRd (b.drop (1 + (tRd (b.drop 1) 16).2.1).toNat) 32).1) (1 + (tRd (b.drop 1) 16).2.1 + (tRd (b.drop (1 + (tRd (b.drop 1) 16).2.1).toNat) 32).2.1) with ⟨e, ho⟩ | e
        · rw [e]; exact .inl ⟨ho, rfl, by dsimp only; omega, by dsimp only; omega⟩
        · exact .inr e
    · rcases opEnd_cases (false, (tRd (b.drop 1) 16).1, []) (1 + (tRd (b.drop 1) 16).2.1) with ⟨e, ho⟩ | e
      · rw [e]; exact .inl ⟨ho, rfl, by dsimp only; omega, by dsimp only; omega⟩
      · exact .inr e
theorem opRd_fits (b : Bytes) : (opRd b).1.2.1.length ≤ 16 ∧ (opRd b).1.2.2.length ≤ 32 ∧ 0 ≤ (opRd b).2.1 ∧ (opRd b).2.1 ≤ b.length ∧ ((opRd b).2.2 = 0 ∨ (opRd b).2.2 = 5) := by
  rcases opRd_cases b with ⟨h1, h2, h3, h4⟩ | h
  · exact ⟨h1.2.1, h1.2.2.1, by omega, h4, .inl h2⟩
  · rw [h]; exact ⟨Nat.zero_le _, Nat.zero_le _, Int.le_refl _, by simp, .inr rfl⟩
end
def opsUp (l : List DOp) : Prop := (∀ o ∈ l, opCheck o = 0) ∧ l.Pairwise fun a b => kl a.2.1 b.2.1
instance (l : List DOp) : Decidable (opsUp l) := by unfold opsUp; infer_instance
section
variable {l : List DOp} {k : Nat} {x p : DOp}
theorem ups_nil : opsUp [] := ⟨(fun _ h => by cases h), List.Pairwise.nil⟩
theorem ups_snoc (h : opsUp l) (hc : opCheck x = 0) (hp : ∀ p, l.getLast? = some p → kl p.2.1 x.2.1) : opsUp (l ++ [x]) := by
  refine ⟨fun o ho => ?_, List.pairwise_append.2 ⟨h.2, List.pairwise_singleton _ _, fun a ha b hb => ?_⟩⟩
  · rcases List.mem_append.1 ho with ho | ho
    · exact h.1 o ho
    · rw [List.mem_singleton.1 ho]; exact hc
  · rw [List.mem_singleton.1 hb]
    rcases List.eq_nil_or_concat l with rfl | ⟨l', q, rfl⟩
    · cases ha
    · rw [List.concat_eq_append] at *
      have hq := hp q (by simp)
      rcases List.mem_append.1 ha with ha | ha
      · exact kl_trans ((List.pairwise_append.1 h.2).2.2 a ha q (.head _)) hq
      · rw [List.mem_singleton.1 ha]; exact hq
theorem ups_next (h : opsUp (l.take k)) (hx : l[k]? = some x) (hc : ¬ ¬ opCheck x = 0) (hp : (k : Int) ≤ 0 ∨ ∃ p, l[((k : Int) - 1).toNat]? = some p ∧ ¬ ¬ kl p.2.1 x.2.1) : opsUp (l.take (k + 1)) := by
  rw [take_one hx]
  refine ups_snoc h (Decidable.not_not.1 hc) fun q hq => ?_
  rcases hp with hp | ⟨p, hp, hk⟩
  · rw [show k = 0 by omega] at hq; cases hq
  · have hkl := (List.getElem?_eq_some_iff.1 hx).1
    have : k ≠ 0 := fun e => by subst e; cases hq
    rw [List.getLast?_eq_getElem?, List.length_take, Nat.min_eq_left (by omega), List.getElem?_take_of_lt (by omega), show k - 1 = ((k : Int) - 1).toNat by omega, hp] at hq
    cases hq; exact Decidable.not_not.1 hk
theorem ups_bad1 (hx : l[k]? = some x) (hc : ¬ opCheck x = 0) : ¬ opsUp l := fun h => hc (h.1 x (List.mem_of_getElem? hx))
theorem ups_bad2 (hx : l[k]? = some x) (h0 : (0 : Int) < k) (hp : l[((k : Int) - 1).toNat]? = some p) (hk : ¬ kl p.2.1 x.2.1) : ¬ opsUp l := fun h => by
  obtain ⟨h1, e1⟩ := List.getElem?_eq_some_iff.1 hp
  obtain ⟨h2, e2⟩ := List.getElem?_eq_some_iff.1 hx
  have := List.pairwise_iff_getElem.1 h.2 _ _ h1 h2 (by omega)
  rw [e1, e2] at this
  exact hk this
end
def runCheck (r : DRun) : Int := if 1024 < r.2.2.length then 3 else if r.1 < 1 ∨ r.2.1 < r.1 ∨ 1048576 < r.2.1 then 2 else if opsUp r.2.2 then 0 else 2
def runBody (r : DRun) : Bytes := venc r.1.toNat ++ (venc r.2.1.toNat ++ (venc r.2.2.length ++ (r.2.2.map opEnc).flatten))
def runEncode (r : DRun) : Bytes × Int := if runCheck r = 0 then (runBody r, 0) else ([], runCheck r)
def rdOps : Nat → Bytes → Option (List DOp × Bytes)
  | 0, b => some ([], b)
  | n + 1, b => if (opRd b).2.2 = 0 then (rdOps n (b.drop (opRd b).2.1.toNat)).map fun q => ((opRd b).1 :: q.1, q.2) else none
abbrev bMx : Int := 1048576
def runDec3 (x y : Nat) (b : Bytes) : DRun × Int := match rdOps (sX b 1024) (b.drop (sN b 1024)) with
  | some (l, []) => if runCheck ((x : Int), (y : Int), l) = 0 then (((x : Int), (y : Int), l), 0) else ((0, 0, []), 5)
  | _ => ((0, 0, []), 5)
def runDecode (b : Bytes) : DRun × Int :=
  if sE b bMx = 0 ∧ sE (b.drop (sN b bMx)) bMx = 0 ∧ sE ((b.drop (sN b bMx)).drop (sN (b.drop (sN b bMx)) bMx)) 1024 = 0 then runDec3 (sX b bMx) (sX (b.drop (sN b bMx)) bMx) ((b.drop (sN b bMx)).drop (sN (b.drop (sN b bMx)) bMx)) else ((0, 0, []), 5)
section
variable {r : DRun} {b : Bytes}
theorem runCheck_long (h : (1024 : Int) < r.2.2.length) : runCheck r = 3 := if_pos (by omega)
theorem runCheck_arg (h : ¬ (1024 : Int) < r.2.2.length) (h2 : r.1 < 1 ∨ r.2.1 < r.1 ∨ 1048576 < r.2.1) : runCheck r = 2 := by unfold runCheck; rw [if_neg (by omega), if_pos h2]
theorem runCheck_ops (h : ¬ (1024 : Int) < r.2.2.length) (h2 : ¬ opsUp r.2.2) : runCheck r = 2 := by unfold runCheck; rw [if_neg (by omega)]; split <;> first | rfl | rw [if_neg h2]
theorem runCheck_good (h : ¬ (1024 : Int) < r.2.2.length) (h2 : ¬ (r.1 < 1 ∨ r.2.1 < r.1 ∨ 1048576 < r.2.1)) (h3 : opsUp r.2.2) : runCheck r = 0 := by unfold runCheck; rw [if_neg (by omega), if_neg h2, if_pos h3]
theorem runCheck_ok (h : runCheck r = 0) : r.2.2.length ≤ 1024 ∧ 1 ≤ r.1 ∧ r.1 ≤ r.2.1 ∧ r.2.1 ≤ 1048576 ∧ opsUp r.2.2 := by
  unfold runCheck at h
  split at h
  · cases h
  · split at h
    · cases h
    · split at h
      · rename_i h1 h2 h3; exact ⟨by omega, by omega, by omega, by omega, h3⟩
      · cases h
theorem runCheck_or (r : DRun) : ¬ runCheck r = 0 ∨ (1 ≤ r.1 ∧ r.1 ≤ r.2.1 ∧ r.2.1 ≤ 1048576 ∧ r.2.2.length ≤ 1024) := by
  by_cases h : runCheck r = 0
  · have := runCheck_ok h; exact .inr ⟨by omega, by omega, by omega, by omega⟩
  · exact .inl h
theorem runCheck_range (r : DRun) : 0 ≤ runCheck r ∧ runCheck r ≤ 3 := by
  unfold runCheck; split
  · omega
  · split
    · omega
    · split <;> omega
theorem venc_short {x : Nat} (h : x < 18446744073709551616) : (venc x).length ≤ 10 := venc_len h
theorem encs_len : ∀ {l : List DOp}, (∀ o ∈ l, opCheck o = 0) → (l.map opEnc).flatten.length ≤ 60 * l.length
  | [], _ => Nat.le_refl _
  | o :: l, h => by
    have h1 := opEnc_len (opOk_of (h o (.head _)))
    have h2 := encs_len (l := l) fun x hx => h x (.tail _ hx)
    simp only [List.map_cons, List.flatten_cons, List.length_append, List.length_cons]; omega
theorem runBody_len (h : runCheck r = 0) : (runBody r).length ≤ 61500 := by
  obtain ⟨h1, h2, h3, h4, h5⟩ := runCheck_ok h
  have := encs_len h5.1
  have a := venc_short (x := r.1.toNat) (by omega); have c := venc_short (x := r.2.1.toNat) (by omega); have d := venc_short (x := r.2.2.length) (by omega)
  unfold runBody; simp only [List.length_append]; omega
theorem runEncode_len (r : DRun) : (runEncode r).1.length ≤ 61500 ∧ 0 ≤ (runEncode r).2 ∧ (runEncode r).2 ≤ 3 := by
  have := runCheck_range r
  unfold runEncode; split
  · rename_i h; exact ⟨runBody_len h, Int.le_refl _, by dsimp only; omega⟩
  · exact ⟨by simp, this.1, this.2⟩
theorem runEnc_bad (h : ¬ runCheck r = 0) : runEncode r = ([], runCheck r) := if_neg h
theorem runEnc_good (h : ¬ ¬ runCheck r = 0) : runEncode r = (runBody r, 0) := if_pos (Decidable.not_not.1 h)
/-- the op that is put next. -/
theorem encs_next {l : List DOp} {k : Nat} {x : DOp} {b : Bytes} (hx : l[k]? = some x) (hc : opCheck x = 0) : (opAppend (b ++ ((l.take k).map opEnc).flatten) x).1 = b ++ ((l.take (k + 1)).map opEnc).flatten := by
  unfold opAppend; rw [if_pos (opOk_of hc), take_one hx]; simp
end
abbrev dB1 (b : Bytes) : Bytes := b.drop (sN b bMx)
abbrev dB2 (b : Bytes) : Bytes := (dB1 b).drop (sN (dB1 b) bMx)
abbrev dB3 (b : Bytes) : Bytes := (dB2 b).drop (sN (dB2 b) 1024)
section
variable {b c B : Bytes} {l : List DOp} {j N : Nat}
theorem runDec_1 (h : ¬ sE b bMx = 0) : runDecode b = ((0, 0, []), 5) := if_neg fun q => h q.1
theorem runDec_2 (h : ¬ sE (dB1 b) bMx = 0) : runDecode b = ((0, 0, []), 5) := if_neg fun q => h q.2.1
theorem runDec_3 (h : ¬ sE (dB2 b) 1024 = 0) : runDecode b = ((0, 0, []), 5) := if_neg fun q => h q.2.2
theorem runDec_go (h1 : ¬ ¬ sE b bMx = 0) (h2 : ¬ ¬ sE (dB1 b) bMx = 0) (h3 : ¬ ¬ sE (dB2 b) 1024 = 0) : runDecode b = runDec3 (sX b bMx) (sX (dB1 b) bMx) (dB2 b) :=
  if_pos ⟨Decidable.not_not.1 h1, Decidable.not_not.1 h2, Decidable.not_not.1 h3⟩
theorem rdOps_0 (N : Nat) (B : Bytes) : rdOps N B = (rdOps (N - 0) B).map fun q => (([] : List DOp) ++ q.1, q.2) := by
  rw [Nat.sub_zero]; cases rdOps N B <;> rfl
theorem rdOps_next (hl : rdOps N B = (rdOps (N - j) c).map fun q => (l ++ q.1, q.2)) (hj : j < N) (h : ¬ ¬ (opRd c).2.2 = 0) : rdOps N B = (rdOps (N - (j + 1)) (c.drop (opRd c).2.1.toNat)).map fun q => ((l ++ [(opRd c).1]) ++ q.1, q.2) := by
  obtain ⟨n, e⟩ : ∃ n, N - j = n + 1 := ⟨N - j - 1, by omega⟩
  rw [hl, e, rdOps, if_pos (Decidable.not_not.1 h), show N - (j + 1) = n by omega]
  cases rdOps n (c.drop (opRd c).2.1.toNat) with
  | none => rfl
  | some q => simp
theorem rdOps_bad (hl : rdOps N B = (rdOps (N - j) c).map fun q => (l ++ q.1, q.2)) (hj : j < N) (h : ¬ (opRd c).2.2 = 0) : rdOps N B = none := by
  obtain ⟨n, e⟩ : ∃ n, N - j = n + 1 := ⟨N - j - 1, by omega⟩
  rw [hl, e, rdOps, if_neg h]; rfl
theorem rdOps_all (hl : rdOps N B = (rdOps (N - j) c).map fun q => (l ++ q.1, q.2)) (hj : ¬ (j : Int) < (N : Nat)) : rdOps N B = some (l, c) := by
  rw [hl, show N - j = 0 by omega, rdOps]; simp
theorem runDec_op (h1 : ¬ ¬ sE b bMx = 0) (h2 : ¬ ¬ sE (dB1 b) bMx = 0) (h3 : ¬ ¬ sE (dB2 b) 1024 = 0) (hl : rdOps (sX (dB2 b) 1024) (dB3 b) = (rdOps (sX (dB2 b) 1024 - j) c).map fun q => (l ++ q.1, q.2)) (hj : (j : Int) < ((sX (dB2 b) 1024 : Nat) : Int)) (h : ¬ (opRd c).2.2 = 0) :
    runDecode b = ((0, 0, []), 5) := by
  rw [runDec_go h1 h2 h3]; unfold runDec3; rw [rdOps_bad hl (by omega) h]
theorem runDec_rest (h1 : ¬ ¬ sE b bMx = 0) (h2 : ¬ ¬ sE (dB1 b) bMx = 0) (h3 : ¬ ¬ sE (dB2 b) 1024 = 0) (hl : rdOps (sX (dB2 b) 1024) (dB3 b) = (rdOps (sX (dB2 b) 1024 - j) c).map fun q => (l ++ q.1, q.2)) (hj : ¬ (j : Int) < ((sX (dB2 b) 1024 : Nat) : Int)) (h : (0 : Int) < c.length) :
    runDecode b = ((0, 0, []), 5) := by
  rw [runDec_go h1 h2 h3]; unfold runDec3; rw [rdOps_all hl hj]
  cases c with
  | nil => simp at h
  | cons x c => rfl
theorem runDec_chk (h1 : ¬ ¬ sE b bMx = 0) (h2 : ¬ ¬ sE (dB1 b) bMx = 0) (h3 : ¬ ¬ sE (dB2 b) 1024 = 0) (hl : rdOps (sX (dB2 b) 1024) (dB3 b) = (rdOps (sX (dB2 b) 1024 - j) c).map fun q => (l ++ q.1, q.2)) (hj : ¬ (j : Int) < ((sX (dB2 b) 1024 : Nat) : Int)) (h : ¬ (0 : Int) < c.length)
    (hc : ¬ runCheck ((sX b bMx : Int), (sX (dB1 b) bMx : Int), l) = 0) : runDecode b = ((0, 0, []), 5) := by
  rw [runDec_go h1 h2 h3]; unfold runDec3; rw [rdOps_all hl hj, List.eq_nil_of_length_eq_zero (show c.length = 0 by omega)]
  exact if_neg hc
theorem runDec_good (h1 : ¬ ¬ sE b bMx = 0) (h2 : ¬ ¬ sE (dB1 b) bMx = 0) (h3 : ¬ ¬ sE (dB2 b) 1024 = 0) (hl : rdOps (sX (dB2 b) 1024) (dB3 b) = (rdOps (sX (dB2 b) 1024 - j) c).map fun q => (l ++ q.1, q.2)) (hj : ¬ (j : Int) < ((sX (dB2 b) 1024 : Nat) : Int)) (h : ¬ (0 : Int) < c.length)
    (hc : ¬ ¬ runCheck ((sX b bMx : Int), (sX (dB1 b) bMx : Int), l) = 0) : runDecode b = (((sX b bMx : Int), (sX (dB1 b) bMx : Int), l), 0) := by
  rw [runDec_go h1 h2 h3]; unfold runDec3; rw [rdOps_all hl hj, List.eq_nil_of_length_eq_zero (show c.length = 0 by omega)]
  exact if_pos (Decidable.not_not.1 hc)
theorem runDec_cases (b : Bytes) : ((runDecode b).2 = 0 ∧ runCheck (runDecode b).1 = 0) ∨ runDecode b = ((0, 0, []), 5) := by
  unfold runDecode; split
  · unfold runDec3; split
    · split
      · rename_i h; exact .inl ⟨rfl, h⟩
      · exact .inr rfl
    · exact .inr rfl
  · exact .inr rfl
theorem runDecode_fits (b : Bytes) : ((runDecode b).2 = 0 ∨ (runDecode b).2 = 5) ∧ (runDecode b).1.2.2.length ≤ 1024 ∧ 0 ≤ (runDecode b).1.1 ∧ (runDecode b).1.1 ≤ 1048576 ∧ 0 ≤ (runDecode b).1.2.1 ∧ (runDecode b).1.2.1 ≤ 1048576 := by
  rcases runDec_cases b with ⟨h1, h2⟩ | h
  · have := runCheck_ok h2
    exact ⟨.inl h1, by omega, by omega, by omega, by omega, by omega⟩
  · rw [h]; exact ⟨.inr rfl, Nat.zero_le _, Int.le_refl _, by decide, Int.le_refl _, by decide⟩
theorem runDec_zero (h : (runDecode b).2 = 0) : runCheck (runDecode b).1 = 0 := by
  rcases runDec_cases b with ⟨h1, h2⟩ | h'
  · exact h2
  · rw [h'] at h; cases h
end
theorem fnOk158 : fnOk Tryz.prog 158 = true := by kernel_rfl
theorem fnOk134 : fnOk Tryz.prog 134 = true := by kernel_rfl
theorem opText_ok (W : World) {v0 : Value} {d0 : List UInt8} (h0 : Rd (.sl .byte) (wm W) [v0] d0) (d1 : Int) (h1 : inK .i64 d1) (e0 : 0 ≤ d1 ∧ d1 ≤ 1000) : CallR Tryz.prog 158 [v0, .int .i64 d1] W (mnil) (fun v m' => v = .tuple #[str ((tRd d0 d1).1), .int .i64 ((tRd d0 d1).2.1), .bool ((tRd d0 d1).2.2)]) := by
  obtain ⟨A0, c0, rfl, l0, k0⟩ := h0.slice
  simp only [maxLen] at k0
  have h1' := h1; simp only [inK] at h1'
  refine CallR.ofA (n := 37) Tryz.func158 rfl rfl rfl ?_
  refine VC.rs ?_
  refine VO.as ?_
  refine VO.as ?_
  refine VO.as ?_
  refine VO.k5 0 1 4 5 6 ?_
  refine VC.rs ?_
  refine VO.mv ?_
  refine VO.mv ?_
  refine VO.callN 101 rfl fnOk134 rfl (fun W hW => vSmall_ok W (Rd.mono h0 (hW.at (i := 0) rfl)) d1 bdk) (fun v1 m1 hv1 => ?_)
  subst hv1
  have hfa2 := s_bounds d0 d1 (by omega)
  refine VO.mv ?_
  refine VO.y rfl (.ext rfl rfl) ?_
  refine VO.y rfl (.ext rfl rfl) ?_
  refine VO.y rfl (.ext rfl rfl) ?_
  refine VO.as ?_
  refine VO.as ?_
  refine VO.as ?_
  refine VO.k8 0 1 4 5 6 7 8 9 ?_
  refine VC.seq ?_
  refine VC.rs ?_
  refine VO.mv ?_
  refine VO.y rfl (.neq rfl rfl) ?_
  refine VO.mv ?_
  refine VO.dec (t := 19) rfl (fun hc3 => ?_) (fun hc3 => ?_)
  · -- T
    refine VO.gN ?_
    refine VO.gN ?_
    refine VO.gN ?_
    refine VO.gN ?_
    refine VO.gN ?_
    refine VO.gN ?_
    refine VO.y rfl (.pT rfl rfl) ?_
    refine VO.kp [0] [(0, wm W)] ?_
    refine VO.k9 0 1 4 5 6 7 8 9 26 ?_
    refine VC.condT rfl ?_
    refine VC.rs ?_
    refine VO.as ?_
    refine VO.as ?_
    refine VO.as ?_
    refine VO.k9 0 1 4 5 6 7 8 9 26 ?_
    refine VC.ret ?_
    refine outR ?_
    refine ⟨_, _, res_run (rs := [.tmp 4, .tmp 5, .tmp 6]) rfl (.tmp rfl (.tmp rfl (.tmp rfl .nil))), fun W_ hI => out_of (l := []) hI [] rfl rfl (mle_refl _) (fun hS_ => ?_)⟩
    dsimp only [packV]
    all_goals (first | rfl | (first | (rw [tRd_no1 (by assumption)] <;> first | rfl | done) | (rw [tRd_no2 (by omega)] <;> first | rfl | done) | (rw [tRd_yes (by assumption) (by omega)] <;> first | rfl | done)))
  · -- F
    refine VO.gy rfl ⟨_, rfl, rfl⟩ (.mv rfl) ?_
    refine VO.gy rfl ⟨_, rfl, rfl⟩ (.lenS rfl tsl97) ?_
    refine VO.gy rfl ⟨_, rfl, rfl⟩ (.mv rfl) ?_
    refine VO.gy rfl ⟨_, rfl, rfl⟩ (.mv rfl) ?_
    refine VO.gy rfl ⟨_, rfl, rfl⟩ (.add (c := ((sN d0 d1 + (sX d0 d1) : Nat) : Int)) rfl rfl (by omega) ⟨bd, bd⟩) ?_
    refine VO.gy rfl ⟨_, rfl, rfl⟩ (.lss rfl rfl) ?_
    refine VO.y rfl (.pF rfl rfl) ?_
    refine VO.kp [0] [(0, wm W)] ?_
    refine VO.k9 0 1 4 5 6 7 8 9 26 ?_
    refine VC.cond rfl (fun hc4 => ?_) (fun hc4 => ?_)
    · -- FT
      refine VC.rs ?_
      refine VO.as ?_
      refine VO.as ?_
      refine VO.as ?_
      refine VO.k9 0 1 4 5 6 7 8 9 26 ?_
      refine VC.ret ?_
      refine outR ?_
      refine ⟨_, _, res_run (rs := [.tmp 4, .tmp 5, .tmp 6]) rfl (.tmp rfl (.tmp rfl (.tmp rfl .nil))), fun W_ hI => out_of (l := []) hI [] rfl rfl (mle_refl _) (fun hS_ => ?_)⟩
      dsimp only [packV]
      all_goals (first | rfl | (first | (rw [tRd_no1 (by assumption)] <;> first | rfl | done) | (rw [tRd_no2 (by omega)] <;> first | rfl | done) | (rw [tRd_yes (by assumption) (by omega)] <;> first | rfl | done)))
    · -- FF
      refine VC.skip ?_
      refine outN ?_
      refine VC.rs ?_
      refine VO.mv ?_
      refine VO.mv ?_
      refine VO.mv ?_
      refine VO.mv ?_
      refine VO.y rfl (.add (c := ((sN d0 d1 + (sX d0 d1) : Nat) : Int)) rfl rfl (by omega) ⟨bd, bd⟩) ?_
      obtain ⟨A5, hA5, hs5⟩ := h0.sub' 1 (sN d0 d1) (sN d0 d1 + (sX d0 d1)) rfl bd bd
      refine VO.y rfl (.slI (sN d0 d1) (sN d0 d1 + (sX d0 d1)) A5 rfl rfl rfl tsl97 rfl rfl hA5 bd bd) ?_
      refine VO.y rfl (.b2s 0 rfl Tryz.underlying97 Tryz.underlying9 Tryz.underlying5 rfl hs5) ?_
      refine VO.mv ?_
      refine VO.mv ?_
      refine VO.y rfl (.add (c := ((sN d0 d1 + (sX d0 d1) : Nat) : Int)) rfl rfl (by omega) ⟨bd, bd⟩) ?_
      refine VO.as ?_
      refine VO.as ?_
      refine VO.as ?_
      refine VO.k9 0 1 4 5 6 7 8 9 26 ?_
      refine VC.ret ?_
      refine ⟨_, _, res_run (rs := [.tmp 4, .tmp 5, .tmp 6]) rfl (.tmp rfl (.tmp rfl (.tmp rfl .nil))), fun W_ hI => out_of (l := []) hI [] rfl rfl (mle_refl _) (fun hS_ => ?_)⟩
      dsimp only [packV]
      all_goals (first | rfl | (first | (rw [tRd_no1 (by assumption)] <;> first | rfl | done) | (rw [tRd_no2 (by omega)] <;> first | rfl | done) | (rw [tRd_yes (by assumption) (by omega)] <;> first | rfl | done)))
theorem fin0_opRead_ok {P : Prop} (h : P := by first | (rw [opRd_nil (by assumption)] <;> first | rfl | done) | (rw [opRd_kind ‹d0[0]? = some _› (by omega)] <;> first | rfl | done) | (rw [opRd_key (by assumption)] <;> first | rfl | done) | (rw [opRd_val (by assumption) ‹d0[0]? = some _› (by omega) (by assumption) (by omega) (by assumption)] <;> first | rfl | done) | (rw [opRd_put (by assumption) ‹d0[0]? = some _› (by omega) (by assumption) (by omega) (by assumption), opEnd_bad (by assumption)] <;> first | rfl | done) | (rw [opRd_put (by assumption) ‹d0[0]? = some _› (by omega) (by assumption) (by omega) (by assumption), opEnd_good (by assumption)] <;> first | rfl | done) | (rw [opRd_del (by assumption) ‹d0[0]? = some _› (by omega) (by assumption) (by omega), opEnd_bad (by assumption)] <;> first | rfl | done) | (rw [opRd_del (by assumption) ‹d0[0]? = some _› (by omega) (by assumption) (by omega), opEnd_good (by assumption)] <;> first | rfl | done)) : P := h
theorem opRead_ok (W : World) {v0 : Value} {d0 : List UInt8} (h0 : Rd (.sl .byte) (wm W) [v0] d0) : CallR Tryz.prog 135 [v0] W (mnil) (fun v m' => ∃ (s0 : List Value), v = .tuple #[.agg s0.toArray, .int .i64 ((opRd d0).2.1), .int .i64 ((opRd d0).2.2)] ∧ Ow TOp m' s0 ((opRd d0).1)) := by
  obtain ⟨A0, c0, rfl, l0, k0⟩ := h0.slice
  simp only [maxLen] at k0
  refine CallR.ofA (n := 65) Tryz.func135 rfl rfl rfl ?_
  refine VC.rs ?_
  refine VO.alloc 102 rfl tz64 (fun g1 => ?_)
  refine VO.as ?_
  refine VO.as ?_
  refine VO.k4 0 2 3 4 ?_
  refine VC.seq ?_
  refine VC.rs ?_
  refine VO.mv ?_
  refine VO.y rfl (.lenS rfl tsl97) ?_
  refine VO.y rfl (.eql rfl rfl) ?_
  refine VO.mv ?_
  refine VO.dec (t := 15) rfl (fun hc3 => ?_) (fun hc3 => ?_)
  · -- T
    refine VO.gN ?_
    refine VO.gN ?_
    refine VO.gN ?_
    refine VO.gN ?_
    refine VO.y rfl (.pT rfl rfl) ?_
    refine VO.k5 0 2 3 4 20 ?_
    refine VC.condT rfl ?_
    refine VC.rs ?_
    refine VO.y rfl (.bst (cs := [Value.bool false, str ([]), str ([])]) rfl tst64 tz64 rfl) ?_
    refine VO.store (k := 3) (c' := [Value.bool false, str ([]), str ([])]) 102 rfl rfl (.inl tk64) rfl rfl rfl rfl rfl ?_
    refine VO.as ?_
    refine VO.as ?_
    refine VO.kp [102, 0] [(102, mone g1 (.cells [Value.bool false, str ([]), str ([])].toArray 64 (0, 0))), (0, wm W)] ?_
    refine VO.k5 0 2 3 4 20 ?_
    refine VC.ret ?_
    refine outR ?_
    refine ⟨_, _, res_run (rs := [.cell 2 64, .tmp 3, .tmp 4]) rfl (.agg 102 rfl tk64 rfl ⟨_, _, _, mone_self _ _, Nat.le_of_ble_eq_true rfl, rfl⟩ (.tmp rfl (.tmp rfl .nil))), fun W_ hI => out_of (l := []) hI [] rfl rfl (mle_refl _) (fun hS_ => ?_)⟩
    dsimp only [packV]
    have he0 : ((opRd d0).1 : Ty.Den TOp) = (false, [], []) := by first | rfl | (exact fin0_opRead_ok)
    refine ⟨[Value.bool false, str ([]), str ([])], ?_, ?_⟩
    rotate_left
    · rw [he0]; exact (Ow.of (m := mnil) rfl (mk_Op (m := _) false [] [] bdm bdm))
    all_goals (first | rfl | (exact fin0_opRead_ok))
  · -- F
    refine VO.gy rfl ⟨_, rfl, rfl⟩ (.mv rfl) ?_
    obtain ⟨x4, hx4⟩ : ∃ z_, (d0)[0]? = some z_ := ⟨_, List.getElem?_eq_getElem bd⟩
    obtain ⟨gg4, oo4, ec4, ea4, hce4, hre4⟩ := h0.elem hx4
    cases ea4
    obtain rfl := (show _ = _ from hre4)
    have xb4 := x4.toNat_lt
    refine VO.gy rfl ⟨_, rfl, rfl⟩ (.ixI 0 rfl rfl tsl97 rfl bd) ?_
    refine VO.gy rfl ⟨_, rfl, rfl⟩ (.ld1 0 rfl tk5 rfl hce4) ?_
    refine VO.gy rfl ⟨_, rfl, rfl⟩ (.gtr rfl rfl) ?_
    refine VO.y rfl (.pF rfl rfl) ?_
    refine VO.k5 0 2 3 4 20 ?_
    refine VC.cond rfl (fun hc5 => ?_) (fun hc5 => ?_)
    · -- FT
      refine VC.rs ?_
      refine VO.y rfl (.bst (cs := [Value.bool false, str ([]), str ([])]) rfl tst64 tz64 rfl) ?_
      refine VO.store (k := 3) (c' := [Value.bool false, str ([]), str ([])]) 102 rfl rfl (.inl tk64) rfl rfl rfl rfl rfl ?_
      refine VO.as ?_
      refine VO.as ?_
      refine VO.kp [102, 0] [(102, mone g1 (.cells [Value.bool false, str ([]), str ([])].toArray 64 (0, 0))), (0, wm W)] ?_
      refine VO.k5 0 2 3 4 20 ?_
      refine VC.ret ?_
      refine outR ?_
      refine ⟨_, _, res_run (rs := [.cell 2 64, .tmp 3, .tmp 4]) rfl (.agg 102 rfl tk64 rfl ⟨_, _, _, mone_self _ _, Nat.le_of_ble_eq_true rfl, rfl⟩ (.tmp rfl (.tmp rfl .nil))), fun W_ hI => out_of (l := []) hI [] rfl rfl (mle_refl _) (fun hS_ => ?_)⟩
      dsimp only [packV]
      have he0 : ((opRd d0).1 : Ty.Den TOp) = (false, [], []) := by first | rfl | (exact fin0_opRead_ok)
      refine ⟨[Value.bool false, str ([]), str ([])], ?_, ?_⟩
      rotate_left
      · rw [he0]; exact (Ow.of (m := mnil) rfl (mk_Op (m := _) false [] [] bdm bdm))
      all_goals (first | rfl | (exact fin0_opRead_ok))
    · -- FF
      refine VC.skip ?_
      refine outN ?_
      refine VC.rs ?_
      refine VO.mv ?_
      refine VO.y rfl (.ixI 0 rfl rfl tsl97 rfl bd) ?_
      refine VO.y rfl (.ld1 0 rfl tk5 rfl hce4) ?_
      refine VO.y rfl (.eql rfl rfl) ?_
      refine VO.y rfl (.bst (cs := [Value.bool (decide (((x4.toNat : Nat) : Int) = 1)), str ([]), str ([])]) rfl tst64 tz64 rfl) ?_
      refine VO.alloc 108 rfl tz64 (fun g7 => ?_)
      refine VO.store (k := 3) (c' := [Value.bool (decide (((x4.toNat : Nat) : Int) = 1)), str ([]), str ([])]) 108 rfl rfl (.inl tk64) rfl rfl rfl rfl rfl ?_
      refine VO.kp [108, 102, 0] [(108, mone g7 (.cells [Value.bool (decide (((x4.toNat : Nat) : Int) = 1)), str ([]), str ([])].toArray 64 (0, 0))), (102, mone g1 (.cells [Value.bool false, str ([]), str ([])].toArray 64 (0, 0))), (0, wm W)] ?_
      refine VO.k6 0 2 3 4 5 20 ?_
      refine VC.rs ?_
      refine VO.mv ?_
      obtain ⟨A9, hA9, hs9⟩ := h0.drop 1 1 rfl bd
      refine VO.y rfl (.slLI 1 A9 rfl rfl tsl97 rfl hA9 bd) ?_
      refine VO.callN 110 rfl fnOk158 rfl (fun W hW => opText_ok W (Rd.mono hs9 (hW.at (i := 0) rfl)) 16 bdk (by first | decide | omega)) (fun v10 m10 hv10 => ?_)
      subst hv10
      have hfa11 := tRd_fits (d0.drop 1) (m := 16) (by omega) (by omega)
      refine VO.mv ?_
      refine VO.y rfl (.ext rfl rfl) ?_
      refine VO.y rfl (.ext rfl rfl) ?_
      refine VO.y rfl (.ext rfl rfl) ?_
      refine VO.as ?_
      refine VO.as ?_
      refine VO.as ?_
      refine VO.k9 0 2 3 4 5 6 7 8 20 ?_
      refine VC.seq ?_
      refine VC.rs ?_
      refine VO.mv ?_
      refine VO.y rfl (.not rfl) ?_
      refine VO.k10 0 2 3 4 5 6 7 8 20 35 ?_
      refine VC.condBN rfl (fun hc12 => ?_) (fun hc12 => ?_)
      · -- FFT
        refine VC.rs ?_
        refine VO.y rfl (.bst (cs := [Value.bool false, str ([]), str ([])]) rfl tst64 tz64 rfl) ?_
        refine VO.store (k := 3) (c' := [Value.bool false, str ([]), str ([])]) 102 rfl rfl (.inl tk64) rfl rfl rfl rfl rfl ?_
        refine VO.as ?_
        refine VO.as ?_
        refine VO.kp [108, 102, 0] [(108, mone g7 (.cells [Value.bool (decide (((x4.toNat : Nat) : Int) = 1)), str ([]), str ([])].toArray 64 (0, 0))), (102, mone g1 (.cells [Value.bool false, str ([]), str ([])].toArray 64 (0, 0))), (0, wm W)] ?_
        refine VO.k10 0 2 3 4 5 6 7 8 20 35 ?_
        refine VC.ret ?_
        refine outR ?_
        refine ⟨_, _, res_run (rs := [.cell 2 64, .tmp 3, .tmp 4]) rfl (.agg 102 rfl tk64 rfl ⟨_, _, _, mone_self _ _, Nat.le_of_ble_eq_true rfl, rfl⟩ (.tmp rfl (.tmp rfl .nil))), fun W_ hI => out_of (l := []) hI [] rfl rfl (mle_refl _) (fun hS_ => ?_)⟩
        dsimp only [packV]
        have he0 : ((opRd d0).1 : Ty.Den TOp) = (false, [], []) := by first | rfl | (exact fin0_opRead_ok)
        refine ⟨[Value.bool false, str ([]), str ([])], ?_, ?_⟩
        rotate_left
        · rw [he0]; exact (Ow.of (m := mnil) rfl (mk_Op (m := _) false [] [] bdm bdm))
        all_goals (first | rfl | (exact fin0_opRead_ok))
      · -- FFF
        refine VC.skip ?_
        refine outN ?_
        refine VC.rs ?_
        refine VO.mv ?_
        refine VO.mv ?_
        refine VO.y rfl (.add rfl rfl rfl ⟨bd, bd⟩) ?_
        refine VO.y rfl (.fa rfl tst64 rfl) ?_
        refine VO.store (k := 1) (c' := [Value.bool (decide (((x4.toNat : Nat) : Int) = 1)), str ((tRd (d0.drop 1) 16).1), str ([])]) 108 rfl rfl (.inr ⟨tk9, rfl⟩) rfl rfl rfl rfl rfl ?_
        refine VO.as ?_
        refine VO.kp [108, 102, 0] [(108, mone g7 (.cells [Value.bool (decide (((x4.toNat : Nat) : Int) = 1)), str ((tRd (d0.drop 1) 16).1), str ([])].toArray 64 (0, 0))), (102, mone g1 (.cells [Value.bool false, str ([]), str ([])].toArray 64 (0, 0))), (0, wm W)] ?_
        refine VO.k10 0 2 3 4 5 6 7 8 20 35 ?_
        refine VC.seq ?_
        refine VC.rs ?_
        refine VO.y rfl (.fa rfl tst64 rfl) ?_
        refine VO.y rfl (.ld1 108 rfl tk4 rfl (cellsAt_one rfl rfl)) ?_
        refine VO.k11 0 2 3 4 5 6 7 8 20 35 42 ?_
        refine VC.cond rfl (fun hc13 => ?_) (fun hc13 => ?_)
        · -- FFFT
          refine VC.rs ?_
          refine VO.mv ?_
          refine VO.mv ?_
          obtain ⟨A14, hA14, hs14⟩ := h0.drop 1 ((1 + ((tRd (d0.drop 1) 16).2.1)).toNat) rfl bd
          refine VO.y rfl (.slLI ((1 + ((tRd (d0.drop 1) 16).2.1)).toNat) A14 rfl rfl tsl97 bd hA14 bd) ?_
          refine VO.callN 115 rfl fnOk158 rfl (fun W hW => opText_ok W (Rd.mono hs14 (hW.at (i := 0) rfl)) 32 bdk (by first | decide | omega)) (fun v15 m15 hv15 => ?_)
          subst hv15
          have hfa16 := tRd_fits (d0.drop ((1 + ((tRd (d0.drop 1) 16).2.1)).toNat)) (m := 32) (by omega) (by omega)
          refine VO.mv ?_
          refine VO.y rfl (.ext rfl rfl) ?_
          refine VO.y rfl (.ext rfl rfl) ?_
          refine VO.y rfl (.ext rfl rfl) ?_
          refine VO.as ?_
          refine VO.as ?_
          refine VO.as ?_
          refine VO.k14 0 2 3 4 5 6 7 8 9 10 11 20 35 42 ?_
          refine VC.seq ?_
          refine VC.rs ?_
          refine VO.mv ?_
          refine VO.y rfl (.not rfl) ?_
          refine VO.kp [108, 102, 0] [(108, mone g7 (.cells [Value.bool (decide (((x4.toNat : Nat) : Int) = 1)), str ((tRd (d0.drop 1) 16).1), str ([])].toArray 64 (0, 0))), (102, mone g1 (.cells [Value.bool false, str ([]), str ([])].toArray 64 (0, 0))), (0, wm W)] ?_
          refine VO.k15 0 2 3 4 5 6 7 8 9 10 11 20 35 42 52 ?_
          refine VC.condBN rfl (fun hc17 => ?_) (fun hc17 => ?_)
          · -- FFFTT
            refine VC.rs ?_
            refine VO.y rfl (.bst (cs := [Value.bool false, str ([]), str ([])]) rfl tst64 tz64 rfl) ?_
            refine VO.store (k := 3) (c' := [Value.bool false, str ([]), str ([])]) 102 rfl rfl (.inl tk64) rfl rfl rfl rfl rfl ?_
            refine VO.as ?_
            refine VO.as ?_
            refine VO.k15 0 2 3 4 5 6 7 8 9 10 11 20 35 42 52 ?_
            refine VC.ret ?_
            refine outR ?_
            refine outR ?_
            refine ⟨_, _, res_run (rs := [.cell 2 64, .tmp 3, .tmp 4]) rfl (.agg 102 rfl tk64 rfl ⟨_, _, _, mone_self _ _, Nat.le_of_ble_eq_true rfl, rfl⟩ (.tmp rfl (.tmp rfl .nil))), fun W_ hI => out_of (l := []) hI [] rfl rfl (mle_refl _) (fun hS_ => ?_)⟩
            dsimp only [packV]
            have he0 : ((opRd d0).1 : Ty.Den TOp) = (false, [], []) := by first | rfl | (exact fin0_opRead_ok)
            refine ⟨[Value.bool false, str ([]), str ([])], ?_, ?_⟩
            rotate_left
            · rw [he0]; exact (Ow.of (m := mnil) rfl (mk_Op (m := _) false [] [] bdm bdm))
            all_goals (first | rfl | (exact fin0_opRead_ok))
          · -- FFFTF
            refine VC.skip ?_
            refine outN ?_
            refine VC.reg ?_
            refine VO.mv ?_
            refine VO.mv ?_
            refine VO.mv ?_
            refine VO.y rfl (.add rfl rfl rfl ⟨bd, bd⟩) ?_
            refine VO.y rfl (.fa rfl tst64 rfl) ?_
            refine VO.store (k := 1) (c' := [Value.bool (decide (((x4.toNat : Nat) : Int) = 1)), str ((tRd (d0.drop 1) 16).1), str ((tRd (d0.drop ((1 + ((tRd (d0.drop 1) 16).2.1)).toNat)) 32).1)]) 108 rfl rfl (.inr ⟨tk9, rfl⟩) rfl rfl rfl rfl rfl ?_
            refine VO.as ?_
            refine VO.k15 0 2 3 4 5 6 7 8 9 10 11 20 35 42 52 ?_
            refine outN ?_
            refine VC.seq ?_
            refine VC.rs ?_
            refine VO.y rfl (.ldA 108 rfl tk64 rfl (cellsAt_one rfl rfl)) ?_
            refine VO.callN 118 rfl fnOk57 rfl (fun W hW => opCheck_ok W (mk_Op (m := wm W) (decide (((x4.toNat : Nat) : Int) = 1)) ((tRd (d0.drop 1) 16).1) ((tRd (d0.drop ((1 + ((tRd (d0.drop 1) 16).2.1)).toNat)) 32).1) bdm bdm)) (fun v18 m18 hv18 => ?_)
            try dsimp only at hv18
            subst hv18
            refine VO.y rfl (.neq rfl rfl) ?_
            refine VO.k16 0 2 3 4 5 6 7 8 9 10 11 20 35 42 52 61 ?_
            refine VC.cond rfl (fun hc19 => ?_) (fun hc19 => ?_)
            · -- FFFTFT
              refine VC.rs ?_
              refine VO.y rfl (.bst (cs := [Value.bool false, str ([]), str ([])]) rfl tst64 tz64 rfl) ?_
              refine VO.store (k := 3) (c' := [Value.bool false, str ([]), str ([])]) 102 rfl rfl (.inl tk64) rfl rfl rfl rfl rfl ?_
              refine VO.as ?_
              refine VO.as ?_
              refine VO.kp [108, 102, 0] [(108, mone g7 (.cells [Value.bool (decide (((x4.toNat : Nat) : Int) = 1)), str ((tRd (d0.drop 1) 16).1), str ((tRd (d0.drop ((1 + ((tRd (d0.drop 1) 16).2.1)).toNat)) 32).1)].toArray 64 (0, 0))), (102, mone g1 (.cells [Value.bool false, str ([]), str ([])].toArray 64 (0, 0))), (0, wm W)] ?_
              refine VO.k16 0 2 3 4 5 6 7 8 9 10 11 20 35 42 52 61 ?_
              refine VC.ret ?_
              refine outR ?_
              refine ⟨_, _, res_run (rs := [.cell 2 64, .tmp 3, .tmp 4]) rfl (.agg 102 rfl tk64 rfl ⟨_, _, _, mone_self _ _, Nat.le_of_ble_eq_true rfl, rfl⟩ (.tmp rfl (.tmp rfl .nil))), fun W_ hI => out_of (l := []) hI [] rfl rfl (mle_refl _) (fun hS_ => ?_)⟩
              dsimp only [packV]
              have he0 : ((opRd d0).1 : Ty.Den TOp) = (false, [], []) := by first | rfl | (exact fin0_opRead_ok)
              refine ⟨[Value.bool false, str ([]), str ([])], ?_, ?_⟩
              rotate_left
              · rw [he0]; exact (Ow.of (m := mnil) rfl (mk_Op (m := _) false [] [] bdm bdm))
              all_goals (first | rfl | (exact fin0_opRead_ok))
            · -- FFFTFF
              refine VC.skip ?_
              refine outN ?_
              refine VC.rs ?_
              refine VO.y rfl (.ldA 108 rfl tk64 rfl (cellsAt_one rfl rfl)) ?_
              refine VO.mv ?_
              refine VO.store (k := 3) (c' := [Value.bool (decide (((x4.toNat : Nat) : Int) = 1)), str ((tRd (d0.drop 1) 16).1), str ((tRd (d0.drop ((1 + ((tRd (d0.drop 1) 16).2.1)).toNat)) 32).1)]) 102 rfl rfl (.inl tk64) rfl rfl rfl rfl rfl ?_
              refine VO.as ?_
              refine VO.as ?_
              refine VO.kp [108, 102, 0] [(108, mone g7 (.cells [Value.bool (decide (((x4.toNat : Nat) : Int) = 1)), str ((tRd (d0.drop 1) 16).1), str ((tRd (d0.drop ((1 + ((tRd (d0.drop 1) 16).2.1)).toNat)) 32).1)].toArray 64 (0, 0))), (102, mone g1 (.cells [Value.bool (decide (((x4.toNat : Nat) : Int) = 1)), str ((tRd (d0.drop 1) 16).1), str ((tRd (d0.drop ((1 + ((tRd (d0.drop 1) 16).2.1)).toNat)) 32).1)].toArray 64 (0, 0))), (0, wm W)] ?_
              refine VO.k16 0 2 3 4 5 6 7 8 9 10 11 20 35 42 52 61 ?_
              refine VC.ret ?_
              refine ⟨_, _, res_run (rs := [.cell 2 64, .tmp 3, .tmp 4]) rfl (.agg 102 rfl tk64 rfl ⟨_, _, _, mone_self _ _, Nat.le_of_ble_eq_true rfl, rfl⟩ (.tmp rfl (.tmp rfl .nil))), fun W_ hI => out_of (l := []) hI [] rfl rfl (mle_refl _) (fun hS_ => ?_)⟩
              dsimp only [packV]
              have he0 : ((opRd d0).1 : Ty.Den TOp) = (decide (((x4.toNat : Nat) : Int) = 1), (tRd (d0.drop 1) 16).1, (tRd (d0.drop ((1 + ((tRd (d0.drop 1) 16).2.1)).toNat)) 32).1) := by first | rfl | (exact fin0_opRead_ok)
              refine ⟨[Value.bool (decide (((x4.toNat : Nat) : Int) = 1)), str ((tRd (d0.drop 1) 16).1), str ((tRd (d0.drop ((1 + ((tRd (d0.drop 1) 16).2.1)).toNat)) 32).1)], ?_, ?_⟩
              rotate_left
              · rw [he0]; exact (Ow.of (m := mnil) rfl (mk_Op (m := _) (decide (((x4.toNat : Nat) : Int) = 1)) ((tRd (d0.drop 1) 16).1) ((tRd (d0.drop ((1 + ((tRd (d0.drop 1) 16).2.1)).toNat)) 32).1) bdm bdm))
              all_goals (first | rfl | (exact fin0_opRead_ok))
        · -- FFFF
          refine VC.skip ?_
          refine outN ?_
          refine VC.seq ?_
          refine VC.rs ?_
          refine VO.y rfl (.ldA 108 rfl tk64 rfl (cellsAt_one rfl rfl)) ?_
          refine VO.callN 120 rfl fnOk57 rfl (fun W hW => opCheck_ok W (mk_Op (m := wm W) (decide (((x4.toNat : Nat) : Int) = 1)) ((tRd (d0.drop 1) 16).1) [] bdm bdm)) (fun v20 m20 hv20 => ?_)
          try dsimp only at hv20
          subst hv20
          refine VO.y rfl (.neq rfl rfl) ?_
          refine VO.k12 0 2 3 4 5 6 7 8 20 35 42 61 ?_
          refine VC.cond rfl (fun hc21 => ?_) (fun hc21 => ?_)
          · -- FFFFT
            refine VC.rs ?_
            refine VO.y rfl (.bst (cs := [Value.bool false, str ([]), str ([])]) rfl tst64 tz64 rfl) ?_
            refine VO.store (k := 3) (c' := [Value.bool false, str ([]), str ([])]) 102 rfl rfl (.inl tk64) rfl rfl rfl rfl rfl ?_
            refine VO.as ?_
            refine VO.as ?_
            refine VO.kp [108, 102, 0] [(108, mone g7 (.cells [Value.bool (decide (((x4.toNat : Nat) : Int) = 1)), str ((tRd (d0.drop 1) 16).1), str ([])].toArray 64 (0, 0))), (102, mone g1 (.cells [Value.bool false, str ([]), str ([])].toArray 64 (0, 0))), (0, wm W)] ?_
            refine VO.k12 0 2 3 4 5 6 7 8 20 35 42 61 ?_
            refine VC.ret ?_
            refine outR ?_
            refine ⟨_, _, res_run (rs := [.cell 2 64, .tmp 3, .tmp 4]) rfl (.agg 102 rfl tk64 rfl ⟨_, _, _, mone_self _ _, Nat.le_of_ble_eq_true rfl, rfl⟩ (.tmp rfl (.tmp rfl .nil))), fun W_ hI => out_of (l := []) hI [] rfl rfl (mle_refl _) (fun hS_ => ?_)⟩
            dsimp only [packV]
            have he0 : ((opRd d0).1 : Ty.Den TOp) = (false, [], []) := by first | rfl | (exact fin0_opRead_ok)
            refine ⟨[Value.bool false, str ([]), str ([])], ?_, ?_⟩
            rotate_left
            · rw [he0]; exact (Ow.of (m := mnil) rfl (mk_Op (m := _) false [] [] bdm bdm))
            all_goals (first | rfl | (exact fin0_opRead_ok))
          · -- FFFFF
            refine VC.skip ?_
            refine outN ?_
            refine VC.rs ?_
            refine VO.y rfl (.ldA 108 rfl tk64 rfl (cellsAt_one rfl rfl)) ?_
            refine VO.mv ?_
            refine VO.store (k := 3) (c' := [Value.bool (decide (((x4.toNat : Nat) : Int) = 1)), str ((tRd (d0.drop 1) 16).1), str ([])]) 102 rfl rfl (.inl tk64) rfl rfl rfl rfl rfl ?_
            refine VO.as ?_
            refine VO.as ?_
            refine VO.kp [108, 102, 0] [(108, mone g7 (.cells [Value.bool (decide (((x4.toNat : Nat) : Int) = 1)), str ((tRd (d0.drop 1) 16).1), str ([])].toArray 64 (0, 0))), (102, mone g1 (.cells [Value.bool (decide (((x4.toNat : Nat) : Int) = 1)), str ((tRd (d0.drop 1) 16).1), str ([])].toArray 64 (0, 0))), (0, wm W)] ?_
            refine VO.k12 0 2 3 4 5 6 7 8 20 35 42 61 ?_
            refine VC.ret ?_
            refine ⟨_, _, res_run (rs := [.cell 2 64, .tmp 3, .tmp 4]) rfl (.agg 102 rfl tk64 rfl ⟨_, _, _, mone_self _ _, Nat.le_of_ble_eq_true rfl, rfl⟩ (.tmp rfl (.tmp rfl .nil))), fun W_ hI => out_of (l := []) hI [] rfl rfl (mle_refl _) (fun hS_ => ?_)⟩
            dsimp only [packV]
            have he0 : ((opRd d0).1 : Ty.Den TOp) = (decide (((x4.toNat : Nat) : Int) = 1), (tRd (d0.drop 1) 16).1, []) := by first | rfl | (exact fin0_opRead_ok)
            refine ⟨[Value.bool (decide (((x4.toNat : Nat) : Int) = 1)), str ((tRd (d0.drop 1) 16).1), str ([])], ?_, ?_⟩
            rotate_left
            · rw [he0]; exact (Ow.of (m := mnil) rfl (mk_Op (m := _) (decide (((x4.toNat : Nat) : Int) = 1)) ((tRd (d0.drop 1) 16).1) [] bdm bdm))
            all_goals (first | rfl | (exact fin0_opRead_ok))
theorem fnOk124 : fnOk Tryz.prog 124 = true := by kernel_rfl
theorem fnOk126 : fnOk Tryz.prog 126 = true := by kernel_rfl
theorem fnOk135 : fnOk Tryz.prog 135 = true := by kernel_rfl
theorem tar161 : tar Tryz.prog 161 = some (3, 1) := by kernel_rfl
theorem tia161 : tia Tryz.prog 161 = some (3, 3, 1) := by kernel_rfl
theorem tk92 : tk Tryz.prog 92 = some (some 3) := by kernel_rfl
theorem tst92 : tst Tryz.prog 92 = some [(0, 1), (1, 1), (2, 1)] := by kernel_rfl
theorem tz161 : tz Tryz.prog 161 = some [.int .i64 0, .int .i64 0, .int .i64 0] := by kernel_rfl
theorem tz92 : tz Tryz.prog 92 = some [.int .i64 0, .int .i64 0, .slice none 0 0] := by kernel_rfl
theorem fin0_runCheck_ok_ {P : Prop} (h : P := by congr 1; first | exact (runCheck_long (by omega)).symm | exact (runCheck_arg (by omega) (by omega)).symm | exact (runCheck_ops (by omega) (ups_bad1 ‹d0.2.2[k]? = some _› (by assumption))).symm | exact (runCheck_ops (by omega) (ups_bad2 ‹d0.2.2[k]? = some _› (by omega) (by assumption) (by assumption))).symm | exact (runCheck_good (by omega) (by omega) (by have h_ := hu; rw [List.take_of_length_le (by omega)] at h_; exact h_)).symm) : P := h
theorem runCheck_ok_ (W : World) {v0 : List Value} {d0 : DRun} (h0 : Rd TRun (wm W) v0 d0) : CallR Tryz.prog 124 [.agg v0.toArray] W (mnil) (fun v m' => v = .int .i64 (runCheck d0)) := by
  obtain ⟨p0_A2, p0_c2, rfl, p0_0, p0_1, p0_2⟩ := open_Run (x0 := d0.1) (x1 := d0.2.1) (x2 := d0.2.2) h0
  simp only [inK] at p0_0
  simp only [inK] at p0_1
  have p0_r2 := Rd.room p0_2
  refine CallR.ofA (n := 52) Tryz.func124 rfl rfl rfl ?_
  refine VC.rs ?_
  refine VO.box (cs := [Value.int .i64 (d0.1), Value.int .i64 (d0.2.1), Value.slice p0_A2 (d0.2.2.length) (p0_c2)]) 102 rfl rfl rfl (fun g1 => ?_)
  refine VO.as ?_
  refine VO.k3 0 1 2 ?_
  refine VC.seq ?_
  refine VC.rs ?_
  refine VO.y rfl (.fa rfl tst92 rfl) ?_
  refine VO.y rfl (.ld1 102 rfl tk34 rfl (cellsAt_one rfl rfl)) ?_
  refine VO.y rfl (.lenS rfl tsl34) ?_
  refine VO.y rfl (.gtr rfl rfl) ?_
  refine VO.k4 0 1 2 8 ?_
  refine VC.cond rfl (fun hc3 => ?_) (fun hc3 => ?_)
  · -- T
    refine VC.rs ?_
    refine VO.as ?_
    refine VO.kp [102, 0] [(102, mone g1 (.cells [Value.int .i64 (d0.1), Value.int .i64 (d0.2.1), Value.slice p0_A2 (d0.2.2.length) (p0_c2)].toArray 92 (0, 0))), (0, wm W)] ?_
    refine VO.k4 0 1 2 8 ?_
    refine VC.ret ?_
    refine outR ?_
    refine ⟨_, _, res_run (rs := [.tmp 2]) rfl (.tmp rfl .nil), fun W_ hI => out_of (l := []) hI [] rfl rfl (mle_refl _) (fun hS_ => ?_)⟩
    dsimp only [packV]
    all_goals (first | rfl | (exact fin0_runCheck_ok_))
  · -- F
    refine VC.skip ?_
    refine outN ?_
    refine VC.seq ?_
    refine VC.rs ?_
    refine VO.y rfl (.fa rfl tst92 rfl) ?_
    refine VO.y rfl (.ld1 102 rfl tk3 rfl (cellsAt_one rfl rfl)) ?_
    refine VO.y rfl (.lss rfl rfl) ?_
    refine VO.mv ?_
    refine VO.dec (t := 12) rfl (fun hc4 => ?_) (fun hc4 => ?_)
    · -- FT
      refine VO.gN ?_
      refine VO.gN ?_
      refine VO.gN ?_
      refine VO.gN ?_
      refine VO.gN ?_
      refine VO.y rfl (.pT rfl rfl) ?_
      refine VO.mv ?_
      refine VO.gN ?_
      refine VO.gN ?_
      refine VO.gN ?_
      refine VO.y rfl (.pT rfl rfl) ?_
      refine VO.kp [102, 0] [(102, mone g1 (.cells [Value.int .i64 (d0.1), Value.int .i64 (d0.2.1), Value.slice p0_A2 (d0.2.2.length) (p0_c2)].toArray 92 (0, 0))), (0, wm W)] ?_
      refine VO.k5 0 1 2 8 23 ?_
      refine VC.condT rfl ?_
      refine VC.rs ?_
      refine VO.as ?_
      refine VO.k5 0 1 2 8 23 ?_
      refine VC.ret ?_
      refine outR ?_
      refine ⟨_, _, res_run (rs := [.tmp 2]) rfl (.tmp rfl .nil), fun W_ hI => out_of (l := []) hI [] rfl rfl (mle_refl _) (fun hS_ => ?_)⟩
      dsimp only [packV]
      all_goals (first | rfl | (exact fin0_runCheck_ok_))
    · -- FF
      refine VO.gy rfl ⟨_, rfl, rfl⟩ (.fa rfl tst92 rfl) ?_
      refine VO.gy rfl ⟨_, rfl, rfl⟩ (.ld1 102 rfl tk3 rfl (cellsAt_one rfl rfl)) ?_
      refine VO.gy rfl ⟨_, rfl, rfl⟩ (.fa rfl tst92 rfl) ?_
      refine VO.gy rfl ⟨_, rfl, rfl⟩ (.ld1 102 rfl tk3 rfl (cellsAt_one rfl rfl)) ?_
      refine VO.gy rfl ⟨_, rfl, rfl⟩ (.lss rfl rfl) ?_
      refine VO.y rfl (.pF rfl rfl) ?_
      refine VO.mv ?_
      refine VO.dec (t := 19) rfl (fun hc5 => ?_) (fun hc5 => ?_)
      · -- FFT
        refine VO.gN ?_
        refine VO.gN ?_
        refine VO.gN ?_
        refine VO.y rfl (.pT rfl rfl) ?_
        refine VO.kp [102, 0] [(102, mone g1 (.cells [Value.int .i64 (d0.1), Value.int .i64 (d0.2.1), Value.slice p0_A2 (d0.2.2.length) (p0_c2)].toArray 92 (0, 0))), (0, wm W)] ?_
        refine VO.k5 0 1 2 8 23 ?_
        refine VC.condT rfl ?_
        refine VC.rs ?_
        refine VO.as ?_
        refine VO.k5 0 1 2 8 23 ?_
        refine VC.ret ?_
        refine outR ?_
        refine ⟨_, _, res_run (rs := [.tmp 2]) rfl (.tmp rfl .nil), fun W_ hI => out_of (l := []) hI [] rfl rfl (mle_refl _) (fun hS_ => ?_)⟩
        dsimp only [packV]
        all_goals (first | rfl | (exact fin0_runCheck_ok_))
      · -- FFF
        refine VO.gy rfl ⟨_, rfl, rfl⟩ (.fa rfl tst92 rfl) ?_
        refine VO.gy rfl ⟨_, rfl, rfl⟩ (.ld1 102 rfl tk3 rfl (cellsAt_one rfl rfl)) ?_
        refine VO.gy rfl ⟨_, rfl, rfl⟩ (.gtr rfl rfl) ?_
        refine VO.y rfl (.pF rfl rfl) ?_
        refine VO.kp [102, 0] [(102, mone g1 (.cells [Value.int .i64 (d0.1), Value.int .i64 (d0.2.1), Value.slice p0_A2 (d0.2.2.length) (p0_c2)].toArray 92 (0, 0))), (0, wm W)] ?_
        refine VO.k5 0 1 2 8 23 ?_
        refine VC.cond rfl (fun hc6 => ?_) (fun hc6 => ?_)
        · -- FFFT
          refine VC.rs ?_
          refine VO.as ?_
          refine VO.k5 0 1 2 8 23 ?_
          refine VC.ret ?_
          refine outR ?_
          refine ⟨_, _, res_run (rs := [.tmp 2]) rfl (.tmp rfl .nil), fun W_ hI => out_of (l := []) hI [] rfl rfl (mle_refl _) (fun hS_ => ?_)⟩
          dsimp only [packV]
          all_goals (first | rfl | (exact fin0_runCheck_ok_))
        · -- FFFF
          refine VC.skip ?_
          refine outN ?_
          refine VC.seq ?_
          refine VC.rs ?_
          refine VO.y rfl (.fa rfl tst92 rfl) ?_
          refine VO.y rfl (.ld1 102 rfl tk34 rfl (cellsAt_one rfl rfl)) ?_
          refine VO.y rfl (.lenS rfl tsl34) ?_
          refine VO.mv ?_
          refine VO.k8 0 1 2 8 23 25 26 27 ?_
          refine VC.block ?_
          refine VC.loop (G := Nat) (fun k => [(27, Value.int .i64 (((k : Nat) : Int))), (0, Value.agg [Value.int .i64 (d0.1), Value.int .i64 (d0.2.1), Value.slice p0_A2 (d0.2.2.length) (p0_c2)].toArray), (1, Value.pointer (some ⟨g1, 0, none⟩)), (8, Value.bool (decide (1024 < ((d0.2.2.length : Nat) : Int)))), (23, Value.bool (decide (1048576 < d0.2.1))), (25, Value.slice p0_A2 (d0.2.2.length) (p0_c2)), (26, Value.int .i64 (((d0.2.2.length : Nat) : Int)))]) (fun k => [(102, mone g1 (.cells [Value.int .i64 (d0.1), Value.int .i64 (d0.2.1), Value.slice p0_A2 (d0.2.2.length) (p0_c2)].toArray 92 (0, 0))), (0, wm W)]) (fun k => (k ≤ d0.2.2.length) ∧ (opsUp (d0.2.2.take k))) (fun k => d0.2.2.length - k) 0 (⟨by omega, by exact ups_nil⟩) ⟨⟨rfl, rfl, rfl, rfl, rfl, rfl, rfl, trivial⟩, fun _ h => h.sub [102, 0]⟩ ?_
          rintro k ⟨hk, hu⟩
          refine VC.rs ?_
          refine VO.y rfl (.lss rfl rfl) ?_
          refine VO.k8 0 1 8 23 25 26 27 28 ?_
          refine VC.seq ?_
          refine VC.cond rfl (fun hc7 => ?_) (fun hc7 => ?_)
          · -- FFFFT
            refine VC.skip ?_
            refine outN ?_
            refine VC.seq ?_
            refine VC.block ?_
            refine VC.rs ?_
            refine VO.mv ?_
            obtain ⟨x8, hx8⟩ : ∃ z_, (d0.2.2)[k]? = some z_ := ⟨_, List.getElem?_eq_getElem bd⟩
            obtain ⟨gg8, oo8, ec8, ea8, hce8, hre8⟩ := p0_2.elem hx8
            cases ea8
            obtain ⟨rfl, q8_1, q8_2⟩ := open_Op (x0 := x8.1) (x1 := x8.2.1) (x2 := x8.2.2) hre8
            simp only [maxLen] at q8_1
            simp only [maxLen] at q8_2
            refine VO.y rfl (.ixI k rfl rfl tsl34 rfl bd) ?_
            refine VO.y rfl (.ldA 0 rfl tk64 rfl hce8) ?_
            refine VO.alloc 110 rfl tz64 (fun g9 => ?_)
            refine VO.as ?_
            refine VO.store (k := 3) (c' := [Value.bool x8.1, str (x8.2.1), str (x8.2.2)]) 110 rfl rfl (.inl tk64) rfl rfl rfl rfl rfl ?_
            refine VO.kp [110, 102, 0] [(110, mone g9 (.cells [Value.bool x8.1, str (x8.2.1), str (x8.2.2)].toArray 64 (0, 0))), (102, mone g1 (.cells [Value.int .i64 (d0.1), Value.int .i64 (d0.2.1), Value.slice (some ⟨gg8, oo8, none⟩) (d0.2.2.length) (p0_c2)].toArray 92 (0, 0))), (0, wm W)] ?_
            refine VO.k10 0 1 3 4 8 23 25 26 27 28 ?_
            refine VC.seq ?_
            refine VC.regD _ 16 [(0, true), (1, false), (2, true), (3, true), (4, true), (5, true), (6, true), (7, true), (8, true), (9, true), (10, true), (11, true), (12, true), (13, true), (14, true), (15, true)] follows (by kernel_rfl) (fun _ h => h.sub [110, 102, 0]) ?_
            refine VD.y rfl rfl (.inl rfl) (.ldA 110 rfl tk64 rfl (cellsAt_one rfl rfl)) ?_
            refine VD.callN 111 rfl rfl (.inl rfl) fnOk57 rfl (fun _ h => h.sub [110, 102, 0]) (fun W hW => opCheck_ok W (Rd.mono hre8 (hW.at (i := 0) rfl))) (fun v11 m11 hv11 => ?_)
            subst hv11
            refine VD.y rfl rfl (.inl rfl) (.neq rfl rfl) ?_
            refine VD.y rfl rfl (.inl rfl) (.mv rfl) ?_
            refine VD.dec (s := 35) rfl (fun hc12 => ?_) (fun hc12 => ?_)
            · -- FFFFTT
              refine VD.gn rfl rfl (.inl ⟨_, rfl, rfl⟩) ?_
              refine VD.gn rfl rfl (.inl ⟨_, rfl, rfl⟩) ?_
              refine VD.gn rfl rfl (.inl ⟨_, rfl, rfl⟩) ?_
              refine VD.gn rfl rfl (.inr ⟨_, rfl, rfl⟩) ?_
              refine VD.gn rfl rfl (.inr ⟨_, rfl, rfl⟩) ?_
              refine VD.gn rfl rfl (.inr ⟨_, rfl, rfl⟩) ?_
              refine VD.gn rfl rfl (.inr ⟨_, rfl, rfl⟩) ?_
              refine VD.gn rfl rfl (.inr ⟨_, rfl, rfl⟩) ?_
              refine VD.gn rfl rfl (.inr ⟨_, rfl, rfl⟩) ?_
              refine VD.gn rfl rfl (.inr ⟨_, rfl, rfl⟩) ?_
              refine VD.gn rfl rfl (.inr ⟨_, rfl, rfl⟩) ?_
              refine VD.gn rfl rfl (.inr ⟨_, rfl, rfl⟩) ?_
              refine VD.nil rfl ?_ rfl
              refine VO.gn rfl (.inr ⟨_, rfl, rfl⟩) ?_
              refine VO.gN ?_
              refine VO.y rfl (.pT rfl rfl) ?_
              refine VO.k11 0 1 3 4 8 23 25 26 27 28 50 ?_
              refine outN ?_
              refine VC.condT rfl ?_
              refine VC.rs ?_
              refine VO.as ?_
              refine VO.k12 0 1 2 3 4 8 23 25 26 27 28 50 ?_
              refine VC.ret ?_
              refine outBR ?_
              refine outR ?_
              refine outR ?_
              refine outBR ?_
              refine outR ?_
              refine ⟨_, _, res_run (rs := [.tmp 2]) rfl (.tmp rfl .nil), fun W_ hI => out_of (l := []) hI [] rfl rfl (mle_refl _) (fun hS_ => ?_)⟩
              dsimp only [packV]
              all_goals (first | rfl | (exact fin0_runCheck_ok_))
            · -- FFFFTF
              refine VD.y rfl rfl (.inr ⟨_, _, rfl, _, rfl, rfl⟩) (.mv rfl) ?_
              refine VD.y rfl rfl (.inr ⟨_, _, rfl, _, rfl, rfl⟩) (.gtr rfl rfl) ?_
              refine VD.y rfl rfl (.inr ⟨_, _, rfl, _, rfl, rfl⟩) (.mv rfl) ?_
              refine VD.dec (s := 38) rfl (fun hc13 => ?_) (fun hc13 => ?_)
              · -- FFFFTFT
                refine VD.y rfl rfl (.inr ⟨_, _, rfl, _, rfl, rfl⟩) (.fa rfl tst64 rfl) ?_
                refine VD.y rfl rfl (.inr ⟨_, _, rfl, _, rfl, rfl⟩) (.ld1 110 rfl tk9 rfl (cellsAt_one rfl rfl)) ?_
                refine VD.y rfl rfl (.inr ⟨_, _, rfl, _, rfl, rfl⟩) (.fa rfl tst92 rfl) ?_
                refine VD.y rfl rfl (.inr ⟨_, _, rfl, _, rfl, rfl⟩) (.ld1 102 rfl tk34 rfl (cellsAt_one rfl rfl)) ?_
                refine VD.y rfl rfl (.inr ⟨_, _, rfl, _, rfl, rfl⟩) (.mv rfl) ?_
                refine VD.y rfl rfl (.inr ⟨_, _, rfl, _, rfl, rfl⟩) (.sub rfl rfl rfl ⟨bd, bd⟩) ?_
                obtain ⟨x14, hx14⟩ : ∃ z_, (d0.2.2)[(((k : Nat) : Int) - 1).toNat]? = some z_ := ⟨_, List.getElem?_eq_getElem bd⟩
                obtain ⟨gg14, oo14, ec14, ea14, hce14, hre14⟩ := p0_2.elem hx14
                cases ea14
                obtain ⟨rfl, q14_1, q14_2⟩ := open_Op (x0 := x14.1) (x1 := x14.2.1) (x2 := x14.2.2) hre14
                simp only [maxLen] at q14_1
                simp only [maxLen] at q14_2
                refine VD.y rfl rfl (.inr ⟨_, _, rfl, _, rfl, rfl⟩) (.ixI ((((k : Nat) : Int) - 1).toNat) rfl rfl tsl34 bd bd) ?_
                refine VD.y rfl rfl (.inr ⟨_, _, rfl, _, rfl, rfl⟩) (.fa rfl tst64 rfl) ?_
                refine VD.y rfl rfl (.inr ⟨_, _, rfl, _, rfl, rfl⟩) (.ld1 0 rfl tk9 rfl (hce14.at1 (j := 1) rfl)) ?_
                refine VD.nil rfl ?_ rfl
                refine VO.gy rfl ⟨_, rfl, rfl⟩ (.sleq rfl rfl) ?_
                refine VO.gy rfl ⟨_, rfl, rfl⟩ (.pT rfl rfl) ?_
                refine VO.y rfl (.pF rfl rfl) ?_
                refine VO.k11 0 1 3 4 8 23 25 26 27 28 50 ?_
                refine outN ?_
                refine VC.cond rfl (fun hc15 => ?_) (fun hc15 => ?_)
                · -- FFFFTFTT
                  refine VC.rs ?_
                  refine VO.as ?_
                  refine VO.k12 0 1 2 3 4 8 23 25 26 27 28 50 ?_
                  refine VC.ret ?_
                  refine outBR ?_
                  refine outR ?_
                  refine outR ?_
                  refine outBR ?_
                  refine outR ?_
                  refine ⟨_, _, res_run (rs := [.tmp 2]) rfl (.tmp rfl .nil), fun W_ hI => out_of (l := []) hI [] rfl rfl (mle_refl _) (fun hS_ => ?_)⟩
                  dsimp only [packV]
                  all_goals (first | rfl | (exact fin0_runCheck_ok_))
                · -- FFFFTFTF
                  refine VC.skip ?_
                  refine outBN ?_
                  refine outN ?_
                  refine VC.reg ?_
                  refine VO.y rfl (.add (c := ((k + 1 : Nat) : Int)) rfl rfl (by omega) ⟨bd, bd⟩) ?_
                  refine VO.mv ?_
                  refine VO.k11 0 1 3 4 8 23 25 26 27 28 50 ?_
                  exact outN ⟨k + 1, ⟨by omega, by exact ups_next hu ‹d0.2.2[k]? = some _› (by assumption) (by first | exact .inl (by omega) | exact .inr ⟨_, by assumption, by assumption⟩)⟩, bd, ⟨⟨rfl, rfl, rfl, rfl, rfl, rfl, rfl, trivial⟩, fun _ h => Inv.sub h [102, 0]⟩⟩
              · -- FFFFTFF
                refine VD.gn rfl rfl (.inl ⟨_, rfl, rfl⟩) ?_
                refine VD.gn rfl rfl (.inl ⟨_, rfl, rfl⟩) ?_
                refine VD.gn rfl rfl (.inl ⟨_, rfl, rfl⟩) ?_
                refine VD.gn rfl rfl (.inl ⟨_, rfl, rfl⟩) ?_
                refine VD.gn rfl rfl (.inl ⟨_, rfl, rfl⟩) ?_
                refine VD.gn rfl rfl (.inl ⟨_, rfl, rfl⟩) ?_
                refine VD.gn rfl rfl (.inl ⟨_, rfl, rfl⟩) ?_
                refine VD.gn rfl rfl (.inl ⟨_, rfl, rfl⟩) ?_
                refine VD.gn rfl rfl (.inl ⟨_, rfl, rfl⟩) ?_
                refine VD.nil rfl ?_ rfl
                refine VO.gN ?_
                refine VO.gy rfl ⟨_, rfl, rfl⟩ (.pF rfl rfl) ?_
                refine VO.y rfl (.pF rfl rfl) ?_
                refine VO.k11 0 1 3 4 8 23 25 26 27 28 50 ?_
                refine outN ?_
                refine VC.condF rfl ?_
                refine VC.skip ?_
                refine outBN ?_
                refine outN ?_
                refine VC.reg ?_
                refine VO.y rfl (.add (c := ((k + 1 : Nat) : Int)) rfl rfl (by omega) ⟨bd, bd⟩) ?_
                refine VO.mv ?_
                refine VO.k11 0 1 3 4 8 23 25 26 27 28 50 ?_
                exact outN ⟨k + 1, ⟨by omega, by exact ups_next hu ‹d0.2.2[k]? = some _› (by assumption) (by first | exact .inl (by omega) | exact .inr ⟨_, by assumption, by assumption⟩)⟩, bd, ⟨⟨rfl, rfl, rfl, rfl, rfl, rfl, rfl, trivial⟩, fun _ h => Inv.sub h [102, 0]⟩⟩
          · -- FFFFF
            refine VC.exit ?_
            refine outE ?_
            refine outE ?_
            refine outBB ?_
            refine outN ?_
            refine VC.rs ?_
            refine VO.as ?_
            refine VO.kp [102, 0] [(102, mone g1 (.cells [Value.int .i64 (d0.1), Value.int .i64 (d0.2.1), Value.slice p0_A2 (d0.2.2.length) (p0_c2)].toArray 92 (0, 0))), (0, wm W)] ?_
            refine VO.k9 0 1 2 8 23 25 26 27 28 ?_
            refine VC.ret ?_
            refine ⟨_, _, res_run (rs := [.tmp 2]) rfl (.tmp rfl .nil), fun W_ hI => out_of (l := []) hI [] rfl rfl (mle_refl _) (fun hS_ => ?_)⟩
            dsimp only [packV]
            all_goals (first | rfl | (exact fin0_runCheck_ok_))
theorem runEncode_ok (W : World) {v0 : List Value} {d0 : DRun} (h0 : Rd TRun (wm W) v0 d0) : CallR Tryz.prog 82 [.agg v0.toArray] W (mnil) (fun v m' => ∃ (s0 : Value), v = .tuple #[s0, .int .i64 ((runEncode d0).2)] ∧ Ow (.sl .byte) m' [s0] ((runEncode d0).1)) := by
  have hrk := runCheck_or d0
  obtain ⟨p0_A2, p0_c2, rfl, p0_0, p0_1, p0_2⟩ := open_Run (x0 := d0.1) (x1 := d0.2.1) (x2 := d0.2.2) h0
  simp only [inK] at p0_0
  simp only [inK] at p0_1
  have p0_r2 := Rd.room p0_2
  refine CallR.ofA (n := 46) Tryz.func82 rfl rfl rfl ?_
  refine VC.rs ?_
  refine VO.box (cs := [Value.int .i64 (d0.1), Value.int .i64 (d0.2.1), Value.slice p0_A2 (d0.2.2.length) (p0_c2)]) 102 rfl rfl rfl (fun g1 => ?_)
  refine VO.as ?_
  refine VO.as ?_
  refine VO.k4 0 1 2 3 ?_
  refine VC.seq ?_
  refine VC.rs ?_
  refine VO.y rfl (.ldA 102 rfl tk92 rfl (cellsAt_one rfl rfl)) ?_
  refine VO.callN 103 rfl fnOk124 rfl (fun W hW => runCheck_ok_ W (Rd.mono h0 (hW.at (i := 0) rfl))) (fun v3 m3 hv3 => ?_)
  subst hv3
  have hfa4 := runCheck_range d0
  refine VO.as ?_
  refine VO.k5 0 1 2 3 4 ?_
  refine VC.rs ?_
  refine VO.mv ?_
  refine VO.y rfl (.neq rfl rfl) ?_
  refine VO.kp [102, 0] [(102, mone g1 (.cells [Value.int .i64 (d0.1), Value.int .i64 (d0.2.1), Value.slice p0_A2 (d0.2.2.length) (p0_c2)].toArray 92 (0, 0))), (0, wm W)] ?_
  refine VO.k6 0 1 2 3 4 13 ?_
  refine VC.cond rfl (fun hc5 => ?_) (fun hc5 => ?_)
  · -- T
    refine VC.rs ?_
    refine VO.mv ?_
    refine VO.as ?_
    refine VO.as ?_
    refine VO.k6 0 1 2 3 4 13 ?_
    refine VC.ret ?_
    refine outR ?_
    refine ⟨_, _, res_run (rs := [.tmp 2, .tmp 3]) rfl (.tmp rfl (.tmp rfl .nil)), fun W_ hI => out_of (l := []) hI [] rfl rfl (mle_refl _) (fun hS_ => ?_)⟩
    dsimp only [packV]
    have he0 : ((runEncode d0).1 : Ty.Den (.sl .byte)) = [] := by first | rfl | (first | (rw [runEnc_bad (by assumption)] <;> rfl) | (rw [runEnc_good (by assumption), hb, List.take_of_length_le (by omega)]; simp [runBody]; done))
    refine ⟨Value.slice none (0) (0), ?_, ?_⟩
    rotate_left
    · rw [he0]; exact (Ow.nil _ _)
    all_goals (first | rfl | (first | (rw [runEnc_bad (by assumption)] <;> rfl) | (rw [runEnc_good (by assumption)] <;> rfl)))
  · -- F
    refine VC.skip ?_
    refine outN ?_
    refine VC.rs ?_
    refine VO.as ?_
    refine VO.k7 0 1 2 3 4 5 13 ?_
    refine VC.seq ?_
    refine VC.rs ?_
    refine VO.y rfl (.fa rfl tst92 rfl) ?_
    refine VO.y rfl (.ld1 102 rfl tk3 rfl (cellsAt_one rfl rfl)) ?_
    refine VO.y rfl (.fa rfl tst92 rfl) ?_
    refine VO.y rfl (.ld1 102 rfl tk3 rfl (cellsAt_one rfl rfl)) ?_
    refine VO.y rfl (.fa rfl tst92 rfl) ?_
    refine VO.y rfl (.ld1 102 rfl tk34 rfl (cellsAt_one rfl rfl)) ?_
    refine VO.y rfl (.lenS rfl tsl34) ?_
    refine VO.y rfl (.bar (cs := [Value.int .i64 (d0.1), Value.int .i64 (d0.2.1), Value.int .i64 (((d0.2.2.length : Nat) : Int))]) rfl tar161 tz161 rfl) ?_
    refine VO.mv ?_
    refine VO.k9 0 1 2 3 4 5 13 22 23 ?_
    refine VC.block ?_
    refine VC.rounds 4 (VRounds.step ?_)
    refine VC.rs ?_
    refine VO.y rfl (.lss rfl rfl) ?_
    refine VO.kp [102, 0] [(102, mone g1 (.cells [Value.int .i64 (d0.1), Value.int .i64 (d0.2.1), Value.slice p0_A2 (d0.2.2.length) (p0_c2)].toArray 92 (0, 0))), (0, wm W)] ?_
    refine VO.k10 0 1 2 3 4 5 13 22 23 24 ?_
    refine VC.seq ?_
    refine VC.condKT rfl (decide_eq_true (by decide)) ?_
    refine VC.skip ?_
    refine outN ?_
    refine VC.seq ?_
    refine VC.block ?_
    refine VC.rs ?_
    refine VO.y rfl (.ix1V rfl rfl tia161 tk3 rfl rfl rfl) ?_
    refine VO.as ?_
    refine VO.k11 0 1 2 3 4 5 7 13 22 23 24 ?_
    refine VC.reg ?_
    refine VO.mv ?_
    refine VO.mv ?_
    refine VO.y rfl (.cvI (c := ((d0.1).toNat : Int)) rfl ⟨_, Tryz.underlying3⟩ Tryz.underlying163 (by rw [IntWalk.u64_in _ bd]; first | omega | (first | omega | (simp only [List.length_append, List.length_nil, List.length_cons, List.length_take, List.length_drop] at *; omega)))) ?_
    refine VO.callN 106 rfl fnOk125 rfl (fun W hW => vAppend_ok W (Rd.nil _ _ none 0 (Nat.zero_le _)) ((d0.1).toNat) bd bd) (fun v6 m6 hv6 => ?_)
    obtain ⟨s6_0, rfl, f6_0⟩ := hv6
    have hfa7 := venc_len (x := ((d0.1).toNat)) (by first | omega | exact or64 (by assumption) _)
    simp only [List.nil_append] at f6_0
    obtain ⟨A6_0, c6_0, eq6_0, l6_0, k6_0⟩ := f6_0.slice
    subst eq6_0
    simp only [maxLen] at k6_0
    refine VO.as ?_
    refine VO.k11 0 1 2 3 4 5 7 13 22 23 24 ?_
    refine outBN ?_
    refine outN ?_
    refine VC.reg ?_
    refine VO.y rfl (.add (c := ((1 : Nat) : Int)) rfl rfl (by omega) ⟨bd, bd⟩) ?_
    refine VO.mv ?_
    refine VO.kp [106, 102, 0] [(106, m6), (102, mone g1 (.cells [Value.int .i64 (d0.1), Value.int .i64 (d0.2.1), Value.slice p0_A2 (d0.2.2.length) (p0_c2)].toArray 92 (0, 0))), (0, wm W)] ?_
    refine VO.k11 0 1 2 3 4 5 7 13 22 23 24 ?_
    refine outN (VRounds.step ?_)
    refine VC.rs ?_
    refine VO.y rfl (.lss rfl rfl) ?_
    refine VO.k11 0 1 2 3 4 5 7 13 22 23 24 ?_
    refine VC.seq ?_
    refine VC.condKT rfl (decide_eq_true (by decide)) ?_
    refine VC.skip ?_
    refine outN ?_
    refine VC.seq ?_
    refine VC.block ?_
    refine VC.rs ?_
    refine VO.y rfl (.ix1V rfl rfl tia161 tk3 rfl rfl rfl) ?_
    refine VO.as ?_
    refine VO.k11 0 1 2 3 4 5 7 13 22 23 24 ?_
    refine VC.reg ?_
    refine VO.mv ?_
    refine VO.mv ?_
    refine VO.y rfl (.cvI (c := ((d0.2.1).toNat : Int)) rfl ⟨_, Tryz.underlying3⟩ Tryz.underlying163 (by rw [IntWalk.u64_in _ bd]; first | omega | (first | omega | (simp only [List.length_append, List.length_nil, List.length_cons, List.length_take, List.length_drop] at *; omega)))) ?_
    refine VO.callN 108 rfl fnOk125 rfl (fun W hW => vAppend_ok W (OwnL.rd (Ow.ownl f6_0 rfl mnil) (hW.at (i := 106) rfl) (mle_nil _)) ((d0.2.1).toNat) bd bd) (fun v8 m8 hv8 => ?_)
    obtain ⟨s8_0, rfl, f8_0⟩ := hv8
    have hfa9 := venc_len (x := ((d0.2.1).toNat)) (by first | omega | exact or64 (by assumption) _)
    obtain ⟨A8_0, c8_0, eq8_0, l8_0, k8_0⟩ := f8_0.slice
    subst eq8_0
    simp only [maxLen] at k8_0
    refine VO.as ?_
    refine VO.kp [108, 102, 0] [(108, m8), (102, mone g1 (.cells [Value.int .i64 (d0.1), Value.int .i64 (d0.2.1), Value.slice p0_A2 (d0.2.2.length) (p0_c2)].toArray 92 (0, 0))), (0, wm W)] ?_
    refine VO.k11 0 1 2 3 4 5 7 13 22 23 24 ?_
    refine outBN ?_
    refine outN ?_
    refine VC.reg ?_
    refine VO.y rfl (.add (c := ((2 : Nat) : Int)) rfl rfl (by omega) ⟨bd, bd⟩) ?_
    refine VO.mv ?_
    refine VO.k11 0 1 2 3 4 5 7 13 22 23 24 ?_
    refine outN (VRounds.step ?_)
    refine VC.rs ?_
    refine VO.y rfl (.lss rfl rfl) ?_
    refine VO.k11 0 1 2 3 4 5 7 13 22 23 24 ?_
    refine VC.seq ?_
    refine VC.condKT rfl (decide_eq_true (by decide)) ?_
    refine VC.skip ?_
    refine outN ?_
    refine VC.seq ?_
    refine VC.block ?_
    refine VC.rs ?_
    refine VO.y rfl (.ix1V rfl rfl tia161 tk3 rfl rfl rfl) ?_
    refine VO.as ?_
    refine VO.kp [108, 102, 0] [(108, m8), (102, mone g1 (.cells [Value.int .i64 (d0.1), Value.int .i64 (d0.2.1), Value.slice p0_A2 (d0.2.2.length) (p0_c2)].toArray 92 (0, 0))), (0, wm W)] ?_
    refine VO.k11 0 1 2 3 4 5 7 13 22 23 24 ?_
    refine VC.reg ?_
    refine VO.mv ?_
    refine VO.mv ?_
    refine VO.y rfl (.cvI rfl ⟨_, Tryz.underlying3⟩ Tryz.underlying163 (IntWalk.u64_in _ bd)) ?_
    refine VO.callN 110 rfl fnOk125 rfl (fun W hW => vAppend_ok W (OwnL.rd (Ow.ownl f8_0 rfl mnil) (hW.at (i := 108) rfl) (mle_nil _)) d0.2.2.length bd bd) (fun v10 m10 hv10 => ?_)
    obtain ⟨s10_0, rfl, f10_0⟩ := hv10
    have hfa11 := venc_len (x := d0.2.2.length) (by first | omega | exact or64 (by assumption) _)
    obtain ⟨A10_0, c10_0, eq10_0, l10_0, k10_0⟩ := f10_0.slice
    subst eq10_0
    simp only [maxLen] at k10_0
    refine VO.as ?_
    refine VO.k11 0 1 2 3 4 5 7 13 22 23 24 ?_
    refine outBN ?_
    refine outN ?_
    refine VC.reg ?_
    refine VO.y rfl (.add (c := ((3 : Nat) : Int)) rfl rfl (by omega) ⟨bd, bd⟩) ?_
    refine VO.mv ?_
    refine VO.k11 0 1 2 3 4 5 7 13 22 23 24 ?_
    refine outN (VRounds.step ?_)
    refine VC.rs ?_
    refine VO.y rfl (.lss rfl rfl) ?_
    refine VO.kp [110, 102, 0] [(110, m10), (102, mone g1 (.cells [Value.int .i64 (d0.1), Value.int .i64 (d0.2.1), Value.slice p0_A2 (d0.2.2.length) (p0_c2)].toArray 92 (0, 0))), (0, wm W)] ?_
    refine VO.k11 0 1 2 3 4 5 7 13 22 23 24 ?_
    refine VC.seq ?_
    refine VC.condKF rfl (decide_eq_false (by decide)) ?_
    refine VC.exit ?_
    refine outE ?_
    refine outE ?_
    refine outBB ?_
    refine outN ?_
    refine VC.seq ?_
    refine VC.rs ?_
    refine VO.y rfl (.fa rfl tst92 rfl) ?_
    refine VO.y rfl (.ld1 102 rfl tk34 rfl (cellsAt_one rfl rfl)) ?_
    refine VO.y rfl (.lenS rfl tsl34) ?_
    refine VO.mv ?_
    refine VO.k14 0 1 2 3 4 5 7 13 22 23 24 32 33 34 ?_
    refine VC.block ?_
    refine VC.loop (G := Nat × (List UInt8) × (Option Addr) × Nat × Mem) (fun g => [(5, Value.slice (g.2.2.1) ((g.2.1).length) ((g.2.2.2.1))), (34, Value.int .i64 ((((g.1) : Nat) : Int))), (0, Value.agg [Value.int .i64 (d0.1), Value.int .i64 (d0.2.1), Value.slice p0_A2 (d0.2.2.length) (p0_c2)].toArray), (1, Value.pointer (some ⟨g1, 0, none⟩)), (2, Value.slice none (0) (0)), (3, Value.int .i64 (0)), (4, Value.int .i64 (runCheck d0)), (7, Value.int .i64 (((d0.2.2.length : Nat) : Int))), (13, Value.bool (decide (¬ (runCheck d0) = 0))), (22, Value.agg [Value.int .i64 (d0.1), Value.int .i64 (d0.2.1), Value.int .i64 (((d0.2.2.length : Nat) : Int))].toArray), (23, Value.int .i64 (((3 : Nat) : Int))), (24, Value.bool (decide (((3 : Nat) : Int) < 3))), (32, Value.slice p0_A2 (d0.2.2.length) (p0_c2)), (33, Value.int .i64 (((d0.2.2.length : Nat) : Int)))]) (fun g => [(110, (g.2.2.2.2)), (102, mone g1 (.cells [Value.int .i64 (d0.1), Value.int .i64 (d0.2.1), Value.slice p0_A2 (d0.2.2.length) (p0_c2)].toArray 92 (0, 0))), (0, wm W)]) (fun g => ((g.1) ≤ d0.2.2.length) ∧ ((g.2.1) = venc d0.1.toNat ++ (venc d0.2.1.toNat ++ venc d0.2.2.length) ++ ((d0.2.2.take (g.1)).map opEnc).flatten) ∧ (OwnL .byte (g.2.2.2.2) mnil (.slice (g.2.2.1) (g.2.1).length (g.2.2.2.1)) (g.2.1))) (fun g => d0.2.2.length - (g.1)) (0, ((venc ((d0.1).toNat)) ++ venc ((d0.2.1).toNat)) ++ venc d0.2.2.length, A10_0, c10_0, m10) (⟨by omega, by simp, (Ow.ownl f10_0 rfl mnil)⟩) ⟨⟨rfl, rfl, rfl, rfl, rfl, rfl, rfl, rfl, rfl, rfl, rfl, rfl, rfl, rfl, trivial⟩, fun _ h => h.sub [110, 102, 0]⟩ ?_
    rintro ⟨k, b, b_A, b_c, b_m⟩ ⟨hk, hb, h_b⟩
    replace hk : k ≤ d0.2.2.length := hk
    replace hb : b = venc d0.1.toNat ++ (venc d0.2.1.toNat ++ venc d0.2.2.length) ++ ((d0.2.2.take k).map opEnc).flatten := hb
    replace h_b : OwnL .byte b_m mnil (.slice b_A b.length b_c) b := h_b
    show VC _ _ _ _ _ [(5, Value.slice b_A (b.length) (b_c)), (34, Value.int .i64 (((k : Nat) : Int))), (0, Value.agg [Value.int .i64 (d0.1), Value.int .i64 (d0.2.1), Value.slice p0_A2 (d0.2.2.length) (p0_c2)].toArray), (1, Value.pointer (some ⟨g1, 0, none⟩)), (2, Value.slice none (0) (0)), (3, Value.int .i64 (0)), (4, Value.int .i64 (runCheck d0)), (7, Value.int .i64 (((d0.2.2.length : Nat) : Int))), (13, Value.bool (decide (¬ (runCheck d0) = 0))), (22, Value.agg [Value.int .i64 (d0.1), Value.int .i64 (d0.2.1), Value.int .i64 (((d0.2.2.length : Nat) : Int))].toArray), (23, Value.int .i64 (((3 : Nat) : Int))), (24, Value.bool (decide (((3 : Nat) : Int) < 3))), (32, Value.slice p0_A2 (d0.2.2.length) (p0_c2)), (33, Value.int .i64 (((d0.2.2.length : Nat) : Int)))] [(110, b_m), (102, mone g1 (.cells [Value.int .i64 (d0.1), Value.int .i64 (d0.2.1), Value.slice p0_A2 (d0.2.2.length) (p0_c2)].toArray 92 (0, 0))), (0, wm W)]
    have l_b : b.length ≤ b_c := by obtain ⟨_, _, he, hl, _⟩ := h_b.slice; simp only [Value.slice.injEq] at he; omega
    have k_b : b_c ≤ 9223372036854775807 := by obtain ⟨_, _, he, _, hl⟩ := h_b.slice; simp only [Value.slice.injEq, maxLen] at he hl; omega
    have rk := runCheck_ok (Decidable.not_not.1 ‹¬ ¬ runCheck d0 = 0›)
    have hbl : b.length ≤ 30 + 60 * k := by (have h1_ := encs_len (l := d0.2.2.take k) (fun o ho => rk.2.2.2.2.1 o (List.mem_of_mem_take ho)); have h2_ := venc_short (x := d0.1.toNat) (by omega); have h3_ := venc_short (x := d0.2.1.toNat) (by omega); have h4_ := venc_short (x := d0.2.2.length) (by omega); rw [hb]; simp only [List.length_append, List.length_take] at *; omega)
    refine VC.rs ?_
    refine VO.y rfl (.lss rfl rfl) ?_
    refine VO.k15 0 1 2 3 4 5 7 13 22 23 24 32 33 34 35 ?_
    refine VC.seq ?_
    refine VC.cond rfl (fun hc12 => ?_) (fun hc12 => ?_)
    · -- FRRRRT
      refine VC.skip ?_
      refine outN ?_
      refine VC.seq ?_
      refine VC.block ?_
      refine VC.rs ?_
      obtain ⟨x13, hx13⟩ : ∃ z_, (d0.2.2)[k]? = some z_ := ⟨_, List.getElem?_eq_getElem bd⟩
      obtain ⟨gg13, oo13, ec13, ea13, hce13, hre13⟩ := p0_2.elem hx13
      cases ea13
      obtain ⟨rfl, q13_1, q13_2⟩ := open_Op (x0 := x13.1) (x1 := x13.2.1) (x2 := x13.2.2) hre13
      simp only [maxLen] at q13_1
      simp only [maxLen] at q13_2
      refine VO.y rfl (.ixI k rfl rfl tsl34 rfl bd) ?_
      refine VO.y rfl (.ldA 0 rfl tk64 rfl hce13) ?_
      refine VO.alloc 115 rfl tz64 (fun g14 => ?_)
      refine VO.store (k := 3) (c' := [Value.bool x13.1, str (x13.2.1), str (x13.2.2)]) 115 rfl rfl (.inl tk64) rfl rfl rfl rfl rfl ?_
      refine VO.kp [115, 110, 102, 0] [(115, mone g14 (.cells [Value.bool x13.1, str (x13.2.1), str (x13.2.2)].toArray 64 (0, 0))), (110, b_m), (102, mone g1 (.cells [Value.int .i64 (d0.1), Value.int .i64 (d0.2.1), Value.slice (some ⟨gg13, oo13, none⟩) (d0.2.2.length) (p0_c2)].toArray 92 (0, 0))), (0, wm W)] ?_
      refine VO.k16 0 1 2 3 4 5 7 9 13 22 23 24 32 33 34 35 ?_
      refine VC.reg ?_
      refine VO.mv ?_
      refine VO.y rfl (.ldA 115 rfl tk64 rfl (cellsAt_one rfl rfl)) ?_
      refine VO.callN 116 rfl fnOk126 rfl (fun W hW => opAppend_ok W (OwnL.rd h_b (hW.at (i := 110) rfl) (mle_nil _)) (Rd.mono hre13 (hW.at (i := 0) rfl)) bd) (fun v16 m16 hv16 => ?_)
      obtain ⟨s16_0, rfl, f16_0⟩ := hv16
      have hfa17 := opAppend_len b x13
      obtain ⟨A16_0, c16_0, eq16_0, l16_0, k16_0⟩ := f16_0.slice
      subst eq16_0
      simp only [maxLen] at k16_0
      refine VO.mv ?_
      refine VO.y rfl (.ext rfl rfl) ?_
      refine VO.y rfl (.ext rfl rfl) ?_
      refine VO.as ?_
      refine VO.k16 0 1 2 3 4 5 7 9 13 22 23 24 32 33 34 35 ?_
      refine outBN ?_
      refine outN ?_
      refine VC.reg ?_
      refine VO.y rfl (.add (c := ((k + 1 : Nat) : Int)) rfl rfl (by omega) ⟨bd, bd⟩) ?_
      refine VO.mv ?_
      refine VO.k16 0 1 2 3 4 5 7 9 13 22 23 24 32 33 34 35 ?_
      exact outN ⟨⟨k + 1, (opAppend b x13).1, A16_0, c16_0, m16⟩, ⟨by omega, by (rw [hb]; exact encs_next ‹d0.2.2[k]? = some _› (rk.2.2.2.2.1 _ (List.mem_of_getElem? ‹d0.2.2[k]? = some _›))), (Ow.ownl f16_0 rfl mnil)⟩, bd, ⟨⟨rfl, rfl, rfl, rfl, rfl, rfl, rfl, rfl, rfl, rfl, rfl, rfl, rfl, rfl, trivial⟩, fun _ h => Inv.sub (Inv.num h 116 110 rfl) [110, 102, 0]⟩⟩
    · -- FRRRRF
      refine VC.exit ?_
      refine outE ?_
      refine outE ?_
      refine outBB ?_
      refine outN ?_
      refine VC.rs ?_
      refine VO.mv ?_
      refine VO.as ?_
      refine VO.as ?_
      refine VO.kp [110, 102, 0] [(110, b_m), (102, mone g1 (.cells [Value.int .i64 (d0.1), Value.int .i64 (d0.2.1), Value.slice p0_A2 (d0.2.2.length) (p0_c2)].toArray 92 (0, 0))), (0, wm W)] ?_
      refine VO.k15 0 1 2 3 4 5 7 13 22 23 24 32 33 34 35 ?_
      refine VC.ret ?_
      refine ⟨_, _, res_run (rs := [.tmp 2, .tmp 3]) rfl (.tmp rfl (.tmp rfl .nil)), fun W_ hI => out_of (l := [b_m]) hI [110] rfl rfl (mle_refl _) (fun hS_ => ?_)⟩
      dsimp only [packV]
      have he0 : ((runEncode d0).1 : Ty.Den (.sl .byte)) = b := by first | rfl | (first | (rw [runEnc_bad (by assumption)] <;> rfl) | (rw [runEnc_good (by assumption), hb, List.take_of_length_le (by omega)]; simp [runBody]; done))
      refine ⟨Value.slice b_A (b.length) (b_c), ?_, ?_⟩
      rotate_left
      · rw [he0]; exact (Ow.up (OwnL.ow h_b rfl) (hS_.1 _ (.head _)))
      all_goals (first | rfl | (first | (rw [runEnc_bad (by assumption)] <;> rfl) | (rw [runEnc_good (by assumption)] <;> rfl)))
theorem fin0_runDecode_ok {P : Prop} (h : P := by first | (rw [runDec_1 (by assumption)] <;> first | rfl | done) | (rw [runDec_2 (by assumption)] <;> first | rfl | done) | (rw [runDec_3 (by assumption)] <;> first | rfl | done) | (rw [runDec_op (by assumption) (by assumption) (by assumption) hl (by omega) (by assumption)] <;> first | rfl | done) | (rw [runDec_rest (by assumption) (by assumption) (by assumption) hl (by omega) (by omega)] <;> first | rfl | done) | (rw [runDec_chk (by assumption) (by assumption) (by assumption) hl (by omega) (by omega) (by assumption)] <;> first | rfl | done) | (rw [runDec_good (by assumption) (by assumption) (by assumption) hl (by omega) (by omega) (by assumption)] <;> first | rfl | done)) : P := h
theorem runDecode_ok (W : World) {v0 : Value} {d0 : List UInt8} (h0 : Rd (.sl .byte) (wm W) [v0] d0) : CallR Tryz.prog 101 [v0] W (mnil) (fun v m' => ∃ (s0 : List Value), v = .tuple #[.agg s0.toArray, .int .i64 ((runDecode d0).2)] ∧ Ow TRun m' s0 ((runDecode d0).1)) := by
  obtain ⟨A0, c0, rfl, l0, k0⟩ := h0.slice
  simp only [maxLen] at k0
  refine CallR.ofA (n := 74) Tryz.func101 rfl rfl rfl ?_
  refine VC.rs ?_
  refine VO.alloc 102 rfl tz92 (fun g1 => ?_)
  refine VO.as ?_
  refine VO.k3 0 2 3 ?_
  refine VC.rs ?_
  refine VO.alloc 104 rfl tz161 (fun g3 => ?_)
  refine VO.k4 0 2 3 4 ?_
  refine VC.seq ?_
  refine VC.rs ?_
  refine VO.y rfl (.bar (cs := [Value.int .i64 (1048576), Value.int .i64 (1048576), Value.int .i64 (1024)]) rfl tar161 tz161 rfl) ?_
  refine VO.mv ?_
  refine VO.kp [104, 102, 0] [(104, mone g3 (.cells [Value.int .i64 (0), Value.int .i64 (0), Value.int .i64 (0)].toArray 161 (0, 0))), (102, mone g1 (.cells [Value.int .i64 (0), Value.int .i64 (0), Value.slice none (0) (0)].toArray 92 (0, 0))), (0, wm W)] ?_
  refine VO.k6 0 2 3 4 14 15 ?_
  refine VC.block ?_
  refine VC.rounds 4 (VRounds.step ?_)
  refine VC.rs ?_
  refine VO.y rfl (.lss rfl rfl) ?_
  refine VO.k7 0 2 3 4 14 15 16 ?_
  refine VC.seq ?_
  refine VC.condKT rfl (decide_eq_true (by decide)) ?_
  refine VC.skip ?_
  refine outN ?_
  refine VC.seq ?_
  refine VC.block ?_
  refine VC.rs ?_
  refine VO.mv ?_
  refine VO.y rfl (.ix1V rfl rfl tia161 tk3 rfl rfl rfl) ?_
  refine VO.as ?_
  refine VO.as ?_
  refine VO.k9 0 2 3 4 5 6 14 15 16 ?_
  refine VC.rs ?_
  refine VO.mv ?_
  refine VO.mv ?_
  refine VO.callN 105 rfl fnOk134 rfl (fun W hW => vSmall_ok W (Rd.mono h0 (hW.at (i := 0) rfl)) 1048576 bdk) (fun v5 m5 hv5 => ?_)
  subst hv5
  have hfa6 := s_bounds d0 1048576 (by omega)
  refine VO.mv ?_
  refine VO.y rfl (.ext rfl rfl) ?_
  refine VO.y rfl (.ext rfl rfl) ?_
  refine VO.y rfl (.ext rfl rfl) ?_
  refine VO.as ?_
  refine VO.as ?_
  refine VO.as ?_
  refine VO.kp [104, 102, 0] [(104, mone g3 (.cells [Value.int .i64 (0), Value.int .i64 (0), Value.int .i64 (0)].toArray 161 (0, 0))), (102, mone g1 (.cells [Value.int .i64 (0), Value.int .i64 (0), Value.slice none (0) (0)].toArray 92 (0, 0))), (0, wm W)] ?_
  refine VO.k12 0 2 3 4 5 6 7 8 9 14 15 16 ?_
  refine VC.seq ?_
  refine VC.rs ?_
  refine VO.mv ?_
  refine VO.y rfl (.neq rfl rfl) ?_
  refine VO.k13 0 2 3 4 5 6 7 8 9 14 15 16 27 ?_
  refine VC.cond rfl (fun hc7 => ?_) (fun hc7 => ?_)
  · -- RT
    refine VC.rs ?_
    refine VO.y rfl (.bst (cs := [Value.int .i64 (0), Value.int .i64 (0), Value.slice none (0) (0)]) rfl tst92 tz92 rfl) ?_
    refine VO.store (k := 3) (c' := [Value.int .i64 (0), Value.int .i64 (0), Value.slice none (0) (0)]) 102 rfl rfl (.inl tk92) rfl rfl rfl rfl rfl ?_
    refine VO.as ?_
    refine VO.k13 0 2 3 4 5 6 7 8 9 14 15 16 27 ?_
    refine VC.ret ?_
    refine outR ?_
    refine outBR ?_
    refine outR ?_
    refine outR ?_
    refine outBR ?_
    refine outR ?_
    refine ⟨_, _, res_run (rs := [.cell 2 92, .tmp 3]) rfl (.agg 102 rfl tk92 rfl ⟨_, _, _, mone_self _ _, Nat.le_of_ble_eq_true rfl, rfl⟩ (.tmp rfl .nil)), fun W_ hI => out_of (l := []) hI [] rfl rfl (mle_refl _) (fun hS_ => ?_)⟩
    dsimp only [packV]
    have he0 : ((runDecode d0).1 : Ty.Den TRun) = (0, 0, []) := by first | rfl | (exact fin0_runDecode_ok)
    refine ⟨[Value.int .i64 (0), Value.int .i64 (0), Value.slice none (0) (0)], ?_, ?_⟩
    rotate_left
    · rw [he0]; exact (mkO_Run 0 0 [] (Seps.nilAt 0 hS_) bdk bdk (Ow.nil _ _))
    all_goals (first | rfl | (exact fin0_runDecode_ok))
  · -- RF
    refine VC.skip ?_
    refine outN ?_
    refine VC.inv _ (fun _ h => Inv.num h 104 2104 rfl) ?_
    refine VC.regD _ 7 [(0, true), (1, true), (2, true), (3, true), (4, true), (5, true), (6, false)] follows (by kernel_rfl) (fun _ h => h.sub [2104, 102, 0]) ?_
    refine VD.y rfl rfl (.inl rfl) (.mv rfl) ?_
    refine VD.y rfl rfl (.inl rfl) (.mv rfl) ?_
    refine VD.y rfl rfl (.inl rfl) (.mv rfl) ?_
    refine VD.y rfl rfl (.inl rfl) (.mv rfl) ?_
    obtain ⟨A8, hA8, hs8⟩ := h0.drop 1 (sN d0 1048576) rfl bd
    refine VD.y rfl rfl (.inl rfl) (.slLI (sN d0 1048576) A8 rfl rfl tsl97 rfl hA8 bd) ?_
    refine VD.y rfl rfl (.inl rfl) (.ixa (i := 0) (o := 0) rfl rfl tar161 rfl rfl rfl) ?_
    refine VD.storeH (k := 1) (c' := [Value.int .i64 (((sX d0 1048576 : Nat) : Int)), Value.int .i64 (0), Value.int .i64 (0)]) 2104 rfl rfl rfl (.inr ⟨tk3, rfl⟩) rfl rfl rfl rfl rfl (fun _ h => h.sub [102, 0]) ?_
    refine VD.nil rfl ?_ rfl
    refine VO.as ?_
    refine VO.k13 0 2 3 4 5 6 7 8 9 14 15 16 27 ?_
    refine outBN ?_
    refine outN ?_
    refine VC.reg ?_
    refine VO.y rfl (.add (c := ((1 : Nat) : Int)) rfl rfl (by omega) ⟨bd, bd⟩) ?_
    refine VO.mv ?_
    refine VO.kp [2104, 102, 0] [(2104, mone g3 (.cells [Value.int .i64 (((sX d0 1048576 : Nat) : Int)), Value.int .i64 (0), Value.int .i64 (0)].toArray 161 (0, 0))), (102, mone g1 (.cells [Value.int .i64 (0), Value.int .i64 (0), Value.slice none (0) (0)].toArray 92 (0, 0))), (0, wm W)] ?_
    refine VO.k13 0 2 3 4 5 6 7 8 9 14 15 16 27 ?_
    refine outN (VRounds.step ?_)
    refine VC.rs ?_
    refine VO.y rfl (.lss rfl rfl) ?_
    refine VO.k13 0 2 3 4 5 6 7 8 9 14 15 16 27 ?_
    refine VC.seq ?_
    refine VC.condKT rfl (decide_eq_true (by decide)) ?_
    refine VC.skip ?_
    refine outN ?_
    refine VC.seq ?_
    refine VC.block ?_
    refine VC.rs ?_
    refine VO.mv ?_
    refine VO.y rfl (.ix1V rfl rfl tia161 tk3 rfl rfl rfl) ?_
    refine VO.as ?_
    refine VO.as ?_
    refine VO.k13 0 2 3 4 5 6 7 8 9 14 15 16 27 ?_
    refine VC.rs ?_
    refine VO.mv ?_
    refine VO.mv ?_
    refine VO.callN 109 rfl fnOk134 rfl (fun W hW => vSmall_ok W (Rd.mono hs8 (hW.at (i := 0) rfl)) 1048576 bdk) (fun v9 m9 hv9 => ?_)
    subst hv9
    have hfa10 := s_bounds (d0.drop (sN d0 1048576)) 1048576 (by omega)
    refine VO.mv ?_
    refine VO.y rfl (.ext rfl rfl) ?_
    refine VO.y rfl (.ext rfl rfl) ?_
    refine VO.y rfl (.ext rfl rfl) ?_
    refine VO.as ?_
    refine VO.as ?_
    refine VO.as ?_
    refine VO.kp [2104, 102, 0] [(2104, mone g3 (.cells [Value.int .i64 (((sX d0 1048576 : Nat) : Int)), Value.int .i64 (0), Value.int .i64 (0)].toArray 161 (0, 0))), (102, mone g1 (.cells [Value.int .i64 (0), Value.int .i64 (0), Value.slice none (0) (0)].toArray 92 (0, 0))), (0, wm W)] ?_
    refine VO.k13 0 2 3 4 5 6 7 8 9 14 15 16 27 ?_
    refine VC.seq ?_
    refine VC.rs ?_
    refine VO.mv ?_
    refine VO.y rfl (.neq rfl rfl) ?_
    refine VO.k13 0 2 3 4 5 6 7 8 9 14 15 16 27 ?_
    refine VC.cond rfl (fun hc11 => ?_) (fun hc11 => ?_)
    · -- RFRT
      refine VC.rs ?_
      refine VO.y rfl (.bst (cs := [Value.int .i64 (0), Value.int .i64 (0), Value.slice none (0) (0)]) rfl tst92 tz92 rfl) ?_
      refine VO.store (k := 3) (c' := [Value.int .i64 (0), Value.int .i64 (0), Value.slice none (0) (0)]) 102 rfl rfl (.inl tk92) rfl rfl rfl rfl rfl ?_
      refine VO.as ?_
      refine VO.k13 0 2 3 4 5 6 7 8 9 14 15 16 27 ?_
      refine VC.ret ?_
      refine outR ?_
      refine outBR ?_
      refine outR ?_
      refine outR ?_
      refine outBR ?_
      refine outR ?_
      refine ⟨_, _, res_run (rs := [.cell 2 92, .tmp 3]) rfl (.agg 102 rfl tk92 rfl ⟨_, _, _, mone_self _ _, Nat.le_of_ble_eq_true rfl, rfl⟩ (.tmp rfl .nil)), fun W_ hI => out_of (l := []) hI [] rfl rfl (mle_refl _) (fun hS_ => ?_)⟩
      dsimp only [packV]
      have he0 : ((runDecode d0).1 : Ty.Den TRun) = (0, 0, []) := by first | rfl | (exact fin0_runDecode_ok)
      refine ⟨[Value.int .i64 (0), Value.int .i64 (0), Value.slice none (0) (0)], ?_, ?_⟩
      rotate_left
      · rw [he0]; exact (mkO_Run 0 0 [] (Seps.nilAt 0 hS_) bdk bdk (Ow.nil _ _))
      all_goals (first | rfl | (exact fin0_runDecode_ok))
    · -- RFRF
      refine VC.skip ?_
      refine outN ?_
      refine VC.regD _ 7 [(0, true), (1, true), (2, true), (3, true), (4, true), (5, true), (6, false)] follows (by kernel_rfl) (fun _ h => h.sub [2104, 102, 0]) ?_
      refine VD.y rfl rfl (.inl rfl) (.mv rfl) ?_
      refine VD.y rfl rfl (.inl rfl) (.mv rfl) ?_
      refine VD.y rfl rfl (.inl rfl) (.mv rfl) ?_
      refine VD.y rfl rfl (.inl rfl) (.mv rfl) ?_
      obtain ⟨A12, hA12, hs12⟩ := hs8.drop 1 (sN (d0.drop (sN d0 1048576)) 1048576) rfl bd
      replace hs12 := Rd.relen (k := (d0.length - (sN d0 1048576)) - (sN (d0.drop (sN d0 1048576)) 1048576)) hs12 (by simp only [List.length_drop, List.length_take]; try omega)
      refine VD.y rfl rfl (.inl rfl) (.slLI (sN (d0.drop (sN d0 1048576)) 1048576) A12 rfl rfl tsl97 rfl hA12 bd) ?_
      refine VD.y rfl rfl (.inl rfl) (.ixa (i := 1) (o := 1) rfl rfl tar161 rfl rfl rfl) ?_
      refine VD.storeH (k := 1) (c' := [Value.int .i64 (((sX d0 1048576 : Nat) : Int)), Value.int .i64 (((sX (d0.drop (sN d0 1048576)) 1048576 : Nat) : Int)), Value.int .i64 (0)]) 2104 rfl rfl rfl (.inr ⟨tk3, rfl⟩) rfl rfl rfl rfl rfl (fun _ h => h.sub [102, 0]) ?_
      refine VD.nil rfl ?_ rfl
      refine VO.as ?_
      refine VO.k13 0 2 3 4 5 6 7 8 9 14 15 16 27 ?_
      refine outBN ?_
      refine outN ?_
      refine VC.reg ?_
      refine VO.y rfl (.add (c := ((2 : Nat) : Int)) rfl rfl (by omega) ⟨bd, bd⟩) ?_
      refine VO.mv ?_
      refine VO.kp [2104, 102, 0] [(2104, mone g3 (.cells [Value.int .i64 (((sX d0 1048576 : Nat) : Int)), Value.int .i64 (((sX (d0.drop (sN d0 1048576)) 1048576 : Nat) : Int)), Value.int .i64 (0)].toArray 161 (0, 0))), (102, mone g1 (.cells [Value.int .i64 (0), Value.int .i64 (0), Value.slice none (0) (0)].toArray 92 (0, 0))), (0, wm W)] ?_
      refine VO.k13 0 2 3 4 5 6 7 8 9 14 15 16 27 ?_
      refine outN (VRounds.step ?_)
      refine VC.rs ?_
      refine VO.y rfl (.lss rfl rfl) ?_
      refine VO.k13 0 2 3 4 5 6 7 8 9 14 15 16 27 ?_
      refine VC.seq ?_
      refine VC.condKT rfl (decide_eq_true (by decide)) ?_
      refine VC.skip ?_
      refine outN ?_
      refine VC.seq ?_
      refine VC.block ?_
      refine VC.rs ?_
      refine VO.mv ?_
      refine VO.y rfl (.ix1V rfl rfl tia161 tk3 rfl rfl rfl) ?_
      refine VO.as ?_
      refine VO.as ?_
      refine VO.k13 0 2 3 4 5 6 7 8 9 14 15 16 27 ?_
      refine VC.rs ?_
      refine VO.mv ?_
      refine VO.mv ?_
      refine VO.callN 113 rfl fnOk134 rfl (fun W hW => vSmall_ok W (Rd.mono hs12 (hW.at (i := 0) rfl)) 1024 bdk) (fun v13 m13 hv13 => ?_)
      subst hv13
      have hfa14 := s_bounds ((d0.drop (sN d0 1048576)).drop (sN (d0.drop (sN d0 1048576)) 1048576)) 1024 (by omega)
      refine VO.mv ?_
      refine VO.y rfl (.ext rfl rfl) ?_
      refine VO.y rfl (.ext rfl rfl) ?_
      refine VO.y rfl (.ext rfl rfl) ?_
      refine VO.as ?_
      refine VO.as ?_
      refine VO.as ?_
      refine VO.kp [2104, 102, 0] [(2104, mone g3 (.cells [Value.int .i64 (((sX d0 1048576 : Nat) : Int)), Value.int .i64 (((sX (d0.drop (sN d0 1048576)) 1048576 : Nat) : Int)), Value.int .i64 (0)].toArray 161 (0, 0))), (102, mone g1 (.cells [Value.int .i64 (0), Value.int .i64 (0), Value.slice none (0) (0)].toArray 92 (0, 0))), (0, wm W)] ?_
      refine VO.k13 0 2 3 4 5 6 7 8 9 14 15 16 27 ?_
      refine VC.seq ?_
      refine VC.rs ?_
      refine VO.mv ?_
      refine VO.y rfl (.neq rfl rfl) ?_
      refine VO.k13 0 2 3 4 5 6 7 8 9 14 15 16 27 ?_
      refine VC.cond rfl (fun hc15 => ?_) (fun hc15 => ?_)
      · -- RFRFRT
        refine VC.rs ?_
        refine VO.y rfl (.bst (cs := [Value.int .i64 (0), Value.int .i64 (0), Value.slice none (0) (0)]) rfl tst92 tz92 rfl) ?_
        refine VO.store (k := 3) (c' := [Value.int .i64 (0), Value.int .i64 (0), Value.slice none (0) (0)]) 102 rfl rfl (.inl tk92) rfl rfl rfl rfl rfl ?_
        refine VO.as ?_
        refine VO.k13 0 2 3 4 5 6 7 8 9 14 15 16 27 ?_
        refine VC.ret ?_
        refine outR ?_
        refine outBR ?_
        refine outR ?_
        refine outR ?_
        refine outBR ?_
        refine outR ?_
        refine ⟨_, _, res_run (rs := [.cell 2 92, .tmp 3]) rfl (.agg 102 rfl tk92 rfl ⟨_, _, _, mone_self _ _, Nat.le_of_ble_eq_true rfl, rfl⟩ (.tmp rfl .nil)), fun W_ hI => out_of (l := []) hI [] rfl rfl (mle_refl _) (fun hS_ => ?_)⟩
        dsimp only [packV]
        have he0 : ((runDecode d0).1 : Ty.Den TRun) = (0, 0, []) := by first | rfl | (exact fin0_runDecode_ok)
        refine ⟨[Value.int .i64 (0), Value.int .i64 (0), Value.slice none (0) (0)], ?_, ?_⟩
        rotate_left
        · rw [he0]; exact (mkO_Run 0 0 [] (Seps.nilAt 0 hS_) bdk bdk (Ow.nil _ _))
        all_goals (first | rfl | (exact fin0_runDecode_ok))
      · -- RFRFRF
        refine VC.skip ?_
        refine outN ?_
        refine VC.regD _ 7 [(0, true), (1, true), (2, true), (3, true), (4, true), (5, true), (6, false)] follows (by kernel_rfl) (fun _ h => h.sub [2104, 102, 0]) ?_
        refine VD.y rfl rfl (.inl rfl) (.mv rfl) ?_
        refine VD.y rfl rfl (.inl rfl) (.mv rfl) ?_
        refine VD.y rfl rfl (.inl rfl) (.mv rfl) ?_
        refine VD.y rfl rfl (.inl rfl) (.mv rfl) ?_
        obtain ⟨A16, hA16, hs16⟩ := hs12.drop 1 (sN ((d0.drop (sN d0 1048576)).drop (sN (d0.drop (sN d0 1048576)) 1048576)) 1024) rfl bd
        replace hs16 := Rd.relen (k := ((d0.length - (sN d0 1048576)) - (sN (d0.drop (sN d0 1048576)) 1048576)) - (sN ((d0.drop (sN d0 1048576)).drop (sN (d0.drop (sN d0 1048576)) 1048576)) 1024)) hs16 (by simp only [List.length_drop, List.length_take]; try omega)
        refine VD.y rfl rfl (.inl rfl) (.slLI (sN ((d0.drop (sN d0 1048576)).drop (sN (d0.drop (sN d0 1048576)) 1048576)) 1024) A16 rfl rfl tsl97 rfl hA16 bd) ?_
        refine VD.y rfl rfl (.inl rfl) (.ixa (i := 2) (o := 2) rfl rfl tar161 rfl rfl rfl) ?_
        refine VD.storeH (k := 1) (c' := [Value.int .i64 (((sX d0 1048576 : Nat) : Int)), Value.int .i64 (((sX (d0.drop (sN d0 1048576)) 1048576 : Nat) : Int)), Value.int .i64 (((sX ((d0.drop (sN d0 1048576)).drop (sN (d0.drop (sN d0 1048576)) 1048576)) 1024 : Nat) : Int))]) 2104 rfl rfl rfl (.inr ⟨tk3, rfl⟩) rfl rfl rfl rfl rfl (fun _ h => h.sub [102, 0]) ?_
        refine VD.nil rfl ?_ rfl
        refine VO.as ?_
        refine VO.k13 0 2 3 4 5 6 7 8 9 14 15 16 27 ?_
        refine outBN ?_
        refine outN ?_
        refine VC.reg ?_
        refine VO.y rfl (.add (c := ((3 : Nat) : Int)) rfl rfl (by omega) ⟨bd, bd⟩) ?_
        refine VO.mv ?_
        refine VO.kp [2104, 102, 0] [(2104, mone g3 (.cells [Value.int .i64 (((sX d0 1048576 : Nat) : Int)), Value.int .i64 (((sX (d0.drop (sN d0 1048576)) 1048576 : Nat) : Int)), Value.int .i64 (((sX ((d0.drop (sN d0 1048576)).drop (sN (d0.drop (sN d0 1048576)) 1048576)) 1024 : Nat) : Int))].toArray 161 (0, 0))), (102, mone g1 (.cells [Value.int .i64 (0), Value.int .i64 (0), Value.slice none (0) (0)].toArray 92 (0, 0))), (0, wm W)] ?_
        refine VO.k13 0 2 3 4 5 6 7 8 9 14 15 16 27 ?_
        refine outN (VRounds.step ?_)
        refine VC.rs ?_
        refine VO.y rfl (.lss rfl rfl) ?_
        refine VO.k13 0 2 3 4 5 6 7 8 9 14 15 16 27 ?_
        refine VC.seq ?_
        refine VC.condKF rfl (decide_eq_false (by decide)) ?_
        refine VC.exit ?_
        refine outE ?_
        refine outE ?_
        refine outBB ?_
        refine outN ?_
        refine VC.rs ?_
        refine VO.y rfl (.ixa (i := 0) (o := 0) rfl rfl tar161 rfl rfl rfl) ?_
        refine VO.y rfl (.ld1 2104 rfl tk3 rfl (cellsAt_one rfl rfl)) ?_
        refine VO.y rfl (.ixa (i := 1) (o := 1) rfl rfl tar161 rfl rfl rfl) ?_
        refine VO.y rfl (.ld1 2104 rfl tk3 rfl (cellsAt_one rfl rfl)) ?_
        refine VO.y rfl (.bst (cs := [Value.int .i64 (((sX d0 1048576 : Nat) : Int)), Value.int .i64 (((sX (d0.drop (sN d0 1048576)) 1048576 : Nat) : Int)), Value.slice none (0) (0)]) rfl tst92 tz92 rfl) ?_
        refine VO.alloc 118 rfl tz92 (fun g17 => ?_)
        refine VO.store (k := 3) (c' := [Value.int .i64 (((sX d0 1048576 : Nat) : Int)), Value.int .i64 (((sX (d0.drop (sN d0 1048576)) 1048576 : Nat) : Int)), Value.slice none (0) (0)]) 118 rfl rfl (.inl tk92) rfl rfl rfl rfl rfl ?_
        refine VO.k14 0 2 3 4 5 6 7 8 9 10 14 15 16 27 ?_
        refine VC.seq ?_
        refine VC.rs ?_
        refine VO.y rfl (.ixa (i := 2) (o := 2) rfl rfl tar161 rfl rfl rfl) ?_
        refine VO.y rfl (.ld1 2104 rfl tk3 rfl (cellsAt_one rfl rfl)) ?_
        refine VO.mv ?_
        refine VO.kp [118, 2104, 102, 0] [(118, mone g17 (.cells [Value.int .i64 (((sX d0 1048576 : Nat) : Int)), Value.int .i64 (((sX (d0.drop (sN d0 1048576)) 1048576 : Nat) : Int)), Value.slice none (0) (0)].toArray 92 (0, 0))), (2104, mone g3 (.cells [Value.int .i64 (((sX d0 1048576 : Nat) : Int)), Value.int .i64 (((sX (d0.drop (sN d0 1048576)) 1048576 : Nat) : Int)), Value.int .i64 (((sX ((d0.drop (sN d0 1048576)).drop (sN (d0.drop (sN d0 1048576)) 1048576)) 1024 : Nat) : Int))].toArray 161 (0, 0))), (102, mone g1 (.cells [Value.int .i64 (0), Value.int .i64 (0), Value.slice none (0) (0)].toArray 92 (0, 0))), (0, wm W)] ?_
        refine VO.k16 0 2 3 4 5 6 7 8 9 10 14 15 16 27 42 43 ?_
        refine VC.block ?_
        have hrl19 : ((d0.length - (sN d0 1048576)) - (sN (d0.drop (sN d0 1048576)) 1048576)) - (sN ((d0.drop (sN d0 1048576)).drop (sN (d0.drop (sN d0 1048576)) 1048576)) 1024) = (((d0.drop (sN d0 1048576)).drop (sN (d0.drop (sN d0 1048576)) 1048576)).drop (sN ((d0.drop (sN d0 1048576)).drop (sN (d0.drop (sN d0 1048576)) 1048576)) 1024)).length := by simp only [List.length_drop, List.length_take]; try omega
        rw [hrl19]
        replace hs16 := Rd.relen (k := (((d0.drop (sN d0 1048576)).drop (sN (d0.drop (sN d0 1048576)) 1048576)).drop (sN ((d0.drop (sN d0 1048576)).drop (sN (d0.drop (sN d0 1048576)) 1048576)) 1024)).length) hs16 rfl
        refine VC.inv ((120, mnil) :: _) (fun _ h => h.nilc 120) ?_
        refine VC.loop (G := Nat × (List UInt8) × (Option Addr) × Nat × (List DOp) × (Option Addr) × Nat × Mem) (fun g => [(0, Value.slice (g.2.2.1) ((g.2.1).length) ((g.2.2.2.1))), (43, Value.int .i64 ((((g.1) : Nat) : Int))), (2, Value.pointer (some ⟨g1, 0, none⟩)), (4, Value.pointer (some ⟨g3, 0, none⟩)), (5, Value.int .i64 (((2 : Nat) : Int))), (6, Value.int .i64 (1024)), (7, Value.int .i64 (((sX ((d0.drop (sN d0 1048576)).drop (sN (d0.drop (sN d0 1048576)) 1048576)) 1024 : Nat) : Int))), (8, Value.int .i64 (((sN ((d0.drop (sN d0 1048576)).drop (sN (d0.drop (sN d0 1048576)) 1048576)) 1024 : Nat) : Int))), (9, Value.int .i64 (sE ((d0.drop (sN d0 1048576)).drop (sN (d0.drop (sN d0 1048576)) 1048576)) 1024)), (10, Value.pointer (some ⟨g17, 0, none⟩)), (14, Value.agg [Value.int .i64 (1048576), Value.int .i64 (1048576), Value.int .i64 (1024)].toArray), (15, Value.int .i64 (((3 : Nat) : Int))), (16, Value.bool (decide (((3 : Nat) : Int) < 3))), (27, Value.bool (decide (¬ (sE ((d0.drop (sN d0 1048576)).drop (sN (d0.drop (sN d0 1048576)) 1048576)) 1024) = 0))), (42, Value.int .i64 (((sX ((d0.drop (sN d0 1048576)).drop (sN (d0.drop (sN d0 1048576)) 1048576)) 1024 : Nat) : Int)))]) (fun g => [(120, (g.2.2.2.2.2.2.2)), (118, mone g17 (.cells [Value.int .i64 (((sX d0 1048576 : Nat) : Int)), Value.int .i64 (((sX (d0.drop (sN d0 1048576)) 1048576 : Nat) : Int)), Value.slice (g.2.2.2.2.2.1) ((g.2.2.2.2.1).length) ((g.2.2.2.2.2.2.1))].toArray 92 (0, 0))), (2104, mone g3 (.cells [Value.int .i64 (((sX d0 1048576 : Nat) : Int)), Value.int .i64 (((sX (d0.drop (sN d0 1048576)) 1048576 : Nat) : Int)), Value.int .i64 (((sX ((d0.drop (sN d0 1048576)).drop (sN (d0.drop (sN d0 1048576)) 1048576)) 1024 : Nat) : Int))].toArray 161 (0, 0))), (102, mone g1 (.cells [Value.int .i64 (0), Value.int .i64 (0), Value.slice none (0) (0)].toArray 92 (0, 0))), (0, wm W)]) (fun g => ((g.1) ≤ sX ((d0.drop (sN d0 1048576)).drop (sN (d0.drop (sN d0 1048576)) 1048576)) 1024) ∧ (rdOps (sX ((d0.drop (sN d0 1048576)).drop (sN (d0.drop (sN d0 1048576)) 1048576)) 1024) (((d0.drop (sN d0 1048576)).drop (sN (d0.drop (sN d0 1048576)) 1048576)).drop (sN ((d0.drop (sN d0 1048576)).drop (sN (d0.drop (sN d0 1048576)) 1048576)) 1024)) = (rdOps (sX ((d0.drop (sN d0 1048576)).drop (sN (d0.drop (sN d0 1048576)) 1048576)) 1024 - (g.1)) (g.2.1)).map (fun q => ((g.2.2.2.2.1) ++ q.1, q.2))) ∧ ((g.2.2.2.2.1).length ≤ (g.1)) ∧ (Rd (.sl .byte) (wm W) [.slice (g.2.2.1) (g.2.1).length (g.2.2.2.1)] (g.2.1)) ∧ (OwnL TOp (g.2.2.2.2.2.2.2) mnil (.slice (g.2.2.2.2.2.1) (g.2.2.2.2.1).length (g.2.2.2.2.2.2.1)) (g.2.2.2.2.1))) (fun g => sX ((d0.drop (sN d0 1048576)).drop (sN (d0.drop (sN d0 1048576)) 1048576)) 1024 - (g.1)) (0, ((d0.drop (sN d0 1048576)).drop (sN (d0.drop (sN d0 1048576)) 1048576)).drop (sN ((d0.drop (sN d0 1048576)).drop (sN (d0.drop (sN d0 1048576)) 1048576)) 1024), A16, ((c0 - (sN d0 1048576)) - (sN (d0.drop (sN d0 1048576)) 1048576)) - (sN ((d0.drop (sN d0 1048576)).drop (sN (d0.drop (sN d0 1048576)) 1048576)) 1024), [], none, 0, mnil) (⟨by omega, by exact rdOps_0 _ _, by simp, hs16, (OwnL.nil TOp mnil mnil)⟩) ⟨⟨rfl, rfl, rfl, rfl, rfl, rfl, rfl, rfl, rfl, rfl, rfl, rfl, rfl, rfl, rfl, trivial⟩, fun _ h => h.sub [120, 118, 2104, 102, 0]⟩ ?_
        rintro ⟨j, b, b_A, b_c, l, l_A, l_c, l_m⟩ ⟨hj, hl, hll, h_b, h_l⟩
        replace hj : j ≤ sX ((d0.drop (sN d0 1048576)).drop (sN (d0.drop (sN d0 1048576)) 1048576)) 1024 := hj
        replace hl : rdOps (sX ((d0.drop (sN d0 1048576)).drop (sN (d0.drop (sN d0 1048576)) 1048576)) 1024) (((d0.drop (sN d0 1048576)).drop (sN (d0.drop (sN d0 1048576)) 1048576)).drop (sN ((d0.drop (sN d0 1048576)).drop (sN (d0.drop (sN d0 1048576)) 1048576)) 1024)) = (rdOps (sX ((d0.drop (sN d0 1048576)).drop (sN (d0.drop (sN d0 1048576)) 1048576)) 1024 - j) b).map (fun q => (l ++ q.1, q.2)) := hl
        replace hll : l.length ≤ j := hll
        replace h_b : Rd (.sl .byte) (wm W) [.slice b_A b.length b_c] b := h_b
        replace h_l : OwnL TOp l_m mnil (.slice l_A l.length l_c) l := h_l
        show VC _ _ _ _ _ [(0, Value.slice b_A (b.length) (b_c)), (43, Value.int .i64 (((j : Nat) : Int))), (2, Value.pointer (some ⟨g1, 0, none⟩)), (4, Value.pointer (some ⟨g3, 0, none⟩)), (5, Value.int .i64 (((2 : Nat) : Int))), (6, Value.int .i64 (1024)), (7, Value.int .i64 (((sX ((d0.drop (sN d0 1048576)).drop (sN (d0.drop (sN d0 1048576)) 1048576)) 1024 : Nat) : Int))), (8, Value.int .i64 (((sN ((d0.drop (sN d0 1048576)).drop (sN (d0.drop (sN d0 1048576)) 1048576)) 1024 : Nat) : Int))), (9, Value.int .i64 (sE ((d0.drop (sN d0 1048576)).drop (sN (d0.drop (sN d0 1048576)) 1048576)) 1024)), (10, Value.pointer (some ⟨g17, 0, none⟩)), (14, Value.agg [Value.int .i64 (1048576), Value.int .i64 (1048576), Value.int .i64 (1024)].toArray), (15, Value.int .i64 (((3 : Nat) : Int))), (16, Value.bool (decide (((3 : Nat) : Int) < 3))), (27, Value.bool (decide (¬ (sE ((d0.drop (sN d0 1048576)).drop (sN (d0.drop (sN d0 1048576)) 1048576)) 1024) = 0))), (42, Value.int .i64 (((sX ((d0.drop (sN d0 1048576)).drop (sN (d0.drop (sN d0 1048576)) 1048576)) 1024 : Nat) : Int)))] [(120, l_m), (118, mone g17 (.cells [Value.int .i64 (((sX d0 1048576 : Nat) : Int)), Value.int .i64 (((sX (d0.drop (sN d0 1048576)) 1048576 : Nat) : Int)), Value.slice l_A (l.length) (l_c)].toArray 92 (0, 0))), (2104, mone g3 (.cells [Value.int .i64 (((sX d0 1048576 : Nat) : Int)), Value.int .i64 (((sX (d0.drop (sN d0 1048576)) 1048576 : Nat) : Int)), Value.int .i64 (((sX ((d0.drop (sN d0 1048576)).drop (sN (d0.drop (sN d0 1048576)) 1048576)) 1024 : Nat) : Int))].toArray 161 (0, 0))), (102, mone g1 (.cells [Value.int .i64 (0), Value.int .i64 (0), Value.slice none (0) (0)].toArray 92 (0, 0))), (0, wm W)]
        have l_b : b.length ≤ b_c := by obtain ⟨_, _, he, hl, _⟩ := h_b.slice; simp only [Value.slice.injEq] at he; omega
        have k_b : b_c ≤ 9223372036854775807 := by obtain ⟨_, _, he, _, hl⟩ := h_b.slice; simp only [Value.slice.injEq, maxLen] at he hl; omega
        have l_l : l.length ≤ l_c := by obtain ⟨_, _, he, hl, _⟩ := h_l.slice; simp only [Value.slice.injEq] at he; omega
        have k_l : l_c ≤ 9223372036854775807 := by obtain ⟨_, _, he, _, hl⟩ := h_l.slice; simp only [Value.slice.injEq, maxLen] at he hl; omega
        refine VC.rs ?_
        refine VO.y rfl (.lss rfl rfl) ?_
        refine VO.k16 0 2 4 5 6 7 8 9 10 14 15 16 27 42 43 44 ?_
        refine VC.seq ?_
        refine VC.cond rfl (fun hc21 => ?_) (fun hc21 => ?_)
        · -- RFRFRFRT
          refine VC.skip ?_
          refine outN ?_
          refine VC.seq ?_
          refine VC.block ?_
          refine VC.rs ?_
          refine VO.mv ?_
          refine VO.callN 122 rfl fnOk135 rfl (fun W hW => opRead_ok W (Rd.mono h_b (hW.at (i := 0) rfl))) (fun v22 m22 hv22 => ?_)
          obtain ⟨s22_0, rfl, f22_0⟩ := hv22
          have hfa23 := opRd_fits b
          obtain ⟨rfl, q22_0_1, q22_0_2⟩ := open_Op (x0 := ((opRd b).1).1) (x1 := ((opRd b).1).2.1) (x2 := ((opRd b).1).2.2) (f22_0.rd (mle_refl _))
          simp only [maxLen] at q22_0_1
          simp only [maxLen] at q22_0_2
          refine VO.mv ?_
          refine VO.y rfl (.ext rfl rfl) ?_
          refine VO.y rfl (.ext rfl rfl) ?_
          refine VO.y rfl (.ext rfl rfl) ?_
          refine VO.alloc 125 rfl tz64 (fun g24 => ?_)
          refine VO.store (k := 3) (c' := [Value.bool (((opRd b).1).1), str (((opRd b).1).2.1), str (((opRd b).1).2.2)]) 125 rfl rfl (.inl tk64) rfl rfl rfl rfl rfl ?_
          refine VO.as ?_
          refine VO.as ?_
          refine VO.k19 0 2 4 5 6 7 8 9 10 11 12 13 14 15 16 27 42 43 44 ?_
          refine VC.seq ?_
          refine VC.rs ?_
          refine VO.mv ?_
          refine VO.y rfl (.neq rfl rfl) ?_
          refine VO.kp [125, 120, 118, 2104, 102, 0] [(125, mone g24 (.cells [Value.bool (((opRd b).1).1), str (((opRd b).1).2.1), str (((opRd b).1).2.2)].toArray 64 (0, 0))), (120, l_m), (118, mone g17 (.cells [Value.int .i64 (((sX d0 1048576 : Nat) : Int)), Value.int .i64 (((sX (d0.drop (sN d0 1048576)) 1048576 : Nat) : Int)), Value.slice l_A (l.length) (l_c)].toArray 92 (0, 0))), (2104, mone g3 (.cells [Value.int .i64 (((sX d0 1048576 : Nat) : Int)), Value.int .i64 (((sX (d0.drop (sN d0 1048576)) 1048576 : Nat) : Int)), Value.int .i64 (((sX ((d0.drop (sN d0 1048576)).drop (sN (d0.drop (sN d0 1048576)) 1048576)) 1024 : Nat) : Int))].toArray 161 (0, 0))), (102, mone g1 (.cells [Value.int .i64 (0), Value.int .i64 (0), Value.slice none (0) (0)].toArray 92 (0, 0))), (0, wm W)] ?_
          refine VO.k20 0 2 4 5 6 7 8 9 10 11 12 13 14 15 16 27 42 43 44 52 ?_
          refine VC.cond rfl (fun hc26 => ?_) (fun hc26 => ?_)
          · -- RFRFRFRTT
            refine VC.rs ?_
            refine VO.y rfl (.bst (cs := [Value.int .i64 (0), Value.int .i64 (0), Value.slice none (0) (0)]) rfl tst92 tz92 rfl) ?_
            refine VO.store (k := 3) (c' := [Value.int .i64 (0), Value.int .i64 (0), Value.slice none (0) (0)]) 102 rfl rfl (.inl tk92) rfl rfl rfl rfl rfl ?_
            refine VO.as ?_
            refine VO.k21 0 2 3 4 5 6 7 8 9 10 11 12 13 14 15 16 27 42 43 44 52 ?_
            refine VC.ret ?_
            refine outR ?_
            refine outBR ?_
            refine outR ?_
            refine outR ?_
            refine outBR ?_
            refine outR ?_
            refine ⟨_, _, res_run (rs := [.cell 2 92, .tmp 3]) rfl (.agg 102 rfl tk92 rfl ⟨_, _, _, mone_self _ _, Nat.le_of_ble_eq_true rfl, rfl⟩ (.tmp rfl .nil)), fun W_ hI => out_of (l := []) hI [] rfl rfl (mle_refl _) (fun hS_ => ?_)⟩
            dsimp only [packV]
            have he0 : ((runDecode d0).1 : Ty.Den TRun) = (0, 0, []) := by first | rfl | (exact fin0_runDecode_ok)
            refine ⟨[Value.int .i64 (0), Value.int .i64 (0), Value.slice none (0) (0)], ?_, ?_⟩
            rotate_left
            · rw [he0]; exact (mkO_Run 0 0 [] (Seps.nilAt 0 hS_) bdk bdk (Ow.nil _ _))
            all_goals (first | rfl | (exact fin0_runDecode_ok))
          · -- RFRFRFRTF
            refine VC.skip ?_
            refine outN ?_
            refine VC.inv _ (fun _ h => Inv.num h 118 2118 rfl) ?_
            refine VC.inv _ (fun _ h => Inv.num h 2104 104 rfl) ?_
            refine VC.regD _ 10 [(0, true), (1, true), (2, true), (5, true), (6, true), (7, true), (3, false), (4, false), (8, true), (9, false)] follows (by kernel_rfl) (fun _ h => h.sub [125, 2118, 104, 102, 0]) ?_
            refine VD.y rfl rfl (.inl rfl) (.fa rfl tst92 rfl) ?_
            refine VD.yH rfl rfl (.inl rfl) (by kernel_rfl) (.ld1 2118 rfl tk34 rfl (cellsAt_one rfl rfl)) ?_
            refine VD.y rfl rfl (.inl rfl) (.ldA 125 rfl tk64 rfl (cellsAt_one rfl rfl)) ?_
            refine VD.y rfl rfl (.inl rfl) (.mv rfl) ?_
            refine VD.y rfl rfl (.inl rfl) (.mv rfl) ?_
            obtain ⟨A27, hA27, hs27⟩ := h_b.drop 1 (((opRd b).2.1).toNat) rfl bd
            refine VD.y rfl rfl (.inl rfl) (.slLI (((opRd b).2.1).toNat) A27 rfl rfl tsl97 bd hA27 bd) ?_
            refine VD.bsl (cs := [Value.bool (((opRd b).1).1), str (((opRd b).1).2.1), str (((opRd b).1).2.2)]) 129 rfl rfl rfl tsl34 tz64 rfl rfl (fun _ h => h.sub [125, 2118, 104, 102, 0]) (fun g28 => ?_)
            obtain ⟨mo30, cs30, hM30, hA30, hC30⟩ := h_l
            refine VD.app 120 rfl rfl rfl rfl tsl34 tz64 rfl rfl hM30 hA30 (.row 129 _ _ _ 1 1 _ _ Tryz.underlying34 rfl (cellsAt_one rfl rfl)) (by simp [Value.oneCell']) bdm bd (by decide) (fun _ _ h => h.sub [125, 2118, 104, 102, 0]) (fun v30 m30 hN30 => ?_)
            have ho30 : OwnL TOp m30 mnil v30 (l ++ [((opRd b).1)]) := OwnL.one hC30 hN30 (show Rd TOp _ _ ((opRd b).1) from (mk_Op (m := _) (((opRd b).1).1) (((opRd b).1).2.1) (((opRd b).1).2.2) bdm bdm))
            obtain ⟨A30, c30, rfl, l30, k30⟩ := ho30.slice
            simp only [maxLen] at k30
            refine VD.y rfl rfl (.inl rfl) (.fa rfl tst92 rfl) ?_
            refine VD.storeH (k := 1) (c' := [Value.int .i64 (((sX d0 1048576 : Nat) : Int)), Value.int .i64 (((sX (d0.drop (sN d0 1048576)) 1048576 : Nat) : Int)), Value.slice A30 ((l ++ [((opRd b).1)]).length) (c30)]) 2118 rfl rfl rfl (.inr ⟨tk34, rfl⟩) rfl rfl rfl rfl rfl (fun _ h => h.sub [125, 104, 102, 0]) ?_
            refine VD.nil rfl ?_ rfl
            refine VO.as ?_
            refine VO.k20 0 2 4 5 6 7 8 9 10 11 12 13 14 15 16 27 42 43 44 52 ?_
            refine outBN ?_
            refine outN ?_
            refine VC.reg ?_
            refine VO.y rfl (.add (c := ((j + 1 : Nat) : Int)) rfl rfl (by omega) ⟨bd, bd⟩) ?_
            refine VO.mv ?_
            refine VO.k20 0 2 4 5 6 7 8 9 10 11 12 13 14 15 16 27 42 43 44 52 ?_
            have hrl31 : b.length - (((opRd b).2.1).toNat) = (b.drop (((opRd b).2.1).toNat)).length := by simp only [List.length_drop, List.length_take]; try omega
            rw [hrl31]
            exact outN ⟨⟨j + 1, b.drop (((opRd b).2.1).toNat), A27, b_c - (((opRd b).2.1).toNat), l ++ [((opRd b).1)], A30, c30, m30⟩, ⟨by omega, by exact rdOps_next hl (by omega) (by assumption), by (simp only [List.length_append, List.length_cons, List.length_nil]; omega), (Rd.relen hs27 rfl), ho30⟩, bd, ⟨⟨rfl, rfl, rfl, rfl, rfl, rfl, rfl, rfl, rfl, rfl, rfl, rfl, rfl, rfl, rfl, trivial⟩, fun _ h => Inv.sub (Inv.num (Inv.num h 2118 118 rfl) 104 2104 rfl) [120, 118, 2104, 102, 0]⟩⟩
        · -- RFRFRFRF
          refine VC.exit ?_
          refine outE ?_
          refine outE ?_
          refine outBB ?_
          refine outN ?_
          refine VC.seq ?_
          refine VC.rs ?_
          refine VO.mv ?_
          refine VO.y rfl (.lenS rfl tsl97) ?_
          refine VO.y rfl (.gtr rfl rfl) ?_
          refine VO.mv ?_
          refine VO.dec (t := 67) rfl (fun hc32 => ?_) (fun hc32 => ?_)
          · -- RFRFRFRFT
            refine VO.gN ?_
            refine VO.gN ?_
            refine VO.gN ?_
            refine VO.y rfl (.pT rfl rfl) ?_
            refine VO.k17 0 2 4 5 6 7 8 9 10 14 15 16 27 42 43 44 71 ?_
            refine VC.condT rfl ?_
            refine VC.rs ?_
            refine VO.y rfl (.bst (cs := [Value.int .i64 (0), Value.int .i64 (0), Value.slice none (0) (0)]) rfl tst92 tz92 rfl) ?_
            refine VO.store (k := 3) (c' := [Value.int .i64 (0), Value.int .i64 (0), Value.slice none (0) (0)]) 102 rfl rfl (.inl tk92) rfl rfl rfl rfl rfl ?_
            refine VO.as ?_
            refine VO.kp [120, 118, 2104, 102, 0] [(120, l_m), (118, mone g17 (.cells [Value.int .i64 (((sX d0 1048576 : Nat) : Int)), Value.int .i64 (((sX (d0.drop (sN d0 1048576)) 1048576 : Nat) : Int)), Value.slice l_A (l.length) (l_c)].toArray 92 (0, 0))), (2104, mone g3 (.cells [Value.int .i64 (((sX d0 1048576 : Nat) : Int)), Value.int .i64 (((sX (d0.drop (sN d0 1048576)) 1048576 : Nat) : Int)), Value.int .i64 (((sX ((d0.drop (sN d0 1048576)).drop (sN (d0.drop (sN d0 1048576)) 1048576)) 1024 : Nat) : Int))].toArray 161 (0, 0))), (102, mone g1 (.cells [Value.int .i64 (0), Value.int .i64 (0), Value.slice none (0) (0)].toArray 92 (0, 0))), (0, wm W)] ?_
            refine VO.k18 0 2 3 4 5 6 7 8 9 10 14 15 16 27 42 43 44 71 ?_
            refine VC.ret ?_
            refine outR ?_
            refine ⟨_, _, res_run (rs := [.cell 2 92, .tmp 3]) rfl (.agg 102 rfl tk92 rfl ⟨_, _, _, mone_self _ _, Nat.le_of_ble_eq_true rfl, rfl⟩ (.tmp rfl .nil)), fun W_ hI => out_of (l := []) hI [] rfl rfl (mle_refl _) (fun hS_ => ?_)⟩
            dsimp only [packV]
            have he0 : ((runDecode d0).1 : Ty.Den TRun) = (0, 0, []) := by first | rfl | (exact fin0_runDecode_ok)
            refine ⟨[Value.int .i64 (0), Value.int .i64 (0), Value.slice none (0) (0)], ?_, ?_⟩
            rotate_left
            · rw [he0]; exact (mkO_Run 0 0 [] (Seps.nilAt 0 hS_) bdk bdk (Ow.nil _ _))
            all_goals (first | rfl | (exact fin0_runDecode_ok))
          · -- RFRFRFRFF
            refine VO.gy rfl ⟨_, rfl, rfl⟩ (.ldA 118 rfl tk92 rfl (cellsAt_one rfl rfl)) ?_
            refine VO.gcallN 133 rfl ⟨_, rfl, rfl⟩ fnOk124 rfl (fun W hW => runCheck_ok_ W (mk_Run (m := wm W) ((sX d0 1048576 : Nat) : Int) ((sX (d0.drop (sN d0 1048576)) 1048576 : Nat) : Int) l bdk bdk (OwnL.rd h_l (hW.at (i := 120) rfl) (mle_nil _)))) (fun v33 m33 hv33 => ?_)
            try dsimp only at hv33
            subst hv33
            have hfa34 := runCheck_range (((sX d0 1048576 : Nat) : Int), ((sX (d0.drop (sN d0 1048576)) 1048576 : Nat) : Int), l)
            refine VO.gy rfl ⟨_, rfl, rfl⟩ (.neq rfl rfl) ?_
            refine VO.y rfl (.pF rfl rfl) ?_
            refine VO.k17 0 2 4 5 6 7 8 9 10 14 15 16 27 42 43 44 71 ?_
            refine VC.cond rfl (fun hc35 => ?_) (fun hc35 => ?_)
            · -- RFRFRFRFFT
              refine VC.rs ?_
              refine VO.y rfl (.bst (cs := [Value.int .i64 (0), Value.int .i64 (0), Value.slice none (0) (0)]) rfl tst92 tz92 rfl) ?_
              refine VO.store (k := 3) (c' := [Value.int .i64 (0), Value.int .i64 (0), Value.slice none (0) (0)]) 102 rfl rfl (.inl tk92) rfl rfl rfl rfl rfl ?_
              refine VO.as ?_
              refine VO.kp [120, 118, 2104, 102, 0] [(120, l_m), (118, mone g17 (.cells [Value.int .i64 (((sX d0 1048576 : Nat) : Int)), Value.int .i64 (((sX (d0.drop (sN d0 1048576)) 1048576 : Nat) : Int)), Value.slice l_A (l.length) (l_c)].toArray 92 (0, 0))), (2104, mone g3 (.cells [Value.int .i64 (((sX d0 1048576 : Nat) : Int)), Value.int .i64 (((sX (d0.drop (sN d0 1048576)) 1048576 : Nat) : Int)), Value.int .i64 (((sX ((d0.drop (sN d0 1048576)).drop (sN (d0.drop (sN d0 1048576)) 1048576)) 1024 : Nat) : Int))].toArray 161 (0, 0))), (102, mone g1 (.cells [Value.int .i64 (0), Value.int .i64 (0), Value.slice none (0) (0)].toArray 92 (0, 0))), (0, wm W)] ?_
              refine VO.k18 0 2 3 4 5 6 7 8 9 10 14 15 16 27 42 43 44 71 ?_
              refine VC.ret ?_
              refine outR ?_
              refine ⟨_, _, res_run (rs := [.cell 2 92, .tmp 3]) rfl (.agg 102 rfl tk92 rfl ⟨_, _, _, mone_self _ _, Nat.le_of_ble_eq_true rfl, rfl⟩ (.tmp rfl .nil)), fun W_ hI => out_of (l := []) hI [] rfl rfl (mle_refl _) (fun hS_ => ?_)⟩
              dsimp only [packV]
              have he0 : ((runDecode d0).1 : Ty.Den TRun) = (0, 0, []) := by first | rfl | (exact fin0_runDecode_ok)
              refine ⟨[Value.int .i64 (0), Value.int .i64 (0), Value.slice none (0) (0)], ?_, ?_⟩
              rotate_left
              · rw [he0]; exact (mkO_Run 0 0 [] (Seps.nilAt 0 hS_) bdk bdk (Ow.nil _ _))
              all_goals (first | rfl | (exact fin0_runDecode_ok))
            · -- RFRFRFRFFF
              refine VC.skip ?_
              refine outN ?_
              refine VC.rs ?_
              refine VO.y rfl (.ldA 118 rfl tk92 rfl (cellsAt_one rfl rfl)) ?_
              refine VO.store (k := 3) (c' := [Value.int .i64 (((sX d0 1048576 : Nat) : Int)), Value.int .i64 (((sX (d0.drop (sN d0 1048576)) 1048576 : Nat) : Int)), Value.slice l_A (l.length) (l_c)]) 102 rfl rfl (.inl tk92) rfl rfl rfl rfl rfl ?_
              refine VO.as ?_
              refine VO.kp [120, 118, 2104, 102, 0] [(120, l_m), (118, mone g17 (.cells [Value.int .i64 (((sX d0 1048576 : Nat) : Int)), Value.int .i64 (((sX (d0.drop (sN d0 1048576)) 1048576 : Nat) : Int)), Value.slice l_A (l.length) (l_c)].toArray 92 (0, 0))), (2104, mone g3 (.cells [Value.int .i64 (((sX d0 1048576 : Nat) : Int)), Value.int .i64 (((sX (d0.drop (sN d0 1048576)) 1048576 : Nat) : Int)), Value.int .i64 (((sX ((d0.drop (sN d0 1048576)).drop (sN (d0.drop (sN d0 1048576)) 1048576)) 1024 : Nat) : Int))].toArray 161 (0, 0))), (102, mone g1 (.cells [Value.int .i64 (((sX d0 1048576 : Nat) : Int)), Value.int .i64 (((sX (d0.drop (sN d0 1048576)) 1048576 : Nat) : Int)), Value.slice l_A (l.length) (l_c)].toArray 92 (0, 0))), (0, wm W)] ?_
              refine VO.k18 0 2 3 4 5 6 7 8 9 10 14 15 16 27 42 43 44 71 ?_
              refine VC.ret ?_
              refine ⟨_, _, res_run (rs := [.cell 2 92, .tmp 3]) rfl (.agg 102 rfl tk92 rfl ⟨_, _, _, mone_self _ _, Nat.le_of_ble_eq_true rfl, rfl⟩ (.tmp rfl .nil)), fun W_ hI => out_of (l := [l_m]) hI [120] rfl rfl (mle_refl _) (fun hS_ => ?_)⟩
              dsimp only [packV]
              have he0 : ((runDecode d0).1 : Ty.Den TRun) = (((sX d0 1048576 : Nat) : Int), ((sX (d0.drop (sN d0 1048576)) 1048576 : Nat) : Int), l) := by first | rfl | (exact fin0_runDecode_ok)
              refine ⟨[Value.int .i64 (((sX d0 1048576 : Nat) : Int)), Value.int .i64 (((sX (d0.drop (sN d0 1048576)) 1048576 : Nat) : Int)), Value.slice l_A (l.length) (l_c)], ?_, ?_⟩
              rotate_left
              · rw [he0]; exact (mkO_Run ((sX d0 1048576 : Nat) : Int) ((sX (d0.drop (sN d0 1048576)) 1048576 : Nat) : Int) l hS_ bdk bdk (OwnL.ow h_l rfl))
              all_goals (first | rfl | (exact fin0_runDecode_ok))
abbrev DHC := Int × Int × Hd
instance decHC : DecidableEq DHC := (@instDecidableEqProd _ _ inferInstance (@instDecidableEqProd _ _ inferInstance inferInstance))
theorem fnOk132 : fnOk Tryz.prog 132 = true := by kernel_rfl
theorem fnOk133 : fnOk Tryz.prog 133 = true := by kernel_rfl
theorem cloneB_ok (W : World) {v0 : Value} {d0 : List UInt8} (h0 : Rd (.sl .byte) (wm W) [v0] d0) (e0 : d0.length ≤ 140737488355000) : CallR Tryz.prog 133 [v0] W (mnil) (fun v m' => ∃ (s0 : Value), v = s0 ∧ Ow (.sl .byte) m' [s0] (d0)) := by
  obtain ⟨A0, c0, rfl, l0, k0⟩ := h0.slice
  simp only [maxLen] at k0
  refine CallR.ofA (n := 8) Tryz.func133 rfl rfl rfl ?_
  refine VC.rs ?_
  refine VO.as ?_
  refine VO.k2 0 2 ?_
  refine VC.seq ?_
  refine VC.rs ?_
  refine VO.mv ?_
  refine VO.y rfl (.snil rfl rfl Tryz.underlying97) ?_
  refine VO.k3 0 2 4 ?_
  refine VC.cond rfl (fun hc1 => ?_) (fun hc1 => ?_)
  · -- T
    refine VC.rs ?_
    refine VO.as ?_
    refine VO.kp [0] [(0, wm W)] ?_
    refine VO.k3 0 2 4 ?_
    refine VC.ret ?_
    refine outR ?_
    refine ⟨_, _, res_run (rs := [.tmp 2]) rfl (.tmp rfl .nil), fun W_ hI => out_of (l := []) hI [] rfl rfl (mle_refl _) (fun hS_ => ?_)⟩
    dsimp only [packV]
    have he0 : (d0 : Ty.Den (.sl .byte)) = [] := by first | rfl | (exact clone_nil' h0 ‹_ = none›)
    refine ⟨Value.slice none (0) (0), ?_, ?_⟩
    rotate_left
    · rw [he0]; exact (Ow.nil _ _)
    all_goals (first | rfl | (simp [*]; done))
  · -- F
    refine VC.skip ?_
    refine outN ?_
    refine VC.rs ?_
    refine VO.bsl (cs := []) 103 rfl rfl tsl97 tz5 rfl rfl (fun g2 => ?_)
    refine VO.mv ?_
    have ho5 : OwnL .byte (mone g2 (.cells [].toArray 5 (0, 0))) mnil (Value.slice (some ⟨g2, 0, none⟩) (0) (0)) [] := OwnL.lit 0 All2c.nil rfl rfl
    obtain ⟨mo4, cs4, hM4, hA4, hC4⟩ := ho5
    obtain ⟨all4, hS4, hR4⟩ := Rd.srcI (P := Tryz.prog) (h0) Tryz.underlying97
    refine VO.app 103 rfl rfl rfl tsl97 tz5 rfl rfl hM4 hA4 (hS4 _ 0 rfl) hR4.nice bdm bd (by decide) (fun v4 m4 hN4 => ?_)
    have ho4 : OwnL .byte m4 mnil v4 (d0) := OwnL.more hC4 hN4 (All2c.mono hR4 fun _ _ h => Rd.flat rfl h _)
    obtain ⟨A4, c4, rfl, l4, k4⟩ := ho4.slice
    simp only [maxLen] at k4
    refine VO.as ?_
    refine VO.kp [103, 0] [(103, m4), (0, wm W)] ?_
    refine VO.k3 0 2 4 ?_
    refine VC.ret ?_
    refine ⟨_, _, res_run (rs := [.tmp 2]) rfl (.tmp rfl .nil), fun W_ hI => out_of (l := [m4]) hI [103] rfl rfl (mle_refl _) (fun hS_ => ?_)⟩
    dsimp only [packV]
    have he0 : (d0 : Ty.Den (.sl .byte)) = d0 := by first | rfl | (exact clone_nil' h0 ‹_ = none›)
    refine ⟨Value.slice A4 ((d0).length) (c4), ?_, ?_⟩
    rotate_left
    · rw [he0]; exact (Ow.up (OwnL.ow ho4 rfl) (hS_.1 _ (.head _)))
    all_goals (first | rfl | (simp [*]; done))
theorem fAppend_ok (W : World) {v0 : Value} {d0 : List UInt8} (h0 : Rd (.sl .byte) (wm W) [v0] d0) {v1 : Value} {d1 : List UInt8} (h1 : Rd (.sl .byte) (wm W) [v1] d1) (e0 : d0.length ≤ 140737488000000) : CallR Tryz.prog 83 [v0, v1] W (mnil) (fun v m' => ∃ (s0 : Value), v = .tuple #[s0, .int .i64 ((fAppend d0 d1).2)] ∧ Ow (.sl .byte) m' [s0] ((fAppend d0 d1).1)) := by
  obtain ⟨A0, c0, rfl, l0, k0⟩ := h0.slice
  simp only [maxLen] at k0
  obtain ⟨A1, c1, rfl, l1, k1⟩ := h1.slice
  simp only [maxLen] at k1
  refine CallR.ofA (n := 16) Tryz.func83 rfl rfl rfl ?_
  refine VC.rs ?_
  refine VO.as ?_
  refine VO.as ?_
  refine VO.k4 0 1 4 5 ?_
  refine VC.seq ?_
  refine VC.rs ?_
  refine VO.mv ?_
  refine VO.y rfl (.lenS rfl tsl97) ?_
  refine VO.y rfl (.gtr rfl rfl) ?_
  refine VO.k5 0 1 4 5 8 ?_
  refine VC.cond rfl (fun hc1 => ?_) (fun hc1 => ?_)
  · -- T
    refine VC.rs ?_
    refine VO.as ?_
    refine VO.as ?_
    refine VO.kp [0] [(0, wm W)] ?_
    refine VO.k5 0 1 4 5 8 ?_
    refine VC.ret ?_
    refine outR ?_
    refine ⟨_, _, res_run (rs := [.tmp 4, .tmp 5]) rfl (.tmp rfl (.tmp rfl .nil)), fun W_ hI => out_of (l := []) hI [] rfl rfl (mle_refl _) (fun hS_ => ?_)⟩
    dsimp only [packV]
    have he0 : ((fAppend d0 d1).1 : Ty.Den (.sl .byte)) = [] := by first | rfl | (first | (rw [fAppend_long (by omega)] <;> rfl) | (rw [fAppend_good (by omega)] <;> first | rfl | (simp only [fEnc, List.append_assoc, Int.toNat_natCast, List.nil_append]; done)))
    refine ⟨Value.slice none (0) (0), ?_, ?_⟩
    rotate_left
    · rw [he0]; exact (Ow.nil _ _)
    all_goals (first | rfl | (first | (rw [fAppend_long (by omega)] <;> rfl) | (rw [fAppend_good (by omega)] <;> first | rfl | (simp only [fEnc, List.append_assoc, Int.toNat_natCast, List.nil_append]; done))))
  · -- F
    refine VC.skip ?_
    refine outN ?_
    refine VC.rs ?_
    refine VO.mv ?_
    refine VO.mv ?_
    refine VO.y rfl (.lenS rfl tsl97) ?_
    refine VO.y rfl (.cvI rfl ⟨_, Tryz.underlying3⟩ Tryz.underlying163 (IntWalk.u64_in _ bd)) ?_
    refine VO.callN 102 rfl fnOk125 rfl (fun W hW => vAppend_ok W (Rd.mono h0 (hW.at (i := 0) rfl)) d1.length bd bd) (fun v2 m2 hv2 => ?_)
    obtain ⟨s2_0, rfl, f2_0⟩ := hv2
    have hfa3 := venc_len (x := d1.length) (by first | omega | exact or64 (by assumption) _)
    obtain ⟨A2_0, c2_0, eq2_0, l2_0, k2_0⟩ := f2_0.slice
    subst eq2_0
    simp only [maxLen] at k2_0
    refine VO.mv ?_
    obtain ⟨mo4, cs4, hM4, hA4, hC4⟩ := (Ow.ownl f2_0 rfl mnil)
    obtain ⟨all4, hS4, hR4⟩ := Rd.srcI (P := Tryz.prog) (h1) Tryz.underlying97
    refine VO.app 102 rfl rfl rfl tsl97 tz5 rfl rfl hM4 hA4 (hS4 _ 0 rfl) hR4.nice bdm bd (by decide) (fun v4 m4 hN4 => ?_)
    have ho4 : OwnL .byte m4 mnil v4 ((d0 ++ venc d1.length) ++ d1) := OwnL.more hC4 hN4 (All2c.mono hR4 fun _ _ h => Rd.flat rfl h _)
    obtain ⟨A4, c4, rfl, l4, k4⟩ := ho4.slice
    simp only [maxLen] at k4
    refine VO.as ?_
    refine VO.as ?_
    refine VO.kp [102, 0] [(102, m4), (0, wm W)] ?_
    refine VO.k5 0 1 4 5 8 ?_
    refine VC.ret ?_
    refine ⟨_, _, res_run (rs := [.tmp 4, .tmp 5]) rfl (.tmp rfl (.tmp rfl .nil)), fun W_ hI => out_of (l := [m4]) hI [102] rfl rfl (mle_refl _) (fun hS_ => ?_)⟩
    dsimp only [packV]
    have he0 : ((fAppend d0 d1).1 : Ty.Den (.sl .byte)) = (d0 ++ venc d1.length) ++ d1 := by first | rfl | (first | (rw [fAppend_long (by omega)] <;> rfl) | (rw [fAppend_good (by omega)] <;> first | rfl | (simp only [fEnc, List.append_assoc, Int.toNat_natCast, List.nil_append]; done)))
    refine ⟨Value.slice A4 (((d0 ++ venc d1.length) ++ d1).length) (c4), ?_, ?_⟩
    rotate_left
    · rw [he0]; exact (Ow.up (OwnL.ow ho4 rfl) (hS_.1 _ (.head _)))
    all_goals (first | rfl | (first | (rw [fAppend_long (by omega)] <;> rfl) | (rw [fAppend_good (by omega)] <;> first | rfl | (simp only [fEnc, List.append_assoc, Int.toNat_natCast, List.nil_append]; done))))
theorem fWhole_ok (W : World) {v0 : Value} {d0 : List UInt8} (h0 : Rd (.sl .byte) (wm W) [v0] d0) : CallR Tryz.prog 132 [v0] W (mnil) (fun v m' => v = .tuple #[.int .i64 ((fWhole d0).1), .int .i64 ((fWhole d0).2.1), .bool ((fWhole d0).2.2)]) := by
  obtain ⟨A0, c0, rfl, l0, k0⟩ := h0.slice
  simp only [maxLen] at k0
  refine CallR.ofA (n := 28) Tryz.func132 rfl rfl rfl ?_
  refine VC.rs ?_
  refine VO.as ?_
  refine VO.as ?_
  refine VO.as ?_
  refine VO.k4 0 2 3 4 ?_
  refine VC.rs ?_
  refine VO.mv ?_
  refine VO.callN 101 rfl fnOk134 rfl (fun W hW => vSmall_ok W (Rd.mono h0 (hW.at (i := 0) rfl)) 131072 bdk) (fun v1 m1 hv1 => ?_)
  subst hv1
  have hfa2 := s_bounds d0 131072 (by omega)
  refine VO.mv ?_
  refine VO.y rfl (.ext rfl rfl) ?_
  refine VO.y rfl (.ext rfl rfl) ?_
  refine VO.y rfl (.ext rfl rfl) ?_
  refine VO.as ?_
  refine VO.as ?_
  refine VO.as ?_
  refine VO.k7 0 2 3 4 5 6 7 ?_
  refine VC.seq ?_
  refine VC.rs ?_
  refine VO.mv ?_
  refine VO.y rfl (.neq rfl rfl) ?_
  refine VO.mv ?_
  refine VO.dec (t := 16) rfl (fun hc3 => ?_) (fun hc3 => ?_)
  · -- T
    refine VO.gN ?_
    refine VO.gN ?_
    refine VO.gN ?_
    refine VO.gN ?_
    refine VO.gN ?_
    refine VO.gN ?_
    refine VO.y rfl (.pT rfl rfl) ?_
    refine VO.kp [0] [(0, wm W)] ?_
    refine VO.k8 0 2 3 4 5 6 7 23 ?_
    refine VC.condT rfl ?_
    refine VC.rs ?_
    refine VO.as ?_
    refine VO.as ?_
    refine VO.as ?_
    refine VO.k8 0 2 3 4 5 6 7 23 ?_
    refine VC.ret ?_
    refine outR ?_
    refine ⟨_, _, res_run (rs := [.tmp 2, .tmp 3, .tmp 4]) rfl (.tmp rfl (.tmp rfl (.tmp rfl .nil))), fun W_ hI => out_of (l := []) hI [] rfl rfl (mle_refl _) (fun hS_ => ?_)⟩
    dsimp only [packV]
    all_goals (first | rfl | (first | (rw [whole_no1 (by assumption)] <;> rfl) | (rw [whole_no2 (by omega)] <;> rfl) | (rw [whole_yes (by assumption) (by omega)] <;> rfl)))
  · -- F
    refine VO.gy rfl ⟨_, rfl, rfl⟩ (.mv rfl) ?_
    refine VO.gy rfl ⟨_, rfl, rfl⟩ (.lenS rfl tsl97) ?_
    refine VO.gy rfl ⟨_, rfl, rfl⟩ (.mv rfl) ?_
    refine VO.gy rfl ⟨_, rfl, rfl⟩ (.sub rfl rfl rfl ⟨bd, bd⟩) ?_
    refine VO.gy rfl ⟨_, rfl, rfl⟩ (.mv rfl) ?_
    refine VO.gy rfl ⟨_, rfl, rfl⟩ (.lss rfl rfl) ?_
    refine VO.y rfl (.pF rfl rfl) ?_
    refine VO.kp [0] [(0, wm W)] ?_
    refine VO.k8 0 2 3 4 5 6 7 23 ?_
    refine VC.cond rfl (fun hc4 => ?_) (fun hc4 => ?_)
    · -- FT
      refine VC.rs ?_
      refine VO.as ?_
      refine VO.as ?_
      refine VO.as ?_
      refine VO.k8 0 2 3 4 5 6 7 23 ?_
      refine VC.ret ?_
      refine outR ?_
      refine ⟨_, _, res_run (rs := [.tmp 2, .tmp 3, .tmp 4]) rfl (.tmp rfl (.tmp rfl (.tmp rfl .nil))), fun W_ hI => out_of (l := []) hI [] rfl rfl (mle_refl _) (fun hS_ => ?_)⟩
      dsimp only [packV]
      all_goals (first | rfl | (first | (rw [whole_no1 (by assumption)] <;> rfl) | (rw [whole_no2 (by omega)] <;> rfl) | (rw [whole_yes (by assumption) (by omega)] <;> rfl)))
    · -- FF
      refine VC.skip ?_
      refine outN ?_
      refine VC.rs ?_
      refine VO.mv ?_
      refine VO.mv ?_
      refine VO.mv ?_
      refine VO.y rfl (.add (c := ((sN d0 131072 + (sX d0 131072) : Nat) : Int)) rfl rfl (by omega) ⟨bd, bd⟩) ?_
      refine VO.as ?_
      refine VO.as ?_
      refine VO.as ?_
      refine VO.k8 0 2 3 4 5 6 7 23 ?_
      refine VC.ret ?_
      refine ⟨_, _, res_run (rs := [.tmp 2, .tmp 3, .tmp 4]) rfl (.tmp rfl (.tmp rfl (.tmp rfl .nil))), fun W_ hI => out_of (l := []) hI [] rfl rfl (mle_refl _) (fun hS_ => ?_)⟩
      dsimp only [packV]
      all_goals (first | rfl | (first | (rw [whole_no1 (by assumption)] <;> rfl) | (rw [whole_no2 (by omega)] <;> rfl) | (rw [whole_yes (by assumption) (by omega)] <;> rfl)))
theorem fRead_ok (W : World) {v0 : Value} {d0 : List UInt8} (h0 : Rd (.sl .byte) (wm W) [v0] d0) : CallR Tryz.prog 100 [v0] W (mnil) (fun v m' => ∃ (s0 : Value), v = .tuple #[s0, .int .i64 ((fRead d0).2.1), .int .i64 ((fRead d0).2.2)] ∧ Ow (.sl .byte) m' [s0] ((fRead d0).1)) := by
  obtain ⟨A0, c0, rfl, l0, k0⟩ := h0.slice
  simp only [maxLen] at k0
  refine CallR.ofA (n := 22) Tryz.func100 rfl rfl rfl ?_
  refine VC.rs ?_
  refine VO.as ?_
  refine VO.as ?_
  refine VO.as ?_
  refine VO.k4 0 2 3 4 ?_
  refine VC.rs ?_
  refine VO.mv ?_
  refine VO.callN 101 rfl fnOk132 rfl (fun W hW => fWhole_ok W (Rd.mono h0 (hW.at (i := 0) rfl))) (fun v1 m1 hv1 => ?_)
  subst hv1
  have hfa2 := fWhole_bounds d0
  refine VO.mv ?_
  refine VO.y rfl (.ext rfl rfl) ?_
  refine VO.y rfl (.ext rfl rfl) ?_
  refine VO.y rfl (.ext rfl rfl) ?_
  refine VO.as ?_
  refine VO.as ?_
  refine VO.as ?_
  refine VO.k7 0 2 3 4 5 6 7 ?_
  refine VC.seq ?_
  refine VC.rs ?_
  refine VO.mv ?_
  refine VO.y rfl (.not rfl) ?_
  refine VO.kp [0] [(0, wm W)] ?_
  refine VO.k8 0 2 3 4 5 6 7 15 ?_
  refine VC.condBN rfl (fun hc3 => ?_) (fun hc3 => ?_)
  · -- T
    refine VC.rs ?_
    refine VO.as ?_
    refine VO.as ?_
    refine VO.as ?_
    refine VO.k8 0 2 3 4 5 6 7 15 ?_
    refine VC.ret ?_
    refine outR ?_
    refine ⟨_, _, res_run (rs := [.tmp 2, .tmp 3, .tmp 4]) rfl (.tmp rfl (.tmp rfl (.tmp rfl .nil))), fun W_ hI => out_of (l := []) hI [] rfl rfl (mle_refl _) (fun hS_ => ?_)⟩
    dsimp only [packV]
    have he0 : ((fRead d0).1 : Ty.Den (.sl .byte)) = [] := by first | rfl | (first | (rw [fRead_bad (by first | assumption | simpa using ‹_›)] <;> rfl) | (rw [fRead_good (by first | assumption | simpa using ‹_›)] <;> rfl))
    refine ⟨Value.slice none (0) (0), ?_, ?_⟩
    rotate_left
    · rw [he0]; exact (Ow.nil _ _)
    all_goals (first | rfl | (first | (rw [fRead_bad (by first | assumption | simpa using ‹_›)] <;> rfl) | (rw [fRead_good (by first | assumption | simpa using ‹_›)] <;> rfl)))
  · -- F
    refine VC.skip ?_
    refine outN ?_
    refine VC.rs ?_
    refine VO.mv ?_
    refine VO.mv ?_
    refine VO.mv ?_
    obtain ⟨A4, hA4, hs4⟩ := h0.sub' 1 (((fWhole d0).1).toNat) (((fWhole d0).2.1).toNat) rfl bd bd
    refine VO.y rfl (.slI (((fWhole d0).1).toNat) (((fWhole d0).2.1).toNat) A4 rfl rfl rfl tsl97 bd bd hA4 bd bd) ?_
    refine VO.callN 105 rfl fnOk133 rfl (fun W hW => cloneB_ok W (Rd.mono hs4 (hW.at (i := 0) rfl)) bd) (fun v5 m5 hv5 => ?_)
    obtain ⟨s5_0, rfl, f5_0⟩ := hv5
    obtain ⟨A5_0, c5_0, eq5_0, l5_0, k5_0⟩ := f5_0.slice
    subst eq5_0
    simp only [maxLen] at k5_0
    refine VO.mv ?_
    refine VO.as ?_
    refine VO.as ?_
    refine VO.as ?_
    refine VO.k8 0 2 3 4 5 6 7 15 ?_
    refine VC.ret ?_
    refine ⟨_, _, res_run (rs := [.tmp 2, .tmp 3, .tmp 4]) rfl (.tmp rfl (.tmp rfl (.tmp rfl .nil))), fun W_ hI => out_of (l := [m5]) hI [105] rfl rfl (mle_refl _) (fun hS_ => ?_)⟩
    dsimp only [packV]
    have he0 : ((fRead d0).1 : Ty.Den (.sl .byte)) = ((d0.take (((fWhole d0).2.1).toNat)).drop (((fWhole d0).1).toNat)) := by first | rfl | (first | (rw [fRead_bad (by first | assumption | simpa using ‹_›)] <;> rfl) | (rw [fRead_good (by first | assumption | simpa using ‹_›)] <;> rfl))
    refine ⟨Value.slice A5_0 (((d0.take (((fWhole d0).2.1).toNat)).drop (((fWhole d0).1).toNat)).length) (c5_0), ?_, ?_⟩
    rotate_left
    · rw [he0]; exact (Ow.up (OwnL.ow (Ow.ownl f5_0 rfl mnil) rfl) (hS_.1 _ (.head _)))
    all_goals (first | rfl | (first | (rw [fRead_bad (by first | assumption | simpa using ‹_›)] <;> rfl) | (rw [fRead_good (by first | assumption | simpa using ‹_›)] <;> rfl)))
abbrev Tdiskstep : Ty := .pair (.int .i64) (.pair (.int .i64) (.pair (.sl .byte) (.int .i64)))
abbrev Ddiskstep := Int × Int × (List UInt8) × Int
instance decdiskstep : DecidableEq Ddiskstep := (@instDecidableEqProd _ _ inferInstance (@instDecidableEqProd _ _ inferInstance (@instDecidableEqProd _ _ inferInstance inferInstance)))
theorem open_diskstep {m : Mem} {cs : List Value} {x0 : Int} {x1 : Int} {x2 : List UInt8} {x3 : Int} (h : Rd Tdiskstep m cs (x0, x1, x2, x3)) : ∃ (A2 : Option Addr), ∃ (c2 : Nat), cs = [(.int .i64 x0 : Value), .int .i64 x1, .slice A2 x2.length c2, .int .i64 x3] ∧ inK .i64 x0 ∧ inK .i64 x1 ∧ Rd (.sl .byte) m [.slice A2 x2.length c2] x2 ∧ inK .i64 x3 := by
  obtain ⟨p1, q1, rfl, u1, w1⟩ := Rd.pair h
  obtain ⟨rfl, z2⟩ := (show _ = _ ∧ _ from u1)
  obtain ⟨p3, q3, rfl, u3, w3⟩ := Rd.pair w1
  obtain ⟨rfl, z4⟩ := (show _ = _ ∧ _ from u3)
  obtain ⟨p5, q5, rfl, u5, w5⟩ := Rd.pair w3
  have z6 := u5
  obtain ⟨A6, c6, rfl, _⟩ := Rd.slice1 u5
  obtain ⟨rfl, z7⟩ := (show _ = _ ∧ _ from w5)
  exact ⟨A6, c6, rfl, z2, z4, z6, z7⟩
theorem mkO_diskstep {m : Mem} {n2 : Mem} (x0 : Int) (x1 : Int) (x2 : List UInt8) (x3 : Int) (hS : Seps m [n2]) (h0 : inK .i64 x0) (h1 : inK .i64 x1) {v2 : Value} (h2 : Ow (.sl .byte) n2 [v2] x2) (h3 : inK .i64 x3) : Ow Tdiskstep m [.int .i64 x0, .int .i64 x1, v2, .int .i64 x3] (x0, x1, x2, x3) := by
  obtain ⟨e1, la1, lb1, Sa1, Sb1⟩ := Seps.cut (l := []) (r := [n2]) hS
  obtain ⟨e2, la2, lb2, Sa2, Sb2⟩ := Seps.cut (l := []) (r := [n2]) Sb1
  obtain ⟨e3, la3, lb3, Sa3, Sb3⟩ := Seps.cut (l := [n2]) (r := []) Sb2
  exact (Ow.mkPair (c1 := [_]) e1 la1 lb1 (show Ow (.int .i64) _ [_] _ from ⟨rfl, h0⟩) (Ow.mkPair (c1 := [_]) e2 la2 lb2 (show Ow (.int .i64) _ [_] _ from ⟨rfl, h1⟩) (Ow.mkPair (c1 := [_]) e3 la3 lb3 (h2.up (Sa3.1 _ (.head _))) (show Ow (.int .i64) _ [_] _ from ⟨rfl, h3⟩))))
abbrev TdiskDisk : Ty := .pair .bool (.pair .bool (.pair .bool (.pair (.int .i64) (.pair (.int .i64) (.pair (.pair (.sl .byte) (.pair (.sl .byte) (.pair (.sl .byte) (.sl .byte)))) (.sl Tdiskstep))))))
abbrev DdiskDisk := Bool × Bool × Bool × Int × Int × ((List UInt8) × (List UInt8) × (List UInt8) × (List UInt8)) × (List Ddiskstep)
instance decdiskDisk : DecidableEq DdiskDisk := (@instDecidableEqProd _ _ inferInstance (@instDecidableEqProd _ _ inferInstance (@instDecidableEqProd _ _ inferInstance (@instDecidableEqProd _ _ inferInstance (@instDecidableEqProd _ _ inferInstance (@instDecidableEqProd _ _ (@instDecidableEqProd _ _ inferInstance (@instDecidableEqProd _ _ inferInstance (@instDecidableEqProd _ _ inferInstance inferInstance))) inferInstance))))))
theorem openO_diskDisk {m : Mem} {cs : List Value} {x0 : Bool} {x1 : Bool} {x2 : Bool} {x3 : Int} {x4 : Int} {x5 : List UInt8} {x6 : List UInt8} {x7 : List UInt8} {x8 : List UInt8} {x9 : List Ddiskstep} (h : Ow TdiskDisk m cs (x0, x1, x2, x3, x4, (x5, x6, x7, x8), x9)) : ∃ (A5 : Option Addr), ∃ (c5 : Nat), ∃ (A6 : Option Addr), ∃ (c6 : Nat), ∃ (A7 : Option Addr), ∃ (c7 : Nat), ∃ (A8 : Option Addr), ∃ (c8 : Nat), ∃ (A9 : Option Addr), ∃ (c9 : Nat), ∃ (n5 : Mem), ∃ (n6 : Mem), ∃ (n7 : Mem), ∃ (n8 : Mem), ∃ (n9 : Mem), cs = [(.bool x0 : Value), .bool x1, .bool x2, .int .i64 x3, .int .i64 x4, .slice A5 x5.length c5, .slice A6 x6.length c6, .slice A7 x7.length c7, .slice A8 x8.length c8, .slice A9 x9.length c9] ∧ Seps m [n5, n6, n7, n8, n9] ∧ inK .i64 x3 ∧ inK .i64 x4 ∧ Ow (.sl .byte) n5 [.slice A5 x5.length c5] x5 ∧ Ow (.sl .byte) n6 [.slice A6 x6.length c6] x6 ∧ Ow (.sl .byte) n7 [.slice A7 x7.length c7] x7 ∧ Ow (.sl .byte) n8 [.slice A8 x8.length c8] x8 ∧ Ow (.sl Tdiskstep) n9 [.slice A9 x9.length c9] x9 := by
  obtain ⟨p1, q1, ma1, mb1, rfl, dj1, la1, lb1, u1, w1⟩ := Ow.pair h
  obtain rfl := (show _ = _ from u1)
  obtain ⟨p3, q3, ma3, mb3, rfl, dj3, la3, lb3, u3, w3⟩ := Ow.pair w1
  obtain rfl := (show _ = _ from u3)
  obtain ⟨p5, q5, ma5, mb5, rfl, dj5, la5, lb5, u5, w5⟩ := Ow.pair w3
  obtain rfl := (show _ = _ from u5)
  obtain ⟨p7, q7, ma7, mb7, rfl, dj7, la7, lb7, u7, w7⟩ := Ow.pair w5
  obtain ⟨rfl, z8⟩ := (show _ = _ ∧ _ from u7)
  obtain ⟨p9, q9, ma9, mb9, rfl, dj9, la9, lb9, u9, w9⟩ := Ow.pair w7
  obtain ⟨rfl, z10⟩ := (show _ = _ ∧ _ from u9)
  obtain ⟨p11, q11, ma11, mb11, rfl, dj11, la11, lb11, u11, w11⟩ := Ow.pair w9
  obtain ⟨p12, q12, ma12, mb12, rfl, dj12, la12, lb12, u12, w12⟩ := Ow.pair u11
  have z13 := u12
  obtain ⟨A13, c13, rfl, _⟩ := Ow.slice1 u12
  obtain ⟨p14, q14, ma14, mb14, rfl, dj14, la14, lb14, u14, w14⟩ := Ow.pair w12
  have z15 := u14
  obtain ⟨A15, c15, rfl, _⟩ := Ow.slice1 u14
  obtain ⟨p16, q16, ma16, mb16, rfl, dj16, la16, lb16, u16, w16⟩ := Ow.pair w14
  have z17 := u16
  obtain ⟨A17, c17, rfl, _⟩ := Ow.slice1 u16
  have z18 := w16
  obtain ⟨A18, c18, rfl, _⟩ := Ow.slice1 w16
  have z19 := w11
  obtain ⟨A19, c19, rfl, _⟩ := Ow.slice1 w11
  exact ⟨A13, c13, A15, c15, A17, c17, A18, c18, A19, c19, _, _, _, _, _, rfl, (Seps.app dj1 la1 lb1 (Seps.nil _) (Seps.app dj3 la3 lb3 (Seps.nil _) (Seps.app dj5 la5 lb5 (Seps.nil _) (Seps.app dj7 la7 lb7 (Seps.nil _) (Seps.app dj9 la9 lb9 (Seps.nil _) (Seps.app dj11 la11 lb11 (Seps.app dj12 la12 lb12 (Seps.one (mle_refl _)) (Seps.app dj14 la14 lb14 (Seps.one (mle_refl _)) (Seps.app dj16 la16 lb16 (Seps.one (mle_refl _)) (Seps.one (mle_refl _))))) (Seps.one (mle_refl _)))))))), z8, z10, z13, z15, z17, z18, z19⟩
theorem mkO_diskDisk {m : Mem} {n5 n6 n7 n8 n9 : Mem} (x0 : Bool) (x1 : Bool) (x2 : Bool) (x3 : Int) (x4 : Int) (x5 : List UInt8) (x6 : List UInt8) (x7 : List UInt8) (x8 : List UInt8) (x9 : List Ddiskstep) (hS : Seps m [n5, n6, n7, n8, n9]) (h3 : inK .i64 x3) (h4 : inK .i64 x4) {v5 : Value} (h5 : Ow (.sl .byte) n5 [v5] x5) {v6 : Value} (h6 : Ow (.sl .byte) n6 [v6] x6) {v7 : Value} (h7 : Ow (.sl .byte) n7 [v7] x7) {v8 : Value} (h8 : Ow (.sl .byte) n8 [v8] x8) {v9 : Value} (h9 : Ow (.sl Tdiskstep) n9 [v9] x9) : Ow TdiskDisk m [.bool x0, .bool x1, .bool x2, .int .i64 x3, .int .i64 x4, v5, v6, v7, v8, v9] (x0, x1, x2, x3, x4, (x5, x6, x7, x8), x9) := by
  obtain ⟨e1, la1, lb1, Sa1, Sb1⟩ := Seps.cut (l := []) (r := [n5, n6, n7, n8, n9]) hS
  obtain ⟨e2, la2, lb2, Sa2, Sb2⟩ := Seps.cut (l := []) (r := [n5, n6, n7, n8, n9]) Sb1
  obtain ⟨e3, la3, lb3, Sa3, Sb3⟩ := Seps.cut (l := []) (r := [n5, n6, n7, n8, n9]) Sb2
  obtain ⟨e4, la4, lb4, Sa4, Sb4⟩ := Seps.cut (l := []) (r := [n5, n6, n7, n8, n9]) Sb3
  obtain ⟨e5, la5, lb5, Sa5, Sb5⟩ := Seps.cut (l := []) (r := [n5, n6, n7, n8, n9]) Sb4
  obtain ⟨e6, la6, lb6, Sa6, Sb6⟩ := Seps.cut (l := [n5, n6, n7, n8]) (r := [n9]) Sb5
  obtain ⟨e7, la7, lb7, Sa7, Sb7⟩ := Seps.cut (l := [n5]) (r := [n6, n7, n8]) Sa6
  obtain ⟨e8, la8, lb8, Sa8, Sb8⟩ := Seps.cut (l := [n6]) (r := [n7, n8]) Sb7
  obtain ⟨e9, la9, lb9, Sa9, Sb9⟩ := Seps.cut (l := [n7]) (r := [n8]) Sb8
  exact (Ow.mkPair (c1 := [_]) e1 la1 lb1 (show Ow .bool _ [_] _ from rfl) (Ow.mkPair (c1 := [_]) e2 la2 lb2 (show Ow .bool _ [_] _ from rfl) (Ow.mkPair (c1 := [_]) e3 la3 lb3 (show Ow .bool _ [_] _ from rfl) (Ow.mkPair (c1 := [_]) e4 la4 lb4 (show Ow (.int .i64) _ [_] _ from ⟨rfl, h3⟩) (Ow.mkPair (c1 := [_]) e5 la5 lb5 (show Ow (.int .i64) _ [_] _ from ⟨rfl, h4⟩) (Ow.mkPair (c1 := [_, _, _, _]) e6 la6 lb6 (Ow.mkPair (c1 := [_]) e7 la7 lb7 (h5.up (Sa7.1 _ (.head _))) (Ow.mkPair (c1 := [_]) e8 la8 lb8 (h6.up (Sa8.1 _ (.head _))) (Ow.mkPair (c1 := [_]) e9 la9 lb9 (h7.up (Sa9.1 _ (.head _))) (h8.up (Sb9.1 _ (.head _)))))) (h9.up (Sb6.1 _ (.head _)))))))))
theorem openP_diskDisk {m : Mem} {cs : List Value} {g : Nat} {x0 : Bool} {x1 : Bool} {x2 : Bool} {x3 : Int} {x4 : Int} {x5 : List UInt8} {x6 : List UInt8} {x7 : List UInt8} {x8 : List UInt8} {x9 : List Ddiskstep} (h : Ow (.ptr TdiskDisk) m cs (g, (x0, x1, x2, x3, x4, (x5, x6, x7, x8), x9))) : ∃ (E : TypeId), ∃ (A5 : Option Addr), ∃ (c5 : Nat), ∃ (A6 : Option Addr), ∃ (c6 : Nat), ∃ (A7 : Option Addr), ∃ (c7 : Nat), ∃ (A8 : Option Addr), ∃ (c8 : Nat), ∃ (A9 : Option Addr), ∃ (c9 : Nat), ∃ (n5 : Mem), ∃ (n6 : Mem), ∃ (n7 : Mem), ∃ (n8 : Mem), ∃ (n9 : Mem), cs = [.pointer (some ⟨g, 0, none⟩)] ∧ Seps m [mone g (.cells [(.bool x0 : Value), .bool x1, .bool x2, .int .i64 x3, .int .i64 x4, .slice A5 x5.length c5, .slice A6 x6.length c6, .slice A7 x7.length c7, .slice A8 x8.length c8, .slice A9 x9.length c9].toArray E (0, 0)), n5, n6, n7, n8, n9] ∧ inK .i64 x3 ∧ inK .i64 x4 ∧ Ow (.sl .byte) n5 [.slice A5 x5.length c5] x5 ∧ Ow (.sl .byte) n6 [.slice A6 x6.length c6] x6 ∧ Ow (.sl .byte) n7 [.slice A7 x7.length c7] x7 ∧ Ow (.sl .byte) n8 [.slice A8 x8.length c8] x8 ∧ Ow (.sl Tdiskstep) n9 [.slice A9 x9.length c9] x9 := by
  obtain ⟨rfl, rc, E, m1, hd, l0, l1, h1⟩ := Ow.opnP h
  obtain ⟨A5, c5, A6, c6, A7, c7, A8, c8, A9, c9, n5, n6, n7, n8, n9, rfl, hS, f3, f4, f5, f6, f7, f8, f9⟩ := openO_diskDisk h1
  exact ⟨E, A5, c5, A6, c6, A7, c7, A8, c8, A9, c9, n5, n6, n7, n8, n9, rfl, Seps.app hd l0 l1 (Seps.one (mle_refl _)) hS, f3, f4, f5, f6, f7, f8, f9⟩
theorem mkP_diskDisk {m : Mem} {g : Nat} {E : TypeId} {n5 n6 n7 n8 n9 : Mem}{v5 : Value}{v6 : Value}{v7 : Value}{v8 : Value}{v9 : Value} (x0 : Bool) (x1 : Bool) (x2 : Bool) (x3 : Int) (x4 : Int) (x5 : List UInt8) (x6 : List UInt8) (x7 : List UInt8) (x8 : List UInt8) (x9 : List Ddiskstep) (hS : Seps m [mone g (.cells [.bool x0, .bool x1, .bool x2, .int .i64 x3, .int .i64 x4, v5, v6, v7, v8, v9].toArray E (0, 0)), n5, n6, n7, n8, n9]) (h3 : inK .i64 x3) (h4 : inK .i64 x4) (h5 : Ow (.sl .byte) n5 [v5] x5) (h6 : Ow (.sl .byte) n6 [v6] x6) (h7 : Ow (.sl .byte) n7 [v7] x7) (h8 : Ow (.sl .byte) n8 [v8] x8) (h9 : Ow (.sl Tdiskstep) n9 [v9] x9) : Ow (.ptr TdiskDisk) m [.pointer (some ⟨g, 0, none⟩)] (g, (x0, x1, x2, x3, x4, (x5, x6, x7, x8), x9)) :=
  Ow.clsP hS fun hS => mkO_diskDisk x0 x1 x2 x3 x4 x5 x6 x7 x8 x9 hS h3 h4 h5 h6 h7 h8 h9
abbrev Dref05Raw := Int × Bool × Int × (List UInt8)
instance decref05Raw : DecidableEq Dref05Raw := (@instDecidableEqProd _ _ inferInstance (@instDecidableEqProd _ _ inferInstance (@instDecidableEqProd _ _ inferInstance inferInstance)))
abbrev Dref05Disk := Bool × ((List UInt8) × (List UInt8) × (List UInt8) × (List UInt8)) × (List Dref05Raw) × Bool × Bool × Int × Int
instance decref05Disk : DecidableEq Dref05Disk := (@instDecidableEqProd _ _ inferInstance (@instDecidableEqProd _ _ (@instDecidableEqProd _ _ inferInstance (@instDecidableEqProd _ _ inferInstance (@instDecidableEqProd _ _ inferInstance inferInstance))) (@instDecidableEqProd _ _ inferInstance (@instDecidableEqProd _ _ inferInstance (@instDecidableEqProd _ _ inferInstance (@instDecidableEqProd _ _ inferInstance inferInstance))))))
abbrev Dlaw05Act := Int × Int × Int × Int × (List UInt8)
instance declaw05Act : DecidableEq Dlaw05Act := (@instDecidableEqProd _ _ inferInstance (@instDecidableEqProd _ _ inferInstance (@instDecidableEqProd _ _ inferInstance (@instDecidableEqProd _ _ inferInstance inferInstance))))
abbrev Dur := Bytes × Bytes × Bytes × Bytes
abbrev DStep := Ddiskstep
abbrev DDisk := DdiskDisk
def getF (q : Dur) (f : Int) : Bytes := if f = 0 then q.1 else if f = 1 then q.2.1 else if f = 2 then q.2.2.1 else q.2.2.2
def setF (q : Dur) (f : Int) (b : Bytes) : Dur := if f = 0 then (b, q.2) else if f = 1 then (q.1, b, q.2.2) else if f = 2 then (q.1, q.2.1, b, q.2.2.2) else (q.1, q.2.1, q.2.2.1, b)
def doneB (b : Bytes) (s : DStep) : Bytes := if s.1 = 0 then b ++ s.2.2.1 else if s.1 = 1 then b.take s.2.2.2.toNat else b
def stepQ (q : Dur) (s : DStep) : Dur := setF q s.2.1 (doneB (getF q s.2.1) s)
def play (q : Dur) (l : List DStep) : Dur := l.foldl stepQ q
def heldStep (f : Int) (b : Bytes) (s : DStep) : Bytes := if s.2.1 = f then doneB b s else b
def heldB (q : Dur) (l : List DStep) (f : Int) : Bytes := l.foldl (heldStep f) (getF q f)
def inF (f : Int) : Prop := 0 ≤ f ∧ f < 4
instance (f : Int) : Decidable (inF f) := by unfold inF; infer_instance
theorem get_set {q : Dur} {f g : Int} {b : Bytes} (hf : inF f) (hg : inF g) : getF (setF q f b) g = if f = g then b else getF q g := by
  obtain ⟨h0, h1⟩ := hf; obtain ⟨h2, h3⟩ := hg
  obtain rfl | rfl | rfl | rfl : f = 0 ∨ f = 1 ∨ f = 2 ∨ f = 3 := by omega
  all_goals obtain rfl | rfl | rfl | rfl : g = 0 ∨ g = 1 ∨ g = 2 ∨ g = 3 := by omega
  all_goals rfl
/-- A step that may be pending. -/
def goodSt (q : Dur) (s : DStep) : Prop := (s.1 = 0 ∨ s.1 = 1) ∧ inF s.2.1 ∧ (s.1 = 0 → 1 ≤ s.2.2.1.length ∧ s.2.2.1.length ≤ 64) ∧ (s.1 = 1 → 0 ≤ s.2.2.2 ∧ s.2.2.2 ≤ (getF q s.2.1).length)
def goodL : Dur → List DStep → Prop
  | _, [] => True
  | q, s :: r => goodSt q s ∧ goodL (stepQ q s) r
theorem goodL_app : ∀ {l r : List DStep} {q : Dur}, goodL q (l ++ r) ↔ goodL q l ∧ goodL (play q l) r
  | [], r, q => by simp [goodL, play]
  | s :: l, r, q => by
    show goodSt q s ∧ goodL (stepQ q s) (l ++ r) ↔ (goodSt q s ∧ goodL (stepQ q s) l) ∧ goodL (play (stepQ q s) l) r
    rw [goodL_app (l := l), and_assoc]
theorem play_held : ∀ {l : List DStep} {q : Dur} {f : Int}, goodL q l → inF f → getF (play q l) f = heldB q l f
  | [], q, f, _, _ => rfl
  | s :: l, q, f, h, hf => by
    show getF (play (stepQ q s) l) f = _
    rw [play_held h.2 hf]
    show l.foldl (heldStep f) (getF (stepQ q s) f) = l.foldl (heldStep f) (heldStep f (getF q f) s)
    rw [stepQ, get_set h.1.2.1 hf]
    unfold heldStep
    split
    · rename_i he; rw [he]
    · rfl
def sizeQ (q : Dur) : Nat := q.1.length + q.2.1.length + q.2.2.1.length + q.2.2.2.length
def sizeL (l : List DStep) : Nat := (l.map fun s => s.2.2.1.length).sum
theorem sizeL_cons (s : DStep) (l : List DStep) : sizeL (s :: l) = s.2.2.1.length + sizeL l := by simp [sizeL]
theorem sizeL_app (l r : List DStep) : sizeL (l ++ r) = sizeL l + sizeL r := by simp [sizeL]
theorem getF_size (q : Dur) (f : Int) : (getF q f).length ≤ sizeQ q := by unfold getF sizeQ; split <;> (try split) <;> (try split) <;> omega
theorem setF_size {q : Dur} {f : Int} {b : Bytes} : sizeQ (setF q f b) + (getF q f).length = sizeQ q + b.length := by
  unfold setF getF sizeQ
  split
  · dsimp only; omega
  · split
    · dsimp only; omega
    · split <;> (dsimp only; omega)
theorem doneB_size (b : Bytes) (s : DStep) : (doneB b s).length ≤ b.length + s.2.2.1.length := by
  unfold doneB
  split
  · simp
  · split
    · simp only [List.length_take]; omega
    · omega
theorem stepQ_size (q : Dur) (s : DStep) : sizeQ (stepQ q s) ≤ sizeQ q + s.2.2.1.length := by
  have := setF_size (q := q) (f := s.2.1) (b := doneB (getF q s.2.1) s)
  have := doneB_size (getF q s.2.1) s
  unfold stepQ
  omega
theorem play_size : ∀ (l : List DStep) (q : Dur), sizeQ (play q l) ≤ sizeQ q + sizeL l
  | [], q => by simp [play, sizeL]
  | s :: l, q => by
    have h1 := play_size l (stepQ q s)
    have h2 := stepQ_size q s
    rw [sizeL_cons]
    show sizeQ (play (stepQ q s) l) ≤ _
    omega
theorem foldl_heldStep_size (f : Int) : ∀ (l : List DStep) (b : Bytes), (l.foldl (heldStep f) b).length ≤ b.length + sizeL l
  | [], b => by simp [sizeL]
  | s :: l, b => by
    have h1 := foldl_heldStep_size f l (heldStep f b s)
    have h2 : (heldStep f b s).length ≤ b.length + s.2.2.1.length := by
      unfold heldStep
      split
      · exact doneB_size b s
      · omega
    rw [sizeL_cons, List.foldl_cons]; omega
theorem heldB_size (q : Dur) (l : List DStep) (f : Int) : (heldB q l f).length ≤ sizeQ q + sizeL l := by
  have := foldl_heldStep_size f l (getF q f)
  have := getF_size q f
  unfold heldB; omega
def okD (d : DDisk) : Prop := goodL d.2.2.2.2.2.1 d.2.2.2.2.2.2 ∧ 0 ≤ d.2.2.2.1 ∧ 0 ≤ d.2.2.2.2.1
def wD (d : DDisk) : Nat := sizeQ d.2.2.2.2.2.1 + sizeL d.2.2.2.2.2.2 + d.2.2.2.2.2.2.length + d.2.2.2.2.1.toNat
def newD : DDisk := (true, false, false, 0, 0, ([], [], [], []), [])
theorem okD_new : okD newD := ⟨trivial, Int.le_refl _, Int.le_refl _⟩
def wrongD (d : DDisk) : Int := if d.1 = false then 1 else if d.2.1 = true then 6 else 0
def burnD (d : DDisk) : DDisk × Bool := if d.2.2.1 = true then (if d.2.2.2.1 = 0 then ((d.1, true, d.2.2), false) else ((d.1, d.2.1, d.2.2.1, d.2.2.2.1 - 1, d.2.2.2.2.1 + 1, d.2.2.2.2.2), true)) else ((d.1, d.2.1, d.2.2.1, d.2.2.2.1, d.2.2.2.2.1 + 1, d.2.2.2.2.2), true)
def addP (d : DDisk) (s : DStep) : DDisk := (d.1, d.2.1, d.2.2.1, d.2.2.2.1, d.2.2.2.2.1, d.2.2.2.2.2.1, d.2.2.2.2.2.2 ++ [s])
theorem getF0 {q : Dur} {f : Int} (h : f = 0) : getF q f = q.1 := by subst h; rfl
theorem getF1 {q : Dur} {f : Int} (h : f = 1) : getF q f = q.2.1 := by subst h; rfl
theorem getF2 {q : Dur} {f : Int} (h : f = 2) : getF q f = q.2.2.1 := by subst h; rfl
theorem getF3 {q : Dur} {f : Int} (h : f = 3) : getF q f = q.2.2.2 := by subst h; rfl
theorem setQ0 {q : Dur} {f : Int} {b : Bytes} (h : f = 0) : setF q f b = (b, q.2) := by subst h; rfl
theorem setQ1 {q : Dur} {f : Int} {b : Bytes} (h : f = 1) : setF q f b = (q.1, b, q.2.2) := by subst h; rfl
theorem setQ2 {q : Dur} {f : Int} {b : Bytes} (h : f = 2) : setF q f b = (q.1, q.2.1, b, q.2.2.2) := by subst h; rfl
theorem setQ3 {q : Dur} {f : Int} {b : Bytes} (h : f = 3) : setF q f b = (q.1, q.2.1, q.2.2.1, b) := by subst h; rfl
def settleD (d : DDisk) (k : Nat) : DDisk := (d.1, d.2.1, d.2.2.1, d.2.2.2.1, d.2.2.2.2.1, play d.2.2.2.2.2.1 (d.2.2.2.2.2.2.take k), d.2.2.2.2.2.2.drop k)
theorem get_take {α : Type} {l : List α} {n k : Nat} {x : α} (h : (l.take n)[k]? = some x) : l[k]? = some x := by
  rw [List.getElem?_take] at h
  split at h
  · exact h
  · cases h
theorem drop_split {α : Type} {l : List α} {k : Nat} {x : α} (h : l[k]? = some x) : l = l.take k ++ x :: l.drop (k + 1) := by
  obtain ⟨h1, h2⟩ := List.getElem?_eq_some_iff.1 h
  rw [← h2, ← List.drop_eq_getElem_cons h1, List.take_append_drop]
section
variable {q : Dur} {l : List DStep} {f : Int} {b : Bytes} {k : Nat} {s : DStep}
theorem held_next (hb : b = heldB q (l.take k) f) (hs : l[k]? = some s) : heldStep f b s = heldB q (l.take (k + 1)) f := by
  rw [hb, heldB, heldB, List.take_add_one, hs, List.foldl_append]; rfl
theorem held_yes (hb : b = heldB q (l.take k) f) (hs : l[k]? = some s) (h : s.2.1 = f) : doneB b s = heldB q (l.take (k + 1)) f := by
  rw [← held_next hb hs, heldStep, if_pos h]
theorem held_no (hb : b = heldB q (l.take k) f) (hs : l[k]? = some s) (h : ¬ s.2.1 = f) : b = heldB q (l.take (k + 1)) f := by
  rw [← held_next hb hs, heldStep, if_neg h]
theorem good_at (hg : goodL q l) (hs : l[k]? = some s) : goodSt (play q (l.take k)) s ∧ goodL q (l.take k) := by
  rw [drop_split hs, goodL_app] at hg
  exact ⟨hg.2.1, hg.1⟩
theorem held_cut (hg : goodL q l) (hb : b = heldB q (l.take k) f) (hs : l[k]? = some s) (hf : inF f) (h : s.2.1 = f) : s.1 = 1 → 0 ≤ s.2.2.2 ∧ s.2.2.2 ≤ b.length := by
  obtain ⟨h1, h2⟩ := good_at hg hs
  intro h3
  have := h1.2.2.2 h3
  rw [h, play_held h2 hf, ← hb] at this
  exact this
theorem sizeL_take (hs : l[k]? = some s) : sizeL (l.take k) + s.2.2.1.length ≤ sizeL l := by
  conv => rhs; rw [drop_split hs]
  rw [sizeL_app, sizeL_cons]; omega
theorem held_room (hb : b = heldB q (l.take k) f) (hs : l[k]? = some s) : b.length + s.2.2.1.length ≤ sizeQ q + sizeL l := by
  have h1 := heldB_size q (l.take k) f
  have h2 := sizeL_take hs
  rw [hb]; omega
theorem play_next {q0 : Dur} (hb : q = play q0 (l.take k)) (hs : l[k]? = some s) : stepQ q s = play q0 (l.take (k + 1)) := by
  rw [hb, play, play, List.take_add_one, hs, List.foldl_append]; rfl
theorem play_cut {q0 : Dur} (hg : goodL q0 l) (hb : q = play q0 (l.take k)) (hs : l[k]? = some s) : inF s.2.1 ∧ (s.1 = 1 → 0 ≤ s.2.2.2 ∧ s.2.2.2 ≤ (getF q s.2.1).length) := by
  obtain ⟨h1, h2⟩ := good_at hg hs
  subst hb
  exact ⟨h1.2.1, h1.2.2.2⟩
theorem play_room {q0 : Dur} (hb : q = play q0 (l.take k)) (hs : l[k]? = some s) : (getF q s.2.1).length + s.2.2.1.length ≤ sizeQ q0 + sizeL l := by
  have h1 := play_size (l.take k) q0
  have h2 := sizeL_take hs
  have h3 := getF_size q s.2.1
  subst hb; omega
end
theorem burn_ok {d : DDisk} (h : okD d) : okD (burnD d).1 := by
  obtain ⟨h1, h2, h3⟩ := h
  unfold burnD
  split
  · split
    · exact ⟨h1, h2, h3⟩
    · exact ⟨h1, by dsimp only; omega, by dsimp only; omega⟩
  · exact ⟨h1, h2, by dsimp only; omega⟩
theorem burn_w {d : DDisk} (h : okD d) : wD (burnD d).1 ≤ wD d + 1 := by
  have h3 := h.2.2
  unfold burnD
  split
  · split
    · show wD d ≤ _; omega
    · simp only [wD]; omega
  · simp only [wD]; omega
theorem burn_same (d : DDisk) : (burnD d).1.1 = d.1 ∧ (burnD d).1.2.2.2.2.2 = d.2.2.2.2.2 := by
  unfold burnD
  split
  · split <;> exact ⟨rfl, rfl⟩
  · exact ⟨rfl, rfl⟩
theorem add_ok {d : DDisk} {s : DStep} (h : okD d) (hs : goodSt (play d.2.2.2.2.2.1 d.2.2.2.2.2.2) s) : okD (addP d s) :=
  ⟨goodL_app.2 ⟨h.1, hs, trivial⟩, h.2⟩
theorem add_w (d : DDisk) (s : DStep) : wD (addP d s) = wD d + s.2.2.1.length + 1 := by
  simp only [wD, addP, sizeL_app, sizeL_cons, List.length_append, List.length_cons, List.length_nil]
  show sizeQ _ + (sizeL _ + (s.2.2.1.length + sizeL [])) + _ + _ = _
  simp only [sizeL, List.map_nil, List.sum_nil]
  omega
theorem settle_ok {d : DDisk} (k : Nat) (h : okD d) : okD (settleD d k) := by
  obtain ⟨h1, h2⟩ := h
  rw [← List.take_append_drop k d.2.2.2.2.2.2, goodL_app] at h1
  exact ⟨h1.2, h2⟩
theorem settle_w (d : DDisk) (k : Nat) : wD (settleD d k) ≤ wD d := by
  have h1 := play_size (d.2.2.2.2.2.2.take k) d.2.2.2.2.2.1
  have h2 : sizeL d.2.2.2.2.2.2 = sizeL (d.2.2.2.2.2.2.take k) + sizeL (d.2.2.2.2.2.2.drop k) := by rw [← sizeL_app, List.take_append_drop]
  simp only [wD, settleD, List.length_drop]
  omega
def writeGo : Nat → DDisk → Int → Bytes → DDisk × Int
  | 0, d, _, _ => (d, 0)
  | n + 1, d, f, b => if b.length = 0 then (d, 0) else if (burnD d).2 = true then writeGo n (addP (burnD d).1 (0, f, b.take 64, 0)) f (b.drop 64) else ((burnD d).1, 6)
def dWrite (d : DDisk) (f : Int) (b : Bytes) : DDisk × Int := if ¬ wrongD d = 0 then (d, wrongD d) else if ¬ inF f then (d, 2) else writeGo b.length d f b
section
variable {d d' : DDisk} {f : Int} {b : Bytes} {n m : Nat} {p : DDisk × Int}
theorem write_end (hp : p = writeGo n d f b) (hb : b.length = 0) : p = (d, 0) := by
  rw [hp]; cases n with
  | zero => rfl
  | succ n => exact if_pos hb
theorem write_off (hp : p = writeGo n d f b) (hn : b.length ≤ n) (hb : 0 < b.length) (h : ¬ (burnD d).2 = true) : p = ((burnD d).1, 6) := by
  rw [hp]; cases n with
  | zero => omega
  | succ n => rw [writeGo, if_neg (by omega), if_neg h]
theorem write_step (hp : p = writeGo n d f b) (hn : b.length ≤ n) (hb : 0 < b.length) (h : (burnD d).2 = true) (hm : m = min b.length 64) : p = writeGo (n - 1) (addP (burnD d).1 (0, f, b.take m, 0)) f (b.drop m) := by
  rw [hp]; cases n with
  | zero => omega
  | succ n =>
    rw [writeGo, if_neg (by omega), if_pos h]
    have h1 : b.take m = b.take 64 := by
      by_cases h0 : b.length ≤ 64
      · rw [hm, List.take_of_length_le (by omega), List.take_of_length_le h0]
      · rw [hm, Nat.min_eq_right (by omega)]
    have h2 : b.drop m = b.drop 64 := by
      by_cases h0 : b.length ≤ 64
      · rw [hm, List.drop_of_length_le (by omega), List.drop_of_length_le h0]
      · rw [hm, Nat.min_eq_right (by omega)]
    rw [h1, h2]; rfl
theorem step_ok (h : okD d) (hf : inF f) (hb : 0 < b.length) (hm : m = min b.length 64) : okD (addP (burnD d).1 (0, f, b.take m, 0)) :=
  add_ok (burn_ok h) ⟨.inl rfl, hf, fun _ => by simp only [List.length_take]; omega, fun h => by cases h⟩
theorem step_w (h : okD d) (hb : 0 < b.length) (hm : m = min b.length 64) : wD (addP (burnD d).1 (0, f, b.take m, 0)) + 3 * (b.drop m).length ≤ wD d + 3 * b.length := by
  have h1 := burn_w h
  rw [add_w]
  simp only [List.length_take, List.length_drop]
  omega
theorem writeGo_ok : ∀ (n : Nat) {d : DDisk} {b : Bytes}, okD d → inF f → okD (writeGo n d f b).1 ∧ wD (writeGo n d f b).1 ≤ wD d + 3 * b.length + 1
  | 0, d, b, h, _ => ⟨h, by show wD d ≤ _; omega⟩
  | n + 1, d, b, h, hf => by
    unfold writeGo
    split
    · exact ⟨h, by show wD d ≤ _; omega⟩
    · rename_i h0
      split
      · have e1 : b.take 64 = b.take (min b.length 64) := by
          by_cases h0 : b.length ≤ 64
          · rw [Nat.min_eq_left h0, List.take_of_length_le h0, List.take_of_length_le (Nat.le_refl _)]
          · rw [Nat.min_eq_right (by omega)]
        have h1 := step_ok (m := min b.length 64) h hf (by omega) rfl
        have h2 := step_w (f := f) (m := min b.length 64) h (by omega) rfl
        rw [← e1] at h1 h2
        obtain ⟨k1, k2⟩ := writeGo_ok n (b := b.drop 64) h1 hf
        simp only [List.length_drop] at h2 k2
        exact ⟨k1, by omega⟩
      · have := burn_w h
        exact ⟨burn_ok h, by dsimp only; omega⟩
end
theorem write_ok {d : DDisk} {f : Int} {b : Bytes} (h : okD d) : okD (dWrite d f b).1 := by
  unfold dWrite; split
  · exact h
  · split
    · exact h
    · rename_i hf; exact (writeGo_ok _ h (Decidable.not_not.1 hf)).1
theorem write_w {d : DDisk} {f : Int} {b : Bytes} (h : okD d) : wD (dWrite d f b).1 ≤ wD d + 3 * b.length + 1 := by
  unfold dWrite; split
  · show wD d ≤ _; omega
  · split
    · show wD d ≤ _; omega
    · rename_i hf; exact (writeGo_ok _ h (Decidable.not_not.1 hf)).2
def dCut (d : DDisk) (f n : Int) : DDisk × Int := if ¬ wrongD d = 0 then (d, wrongD d) else if ¬ inF f ∨ n < 0 ∨ ((heldB d.2.2.2.2.2.1 d.2.2.2.2.2.2 f).length : Int) < n then (d, 2) else
  if (burnD d).2 = true then (addP (burnD d).1 (1, f, [], n), 0) else ((burnD d).1, 6)
theorem cut_ok {d : DDisk} {f n : Int} (h : okD d) : okD (dCut d f n).1 := by
  unfold dCut; split
  · exact h
  · split
    · exact h
    · rename_i h1
      have hf : inF f := Decidable.byContradiction fun q => h1 (.inl q)
      have hn : ¬ n < 0 := fun q => h1 (.inr (.inl q))
      have hl : ¬ ((heldB d.2.2.2.2.2.1 d.2.2.2.2.2.2 f).length : Int) < n := fun q => h1 (.inr (.inr q))
      split
      · refine add_ok (burn_ok h) ⟨.inr rfl, hf, fun h => (by cases h), fun _ => ?_⟩
        rw [(burn_same d).2]
        rw [play_held h.1 hf]
        dsimp only; omega
      · exact burn_ok h
theorem cut_w {d : DDisk} {f n : Int} (h : okD d) : wD (dCut d f n).1 ≤ wD d + 2 := by
  have := burn_w h
  unfold dCut; split
  · show wD d ≤ _; omega
  · split
    · show wD d ≤ _; omega
    · split
      · rw [add_w]; simp only [List.length_nil]; omega
      · dsimp only; omega
def dSync (d : DDisk) : DDisk × Int := if ¬ wrongD d = 0 then (d, wrongD d) else if (burnD d).2 = true then (settleD (burnD d).1 (burnD d).1.2.2.2.2.2.2.length, 0) else ((burnD d).1, 6)
theorem sync_ok {d : DDisk} (h : okD d) : okD (dSync d).1 := by
  unfold dSync; split
  · exact h
  · split
    · exact settle_ok _ (burn_ok h)
    · exact burn_ok h
theorem sync_w {d : DDisk} (h : okD d) : wD (dSync d).1 ≤ wD d + 1 := by
  have h1 := burn_w h
  unfold dSync; split
  · show wD d ≤ _; omega
  · split
    · have := settle_w (burnD d).1 (burnD d).1.2.2.2.2.2.2.length
      dsimp only; omega
    · dsimp only; omega
def dRead (d : DDisk) (f : Int) : Bytes × Int := if ¬ wrongD d = 0 then ([], wrongD d) else if ¬ inF f then ([], 2) else (heldB d.2.2.2.2.2.1 d.2.2.2.2.2.2 f, 0)
theorem read_size (d : DDisk) (f : Int) : (dRead d f).1.length ≤ wD d := by
  have := heldB_size d.2.2.2.2.2.1 d.2.2.2.2.2.2 f
  unfold dRead; split
  · exact Nat.zero_le _
  · split
    · exact Nat.zero_le _
    · dsimp only [wD]; omega
def dFuse (d : DDisk) (n : Int) : DDisk × Int := if ¬ wrongD d = 0 then (d, wrongD d) else if n < 0 then (d, 2) else ((d.1, d.2.1, true, n, d.2.2.2.2), 0)
theorem fuse_ok {d : DDisk} {n : Int} (h : okD d) : okD (dFuse d n).1 := by
  unfold dFuse; split
  · exact h
  · split
    · exact h
    · exact ⟨h.1, by dsimp only; omega, h.2.2⟩
def tornQ (d : DDisk) (t : Int) : Dur := match d.2.2.2.2.2.2 with
  | [] => d.2.2.2.2.2.1
  | s :: _ => if s.1 = 0 then stepQ d.2.2.2.2.2.1 (s.1, s.2.1, s.2.2.1.take (min t ((s.2.2.1.length : Int) - 1)).toNat, s.2.2.2) else d.2.2.2.2.2.1
def dStart (d : DDisk) (k t : Int) : DDisk × Int := if d.1 = false then (d, 1) else if d.2.1 = false ∨ k < 0 ∨ t < 0 then (d, 2) else
  ((d.1, false, false, 0, d.2.2.2.2.1, tornQ (settleD d (min k d.2.2.2.2.2.2.length).toNat) t, []), 0)
theorem start_ok {d : DDisk} {k t : Int} (h : okD d) : okD (dStart d k t).1 := by
  unfold dStart; split
  · exact h
  · split
    · exact h
    · exact ⟨trivial, Int.le_refl _, h.2.2⟩
def dPending (d : DDisk) : Int := if d.1 = false then 0 else d.2.2.2.2.2.2.length
theorem len_w (d : DDisk) : d.2.2.2.2.2.2.length ≤ wD d := by unfold wD; omega
theorem write_bad1 {d : DDisk} {f : Int} {b : Bytes} (h : ¬ wrongD d = 0) : dWrite d f b = (d, wrongD d) := if_pos h
theorem write_bad2 {d : DDisk} {f : Int} {b : Bytes} (h : ¬ ¬ wrongD d = 0) (h2 : ¬ inF f) : dWrite d f b = (d, 2) := by unfold dWrite; rw [if_neg h, if_pos h2]
theorem write_go {d : DDisk} {f : Int} {b : Bytes} (h : ¬ ¬ wrongD d = 0) (h2 : ¬ ¬ inF f) : dWrite d f b = writeGo b.length d f b := by unfold dWrite; rw [if_neg h, if_neg h2]
theorem cut_bad1 {d : DDisk} {f n : Int} (h : ¬ wrongD d = 0) : dCut d f n = (d, wrongD d) := if_pos h
theorem cut_bad2 {d : DDisk} {f n : Int} (h : ¬ ¬ wrongD d = 0) (h2 : ¬ inF f ∨ n < 0 ∨ ((heldB d.2.2.2.2.2.1 d.2.2.2.2.2.2 f).length : Int) < n) : dCut d f n = (d, 2) := by unfold dCut; rw [if_neg h, if_pos h2]
theorem cut_go {d : DDisk} {f n : Int} (h : ¬ ¬ wrongD d = 0) (h1 : ¬ ¬ inF f) (h2 : ¬ n < 0) (h3 : ¬ ((heldB d.2.2.2.2.2.1 d.2.2.2.2.2.2 f).length : Int) < n) (h4 : ¬ ¬ (burnD d).2 = true) : dCut d f n = (addP (burnD d).1 (1, f, [], n), 0) := by
  unfold dCut; rw [if_neg h, if_neg (fun q => q.elim h1 fun q => q.elim h2 h3), if_pos (Decidable.not_not.1 h4)]
theorem cut_off {d : DDisk} {f n : Int} (h : ¬ ¬ wrongD d = 0) (h1 : ¬ ¬ inF f) (h2 : ¬ n < 0) (h3 : ¬ ((heldB d.2.2.2.2.2.1 d.2.2.2.2.2.2 f).length : Int) < n) (h4 : ¬ (burnD d).2 = true) : dCut d f n = ((burnD d).1, 6) := by
  unfold dCut; rw [if_neg h, if_neg (fun q => q.elim h1 fun q => q.elim h2 h3), if_neg h4]
theorem sync_bad {d : DDisk} (h : ¬ wrongD d = 0) : dSync d = (d, wrongD d) := if_pos h
theorem sync_off {d : DDisk} (h : ¬ ¬ wrongD d = 0) (h4 : ¬ (burnD d).2 = true) : dSync d = ((burnD d).1, 6) := by unfold dSync; rw [if_neg h, if_neg h4]
theorem sync_go {d : DDisk} (h : ¬ ¬ wrongD d = 0) (h4 : ¬ ¬ (burnD d).2 = true) : dSync d = (settleD (burnD d).1 (burnD d).1.2.2.2.2.2.2.length, 0) := by unfold dSync; rw [if_neg h, if_pos (Decidable.not_not.1 h4)]
abbrev DAct := Dlaw05Act
def smallA (l : List DAct) : Prop := (∀ a ∈ l, a.2.2.2.2.length ≤ 400) ∧ l.length ≤ 100
instance (l : List DAct) : Decidable (smallA l) := by unfold smallA; infer_instance
structure Fz (n : Int) (d : DDisk) : Prop where
  ok : okD d
  made : d.1 = true
  has : d.2.2.1 = true
  sum : d.2.2.2.2.1 + d.2.2.2.1 = n
  off : d.2.1 = true → d.2.2.2.1 = 0
theorem Fz.burn {n : Int} {d : DDisk} (h : Fz n d) (ho : d.2.1 = false) : Fz n (burnD d).1 ∧ ((burnD d).2 = true ↔ (burnD d).1.2.1 = false) ∧ ((burnD d).2 = true → (burnD d).1.2.1 = false) := by
  have hk := burn_ok h.ok
  obtain ⟨h1, h2, h3, h4, h5⟩ := h
  unfold burnD at hk ⊢
  rw [if_pos h3] at hk ⊢
  split
  · rename_i h0
    rw [if_pos h0] at hk
    exact ⟨⟨hk, h2, h3, h4, fun _ => h0⟩, by simp, by simp⟩
  · rename_i h0
    rw [if_neg h0] at hk
    exact ⟨⟨hk, h2, h3, by dsimp only; omega, fun q => absurd (ho.symm.trans q) (by decide)⟩, by simp [ho], fun _ => ho⟩
theorem Fz.add {n : Int} {d : DDisk} {s : DStep} (h : Fz n d) (hk : okD (addP d s)) : Fz n (addP d s) := ⟨hk, h.made, h.has, h.sum, h.off⟩
/-- What a call leaves: e the answer, d' the disk behind it. -/
structure Fs (n : Int) (d d' : DDisk) (e : Int) : Prop where
  fz : Fz n d'
  off : e = 6 ↔ d'.2.1 = true
  arg : e = 2 → d' = d
theorem Fs.wrong {n : Int} {d : DDisk} (h : Fz n d) (hw : ¬ wrongD d = 0) : Fs n d d (wrongD d) := by
  have hm : ¬ d.1 = false := by rw [h.made]; decide
  unfold wrongD at hw ⊢
  rw [if_neg hm] at hw ⊢
  by_cases ho : d.2.1 = true
  · rw [if_pos ho]; exact ⟨h, by simp [ho], fun q => by cases q⟩
  · rw [if_neg ho] at hw; exact absurd rfl hw
theorem on_of {n : Int} {d : DDisk} (h : Fz n d) (hw : wrongD d = 0) : d.2.1 = false := by
  have hm : ¬ d.1 = false := by rw [h.made]; decide
  unfold wrongD at hw
  rw [if_neg hm] at hw
  by_cases ho : d.2.1 = true
  · rw [if_pos ho] at hw; cases hw
  · simpa using ho
theorem Fs.go {m : Nat} : ∀ {n : Int} {d : DDisk} {f : Int} {b : Bytes}, Fz n d → inF f → d.2.1 = false → Fs n d (writeGo m d f b).1 (writeGo m d f b).2 := by
  induction m with
  | zero => intro n d f b h _ ho; exact ⟨h, by simp [writeGo, ho], fun _ => rfl⟩
  | succ m ih =>
    intro n d f b h hf ho
    obtain ⟨k1, k2, k3⟩ := h.burn ho
    unfold writeGo
    split
    · exact ⟨h, by simp [ho], fun _ => rfl⟩
    · rename_i h0
      split
      · rename_i hb
        have e1 : b.take 64 = b.take (min b.length 64) := by
          by_cases h0 : b.length ≤ 64
          · rw [Nat.min_eq_left h0, List.take_of_length_le h0, List.take_of_length_le (Nat.le_refl _)]
          · rw [Nat.min_eq_right (by omega)]
        have hs := step_ok (m := min b.length 64) h.ok hf (by omega) rfl
        rw [← e1] at hs
        have hq := ih (b := b.drop 64) (k1.add hs) hf (k3 hb)
        refine ⟨hq.fz, hq.off, fun q => ?_⟩
        exfalso
        have : ∀ (m : Nat) (d : DDisk) (b : Bytes), (writeGo m d f b).2 = 0 ∨ (writeGo m d f b).2 = 6 := by
          intro m
          induction m with
          | zero => intro d b; exact .inl rfl
          | succ m ih => intro d b; unfold writeGo; split
                         · exact .inl rfl
                         · split
                           · exact ih _ _
                           · exact .inr rfl
        rcases this m _ (b.drop 64) with e | e <;> rw [e] at q <;> cases q
      · rename_i hb
        refine ⟨k1, ?_, fun q => by cases q⟩
        have : (burnD d).1.2.1 = true := by
          cases hc : (burnD d).1.2.1 with
          | true => rfl
          | false => exact absurd (k2.2 hc) hb
        simp [this]
theorem Fs.cut {n : Int} {d : DDisk} {f k : Int} (h : Fz n d) : Fs n d (dCut d f k).1 (dCut d f k).2 := by
  have hk := cut_ok (f := f) (n := k) h.ok
  unfold dCut at hk ⊢
  split
  · rename_i hw; exact Fs.wrong h hw
  · rename_i hw
    have ho := on_of h (Decidable.not_not.1 hw)
    obtain ⟨k1, k2, k3⟩ := h.burn ho
    split
    · exact ⟨h, by simp [ho], fun _ => rfl⟩
    · rename_i hf
      rw [if_neg hw, if_neg hf] at hk
      split
      · rename_i hb
        rw [if_pos hb] at hk
        exact ⟨k1.add hk, by show (0 : Int) = 6 ↔ (burnD d).1.2.1 = true; simp [k3 hb], fun q => by cases q⟩
      · rename_i hb
        refine ⟨k1, ?_, fun q => by cases q⟩
        have : (burnD d).1.2.1 = true := by
          cases hc : (burnD d).1.2.1 with
          | true => rfl
          | false => exact absurd (k2.2 hc) hb
        simp [this]
/-- A disk that is on, without a fuse. -/
structure Onn (d : DDisk) : Prop where
  ok : okD d
  made : d.1 = true
  on : d.2.1 = false
  has : d.2.2.1 = false
theorem onn_sync {d : DDisk} (h : Onn d) : (dSync d).2 = 0 ∧ Onn (dSync d).1 ∧ dPending (dSync d).1 = 0 := by
  have hk := sync_ok h.ok
  have hw : ¬ ¬ wrongD d = 0 := by unfold wrongD; rw [if_neg (by rw [h.made]; decide), if_neg (by rw [h.on]; decide)]; decide
  have hb : burnD d = ((d.1, d.2.1, d.2.2.1, d.2.2.2.1, d.2.2.2.2.1 + 1, d.2.2.2.2.2), true) := by unfold burnD; rw [if_neg (by rw [h.has]; decide)]
  rw [sync_go hw (by rw [hb]; simp)] at hk ⊢
  rw [hb] at hk ⊢
  refine ⟨rfl, ⟨hk, h.made, h.on, h.has⟩, ?_⟩
  show (if d.1 = false then 0 else (((d.2.2.2.2.2.2.drop d.2.2.2.2.2.2.length).length : Nat) : Int)) = 0
  simp
/-- file by file a front part -/
def leQ (p q : Dur) : Prop := ∀ f : Int, inF f → getF p f <+: getF q f
theorem leQ.trans {p q r : Dur} (h : leQ p q) (h' : leQ q r) : leQ p r := fun f hf => (h f hf).trans (h' f hf)
theorem onn_right {d : DDisk} (h : Onn d) : wrongD d = 0 := by unfold wrongD; rw [if_neg (by rw [h.made]; decide), if_neg (by rw [h.on]; decide)]
theorem onn_burn {d : DDisk} (h : Onn d) : burnD d = ((d.1, d.2.1, d.2.2.1, d.2.2.2.1, d.2.2.2.2.1 + 1, d.2.2.2.2.2), true) := by unfold burnD; rw [if_neg (by rw [h.has]; decide)]
theorem set_set {q : Dur} {f : Int} {a b : Bytes} : setF (setF q f a) f b = setF q f b := by
  unfold setF; split
  · rfl
  · split
    · rfl
    · split <;> rfl
theorem set_get {q : Dur} {f : Int} : setF q f (getF q f) = q := by
  unfold setF getF; split
  · rfl
  · split
    · rfl
    · split <;> rfl
def begB (b a : Bytes) : Prop := a.length ≤ b.length ∧ b.take a.length = a
instance (b a : Bytes) : Decidable (begB b a) := by unfold begB; infer_instance
abbrev DSection := Int × Int × (List DCommit)
instance decSection : DecidableEq DSection := (@instDecidableEqProd _ _ inferInstance (@instDecidableEqProd _ _ inferInstance inferInstance))
def hB1 (B : Bytes) : Bytes := B.drop (sN B 1048576)
def hB2 (B : Bytes) : Bytes := (hB1 B).drop (sN (hB1 B) 1048576)
abbrev hR1 (B : Bytes) : Int × RS := rNum B 1048576 (0, false)
abbrev DRaw := Dref05Raw
abbrev DRDisk := Dref05Disk
def stepOf (r : DRaw) : DStep := (if r.2.1 = true then 1 else 0, r.1, r.2.2.2, r.2.2.1)
def rawOf (s : DStep) : DRaw := (s.2.1, decide (s.1 = 1), s.2.2.2, s.2.2.1)
@[simp] theorem raw_step (r : DRaw) : rawOf (stepOf r) = r := by obtain ⟨f, c, t, b⟩ := r; cases c <;> rfl
theorem step_raw {s : DStep} (h : s.1 = 0 ∨ s.1 = 1) : stepOf (rawOf s) = s := by
  obtain ⟨k, f, b, t⟩ := s
  rcases h with h | h <;> (dsimp only at h; subst h; rfl)
@[simp] theorem raws_steps (l : List DRaw) : (l.map stepOf).map rawOf = l := by
  rw [List.map_map]
  conv => rhs; rw [← List.map_id l]
  congr 1; funext r; exact raw_step r
@[simp] theorem comp_rs : rawOf ∘ stepOf = id := funext raw_step
theorem steps_raws : ∀ {l : List DStep} {q : Dur}, goodL q l → (l.map rawOf).map stepOf = l
  | [], _, _ => rfl
  | s :: l, q, h => by rw [List.map_cons, List.map_cons, step_raw h.1.1, steps_raws h.2]
def fromR (r : DRDisk) : DDisk := (r.1, !r.2.2.2.1, r.2.2.2.2.1, if r.2.2.2.2.1 = true then r.2.2.2.2.2.1 else 0, r.2.2.2.2.2.2, r.2.1, r.2.2.1.map stepOf)
def toR (d : DDisk) (x : Int) : DRDisk := (d.1, d.2.2.2.2.2.1, d.2.2.2.2.2.2.map rawOf, !d.2.1, d.2.2.1, if d.2.2.1 = true then d.2.2.2.1 else x, d.2.2.2.2.1)
/-- A disk without a fuse has none left. -/
def nf (d : DDisk) : Prop := d.2.2.1 = false → d.2.2.2.1 = 0
theorem from_to {d : DDisk} {x : Int} (h : okD d) (hn : nf d) : fromR (toR d x) = d := by
  obtain ⟨m, o, f, n, c, q, l⟩ := d
  have h1 := steps_raws h.1
  unfold nf at hn
  dsimp only at h1 hn
  unfold fromR toR
  dsimp only
  rw [h1]
  cases f
  · simp [hn rfl]
  · simp
theorem nf_from (r : DRDisk) : nf (fromR r) := by
  unfold nf fromR
  dsimp only
  intro h; rw [h]; rfl
section
variable {d : DDisk}
theorem nf_fuse {n : Int} (h : nf d) : nf (dFuse d n).1 := by
  unfold dFuse; split
  · exact h
  · split
    · exact h
    · intro q; cases q
theorem nf_start {k t : Int} (h : nf d) : nf (dStart d k t).1 := by
  unfold dStart; split
  · exact h
  · split
    · exact h
    · intro _; rfl
end
section
variable {d : DDisk} {f n : Int} {b : Bytes}
theorem read_held {f : Int} (h : wrongD d = 0) (hf : inF f) : dRead d f = (heldB d.2.2.2.2.2.1 d.2.2.2.2.2.2 f, 0) := by
  unfold dRead; rw [if_neg (by rw [h]; decide), if_neg (Decidable.not_not.2 hf)]
theorem go_err : ∀ (n : Nat) {d : DDisk} {b : Bytes}, (writeGo n d f b).2 = 0 ∨ (writeGo n d f b).2 = 6
  | 0, d, b => .inl rfl
  | n + 1, d, b => by
    unfold writeGo
    split
    · exact .inl rfl
    · split
      · exact go_err n
      · exact .inr rfl
end
/-- what the files hold -/
def curD (d : DDisk) : Dur := play d.2.2.2.2.2.1 d.2.2.2.2.2.2
theorem cur_held {d : DDisk} {f : Int} (h : okD d) (hf : inF f) : heldB d.2.2.2.2.2.1 d.2.2.2.2.2.2 f = getF (curD d) f := (play_held h.1 hf).symm
theorem cur_add (d : DDisk) (s : DStep) : curD (addP d s) = stepQ (curD d) s := by
  show play d.2.2.2.2.2.1 (d.2.2.2.2.2.2 ++ [s]) = _
  rw [play, List.foldl_append]; rfl
theorem cur_burn (d : DDisk) : curD (burnD d).1 = curD d := by unfold curD; rw [(burn_same d).2]
theorem dur_burn (d : DDisk) : (burnD d).1.2.2.2.2.2.1 = d.2.2.2.2.2.1 := by rw [(burn_same d).2]
theorem made_burn (d : DDisk) : (burnD d).1.1 = d.1 := (burn_same d).1
section
variable {d : DDisk} {f n base : Int} {b : Bytes} {s : DSection}
theorem on_read (h : Onn d) (hf : inF f) : dRead d f = (getF (curD d) f, 0) := by rw [read_held (onn_right h) hf, cur_held h.ok hf]
theorem on_go (hf : inF f) : ∀ (k : Nat) {d : DDisk} {b : Bytes}, b.length ≤ k → Onn d → (writeGo k d f b).2 = 0 ∧ Onn (writeGo k d f b).1 ∧ curD (writeGo k d f b).1 = setF (curD d) f (getF (curD d) f ++ b) ∧ (writeGo k d f b).1.2.2.2.2.2.1 = d.2.2.2.2.2.1
  | 0, d, b, hk, h => by
    rw [List.eq_nil_of_length_eq_zero (Nat.le_zero.1 hk), List.append_nil, set_get]; exact ⟨rfl, h, rfl, rfl⟩
  | k + 1, d, b, hk, h => by
    unfold writeGo
    split
    · rename_i h0
      rw [List.eq_nil_of_length_eq_zero h0, List.append_nil, set_get]; exact ⟨rfl, h, rfl, rfl⟩
    · rename_i h0
      rw [if_pos (by rw [onn_burn h])]
      have e1 : b.take 64 = b.take (min b.length 64) := by
        by_cases h0 : b.length ≤ 64
        · rw [Nat.min_eq_left h0, List.take_of_length_le h0, List.take_of_length_le (Nat.le_refl _)]
        · rw [Nat.min_eq_right (by omega)]
      have hs := step_ok (m := min b.length 64) h.ok hf (by omega) rfl
      rw [← e1] at hs
      have ho : Onn (addP (burnD d).1 (0, f, b.take 64, 0)) := by
        rw [onn_burn h] at hs ⊢; exact ⟨hs, h.made, h.on, h.has⟩
      obtain ⟨k1, k2, k3, k4⟩ := on_go hf k (b := b.drop 64) (by simp only [List.length_drop]; omega) ho
      refine ⟨k1, k2, ?_, by rw [k4]; exact dur_burn d⟩
      rw [k3, cur_add, cur_burn, stepQ, get_set hf hf, if_pos rfl, set_set, doneB, if_pos rfl, List.append_assoc, List.take_append_drop]
theorem on_write (h : Onn d) (hf : inF f) : (dWrite d f b).2 = 0 ∧ Onn (dWrite d f b).1 ∧ curD (dWrite d f b).1 = setF (curD d) f (getF (curD d) f ++ b) ∧ (dWrite d f b).1.2.2.2.2.2.1 = d.2.2.2.2.2.1 := by
  rw [write_go (by rw [onn_right h]; decide) (Decidable.not_not.2 hf)]
  exact on_go hf _ (Nat.le_refl _) h
theorem on_cut (h : Onn d) (hf : inF f) (hn : 0 ≤ n) (hl : n ≤ (getF (curD d) f).length) : (dCut d f n).2 = 0 ∧ Onn (dCut d f n).1 ∧ curD (dCut d f n).1 = setF (curD d) f ((getF (curD d) f).take n.toNat) ∧ (dCut d f n).1.2.2.2.2.2.1 = d.2.2.2.2.2.1 := by
  have hk := cut_ok (f := f) (n := n) h.ok
  have e : dCut d f n = (addP (burnD d).1 (1, f, [], n), 0) := cut_go (by rw [onn_right h]; decide) (Decidable.not_not.2 hf) (by omega) (by rw [cur_held h.ok hf]; omega) (by rw [onn_burn h]; simp)
  rw [e] at hk ⊢
  refine ⟨rfl, ?_, ?_, dur_burn d⟩
  · rw [onn_burn h] at hk ⊢; exact ⟨hk, h.made, h.on, h.has⟩
  · rw [cur_add, cur_burn]; rfl
theorem on_sync (h : Onn d) : (dSync d).2 = 0 ∧ Onn (dSync d).1 ∧ (dSync d).1.2.2.2.2.2.1 = curD d ∧ (dSync d).1.2.2.2.2.2.2 = [] := by
  obtain ⟨h1, h2, h3⟩ := onn_sync h
  have e : dSync d = (settleD (burnD d).1 (burnD d).1.2.2.2.2.2.2.length, 0) := sync_go (by rw [onn_right h]; decide) (by rw [onn_burn h]; simp)
  refine ⟨h1, h2, ?_, ?_⟩ <;> rw [e, onn_burn h]
  · show play d.2.2.2.2.2.1 (d.2.2.2.2.2.2.take d.2.2.2.2.2.2.length) = _
    rw [List.take_length]; rfl
  · show d.2.2.2.2.2.2.drop d.2.2.2.2.2.2.length = []
    rw [List.drop_length]
theorem cur_none (h : d.2.2.2.2.2.2 = []) : curD d = d.2.2.2.2.2.1 := by unfold curD; rw [h]; rfl
end
/-- a disk, on or off, with or without a fuse, to which there were only writes since it was synced -/
structure Pg (d : DDisk) (A S : Dur) : Prop where
  ok : okD d
  made : d.1 = true
  all : ∀ s ∈ d.2.2.2.2.2.2, s.1 = 0 ∧ inF s.2.1
  dur : d.2.2.2.2.2.1 = S
  ends : curD d = A
section
variable {d : DDisk} {A S : Dur} {f n k t : Int} {b : Bytes}
theorem Pg.right (h : Pg d A S) (ho : d.2.1 = false) : wrongD d = 0 := by unfold wrongD; rw [if_neg (by rw [h.made]; decide), if_neg (by rw [ho]; decide)]
theorem pg_none (h : Onn d) (hn : d.2.2.2.2.2.2 = []) : Pg d d.2.2.2.2.2.1 d.2.2.2.2.2.1 := ⟨h.ok, h.made, (by rw [hn]; intro s q; cases q), rfl, cur_none hn⟩
theorem burn_cases (d : DDisk) : ((burnD d).2 = true ∧ (burnD d).1.2.1 = d.2.1) ∨ ((burnD d).2 = false ∧ (burnD d).1.2.1 = true) := by
  unfold burnD
  split
  · split
    · exact .inr ⟨rfl, rfl⟩
    · exact .inl ⟨rfl, rfl⟩
  · exact .inl ⟨rfl, rfl⟩
theorem Pg.burn (h : Pg d A S) : Pg (burnD d).1 A S := ⟨burn_ok h.ok, by rw [made_burn]; exact h.made, by rw [(burn_same d).2]; exact h.all, by rw [dur_burn]; exact h.dur, by rw [cur_burn]; exact h.ends⟩
theorem pg_go (hf : inF f) : ∀ (k : Nat) {d : DDisk} {A : Dur} {b : Bytes}, b.length ≤ k → Pg d A S → d.2.1 = false →
    ∃ p, p <+: b ∧ Pg (writeGo k d f b).1 (setF A f (getF A f ++ p)) S ∧ (((writeGo k d f b).2 = 0 ∧ p = b ∧ (writeGo k d f b).1.2.1 = false) ∨ ((writeGo k d f b).2 = 6 ∧ (writeGo k d f b).1.2.1 = true))
  | 0, d, A, b, hk, h, ho => by
    obtain rfl := List.eq_nil_of_length_eq_zero (Nat.le_zero.1 hk)
    exact ⟨[], List.prefix_refl _, by rw [List.append_nil, set_get]; exact h, .inl ⟨rfl, rfl, ho⟩⟩
  | k + 1, d, A, b, hk, h, ho => by
    unfold writeGo
    split
    · rename_i h0
      obtain rfl := List.eq_nil_of_length_eq_zero h0
      exact ⟨[], List.prefix_refl _, by rw [List.append_nil, set_get]; exact h, .inl ⟨rfl, rfl, ho⟩⟩
    · rename_i h0
      rcases burn_cases d with ⟨hb, hb2⟩ | ⟨hb, hb2⟩
      · rw [if_pos hb]
        have e1 : b.take 64 = b.take (min b.length 64) := by
          by_cases h0 : b.length ≤ 64
          · rw [Nat.min_eq_left h0, List.take_of_length_le h0, List.take_of_length_le (Nat.le_refl _)]
          · rw [Nat.min_eq_right (by omega)]
        have hs := step_ok (m := min b.length 64) h.ok hf (by omega) rfl
        rw [← e1] at hs
        have hb3 := h.burn
        have hA : Pg (addP (burnD d).1 (0, f, b.take 64, 0)) (setF A f (getF A f ++ b.take 64)) S := by
          refine ⟨hs, hb3.made, fun s hs' => ?_, hb3.dur, ?_⟩
          · rcases List.mem_append.1 hs' with q | q
            · exact hb3.all s q
            · simp only [List.mem_cons, List.not_mem_nil, or_false] at q; subst q; exact ⟨rfl, hf⟩
          · rw [cur_add, hb3.ends]; rfl
        obtain ⟨p, k1, k2, k3⟩ := pg_go hf k (b := b.drop 64) (by simp only [List.length_drop]; omega) hA (hb2.trans ho)
        refine ⟨b.take 64 ++ p, ?_, ?_, ?_⟩
        · obtain ⟨q, hq⟩ := k1
          exact ⟨q, by rw [List.append_assoc, hq, List.take_append_drop]⟩
        · rw [get_set hf hf, if_pos rfl, set_set, List.append_assoc] at k2; exact k2
        · rcases k3 with ⟨q1, q2, q3⟩ | q
          · exact .inl ⟨q1, by rw [q2, List.take_append_drop], q3⟩
          · exact .inr q
      · rw [if_neg (by rw [hb]; decide)]
        exact ⟨[], List.nil_prefix, by rw [List.append_nil, set_get]; exact h.burn, .inr ⟨rfl, hb2⟩⟩
theorem pg_write (h : Pg d A S) (ho : d.2.1 = false) (hf : inF f) :
    ∃ p, p <+: b ∧ Pg (dWrite d f b).1 (setF A f (getF A f ++ p)) S ∧ (((dWrite d f b).2 = 0 ∧ p = b ∧ (dWrite d f b).1.2.1 = false) ∨ ((dWrite d f b).2 = 6 ∧ (dWrite d f b).1.2.1 = true)) := by
  rw [write_go (by rw [h.right ho]; decide) (Decidable.not_not.2 hf)]
  exact pg_go hf _ (Nat.le_refl _) h ho
theorem pg_sync (h : Pg d A S) (ho : d.2.1 = false) : ((dSync d).2 = 0 ∧ Pg (dSync d).1 A A ∧ (dSync d).1.2.1 = false ∧ (dSync d).1.2.2.2.2.2.2 = []) ∨ ((dSync d).2 = 6 ∧ Pg (dSync d).1 A S ∧ (dSync d).1.2.1 = true) := by
  have hk := sync_ok h.ok
  have hb := h.burn
  rcases burn_cases d with ⟨b1, b2⟩ | ⟨b1, b2⟩
  · left
    rw [sync_go (by rw [h.right ho]; decide) (by rw [b1]; simp)] at hk ⊢
    have e : (settleD (burnD d).1 (burnD d).1.2.2.2.2.2.2.length).2.2.2.2.2.2 = [] := List.drop_length
    have e2 : (settleD (burnD d).1 (burnD d).1.2.2.2.2.2.2.length).2.2.2.2.2.1 = A := by
      show play (burnD d).1.2.2.2.2.2.1 ((burnD d).1.2.2.2.2.2.2.take (burnD d).1.2.2.2.2.2.2.length) = A
      rw [List.take_length]; exact hb.ends
    exact ⟨rfl, ⟨hk, hb.made, (by rw [e]; intro s q; cases q), e2, by rw [cur_none e]; exact e2⟩, b2.trans ho, e⟩
  · right
    rw [sync_off (by rw [h.right ho]; decide) (by rw [b1]; decide)] at hk ⊢
    exact ⟨rfl, hb, b2⟩
end
def Tw (d : DDisk) (r : DRDisk) : Prop := okD d ∧ fromR r = d
theorem Tw.keep {d d' : DDisk} {r : DRDisk} {x : Int} (h : Tw d r) (hk : okD d') (hn : nf d') : Tw d' (toR d' x) := ⟨hk, from_to hk hn⟩
theorem Tw.nf {d : DDisk} {r : DRDisk} (h : Tw d r) : nf d := by rw [← h.2]; exact nf_from r
section
variable {d : DDisk} {r : DRDisk} (h : Tw d r)
include h
theorem Tw.fuse {n : Int} : Tw (dFuse d n).1 (toR (dFuse (fromR r) n).1 r.2.2.2.2.2.1) ∧ (dFuse (fromR r) n).2 = (dFuse d n).2 := by rw [h.2]; exact ⟨h.keep (fuse_ok h.1) (nf_fuse h.nf), rfl⟩
theorem Tw.start {k t : Int} : Tw (dStart d k t).1 (toR (dStart (fromR r) k t).1 r.2.2.2.2.2.1) ∧ (dStart (fromR r) k t).2 = (dStart d k t).2 := by rw [h.2]; exact ⟨h.keep (start_ok h.1) (nf_start h.nf), rfl⟩
end
def smallS (s : DSection) : Prop := (∀ c ∈ s.2.2, c.2.2.length ≤ 40) ∧ s.2.2.length ≤ 40
instance (s : DSection) : Decidable (smallS s) := by unfold smallS; infer_instance
def logOk (ep n : Int) (B : Bytes) : Prop := (fRead B).2.2 = 0 ∧ (cDecode (fRead B).1).2 = 0 ∧ (cFollows ep n [(cDecode (fRead B).1).1]).1 = 0
instance (ep n : Int) (B : Bytes) : Decidable (logOk ep n B) := by unfold logOk; infer_instance
theorem prefix_take {α : Type} {m l : List α} (h : m <+: l) : m = l.take m.length := by
  obtain ⟨s, rfl⟩ := h; simp
def onD (d : DDisk) : Prop := d.1 = true ∧ d.2.1 = false
instance (d : DDisk) : Decidable (onD d) := by unfold onD; infer_instance
def tornD (d : DDisk) (f n : Int) : DDisk × Int := if ((heldB d.2.2.2.2.2.1 d.2.2.2.2.2.2 f).length : Int) = n then (d, 0) else if ¬ (dCut d f n).2 = 0 then dCut d f n else dSync (dCut d f n).1
section
variable {d : DDisk} {br : Bool} {l l' : List DCommit} {c : DCommit} {q : DDisk × Int} {to n most : Int}
theorem read_err' {f : Int} (d : DDisk) (hf : inF f) : (dRead d f).2 = wrongD d := by
  by_cases h : wrongD d = 0
  · rw [read_held h hf, h]
  · unfold dRead; rw [if_pos h]
theorem wrong_rng (d : DDisk) : 0 ≤ wrongD d ∧ wrongD d ≤ 6 := by unfold wrongD; split; exact ⟨by omega, by omega⟩; split <;> exact ⟨by omega, by omega⟩
theorem write_rng (d : DDisk) (f : Int) (b : Bytes) : 0 ≤ (dWrite d f b).2 ∧ (dWrite d f b).2 ≤ 6 := by
  have h0 := wrong_rng d
  unfold dWrite; split
  · exact h0
  · split
    · exact ⟨by dsimp only; omega, by dsimp only; omega⟩
    · rcases go_err b.length (d := d) (f := f) (b := b) with h | h <;> rw [h] <;> exact ⟨by omega, by omega⟩
theorem tornD_ok {f : Int} (h : okD d) : okD (tornD d f n).1 := by
  unfold tornD; split
  · exact h
  · split
    · exact cut_ok h
    · exact sync_ok (cut_ok h)
theorem tornD_w {f : Int} (h : okD d) : wD (tornD d f n).1 ≤ wD d + 3 := by
  have h1 := cut_w (f := f) (n := n) h
  have h2 := sync_w (cut_ok (f := f) (n := n) h)
  unfold tornD; split
  · dsimp only; omega
  · split
    · omega
    · omega
theorem lastOr_at {k : Nat} {x : DCommit} {e : Int} (hx : l[k]? = some x) (h0 : (k : Int) + 1 = l.length) : lastOr e l = x.1 := by
  unfold lastOr; rw [List.getLast?_eq_getElem?, show l.length - 1 = k by omega, hx]
end
def endR (l : List DRun) : Int := match l.getLast? with
  | some r => r.2.1
  | none => 0
def chainU : Int → List DRun → Prop
  | _, [] => True
  | e, r :: l => runCheck r = 0 ∧ r.1 = e + 1 ∧ chainU r.2.1 l
def okU (l : List DRun) : Prop := chainU 0 l
def rFrame (r : DRun) : Bytes := fEnc (runBody r)
def rFrames (l : List DRun) : Bytes := (l.map rFrame).flatten
section
variable {l : List DRun} {r x : DRun} {e : Int} {k : Nat}
theorem endR_nil (h : ¬ ¬ (l.length : Int) = 0) : endR l = 0 := by rw [List.eq_nil_of_length_eq_zero (show l.length = 0 by omega)]; rfl
theorem endR_at (hx : l[k]? = some x) (h : k + 1 = l.length) : endR l = x.2.1 := by
  unfold endR; rw [List.getLast?_eq_getElem?, show l.length - 1 = k by omega, hx]
theorem endR_snoc : endR (l ++ [r]) = r.2.1 := by unfold endR; rw [List.getLast?_append]; rfl
theorem chain_app : ∀ {l : List DRun} {e : Int}, chainU e (l ++ [r]) ↔ chainU e l ∧ runCheck r = 0 ∧ r.1 = (match l.getLast? with | some x => x.2.1 | none => e) + 1
  | [], e => by simp [chainU]
  | x :: l, e => by
    have h : (match (x :: l).getLast? with | some x => x.2.1 | none => e) = (match l.getLast? with | some y => y.2.1 | none => x.2.1) := by
      cases l with
      | nil => rfl
      | cons y l => rw [List.getLast?_cons_cons]; cases h : (y :: l).getLast? <;> simp_all
    rw [h, List.cons_append, chainU, chain_app, chainU]; exact ⟨fun h => ⟨⟨h.1, h.2.1, h.2.2.1⟩, h.2.2.2⟩, fun h => ⟨h.1.1, h.1.2.1, h.1.2.2, h.2⟩⟩
theorem okU_nil : okU [] := trivial
theorem okU_snoc (h : okU l) (hc : runCheck r = 0) (he : r.1 = endR l + 1) : okU (l ++ [r]) := chain_app.2 ⟨h, hc, he⟩
theorem okU_all : ∀ {l : List DRun} {e : Int}, chainU e l → ∀ r ∈ l, runCheck r = 0
  | [], _, _, _, h => by cases h
  | x :: l, e, h, r, hr => by
    rcases List.mem_cons.1 hr with rfl | hr
    · exact h.1
    · exact okU_all h.2.2 r hr
theorem chain_len : ∀ {l : List DRun} {e : Int}, chainU e l → e + l.length ≤ (match l.getLast? with | some x => x.2.1 | none => e)
  | [], e, _ => by simp
  | x :: l, e, h => by
    have h0 := runCheck_ok h.1
    have h1 := chain_len h.2.2
    have h2 : (match (x :: l).getLast? with | some x => x.2.1 | none => e) = (match l.getLast? with | some y => y.2.1 | none => x.2.1) := by
      cases l with
      | nil => rfl
      | cons y l => rw [List.getLast?_cons_cons]; cases h : (y :: l).getLast? <;> simp_all
    rw [h2]; have h3 := h.2.1; rw [List.length_cons]; omega
theorem okU_len (h : okU l) : (l.length : Int) ≤ endR l ∧ 0 ≤ endR l ∧ endR l ≤ 1048576 := by
  have h1 := chain_len h
  have h2 : endR l ≤ 1048576 := by
    unfold endR
    cases he : l.getLast? with
    | none => decide
    | some x => exact (runCheck_ok (okU_all h x (List.mem_of_getLast? he))).2.2.2.1
  have h3 : (l.length : Int) ≤ endR l := by have := h1; rw [Int.zero_add] at this; exact this
  exact ⟨h3, by omega, h2⟩
theorem okU_ops (h : okU l) (hx : l[k]? = some x) : x.2.2.length ≤ 1024 := (runCheck_ok (okU_all h x (List.mem_of_getElem? hx))).1
theorem okU_room (h : okU l) : ∀ c ∈ l, c.2.2.length ≤ 1024 := fun c hc => (runCheck_ok (okU_all h c hc)).1
end
def runOkAt (e : Int) (B : Bytes) : Prop := (fRead B).2.2 = 0 ∧ (runDecode (fRead B).1).2 = 0 ∧ (runDecode (fRead B).1).1.1 = e + 1
instance (e : Int) (B : Bytes) : Decidable (runOkAt e B) := by unfold runOkAt; infer_instance
def runGo : Nat → Bytes → List DRun → Int → List DRun × Int
  | 0, _, l, a => (l, a)
  | k + 1, B, l, a => if runOkAt (endR l) (B.drop a.toNat) then runGo k B (l ++ [(runDecode (fRead (B.drop a.toNat)).1).1]) (a + (fRead (B.drop a.toNat)).2.1) else (l, a)
def runF (B : Bytes) : List DRun × Int := runGo B.length B [] 0
def runAt (B : Bytes) (l : List DRun) (a : Int) : Prop := 0 ≤ a ∧ a ≤ B.length ∧ okU l ∧ ∃ n : Nat, (B.length : Int) - a ≤ n ∧ runF B = runGo n B l a
section
variable {B : Bytes} {l : List DRun} {a e : Int}
theorem runAt_0 (B : Bytes) : runAt B [] 0 := ⟨Int.le_refl _, Int.natCast_nonneg _, okU_nil, B.length, by omega, rfl⟩
theorem runOk_pos (h : runOkAt e B) : 1 ≤ (fRead B).2.1 ∧ (fRead B).2.1 ≤ B.length := by
  have := fRead_bounds B
  exact ⟨this.2.2.2.2.1 h.1, this.2.1⟩
theorem runAt_end (h : runAt B l a) (hn : ¬ runOkAt (endR l) (B.drop a.toNat)) : runF B = (l, a) := by
  obtain ⟨_, _, _, n, _, h2⟩ := h
  rw [h2]; cases n with
  | zero => rfl
  | succ n => exact if_neg hn
theorem runAt_next (h : runAt B l a) (ho : runOkAt (endR l) (B.drop a.toNat)) : runAt B (l ++ [(runDecode (fRead (B.drop a.toNat)).1).1]) (a + (fRead (B.drop a.toNat)).2.1) := by
  obtain ⟨h0, h1, h3, n, hn, h2⟩ := h
  have hp := runOk_pos ho
  rw [List.length_drop] at hp
  refine ⟨by omega, by omega, okU_snoc h3 (runDec_zero ho.2.1) ho.2.2, n - 1, by omega, ?_⟩
  rw [h2]; cases n with
  | zero => omega
  | succ n => exact if_pos ho
theorem runOk_of (he : e = endR l) (h1 : ¬ ¬ (fRead B).2.2 = 0) (h2 : ¬ ¬ (runDecode (fRead B).1).2 = 0) (h3 : ¬ ¬ (runDecode (fRead B).1).1.1 = e + 1) : runOkAt (endR l) B := ⟨Decidable.not_not.1 h1, Decidable.not_not.1 h2, by rw [← he]; exact Decidable.not_not.1 h3⟩
theorem runNo_1 (h : ¬ (fRead B).2.2 = 0) : ¬ runOkAt (endR l) B := fun q => h q.1
theorem runNo_2 (h : ¬ (runDecode (fRead B).1).2 = 0) : ¬ runOkAt (endR l) B := fun q => h q.2.1
theorem runNo_3 (he : e = endR l) (h : ¬ (runDecode (fRead B).1).1.1 = e + 1) : ¬ runOkAt (endR l) B := fun q => h (by rw [he]; exact q.2.2)
theorem runGo_spec : ∀ {k : Nat} {l : List DRun} {a : Int}, okU l → 0 ≤ a → a ≤ B.length → okU (runGo k B l a).1 ∧ 0 ≤ (runGo k B l a).2 ∧ (runGo k B l a).2 ≤ B.length
  | 0, l, a, h, h0, h1 => ⟨h, h0, h1⟩
  | k + 1, l, a, h, h0, h1 => by
    unfold runGo; split
    · rename_i ho
      have hp := runOk_pos ho
      rw [List.length_drop] at hp
      exact runGo_spec (okU_snoc h (runDec_zero ho.2.1) ho.2.2) (by omega) (by omega)
    · exact ⟨h, h0, h1⟩
theorem runF_ok (B : Bytes) : okU (runF B).1 ∧ 0 ≤ (runF B).2 ∧ (runF B).2 ≤ B.length := runGo_spec okU_nil (Int.le_refl _) (by omega)
theorem runF_bounds (B : Bytes) : 0 ≤ (runF B).2 ∧ (runF B).2 ≤ B.length ∧ (runF B).1.length ≤ 1048576 := by
  have h := runF_ok B; have h2 := okU_len h.1
  exact ⟨h.2.1, h.2.2, by omega⟩
end
def uOpen (d : DDisk) : DDisk × Int := if ¬ wrongD d = 0 then (d, wrongD d) else tornD d 2 (runF (dRead d 2).1).2
abbrev USt := DDisk × Bool × List DRun
def uFlush (d : DDisk) (br : Bool) (l : List DRun) (x : DRun) : USt × Int :=
  if br = true ∨ ¬ onD d then ((d, true, l), 6) else if ¬ runCheck x = 0 then ((d, br, l), runCheck x) else if ¬ x.1 = endR l + 1 then ((d, br, l), 15)
  else if ¬ (dWrite d 2 (rFrame x)).2 = 0 then (((dWrite d 2 (rFrame x)).1, true, l), (dWrite d 2 (rFrame x)).2)
  else if ¬ (dSync (dWrite d 2 (rFrame x)).1).2 = 0 then (((dSync (dWrite d 2 (rFrame x)).1).1, true, l), (dSync (dWrite d 2 (rFrame x)).1).2)
  else (((dSync (dWrite d 2 (rFrame x)).1).1, br, l ++ [x]), 0)
section
variable {d : DDisk} {br : Bool} {l : List DRun} {x : DRun}
theorem flush_off (h : br = true ∨ ¬ onD d) : uFlush d br l x = ((d, true, l), 6) := if_pos h
theorem flush_enc (h : ¬ (br = true ∨ ¬ onD d)) (h2 : ¬ (runEncode x).2 = 0) : uFlush d br l x = ((d, br, l), (runEncode x).2) := by
  have e : (runEncode x).2 = runCheck x := by unfold runEncode; split <;> (rename_i q; first | exact q.symm | rfl)
  rw [e] at h2 ⊢; unfold uFlush; rw [if_neg h, if_pos h2]
theorem enc_zero (h2 : ¬ ¬ (runEncode x).2 = 0) : runCheck x = 0 ∧ runEncode x = (runBody x, 0) := by
  have e : (runEncode x).2 = runCheck x := by unfold runEncode; split <;> (rename_i q; first | exact q.symm | rfl)
  rw [e] at h2
  exact ⟨Decidable.not_not.1 h2, runEnc_good h2⟩
theorem flush_order (h : ¬ (br = true ∨ ¬ onD d)) (h2 : ¬ ¬ (runEncode x).2 = 0) (h3 : ¬ x.1 = endR l + 1) : uFlush d br l x = ((d, br, l), 15) := by
  unfold uFlush; rw [if_neg h, if_neg (Decidable.not_not.2 (enc_zero h2).1), if_pos h3]
theorem enc_frame (h2 : ¬ ¬ (runEncode x).2 = 0) : fAppend [] (runEncode x).1 = (rFrame x, 0) := by
  have h := enc_zero h2
  have := runBody_len h.1
  rw [h.2, fAppend_good (by dsimp only; omega)]; rfl
theorem rFrame_len (h : runCheck x = 0) : (rFrame x).length ≤ 61510 ∧ 1 ≤ (rFrame x).length := by
  have := runBody_len h
  have h2 := fEnc_len (r := runBody x) (by omega)
  exact ⟨by unfold rFrame; omega, fEnc_pos _⟩
theorem enc_flen (h2 : ¬ ¬ (runEncode x).2 = 0) : (fAppend [] (runEncode x).1).1.length ≤ 61510 := by rw [enc_frame h2]; exact (rFrame_len (enc_zero h2).1).1
theorem flush_write (h : ¬ (br = true ∨ ¬ onD d)) (h2 : ¬ ¬ (runEncode x).2 = 0) (h3 : ¬ ¬ x.1 = endR l + 1) (h4 : ¬ (dWrite d 2 (fAppend [] (runEncode x).1).1).2 = 0) :
    uFlush d br l x = (((dWrite d 2 (fAppend [] (runEncode x).1).1).1, true, l), (dWrite d 2 (fAppend [] (runEncode x).1).1).2) := by
  rw [enc_frame h2] at h4 ⊢; unfold uFlush; rw [if_neg h, if_neg (Decidable.not_not.2 (enc_zero h2).1), if_neg h3, if_pos h4]
theorem flush_sync (h : ¬ (br = true ∨ ¬ onD d)) (h2 : ¬ ¬ (runEncode x).2 = 0) (h3 : ¬ ¬ x.1 = endR l + 1) (h4 : (dWrite d 2 (fAppend [] (runEncode x).1).1).2 = 0) (h5 : ¬ (dSync (dWrite d 2 (fAppend [] (runEncode x).1).1).1).2 = 0) :
    uFlush d br l x = (((dSync (dWrite d 2 (fAppend [] (runEncode x).1).1).1).1, true, l), (dSync (dWrite d 2 (fAppend [] (runEncode x).1).1).1).2) := by
  rw [enc_frame h2] at h4 h5 ⊢; unfold uFlush; rw [if_neg h, if_neg (Decidable.not_not.2 (enc_zero h2).1), if_neg h3, if_neg (Decidable.not_not.2 h4), if_pos h5]
theorem flush_good (h : ¬ (br = true ∨ ¬ onD d)) (h2 : ¬ ¬ (runEncode x).2 = 0) (h3 : ¬ ¬ x.1 = endR l + 1) (h4 : (dWrite d 2 (fAppend [] (runEncode x).1).1).2 = 0) (h5 : ¬ ¬ (dSync (dWrite d 2 (fAppend [] (runEncode x).1).1).1).2 = 0) :
    uFlush d br l x = (((dSync (dWrite d 2 (fAppend [] (runEncode x).1).1).1).1, br, l ++ [x]), 0) := by
  rw [enc_frame h2] at h4 h5 ⊢; unfold uFlush; rw [if_neg h, if_neg (Decidable.not_not.2 (enc_zero h2).1), if_neg h3, if_neg (Decidable.not_not.2 h4), if_neg h5]
theorem flush_okU (h : okU l) : okU (uFlush d br l x).1.2.2 := by
  unfold uFlush; split
  · exact h
  · split
    · exact h
    · split
      · exact h
      · split
        · exact h
        · split
          · exact h
          · rename_i h2 h3 _ _; exact okU_snoc h (Decidable.not_not.1 h2) (Decidable.not_not.1 h3)
theorem flush_ok (h : okD d) : okD (uFlush d br l x).1.1 := by
  unfold uFlush; split
  · exact h
  · split
    · exact h
    · split
      · exact h
      · split
        · exact write_ok h
        · split <;> exact sync_ok (write_ok h)
theorem flush_w (h : okD d) : wD (uFlush d br l x).1.1 ≤ wD d + 184600 := by
  unfold uFlush; split
  · dsimp only; omega
  · split
    · dsimp only; omega
    · rename_i h0; split
      · dsimp only; omega
      · have h1 := write_w (f := 2) (b := rFrame x) h
        have h2 := (rFrame_len (Decidable.not_not.1 h0)).1
        have h3 := sync_w (write_ok (f := 2) (b := rFrame x) h)
        split
        · dsimp only; omega
        · split <;> (dsimp only; omega)
theorem uopen_ok (h : okD d) : okD (uOpen d).1 := by unfold uOpen; split; exact h; exact tornD_ok h
theorem uopen_w (h : okD d) : wD (uOpen d).1 ≤ wD d + 3 := by unfold uOpen; split; (dsimp only; omega); exact tornD_w h
theorem uopen_bad (h : ¬ (dRead d 2).2 = 0) : uOpen d = (d, (dRead d 2).2) := by rw [read_err' d (by decide)] at h ⊢; exact if_pos h
theorem uopen_read (h : ¬ ¬ (dRead d 2).2 = 0) : wrongD d = 0 ∧ dRead d 2 = (heldB d.2.2.2.2.2.1 d.2.2.2.2.2.2 2, 0) := by
  rw [read_err' d (by decide)] at h
  have h0 := Decidable.not_not.1 h
  exact ⟨h0, read_held h0 (by decide)⟩
theorem uopen_go (h : ¬ ¬ (dRead d 2).2 = 0) : uOpen d = tornD d 2 (runF (dRead d 2).1).2 := by unfold uOpen; rw [if_neg (Decidable.not_not.2 (uopen_read h).1)]
theorem uopen_is (h : ¬ ¬ (dRead d 2).2 = 0) : heldB d.2.2.2.2.2.1 d.2.2.2.2.2.2 2 = (dRead d 2).1 := by rw [(uopen_read h).2]
theorem uopen_whole (h : ¬ ¬ (dRead d 2).2 = 0) (h2 : ¬ (runF (dRead d 2).1).2 < ((dRead d 2).1.length : Int)) : uOpen d = (d, 0) := by
  have h3 := (runF_bounds (dRead d 2).1).2.1
  rw [uopen_go h]; unfold tornD; rw [uopen_is h, if_pos (by omega)]
theorem uopen_cutbad (h : ¬ ¬ (dRead d 2).2 = 0) (h2 : (runF (dRead d 2).1).2 < ((dRead d 2).1.length : Int)) (h3 : ¬ (dCut d 2 (runF (dRead d 2).1).2).2 = 0) : uOpen d = dCut d 2 (runF (dRead d 2).1).2 := by
  rw [uopen_go h]; unfold tornD; rw [uopen_is h, if_neg (by omega), if_pos h3]
theorem uopen_sync (h : ¬ ¬ (dRead d 2).2 = 0) (h2 : (runF (dRead d 2).1).2 < ((dRead d 2).1.length : Int)) (h3 : ¬ ¬ (dCut d 2 (runF (dRead d 2).1).2).2 = 0) : uOpen d = dSync (dCut d 2 (runF (dRead d 2).1).2).1 := by
  rw [uopen_go h]; unfold tornD; rw [uopen_is h, if_neg (by omega), if_neg h3]
end
theorem fnOk100 : fnOk Tryz.prog 100 = true := by kernel_rfl
theorem fnOk101 : fnOk Tryz.prog 101 = true := by kernel_rfl
theorem tsl45 : tsl Tryz.prog 45 = some (92, 3, 40) := by kernel_rfl
theorem fin0_uScan_ok {P : Prop} (h : P := by first | exact congrArg Prod.fst (runAt_end hl (runNo_1 (by assumption))) | exact (congrArg Prod.fst (runAt_end hl (runNo_1 (by assumption)))).symm | (rw [runAt_end hl (runNo_1 (by assumption))]; done) | exact congrArg Prod.fst (runAt_end hl (runNo_2 (by assumption))) | exact (congrArg Prod.fst (runAt_end hl (runNo_2 (by assumption)))).symm | (rw [runAt_end hl (runNo_2 (by assumption))]; done) | exact congrArg Prod.fst (runAt_end hl (runNo_3 hen (by assumption))) | exact (congrArg Prod.fst (runAt_end hl (runNo_3 hen (by assumption)))).symm | (rw [runAt_end hl (runNo_3 hen (by assumption))]; done)) : P := h
set_option maxHeartbeats 4000000 in
theorem uScan_ok (W : World) {v0 : Value} {d0 : List UInt8} (h0 : Rd (.sl .byte) (wm W) [v0] d0) (e0 : d0.length ≤ 140737488355000) : CallR Tryz.prog 52 [v0] W (mnil) (fun v m' => ∃ (s0 : Value), v = .tuple #[s0, .int .i64 ((runF d0).2)] ∧ Ow (.sl TRun) m' [s0] ((runF d0).1)) := by
  obtain ⟨A0, c0, rfl, l0, k0⟩ := h0.slice
  simp only [maxLen] at k0
  refine CallR.ofA (n := 46) Tryz.func52 rfl rfl rfl ?_
  refine VC.rs ?_
  refine VO.as ?_
  refine VO.as ?_
  refine VO.k3 0 2 3 ?_
  refine VC.rs ?_
  refine VO.as ?_
  refine VO.k4 0 2 3 4 ?_
  refine VC.rs ?_
  refine VO.as ?_
  refine VO.as ?_
  refine VO.kp [0] [(0, wm W)] ?_
  refine VO.k6 0 2 3 4 5 6 ?_
  refine VC.seq ?_
  refine VC.block ?_
  refine VC.inv ((101, mnil) :: _) (fun _ h => h.nilc 101) ?_
  refine VC.loop (G := (List DRun) × (Option Addr) × Nat × Mem × Int × Int) (fun g => [(4, Value.slice (g.2.1) ((g.1).length) ((g.2.2.1))), (5, Value.int .i64 ((g.2.2.2.2.2))), (6, Value.int .i64 ((g.2.2.2.2.1))), (0, Value.slice A0 (d0.length) (c0)), (2, Value.slice none (0) (0)), (3, Value.int .i64 (0))]) (fun g => [(101, (g.2.2.2.1)), (0, wm W)]) (fun g => (runAt d0 (g.1) (g.2.2.2.2.1)) ∧ ((g.2.2.2.2.2) = endR (g.1)) ∧ (Ow (.sl TRun) (g.2.2.2.1) [.slice (g.2.1) (g.1).length (g.2.2.1)] (g.1))) (fun g => ((d0.length : Int) - (g.2.2.2.2.1)).toNat) ([], none, 0, mnil, 0, 0) (⟨by exact runAt_0 d0, by rfl, (Ow.nil TRun mnil)⟩) ⟨⟨rfl, rfl, rfl, rfl, rfl, rfl, trivial⟩, fun _ h => h.sub [101, 0]⟩ ?_
  rintro ⟨l, l_A, l_c, l_m, at_, en⟩ ⟨hl, hen, h_l⟩
  replace hl : runAt d0 l at_ := hl
  replace hen : en = endR l := hen
  replace h_l : Ow (.sl TRun) l_m [.slice l_A l.length l_c] l := h_l
  show VC _ _ _ _ _ [(4, Value.slice l_A (l.length) (l_c)), (5, Value.int .i64 (en)), (6, Value.int .i64 (at_)), (0, Value.slice A0 (d0.length) (c0)), (2, Value.slice none (0) (0)), (3, Value.int .i64 (0))] [(101, l_m), (0, wm W)]
  have l_l : l.length ≤ l_c := by obtain ⟨_, _, he, hl, _⟩ := h_l.slice; simp only [Value.slice.injEq] at he; omega
  have k_l : l_c ≤ 9223372036854775807 := by obtain ⟨_, _, he, _, hl⟩ := h_l.slice; simp only [Value.slice.injEq, maxLen] at he hl; omega
  have hat0 := hl.1; have hat1 := hl.2.1
  have hrb := fRead_bounds (d0.drop at_.toNat)
  have hll := okU_len hl.2.2.1
  have hen2 := hen
  refine VC.block ?_
  refine VC.rs ?_
  refine VO.mv ?_
  refine VO.mv ?_
  obtain ⟨A2, hA2, hs2⟩ := h0.drop 1 ((at_).toNat) rfl bd
  refine VO.y rfl (.slLI ((at_).toNat) A2 rfl rfl tsl97 bd hA2 bd) ?_
  refine VO.callN 103 rfl fnOk100 rfl (fun W hW => fRead_ok W (Rd.mono hs2 (hW.at (i := 0) rfl))) (fun v3 m3 hv3 => ?_)
  obtain ⟨s3_0, rfl, f3_0⟩ := hv3
  have hfa4 := fRead_bounds (d0.drop ((at_).toNat))
  obtain ⟨A3_0, c3_0, eq3_0, l3_0, k3_0⟩ := f3_0.slice
  subst eq3_0
  simp only [maxLen] at k3_0
  refine VO.mv ?_
  refine VO.y rfl (.ext rfl rfl) ?_
  refine VO.y rfl (.ext rfl rfl) ?_
  refine VO.y rfl (.ext rfl rfl) ?_
  refine VO.as ?_
  refine VO.as ?_
  refine VO.as ?_
  refine VO.k9 0 2 3 4 5 6 7 8 9 ?_
  refine VC.seq ?_
  refine VC.rs ?_
  refine VO.mv ?_
  refine VO.y rfl (.neq rfl rfl) ?_
  refine VO.k10 0 2 3 4 5 6 7 8 9 20 ?_
  refine VC.cond rfl (fun hc5 => ?_) (fun hc5 => ?_)
  · -- T
    refine VC.exit ?_
    refine outE ?_
    refine outBE rfl ?_
    refine outE ?_
    refine outBB ?_
    refine outN ?_
    refine VC.rs ?_
    refine VO.mv ?_
    refine VO.mv ?_
    refine VO.as ?_
    refine VO.as ?_
    refine VO.kp [103, 101, 0] [(103, m3), (101, l_m), (0, wm W)] ?_
    refine VO.k10 0 2 3 4 5 6 7 8 9 20 ?_
    refine VC.ret ?_
    refine ⟨_, _, res_run (rs := [.tmp 2, .tmp 3]) rfl (.tmp rfl (.tmp rfl .nil)), fun W_ hI => out_of (l := [l_m]) hI [101] rfl rfl (mle_refl _) (fun hS_ => ?_)⟩
    dsimp only [packV]
    have he0 : ((runF d0).1 : Ty.Den (.sl TRun)) = l := by first | rfl | (exact fin0_uScan_ok)
    refine ⟨Value.slice l_A (l.length) (l_c), ?_, ?_⟩
    rotate_left
    · rw [he0]; exact (Ow.up h_l (hS_.1 _ (.head _)))
    all_goals (first | rfl | (exact fin0_uScan_ok))
  · -- F
    refine VC.skip ?_
    refine outN ?_
    refine VC.rs ?_
    refine VO.mv ?_
    refine VO.callN 106 rfl fnOk101 rfl (fun W hW => runDecode_ok W (OwnL.rd (Ow.ownl f3_0 rfl mnil) (hW.at (i := 103) rfl) (mle_nil _))) (fun v6 m6 hv6 => ?_)
    obtain ⟨s6_0, rfl, f6_0⟩ := hv6
    have hfa7 := runDecode_fits ((fRead (d0.drop ((at_).toNat))).1)
    obtain ⟨q6_0_A2, q6_0_c2, q6_0_n2, rfl, q6_0_S, q6_0_0, q6_0_1, q6_0_2⟩ := openO_Run (x0 := ((runDecode ((fRead (d0.drop ((at_).toNat))).1)).1).1) (x1 := ((runDecode ((fRead (d0.drop ((at_).toNat))).1)).1).2.1) (x2 := ((runDecode ((fRead (d0.drop ((at_).toNat))).1)).1).2.2) f6_0
    simp only [inK] at q6_0_0
    simp only [inK] at q6_0_1
    have q6_0_r2 := q6_0_2.rm
    refine VO.inv _ (fun _ h => h.parts (i := 106) rfl q6_0_S [108]) ?_
    refine VO.mv ?_
    refine VO.y rfl (.ext rfl rfl) ?_
    refine VO.y rfl (.ext rfl rfl) ?_
    refine VO.alloc 110 rfl tz92 (fun g9 => ?_)
    refine VO.store (k := 3) (c' := [Value.int .i64 (((runDecode ((fRead (d0.drop ((at_).toNat))).1)).1).1), Value.int .i64 (((runDecode ((fRead (d0.drop ((at_).toNat))).1)).1).2.1), Value.slice q6_0_A2 ((((runDecode ((fRead (d0.drop ((at_).toNat))).1)).1).2.2).length) (q6_0_c2)]) 110 rfl rfl (.inl tk92) rfl rfl rfl rfl rfl ?_
    refine VO.as ?_
    refine VO.kp [110, 108, 103, 101, 0] [(110, mone g9 (.cells [Value.int .i64 (((runDecode ((fRead (d0.drop ((at_).toNat))).1)).1).1), Value.int .i64 (((runDecode ((fRead (d0.drop ((at_).toNat))).1)).1).2.1), Value.slice q6_0_A2 ((((runDecode ((fRead (d0.drop ((at_).toNat))).1)).1).2.2).length) (q6_0_c2)].toArray 92 (0, 0))), (108, q6_0_n2), (103, m3), (101, l_m), (0, wm W)] ?_
    refine VO.k11 0 2 3 4 5 6 7 8 9 10 20 ?_
    refine VC.seq ?_
    refine VC.rs ?_
    refine VO.mv ?_
    refine VO.y rfl (.neq rfl rfl) ?_
    refine VO.mv ?_
    refine VO.dec (t := 28) rfl (fun hc11 => ?_) (fun hc11 => ?_)
    · -- FT
      refine VO.gN ?_
      refine VO.gN ?_
      refine VO.gN ?_
      refine VO.gN ?_
      refine VO.gN ?_
      refine VO.y rfl (.pT rfl rfl) ?_
      refine VO.k12 0 2 3 4 5 6 7 8 9 10 20 34 ?_
      refine VC.condT rfl ?_
      refine VC.exit ?_
      refine outE ?_
      refine outBE rfl ?_
      refine outE ?_
      refine outBB ?_
      refine outN ?_
      refine VC.rs ?_
      refine VO.mv ?_
      refine VO.mv ?_
      refine VO.as ?_
      refine VO.as ?_
      refine VO.k12 0 2 3 4 5 6 7 8 9 10 20 34 ?_
      refine VC.ret ?_
      refine ⟨_, _, res_run (rs := [.tmp 2, .tmp 3]) rfl (.tmp rfl (.tmp rfl .nil)), fun W_ hI => out_of (l := [l_m]) hI [101] rfl rfl (mle_refl _) (fun hS_ => ?_)⟩
      dsimp only [packV]
      have he0 : ((runF d0).1 : Ty.Den (.sl TRun)) = l := by first | rfl | (exact fin0_uScan_ok)
      refine ⟨Value.slice l_A (l.length) (l_c), ?_, ?_⟩
      rotate_left
      · rw [he0]; exact (Ow.up h_l (hS_.1 _ (.head _)))
      all_goals (first | rfl | (exact fin0_uScan_ok))
    · -- FF
      refine VO.gy rfl ⟨_, rfl, rfl⟩ (.fa rfl tst92 rfl) ?_
      refine VO.gy rfl ⟨_, rfl, rfl⟩ (.ld1 110 rfl tk3 rfl (cellsAt_one rfl rfl)) ?_
      refine VO.gy rfl ⟨_, rfl, rfl⟩ (.mv rfl) ?_
      refine VO.gy rfl ⟨_, rfl, rfl⟩ (.add rfl rfl rfl ⟨bd, bd⟩) ?_
      refine VO.gy rfl ⟨_, rfl, rfl⟩ (.neq rfl rfl) ?_
      refine VO.y rfl (.pF rfl rfl) ?_
      refine VO.k12 0 2 3 4 5 6 7 8 9 10 20 34 ?_
      refine VC.cond rfl (fun hc12 => ?_) (fun hc12 => ?_)
      · -- FFT
        refine VC.exit ?_
        refine outE ?_
        refine outBE rfl ?_
        refine outE ?_
        refine outBB ?_
        refine outN ?_
        refine VC.rs ?_
        refine VO.mv ?_
        refine VO.mv ?_
        refine VO.as ?_
        refine VO.as ?_
        refine VO.k12 0 2 3 4 5 6 7 8 9 10 20 34 ?_
        refine VC.ret ?_
        refine ⟨_, _, res_run (rs := [.tmp 2, .tmp 3]) rfl (.tmp rfl (.tmp rfl .nil)), fun W_ hI => out_of (l := [l_m]) hI [101] rfl rfl (mle_refl _) (fun hS_ => ?_)⟩
        dsimp only [packV]
        have he0 : ((runF d0).1 : Ty.Den (.sl TRun)) = l := by first | rfl | (exact fin0_uScan_ok)
        refine ⟨Value.slice l_A (l.length) (l_c), ?_, ?_⟩
        rotate_left
        · rw [he0]; exact (Ow.up h_l (hS_.1 _ (.head _)))
        all_goals (first | rfl | (exact fin0_uScan_ok))
      · -- FFF
        refine VC.skip ?_
        refine outN ?_
        refine VC.regD _ 11 [(0, true), (1, true), (4, true), (5, true), (6, true), (7, true), (8, true), (2, false), (3, false), (9, true), (10, true)] follows (by kernel_rfl) (fun _ h => h.sub [110, 103, 0]) ?_
        refine VD.y rfl rfl (.inl rfl) (.mv rfl) ?_
        refine VD.y rfl rfl (.inl rfl) (.ldA 110 rfl tk92 rfl (cellsAt_one rfl rfl)) ?_
        refine VD.y rfl rfl (.inl rfl) (.fa rfl tst92 rfl) ?_
        refine VD.y rfl rfl (.inl rfl) (.ld1 110 rfl tk3 rfl (cellsAt_one rfl rfl)) ?_
        refine VD.y rfl rfl (.inl rfl) (.mv rfl) ?_
        refine VD.y rfl rfl (.inl rfl) (.mv rfl) ?_
        refine VD.y rfl rfl (.inl rfl) (.add rfl rfl rfl ⟨bd, bd⟩) ?_
        refine VD.bsl (cs := [Value.int .i64 (((runDecode ((fRead (d0.drop ((at_).toNat))).1)).1).1), Value.int .i64 (((runDecode ((fRead (d0.drop ((at_).toNat))).1)).1).2.1), Value.slice q6_0_A2 ((((runDecode ((fRead (d0.drop ((at_).toNat))).1)).1).2.2).length) (q6_0_c2)]) 114 rfl rfl rfl tsl45 tz92 rfl rfl (fun _ h => h.sub [110, 103, 0]) (fun g13 => ?_)
        refine VD.appO (e := TRun) 101 108 114 rfl rfl rfl rfl tsl45 tz92 rfl rfl rfl rfl h_l (show Ow TRun _ _ ((runDecode ((fRead (d0.drop ((at_).toNat))).1)).1) from (mkO_Run (((runDecode ((fRead (d0.drop ((at_).toNat))).1)).1).1) (((runDecode ((fRead (d0.drop ((at_).toNat))).1)).1).2.1) (((runDecode ((fRead (d0.drop ((at_).toNat))).1)).1).2.2) (Seps.one (mle_refl _)) bdk bdk (OwnL.ow (Ow.ownl q6_0_2 rfl mnil) rfl))) Tryz.underlying45 (cellsAt_one rfl rfl) bdm bd (by decide) (fun _ _ h => h.sub [110, 103, 0]) (fun v15 m15 ho15 => ?_)
        obtain ⟨A15, c15, rfl, l15, k15⟩ := ho15.slice
        simp only [maxLen] at k15
        refine VD.y rfl rfl (.inl rfl) (.as rfl) ?_
        refine VD.y rfl rfl (.inl rfl) (.as rfl) ?_
        refine VD.nil rfl ?_ rfl
        refine VO.as ?_
        refine VO.k12 0 2 3 4 5 6 7 8 9 10 20 34 ?_
        refine outBN ?_
        exact outN ⟨⟨l ++ [((runDecode ((fRead (d0.drop ((at_).toNat))).1)).1)], A15, c15, m15, at_ + ((fRead (d0.drop ((at_).toNat))).2.1), ((runDecode ((fRead (d0.drop ((at_).toNat))).1)).1).2.1⟩, ⟨by exact runAt_next hl (runOk_of hen (by assumption) (by assumption) (by assumption)), by exact endR_snoc.symm, ho15⟩, by (have h_ := runOk_pos (runOk_of hen (by assumption) (by assumption) (by assumption)); simp only [List.length_drop] at *; omega), ⟨⟨rfl, rfl, rfl, rfl, rfl, rfl, trivial⟩, fun _ h => Inv.sub h [101, 0]⟩⟩
theorem fnOk79 : fnOk Tryz.prog 79 = true := by kernel_rfl
theorem tst101 : tst Tryz.prog 101 = some [(0, 1), (1, 1), (2, 1), (3, 1), (4, 1), (5, 4), (9, 1)] := by kernel_rfl
theorem tst148 : tst Tryz.prog 148 = some [(0, 1), (1, 1), (2, 1), (3, 1)] := by kernel_rfl
theorem tz101 : tz Tryz.prog 101 = some [.bool false, .bool false, .bool false, .int .i64 0, .int .i64 0, .slice none 0 0, .slice none 0 0, .slice none 0 0, .slice none 0 0, .slice none 0 0] := by kernel_rfl
theorem dNew_ok (W : World) : CallR Tryz.prog 18 [] W (mnil) (fun v m' => ∃ (s0 : Nat), v = .pointer (some ⟨s0, 0, none⟩) ∧ Ow (.ptr TdiskDisk) m' [.pointer (some ⟨s0, 0, none⟩)] (s0, newD)) := by
  refine CallR.ofA (n := 3) Tryz.func18 rfl rfl rfl ?_
  refine VC.rs ?_
  refine VO.as ?_
  refine VO.k1 0 ?_
  refine VC.rs ?_
  refine VO.y rfl (.bst (cs := [Value.bool true, Value.bool false, Value.bool false, Value.int .i64 (0), Value.int .i64 (0), Value.slice none (0) (0), Value.slice none (0) (0), Value.slice none (0) (0), Value.slice none (0) (0), Value.slice none (0) (0)]) rfl tst101 tz101 rfl) ?_
  refine VO.box (cs := [Value.bool true, Value.bool false, Value.bool false, Value.int .i64 (0), Value.int .i64 (0), Value.slice none (0) (0), Value.slice none (0) (0), Value.slice none (0) (0), Value.slice none (0) (0), Value.slice none (0) (0)]) 102 rfl rfl rfl (fun g1 => ?_)
  refine VO.as ?_
  refine VO.k1 0 ?_
  refine VC.ret ?_
  refine ⟨_, _, res_run (rs := [.tmp 0]) rfl (.tmp rfl .nil), fun W_ hI => out_of (l := [mone g1 (.cells [Value.bool true, Value.bool false, Value.bool false, Value.int .i64 (0), Value.int .i64 (0), Value.slice none (0) (0), Value.slice none (0) (0), Value.slice none (0) (0), Value.slice none (0) (0), Value.slice none (0) (0)].toArray 101 (0, 0))]) hI [102] rfl rfl (mle_refl _) (fun hS_ => ?_)⟩
  dsimp only [packV]
  have he0 : (newD : DdiskDisk) = (true, false, false, 0, 0, ([], [], [], []), []) := by first | rfl | (simp [*]; done)
  refine ⟨g1, ?_, ?_⟩
  rotate_left
  · rw [he0]; exact (mkP_diskDisk true false false 0 0 [] [] [] [] [] (Seps.nilAt 5 (Seps.nilAt 4 (Seps.nilAt 3 (Seps.nilAt 2 (Seps.nilAt 1 hS_))))) bdk bdk (Ow.nil _ _) (Ow.nil _ _) (Ow.nil _ _) (Ow.nil _ _) (Ow.nil _ _))
  all_goals (first | rfl | (simp [*]; done))
theorem dIs_ok (W : World) (d0 : Int) (h0 : inK .i64 d0) : CallR Tryz.prog 98 [.int .i64 d0] W (mnil) (fun v m' => v = .bool (decide (inF d0))) := by
  have h0' := h0; simp only [inK] at h0'
  refine CallR.ofA (n := 9) Tryz.func98 rfl rfl rfl ?_
  refine VC.rs ?_
  refine VO.as ?_
  refine VO.k2 0 2 ?_
  refine VC.rs ?_
  refine VO.mv ?_
  refine VO.y rfl (.geq rfl rfl) ?_
  refine VO.mv ?_
  refine VO.dec (t := 5) rfl (fun hc1 => ?_) (fun hc1 => ?_)
  · -- T
    refine VO.gy rfl ⟨_, rfl, rfl⟩ (.mv rfl) ?_
    refine VO.gy rfl ⟨_, rfl, rfl⟩ (.lss rfl rfl) ?_
    refine VO.y rfl (.pT rfl rfl) ?_
    refine VO.as ?_
    refine VO.k2 0 2 ?_
    refine VC.ret ?_
    refine ⟨_, _, res_run (rs := [.tmp 2]) rfl (.tmp rfl .nil), fun W_ hI => out_of (l := []) hI [] rfl rfl (mle_refl _) (fun hS_ => ?_)⟩
    dsimp only [packV]
    all_goals (first | rfl | (simp [inF, *]))
  · -- F
    refine VO.gN ?_
    refine VO.gN ?_
    refine VO.y rfl (.pF rfl rfl) ?_
    refine VO.as ?_
    refine VO.k2 0 2 ?_
    refine VC.ret ?_
    refine ⟨_, _, res_run (rs := [.tmp 2]) rfl (.tmp rfl .nil), fun W_ hI => out_of (l := []) hI [] rfl rfl (mle_refl _) (fun hS_ => ?_)⟩
    dsimp only [packV]
    all_goals (first | rfl | (simp [inF, *]))
theorem dNone_ok (W : World) {m0 : Mem} (hm : mle (m0) (wm W)) {g0 : Nat} {d0 : DdiskDisk} (h0 : Ow (.ptr TdiskDisk) m0 [.pointer (some ⟨g0, 0, none⟩)] (g0, d0)) : CallR Tryz.prog 79 [.pointer (some ⟨g0, 0, none⟩)] W (m0) (fun v m' => v = .bool (decide (d0.1 = false)) ∧ Ow (.ptr TdiskDisk) m' [.pointer (some ⟨g0, 0, none⟩)] (g0, d0)) := by
  refine CallR.ofB (n := 12) hm Tryz.func79 rfl rfl rfl ?_
  refine VC.rs ?_
  refine VO.as ?_
  refine VO.k2 0 2 ?_
  refine VC.rs ?_
  refine VO.mv ?_
  refine VO.y rfl (.pnil rfl rfl Tryz.underlying44 rfl) ?_
  refine VO.mv ?_
  refine VO.gy rfl ⟨_, rfl, rfl⟩ (.mv rfl) ?_
  refine VO.gy rfl ⟨_, rfl, rfl⟩ (.nilp rfl) ?_
  refine VO.gy rfl ⟨_, rfl, rfl⟩ (.fa rfl tst101 rfl) ?_
  obtain ⟨q1_E, q1_A5, q1_c5, q1_A6, q1_c6, q1_A7, q1_c7, q1_A8, q1_c8, q1_A9, q1_c9, q1_n5, q1_n6, q1_n7, q1_n8, q1_n9, _, q1_S, q1_3, q1_4, q1_5, q1_6, q1_7, q1_8, q1_9⟩ := openP_diskDisk (x0 := d0.1) (x1 := d0.2.1) (x2 := d0.2.2.1) (x3 := d0.2.2.2.1) (x4 := d0.2.2.2.2.1) (x5 := d0.2.2.2.2.2.1.1) (x6 := d0.2.2.2.2.2.1.2.1) (x7 := d0.2.2.2.2.2.1.2.2.1) (x8 := d0.2.2.2.2.2.1.2.2.2) (x9 := d0.2.2.2.2.2.2) h0
  simp only [inK] at q1_3
  simp only [inK] at q1_4
  have q1_r5 := q1_5.rm
  have q1_r6 := q1_6.rm
  have q1_r7 := q1_7.rm
  have q1_r8 := q1_8.rm
  have q1_r9 := q1_9.rm
  refine VO.inv _ (fun _ h => h.parts (i := 1) rfl q1_S [107, 102, 103, 104, 105, 106]) ?_
  refine VO.gy rfl ⟨_, rfl, rfl⟩ (.ld1 107 rfl tk4 rfl (cellsAt_one rfl rfl)) ?_
  refine VO.gy rfl ⟨_, rfl, rfl⟩ (.not rfl) ?_
  refine VO.y rfl (.pF rfl rfl) ?_
  refine VO.as ?_
  refine VO.clsP 108 [107, 102, 103, 104, 105, 106] rfl (fun hg8 => (show Ow (.ptr TdiskDisk) _ _ (_, d0) from (mkP_diskDisk d0.1 d0.2.1 d0.2.2.1 d0.2.2.2.1 d0.2.2.2.2.1 d0.2.2.2.2.2.1.1 d0.2.2.2.2.2.1.2.1 d0.2.2.2.2.2.1.2.2.1 d0.2.2.2.2.2.1.2.2.2 d0.2.2.2.2.2.2 hg8 bdk bdk (OwnL.ow (Ow.ownl q1_5 rfl mnil) rfl) (OwnL.ow (Ow.ownl q1_6 rfl mnil) rfl) (OwnL.ow (Ow.ownl q1_7 rfl mnil) rfl) (OwnL.ow (Ow.ownl q1_8 rfl mnil) rfl) q1_9))) (fun mc8 ho8 => ?_)
  refine VO.k2 0 2 ?_
  refine VC.ret ?_
  refine ⟨_, _, res_run (rs := [.tmp 2]) rfl (.tmp rfl .nil), fun W_ hI => out_of (l := [mc8]) hI [108] rfl rfl (mle_refl _) (fun hS_ => ?_)⟩
  dsimp only [packV]
  have hm0_ : (d0 : DdiskDisk) = d0 := by first | rfl | (simp [*]; done)
  refine ⟨?_, ?_⟩
  rotate_left
  · rw [hm0_]; exact (Ow.up ho8 (hS_.1 _ (.head _)))
  all_goals (first | rfl | (cases d0.1 <;> rfl))
theorem dWrong_ok (W : World) {m0 : Mem} (hm : mle (m0) (wm W)) {g0 : Nat} {d0 : DdiskDisk} (h0 : Ow (.ptr TdiskDisk) m0 [.pointer (some ⟨g0, 0, none⟩)] (g0, d0)) : CallR Tryz.prog 63 [.pointer (some ⟨g0, 0, none⟩)] W (m0) (fun v m' => v = .int .i64 (wrongD d0) ∧ Ow (.ptr TdiskDisk) m' [.pointer (some ⟨g0, 0, none⟩)] (g0, d0)) := by
  refine CallR.ofB (n := 11) hm Tryz.func63 rfl rfl rfl ?_
  refine VC.rs ?_
  refine VO.as ?_
  refine VO.k2 0 2 ?_
  refine VC.seq ?_
  refine VC.block ?_
  refine VC.rs ?_
  refine VO.mv ?_
  refine VO.call 1 rfl fnOk79 rfl rfl (fun W hW => dNone_ok W (hW.at (i := 1) rfl) h0) (fun v1 m1 hv1 => ?_)
  obtain ⟨rfl, w1_0⟩ := hv1
  refine VO.as ?_
  refine VO.k3 0 2 3 ?_
  refine VC.cond rfl (fun hc2 => ?_) (fun hc2 => ?_)
  · -- T
    refine VC.rs ?_
    refine VO.as ?_
    refine VO.kp [1, 0] [(1, m1), (0, mout (wm W) (m0))] ?_
    refine VO.k3 0 2 3 ?_
    refine VC.ret ?_
    refine outBR ?_
    refine outR ?_
    refine ⟨_, _, res_run (rs := [.tmp 2]) rfl (.tmp rfl .nil), fun W_ hI => out_of (l := [m1]) hI [1] rfl rfl (mle_refl _) (fun hS_ => ?_)⟩
    dsimp only [packV]
    have hm0_ : (d0 : DdiskDisk) = d0 := by first | rfl | (simp [*]; done)
    refine ⟨?_, ?_⟩
    rotate_left
    · rw [hm0_]; exact (Ow.up w1_0 (hS_.1 _ (.head _)))
    all_goals (first | rfl | (simp [wrongD, *]))
  · -- F
    refine VC.rs ?_
    refine VO.mv ?_
    refine VO.y rfl (.nilp rfl) ?_
    refine VO.y rfl (.fa rfl tst101 rfl) ?_
    obtain ⟨q3_E, q3_A5, q3_c5, q3_A6, q3_c6, q3_A7, q3_c7, q3_A8, q3_c8, q3_A9, q3_c9, q3_n5, q3_n6, q3_n7, q3_n8, q3_n9, _, q3_S, q3_3, q3_4, q3_5, q3_6, q3_7, q3_8, q3_9⟩ := openP_diskDisk (x0 := d0.1) (x1 := d0.2.1) (x2 := d0.2.2.1) (x3 := d0.2.2.2.1) (x4 := d0.2.2.2.2.1) (x5 := d0.2.2.2.2.2.1.1) (x6 := d0.2.2.2.2.2.1.2.1) (x7 := d0.2.2.2.2.2.1.2.2.1) (x8 := d0.2.2.2.2.2.1.2.2.2) (x9 := d0.2.2.2.2.2.2) w1_0
    simp only [inK] at q3_3
    simp only [inK] at q3_4
    have q3_r5 := q3_5.rm
    have q3_r6 := q3_6.rm
    have q3_r7 := q3_7.rm
    have q3_r8 := q3_8.rm
    have q3_r9 := q3_9.rm
    refine VO.inv _ (fun _ h => h.parts (i := 1) rfl q3_S [109, 104, 105, 106, 107, 108]) ?_
    refine VO.y rfl (.ld1 109 rfl tk4 rfl (cellsAt_one rfl rfl)) ?_
    refine VO.as ?_
    refine VO.clsP 110 [109, 104, 105, 106, 107, 108] rfl (fun hg10 => (show Ow (.ptr TdiskDisk) _ _ (_, d0) from (mkP_diskDisk d0.1 d0.2.1 d0.2.2.1 d0.2.2.2.1 d0.2.2.2.2.1 d0.2.2.2.2.2.1.1 d0.2.2.2.2.2.1.2.1 d0.2.2.2.2.2.1.2.2.1 d0.2.2.2.2.2.1.2.2.2 d0.2.2.2.2.2.2 hg10 bdk bdk (OwnL.ow (Ow.ownl q3_5 rfl mnil) rfl) (OwnL.ow (Ow.ownl q3_6 rfl mnil) rfl) (OwnL.ow (Ow.ownl q3_7 rfl mnil) rfl) (OwnL.ow (Ow.ownl q3_8 rfl mnil) rfl) q3_9))) (fun mc10 ho10 => ?_)
    refine VO.kp [110, 0] [(110, mc10), (0, mout (wm W) (m0))] ?_
    refine VO.k4 0 2 3 6 ?_
    refine VC.condB rfl (fun hc11 => ?_) (fun hc11 => ?_)
    · -- FT
      refine VC.rs ?_
      refine VO.as ?_
      refine VO.k4 0 2 3 6 ?_
      refine VC.ret ?_
      refine outBR ?_
      refine outR ?_
      refine ⟨_, _, res_run (rs := [.tmp 2]) rfl (.tmp rfl .nil), fun W_ hI => out_of (l := [mc10]) hI [110] rfl rfl (mle_refl _) (fun hS_ => ?_)⟩
      dsimp only [packV]
      have hm0_ : (d0 : DdiskDisk) = d0 := by first | rfl | (simp [*]; done)
      refine ⟨?_, ?_⟩
      rotate_left
      · rw [hm0_]; exact (Ow.up ho10 (hS_.1 _ (.head _)))
      all_goals (first | rfl | (simp [wrongD, *]))
    · -- FF
      refine VC.skip ?_
      refine outBN ?_
      refine outN ?_
      refine VC.rs ?_
      refine VO.as ?_
      refine VO.k4 0 2 3 6 ?_
      refine VC.ret ?_
      refine ⟨_, _, res_run (rs := [.tmp 2]) rfl (.tmp rfl .nil), fun W_ hI => out_of (l := [mc10]) hI [110] rfl rfl (mle_refl _) (fun hS_ => ?_)⟩
      dsimp only [packV]
      have hm0_ : (d0 : DdiskDisk) = d0 := by first | rfl | (simp [*]; done)
      refine ⟨?_, ?_⟩
      rotate_left
      · rw [hm0_]; exact (Ow.up ho10 (hS_.1 _ (.head _)))
      all_goals (first | rfl | (simp [wrongD, *]))
theorem dBurn_ok (W : World) {m0 : Mem} (hm : mle (m0) (wm W)) {g0 : Nat} {d0 : DdiskDisk} (h0 : Ow (.ptr TdiskDisk) m0 [.pointer (some ⟨g0, 0, none⟩)] (g0, d0)) (e0 : okD d0) (e1 : wD d0 ≤ 2*1000000000000) : CallR Tryz.prog 102 [.pointer (some ⟨g0, 0, none⟩)] W (m0) (fun v m' => v = .bool (decide ((burnD d0).2 = true)) ∧ Ow (.ptr TdiskDisk) m' [.pointer (some ⟨g0, 0, none⟩)] (g0, (burnD d0).1)) := by
  obtain ⟨hg, hfu, hst⟩ := e0; simp only [wD] at e1
  refine CallR.ofB (n := 29) hm Tryz.func102 rfl rfl rfl ?_
  refine VC.rs ?_
  refine VO.as ?_
  refine VO.k2 0 2 ?_
  refine VC.seq ?_
  refine VC.rs ?_
  refine VO.mv ?_
  refine VO.y rfl (.nilp rfl) ?_
  refine VO.y rfl (.fa rfl tst101 rfl) ?_
  obtain ⟨q1_E, q1_A5, q1_c5, q1_A6, q1_c6, q1_A7, q1_c7, q1_A8, q1_c8, q1_A9, q1_c9, q1_n5, q1_n6, q1_n7, q1_n8, q1_n9, _, q1_S, q1_3, q1_4, q1_5, q1_6, q1_7, q1_8, q1_9⟩ := openP_diskDisk (x0 := d0.1) (x1 := d0.2.1) (x2 := d0.2.2.1) (x3 := d0.2.2.2.1) (x4 := d0.2.2.2.2.1) (x5 := d0.2.2.2.2.2.1.1) (x6 := d0.2.2.2.2.2.1.2.1) (x7 := d0.2.2.2.2.2.1.2.2.1) (x8 := d0.2.2.2.2.2.1.2.2.2) (x9 := d0.2.2.2.2.2.2) h0
  simp only [inK] at q1_3
  simp only [inK] at q1_4
  have q1_r5 := q1_5.rm
  have q1_r6 := q1_6.rm
  have q1_r7 := q1_7.rm
  have q1_r8 := q1_8.rm
  have q1_r9 := q1_9.rm
  refine VO.inv _ (fun _ h => h.parts (i := 1) rfl q1_S [107, 102, 103, 104, 105, 106]) ?_
  refine VO.y rfl (.ld1 107 rfl tk4 rfl (cellsAt_one rfl rfl)) ?_
  refine VO.clsP 108 [107, 102, 103, 104, 105, 106] rfl (fun hg8 => (show Ow (.ptr TdiskDisk) _ _ (_, d0) from (mkP_diskDisk d0.1 d0.2.1 d0.2.2.1 d0.2.2.2.1 d0.2.2.2.2.1 d0.2.2.2.2.2.1.1 d0.2.2.2.2.2.1.2.1 d0.2.2.2.2.2.1.2.2.1 d0.2.2.2.2.2.1.2.2.2 d0.2.2.2.2.2.2 hg8 bdk bdk (OwnL.ow (Ow.ownl q1_5 rfl mnil) rfl) (OwnL.ow (Ow.ownl q1_6 rfl mnil) rfl) (OwnL.ow (Ow.ownl q1_7 rfl mnil) rfl) (OwnL.ow (Ow.ownl q1_8 rfl mnil) rfl) q1_9))) (fun mc8 ho8 => ?_)
  refine VO.k3 0 2 6 ?_
  refine VC.condB rfl (fun hc9 => ?_) (fun hc9 => ?_)
  · -- T
    refine VC.seq ?_
    refine VC.rs ?_
    refine VO.mv ?_
    refine VO.y rfl (.nilp rfl) ?_
    refine VO.y rfl (.fa rfl tst101 rfl) ?_
    obtain ⟨q10_E, q10_A5, q10_c5, q10_A6, q10_c6, q10_A7, q10_c7, q10_A8, q10_c8, q10_A9, q10_c9, q10_n5, q10_n6, q10_n7, q10_n8, q10_n9, _, q10_S, q10_3, q10_4, q10_5, q10_6, q10_7, q10_8, q10_9⟩ := openP_diskDisk (x0 := d0.1) (x1 := d0.2.1) (x2 := d0.2.2.1) (x3 := d0.2.2.2.1) (x4 := d0.2.2.2.2.1) (x5 := d0.2.2.2.2.2.1.1) (x6 := d0.2.2.2.2.2.1.2.1) (x7 := d0.2.2.2.2.2.1.2.2.1) (x8 := d0.2.2.2.2.2.1.2.2.2) (x9 := d0.2.2.2.2.2.2) ho8
    simp only [inK] at q10_3
    simp only [inK] at q10_4
    have q10_r5 := q10_5.rm
    have q10_r6 := q10_6.rm
    have q10_r7 := q10_7.rm
    have q10_r8 := q10_8.rm
    have q10_r9 := q10_9.rm
    refine VO.inv _ (fun _ h => h.parts (i := 108) rfl q10_S [116, 111, 112, 113, 114, 115]) ?_
    refine VO.y rfl (.ld1 116 rfl tk3 rfl (cellsAt_one rfl rfl)) ?_
    refine VO.y rfl (.eql rfl rfl) ?_
    refine VO.clsP 117 [116, 111, 112, 113, 114, 115] rfl (fun hg17 => (show Ow (.ptr TdiskDisk) _ _ (_, d0) from (mkP_diskDisk d0.1 d0.2.1 d0.2.2.1 d0.2.2.2.1 d0.2.2.2.2.1 d0.2.2.2.2.2.1.1 d0.2.2.2.2.2.1.2.1 d0.2.2.2.2.2.1.2.2.1 d0.2.2.2.2.2.1.2.2.2 d0.2.2.2.2.2.2 hg17 bdk bdk (OwnL.ow (Ow.ownl q10_5 rfl mnil) rfl) (OwnL.ow (Ow.ownl q10_6 rfl mnil) rfl) (OwnL.ow (Ow.ownl q10_7 rfl mnil) rfl) (OwnL.ow (Ow.ownl q10_8 rfl mnil) rfl) q10_9))) (fun mc17 ho17 => ?_)
    refine VO.kp [117, 0] [(117, mc17), (0, mout (wm W) (m0))] ?_
    refine VO.k4 0 2 6 11 ?_
    refine VC.cond rfl (fun hc18 => ?_) (fun hc18 => ?_)
    · -- TT
      refine VC.rs ?_
      refine VO.mv ?_
      refine VO.y rfl (.nilp rfl) ?_
      refine VO.y rfl (.fa rfl tst101 rfl) ?_
      obtain ⟨q19_E, q19_A5, q19_c5, q19_A6, q19_c6, q19_A7, q19_c7, q19_A8, q19_c8, q19_A9, q19_c9, q19_n5, q19_n6, q19_n7, q19_n8, q19_n9, _, q19_S, q19_3, q19_4, q19_5, q19_6, q19_7, q19_8, q19_9⟩ := openP_diskDisk (x0 := d0.1) (x1 := d0.2.1) (x2 := d0.2.2.1) (x3 := d0.2.2.2.1) (x4 := d0.2.2.2.2.1) (x5 := d0.2.2.2.2.2.1.1) (x6 := d0.2.2.2.2.2.1.2.1) (x7 := d0.2.2.2.2.2.1.2.2.1) (x8 := d0.2.2.2.2.2.1.2.2.2) (x9 := d0.2.2.2.2.2.2) ho17
      simp only [inK] at q19_3
      simp only [inK] at q19_4
      have q19_r5 := q19_5.rm
      have q19_r6 := q19_6.rm
      have q19_r7 := q19_7.rm
      have q19_r8 := q19_8.rm
      have q19_r9 := q19_9.rm
      refine VO.inv _ (fun _ h => h.parts (i := 117) rfl q19_S [125, 120, 121, 122, 123, 124]) ?_
      refine VO.store (k := 1) 125 rfl rfl (.inr ⟨tk4, rfl⟩) rfl rfl rfl rfl rfl ?_
      refine VO.clsP 126 [125, 120, 121, 122, 123, 124] rfl (fun hg26 => (mkP_diskDisk d0.1 true d0.2.2.1 d0.2.2.2.1 d0.2.2.2.2.1 d0.2.2.2.2.2.1.1 d0.2.2.2.2.2.1.2.1 d0.2.2.2.2.2.1.2.2.1 d0.2.2.2.2.2.1.2.2.2 d0.2.2.2.2.2.2 hg26 bdk bdk (OwnL.ow (Ow.ownl q19_5 rfl mnil) rfl) (OwnL.ow (Ow.ownl q19_6 rfl mnil) rfl) (OwnL.ow (Ow.ownl q19_7 rfl mnil) rfl) (OwnL.ow (Ow.ownl q19_8 rfl mnil) rfl) q19_9)) (fun mc26 ho26 => ?_)
      refine VO.k4 0 2 6 11 ?_
      refine VC.rs ?_
      refine VO.as ?_
      refine VO.k4 0 2 6 11 ?_
      refine VC.ret ?_
      refine outR ?_
      refine outR ?_
      refine ⟨_, _, res_run (rs := [.tmp 2]) rfl (.tmp rfl .nil), fun W_ hI => out_of (l := [mc26]) hI [126] rfl rfl (mle_refl _) (fun hS_ => ?_)⟩
      dsimp only [packV]
      have hm0_ : ((burnD d0).1 : DdiskDisk) = (d0.1, true, d0.2.2) := by first | rfl | (simp [burnD, *]; done)
      refine ⟨?_, ?_⟩
      rotate_left
      · rw [hm0_]; exact (Ow.up ho26 (hS_.1 _ (.head _)))
      all_goals (first | rfl | (simp [burnD, *]; done))
    · -- TF
      refine VC.skip ?_
      refine outN ?_
      refine VC.reg ?_
      refine VO.mv ?_
      refine VO.y rfl (.nilp rfl) ?_
      refine VO.y rfl (.fa rfl tst101 rfl) ?_
      obtain ⟨q27_E, q27_A5, q27_c5, q27_A6, q27_c6, q27_A7, q27_c7, q27_A8, q27_c8, q27_A9, q27_c9, q27_n5, q27_n6, q27_n7, q27_n8, q27_n9, _, q27_S, q27_3, q27_4, q27_5, q27_6, q27_7, q27_8, q27_9⟩ := openP_diskDisk (x0 := d0.1) (x1 := d0.2.1) (x2 := d0.2.2.1) (x3 := d0.2.2.2.1) (x4 := d0.2.2.2.2.1) (x5 := d0.2.2.2.2.2.1.1) (x6 := d0.2.2.2.2.2.1.2.1) (x7 := d0.2.2.2.2.2.1.2.2.1) (x8 := d0.2.2.2.2.2.1.2.2.2) (x9 := d0.2.2.2.2.2.2) ho17
      simp only [inK] at q27_3
      simp only [inK] at q27_4
      have q27_r5 := q27_5.rm
      have q27_r6 := q27_6.rm
      have q27_r7 := q27_7.rm
      have q27_r8 := q27_8.rm
      have q27_r9 := q27_9.rm
      refine VO.inv _ (fun _ h => h.parts (i := 117) rfl q27_S [133, 128, 129, 130, 131, 132]) ?_
      refine VO.y rfl (.ld1 133 rfl tk3 rfl (cellsAt_one rfl rfl)) ?_
      refine VO.y rfl (.sub rfl rfl rfl ⟨bd, bd⟩) ?_
      refine VO.y rfl (.nilp rfl) ?_
      refine VO.y rfl (.fa rfl tst101 rfl) ?_
      refine VO.store (k := 1) 133 rfl rfl (.inr ⟨tk3, rfl⟩) rfl rfl rfl rfl rfl ?_
      refine VO.clsP 134 [133, 128, 129, 130, 131, 132] rfl (fun hg34 => (mkP_diskDisk d0.1 d0.2.1 d0.2.2.1 (d0.2.2.2.1 - 1) d0.2.2.2.2.1 d0.2.2.2.2.2.1.1 d0.2.2.2.2.2.1.2.1 d0.2.2.2.2.2.1.2.2.1 d0.2.2.2.2.2.1.2.2.2 d0.2.2.2.2.2.2 hg34 bdk bdk (OwnL.ow (Ow.ownl q27_5 rfl mnil) rfl) (OwnL.ow (Ow.ownl q27_6 rfl mnil) rfl) (OwnL.ow (Ow.ownl q27_7 rfl mnil) rfl) (OwnL.ow (Ow.ownl q27_8 rfl mnil) rfl) q27_9)) (fun mc34 ho34 => ?_)
      refine VO.k4 0 2 6 11 ?_
      refine outN ?_
      refine VC.rs ?_
      refine VO.mv ?_
      refine VO.y rfl (.nilp rfl) ?_
      refine VO.y rfl (.fa rfl tst101 rfl) ?_
      obtain ⟨q35_E, q35_A5, q35_c5, q35_A6, q35_c6, q35_A7, q35_c7, q35_A8, q35_c8, q35_A9, q35_c9, q35_n5, q35_n6, q35_n7, q35_n8, q35_n9, _, q35_S, q35_3, q35_4, q35_5, q35_6, q35_7, q35_8, q35_9⟩ := openP_diskDisk (x0 := d0.1) (x1 := d0.2.1) (x2 := d0.2.2.1) (x3 := d0.2.2.2.1 - 1) (x4 := d0.2.2.2.2.1) (x5 := d0.2.2.2.2.2.1.1) (x6 := d0.2.2.2.2.2.1.2.1) (x7 := d0.2.2.2.2.2.1.2.2.1) (x8 := d0.2.2.2.2.2.1.2.2.2) (x9 := d0.2.2.2.2.2.2) ho34
      simp only [inK] at q35_3
      simp only [inK] at q35_4
      have q35_r5 := q35_5.rm
      have q35_r6 := q35_6.rm
      have q35_r7 := q35_7.rm
      have q35_r8 := q35_8.rm
      have q35_r9 := q35_9.rm
      refine VO.inv _ (fun _ h => h.parts (i := 134) rfl q35_S [141, 136, 137, 138, 139, 140]) ?_
      refine VO.y rfl (.ld1 141 rfl tk3 rfl (cellsAt_one rfl rfl)) ?_
      refine VO.y rfl (.add rfl rfl rfl ⟨bd, bd⟩) ?_
      refine VO.y rfl (.nilp rfl) ?_
      refine VO.y rfl (.fa rfl tst101 rfl) ?_
      refine VO.store (k := 1) 141 rfl rfl (.inr ⟨tk3, rfl⟩) rfl rfl rfl rfl rfl ?_
      refine VO.clsP 142 [141, 136, 137, 138, 139, 140] rfl (fun hg42 => (mkP_diskDisk d0.1 d0.2.1 d0.2.2.1 (d0.2.2.2.1 - 1) (d0.2.2.2.2.1 + 1) d0.2.2.2.2.2.1.1 d0.2.2.2.2.2.1.2.1 d0.2.2.2.2.2.1.2.2.1 d0.2.2.2.2.2.1.2.2.2 d0.2.2.2.2.2.2 hg42 bdk bdk (OwnL.ow (Ow.ownl q35_5 rfl mnil) rfl) (OwnL.ow (Ow.ownl q35_6 rfl mnil) rfl) (OwnL.ow (Ow.ownl q35_7 rfl mnil) rfl) (OwnL.ow (Ow.ownl q35_8 rfl mnil) rfl) q35_9)) (fun mc42 ho42 => ?_)
      refine VO.k4 0 2 6 11 ?_
      refine VC.rs ?_
      refine VO.as ?_
      refine VO.kp [142, 0] [(142, mc42), (0, mout (wm W) (m0))] ?_
      refine VO.k4 0 2 6 11 ?_
      refine VC.ret ?_
      refine ⟨_, _, res_run (rs := [.tmp 2]) rfl (.tmp rfl .nil), fun W_ hI => out_of (l := [mc42]) hI [142] rfl rfl (mle_refl _) (fun hS_ => ?_)⟩
      dsimp only [packV]
      have hm0_ : ((burnD d0).1 : DdiskDisk) = (d0.1, d0.2.1, d0.2.2.1, d0.2.2.2.1 - 1, d0.2.2.2.2.1 + 1, d0.2.2.2.2.2) := by first | rfl | (simp [burnD, *]; done)
      refine ⟨?_, ?_⟩
      rotate_left
      · rw [hm0_]; exact (Ow.up ho42 (hS_.1 _ (.head _)))
      all_goals (first | rfl | (simp [burnD, *]; done))
  · -- F
    refine VC.skip ?_
    refine outN ?_
    refine VC.rs ?_
    refine VO.mv ?_
    refine VO.y rfl (.nilp rfl) ?_
    refine VO.y rfl (.fa rfl tst101 rfl) ?_
    obtain ⟨q43_E, q43_A5, q43_c5, q43_A6, q43_c6, q43_A7, q43_c7, q43_A8, q43_c8, q43_A9, q43_c9, q43_n5, q43_n6, q43_n7, q43_n8, q43_n9, _, q43_S, q43_3, q43_4, q43_5, q43_6, q43_7, q43_8, q43_9⟩ := openP_diskDisk (x0 := d0.1) (x1 := d0.2.1) (x2 := d0.2.2.1) (x3 := d0.2.2.2.1) (x4 := d0.2.2.2.2.1) (x5 := d0.2.2.2.2.2.1.1) (x6 := d0.2.2.2.2.2.1.2.1) (x7 := d0.2.2.2.2.2.1.2.2.1) (x8 := d0.2.2.2.2.2.1.2.2.2) (x9 := d0.2.2.2.2.2.2) ho8
    simp only [inK] at q43_3
    simp only [inK] at q43_4
    have q43_r5 := q43_5.rm
    have q43_r6 := q43_6.rm
    have q43_r7 := q43_7.rm
    have q43_r8 := q43_8.rm
    have q43_r9 := q43_9.rm
    refine VO.inv _ (fun _ h => h.parts (i := 108) rfl q43_S [149, 144, 145, 146, 147, 148]) ?_
    refine VO.y rfl (.ld1 149 rfl tk3 rfl (cellsAt_one rfl rfl)) ?_
    refine VO.y rfl (.add rfl rfl rfl ⟨bd, bd⟩) ?_
    refine VO.y rfl (.nilp rfl) ?_
    refine VO.y rfl (.fa rfl tst101 rfl) ?_
    refine VO.store (k := 1) 149 rfl rfl (.inr ⟨tk3, rfl⟩) rfl rfl rfl rfl rfl ?_
    refine VO.clsP 150 [149, 144, 145, 146, 147, 148] rfl (fun hg50 => (mkP_diskDisk d0.1 d0.2.1 d0.2.2.1 d0.2.2.2.1 (d0.2.2.2.2.1 + 1) d0.2.2.2.2.2.1.1 d0.2.2.2.2.2.1.2.1 d0.2.2.2.2.2.1.2.2.1 d0.2.2.2.2.2.1.2.2.2 d0.2.2.2.2.2.2 hg50 bdk bdk (OwnL.ow (Ow.ownl q43_5 rfl mnil) rfl) (OwnL.ow (Ow.ownl q43_6 rfl mnil) rfl) (OwnL.ow (Ow.ownl q43_7 rfl mnil) rfl) (OwnL.ow (Ow.ownl q43_8 rfl mnil) rfl) q43_9)) (fun mc50 ho50 => ?_)
    refine VO.kp [150, 0] [(150, mc50), (0, mout (wm W) (m0))] ?_
    refine VO.k3 0 2 6 ?_
    refine VC.rs ?_
    refine VO.as ?_
    refine VO.k3 0 2 6 ?_
    refine VC.ret ?_
    refine ⟨_, _, res_run (rs := [.tmp 2]) rfl (.tmp rfl .nil), fun W_ hI => out_of (l := [mc50]) hI [150] rfl rfl (mle_refl _) (fun hS_ => ?_)⟩
    dsimp only [packV]
    have hm0_ : ((burnD d0).1 : DdiskDisk) = (d0.1, d0.2.1, d0.2.2.1, d0.2.2.2.1, d0.2.2.2.2.1 + 1, d0.2.2.2.2.2) := by first | rfl | (simp [burnD, *]; done)
    refine ⟨?_, ?_⟩
    rotate_left
    · rw [hm0_]; exact (Ow.up ho50 (hS_.1 _ (.head _)))
    all_goals (first | rfl | (simp [burnD, *]; done))
theorem dDone_ok (W : World) {m0 : Mem} (hm : mle (m0) (wm W)) {v0 : Value} {d0 : List UInt8} (h0 : Ow (.sl .byte) m0 [v0] d0) {v1 : List Value} {d1 : Ddiskstep} (h1 : Rd Tdiskstep (mout (wm W) (m0)) v1 d1) (e0 : d1.1 = 1 → 0 ≤ d1.2.2.2 ∧ d1.2.2.2 ≤ d0.length) (e1 : d0.length + d1.2.2.1.length ≤ 140737488355000) : CallR Tryz.prog 131 [v0, .agg v1.toArray] W (m0) (fun v m' => ∃ (s0 : Value), v = s0 ∧ Ow (.sl .byte) m' [s0] (doneB d0 d1)) := by
  obtain ⟨A0, c0, e0_, l0, k0⟩ := h0.slice
  subst e0_
  simp only [maxLen] at k0
  obtain ⟨p1_A2, p1_c2, rfl, p1_0, p1_1, p1_2, p1_3⟩ := open_diskstep (x0 := d1.1) (x1 := d1.2.1) (x2 := d1.2.2.1) (x3 := d1.2.2.2) h1
  simp only [inK] at p1_0
  simp only [inK] at p1_1
  have p1_r2 := Rd.room p1_2
  simp only [inK] at p1_3
  refine CallR.ofB (n := 20) hm Tryz.func131 rfl rfl rfl ?_
  refine VC.rs ?_
  refine VO.box (cs := [Value.int .i64 (d1.1), Value.int .i64 (d1.2.1), Value.slice p1_A2 (d1.2.2.1.length) (p1_c2), Value.int .i64 (d1.2.2.2)]) 102 rfl rfl rfl (fun g1 => ?_)
  refine VO.as ?_
  refine VO.k4 0 1 3 4 ?_
  refine VC.seq ?_
  refine VC.rs ?_
  refine VO.y rfl (.fa rfl tst148 rfl) ?_
  refine VO.y rfl (.ld1 102 rfl tk3 rfl (cellsAt_one rfl rfl)) ?_
  refine VO.k5 0 1 3 4 6 ?_
  refine VC.block ?_
  refine VC.rs ?_
  refine VO.y rfl (.eql rfl rfl) ?_
  refine VO.as ?_
  refine VO.kp [102, 0, 1] [(102, mone g1 (.cells [Value.int .i64 (d1.1), Value.int .i64 (d1.2.1), Value.slice p1_A2 (d1.2.2.1.length) (p1_c2), Value.int .i64 (d1.2.2.2)].toArray 148 (0, 0))), (0, mout (wm W) (m0)), (1, m0)] ?_
  refine VO.k6 0 1 3 4 6 7 ?_
  refine VC.cond rfl (fun hc3 => ?_) (fun hc3 => ?_)
  · -- T
    refine VC.rs ?_
    refine VO.mv ?_
    refine VO.y rfl (.fa rfl tst148 rfl) ?_
    refine VO.y rfl (.ld1 102 rfl tk97 rfl (cellsAt_one rfl rfl)) ?_
    obtain ⟨mo4, cs4, hM4, hA4, hC4⟩ := (Ow.ownl h0 rfl mnil)
    obtain ⟨all4, hS4, hR4⟩ := Rd.srcI (P := Tryz.prog) (p1_2) Tryz.underlying97
    refine VO.app 1 rfl rfl rfl tsl97 tz5 rfl rfl hM4 hA4 (hS4 _ 0 rfl) hR4.nice bdm bd (by decide) (fun v4 m4 hN4 => ?_)
    have ho4 : OwnL .byte m4 mnil v4 (d0 ++ d1.2.2.1) := OwnL.more hC4 hN4 (All2c.mono hR4 fun _ _ h => Rd.flat rfl h _)
    obtain ⟨A4, c4, rfl, l4, k4⟩ := ho4.slice
    simp only [maxLen] at k4
    refine VO.as ?_
    refine VO.k6 0 1 3 4 6 7 ?_
    refine VC.ret ?_
    refine outBR ?_
    refine outR ?_
    refine ⟨_, _, res_run (rs := [.tmp 4]) rfl (.tmp rfl .nil), fun W_ hI => out_of (l := [m4]) hI [1] rfl rfl (mle_refl _) (fun hS_ => ?_)⟩
    dsimp only [packV]
    have he0 : (doneB d0 d1 : Ty.Den (.sl .byte)) = d0 ++ d1.2.2.1 := by first | rfl | (simp [doneB, *]; done)
    refine ⟨Value.slice A4 ((d0 ++ d1.2.2.1).length) (c4), ?_, ?_⟩
    rotate_left
    · rw [he0]; exact (Ow.up (OwnL.ow ho4 rfl) (hS_.1 _ (.head _)))
    all_goals (first | rfl | (simp [*]; done))
  · -- F
    refine VC.rs ?_
    refine VO.y rfl (.eql rfl rfl) ?_
    refine VO.as ?_
    refine VO.k7 0 1 3 4 6 7 13 ?_
    refine VC.cond rfl (fun hc5 => ?_) (fun hc5 => ?_)
    · -- FT
      refine VC.rs ?_
      refine VO.mv ?_
      refine VO.y rfl (.fa rfl tst148 rfl) ?_
      refine VO.y rfl (.ld1 102 rfl tk3 rfl (cellsAt_one rfl rfl)) ?_
      have hs6 := (OwnL.rd (Ow.ownl h0 rfl mnil) (mle_refl _) (mle_nil _)).pre (j := ((d1.2.2.2).toNat)) bd
      refine VO.y rfl (.slHI ((d1.2.2.2).toNat) rfl rfl tsl97 bd bd) ?_
      refine VO.as ?_
      refine VO.k7 0 1 3 4 6 7 13 ?_
      refine VC.ret ?_
      refine outBR ?_
      refine outR ?_
      refine ⟨_, _, res_run (rs := [.tmp 4]) rfl (.tmp rfl .nil), fun W_ hI => out_of (l := [m0]) hI [1] rfl rfl (mle_refl _) (fun hS_ => ?_)⟩
      dsimp only [packV]
      have he0 : (doneB d0 d1 : Ty.Den (.sl .byte)) = (d0).take ((d1.2.2.2).toNat) := by first | rfl | (simp [doneB, *]; done)
      refine ⟨Value.slice A0 ((d1.2.2.2).toNat) (c0), ?_, ?_⟩
      rotate_left
      · rw [he0]; exact (Ow.up (OwnL.ow ((Ow.ownl h0 rfl mnil).pre (j := ((d1.2.2.2).toNat)) bd) rfl) (hS_.1 _ (.head _)))
      all_goals (first | rfl | (simp [*]; done))
    · -- FF
      refine VC.skip ?_
      refine outBN ?_
      refine outN ?_
      refine VC.rs ?_
      refine VO.mv ?_
      refine VO.as ?_
      refine VO.k7 0 1 3 4 6 7 13 ?_
      refine VC.ret ?_
      refine ⟨_, _, res_run (rs := [.tmp 4]) rfl (.tmp rfl .nil), fun W_ hI => out_of (l := [m0]) hI [1] rfl rfl (mle_refl _) (fun hS_ => ?_)⟩
      dsimp only [packV]
      have he0 : (doneB d0 d1 : Ty.Den (.sl .byte)) = d0 := by first | rfl | (simp [doneB, *]; done)
      refine ⟨Value.slice A0 (d0.length) (c0), ?_, ?_⟩
      rotate_left
      · rw [he0]; exact (Ow.up (OwnL.ow (Ow.ownl h0 rfl mnil) rfl) (hS_.1 _ (.head _)))
      all_goals (first | rfl | (simp [*]; done))
end Go.Proofs.YtonbpfncmlijnaaGreat
