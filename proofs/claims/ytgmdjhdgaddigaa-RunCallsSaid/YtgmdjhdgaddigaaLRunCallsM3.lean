/- Part 3 of the proof of LRunCalls: what it needs of the library, the walks and the plain laws. Conditions: those named in each theorem. -/
import Derived.Test.YtgmdjhdgaddigaaLRunCallsM2
set_option linter.unusedVariables false
set_option linter.unusedSimpArgs false
set_option maxRecDepth 4000
namespace Go.Proofs.Ytgmdjhdgaddigaa
def fEnc (r : Bytes) : Bytes := venc r.length ++ r
def fAppend (b r : Bytes) : Bytes × Int := if 131072 < r.length then ([], 3) else (b ++ fEnc r, 0)
def fRead (b : Bytes) : Bytes × Int × Int := if sE b 131072 = 0 ∧ (sX b 131072 : Int) ≤ (b.length : Int) - sN b 131072 then ((b.drop (sN b 131072)).take (sX b 131072), (sN b 131072 : Int) + sX b 131072, 0) else ([], 0, 5)
theorem fAppend_long {b r : Bytes} (h : (131072 : Int) < r.length) : fAppend b r = ([], 3) := if_pos (by omega)
theorem fAppend_good {b r : Bytes} (h : ¬ (131072 : Int) < r.length) : fAppend b r = (b ++ fEnc r, 0) := if_neg (by omega)
theorem fEnc_len {r : Bytes} (h : r.length ≤ 131072) : (fEnc r).length ≤ r.length + 10 := by
  have := venc_len (x := r.length) (by omega)
  simp only [fEnc, List.length_append]; omega
theorem fEnc_pos (r : Bytes) : 1 ≤ (fEnc r).length := by
  have := venc_pos r.length
  simp only [fEnc, List.length_append]; omega
theorem sN_pos {b : Bytes} {m : Int} (h : sE b m = 0) : 1 ≤ sN b m := by
  unfold sE at h; unfold sN
  cases hv : vsmall b m with
  | none => rw [hv] at h; cases h
  | some p =>
    obtain ⟨x, n⟩ := p
    unfold vsmall at hv
    cases hr : vread b with
    | none => rw [hr] at hv; cases hv
    | some q =>
      obtain ⟨y, k⟩ := q
      rw [hr] at hv
      dsimp only at hv
      split at hv
      · cases hv; exact (vread_bounds hr).2.1
      · cases hv
theorem fRead_bounds (b : Bytes) : 0 ≤ (fRead b).2.1 ∧ (fRead b).2.1 ≤ b.length ∧ (fRead b).1.length ≤ 131072 ∧ ((fRead b).2.2 = 0 ∨ (fRead b).2.2 = 5) ∧ ((fRead b).2.2 = 0 → 1 ≤ (fRead b).2.1) ∧ (fRead b).1.length ≤ b.length := by
  have hb := s_bounds b 131072 (by omega)
  have := hb.2.1 (by omega)
  unfold fRead
  split
  · rename_i h
    have := sN_pos h.1
    refine ⟨by dsimp only; omega, by dsimp only; omega, by simp only [List.length_take]; omega, .inl rfl, fun _ => by dsimp only; omega, by simp only [List.length_take, List.length_drop]; omega⟩
  · exact ⟨Int.le_refl _, by simp, by simp, .inr rfl, fun h => (by cases h), by simp⟩
def fWhole (b : Bytes) : Int × Int × Bool := if sE b 131072 = 0 ∧ (sX b 131072 : Int) ≤ (b.length : Int) - sN b 131072 then ((sN b 131072 : Int), (sN b 131072 : Int) + sX b 131072, true) else (0, 0, false)
theorem whole_no1 {b : Bytes} (h : ¬ sE b 131072 = 0) : fWhole b = (0, 0, false) := if_neg fun q => h q.1
theorem whole_no2 {b : Bytes} (h : (b.length : Int) - sN b 131072 < sX b 131072) : fWhole b = (0, 0, false) := if_neg fun q => by have := q.2; omega
theorem whole_yes {b : Bytes} (h : ¬ ¬ sE b 131072 = 0) (h2 : ¬ (b.length : Int) - sN b 131072 < sX b 131072) : fWhole b = ((sN b 131072 : Int), (sN b 131072 : Int) + sX b 131072, true) := if_pos ⟨Decidable.not_not.1 h, by omega⟩
theorem fWhole_bounds (b : Bytes) : 0 ≤ (fWhole b).1 ∧ (fWhole b).1 ≤ (fWhole b).2.1 ∧ (fWhole b).2.1 ≤ b.length ∧ (fWhole b).2.1 - (fWhole b).1 ≤ 131072 := by
  have hb := s_bounds b 131072 (by omega)
  have := hb.2.1 (by omega)
  unfold fWhole
  split
  · rename_i h; exact ⟨by dsimp only; omega, by dsimp only; omega, by dsimp only; omega, by dsimp only; omega⟩
  · exact ⟨Int.le_refl _, Int.le_refl _, by simp, by decide⟩
theorem fRead_bad {b : Bytes} (h : (fWhole b).2.2 = false) : fRead b = ([], 0, 5) := by
  unfold fWhole at h; unfold fRead
  split at h
  · cases h
  · rename_i h0; exact if_neg h0
theorem fRead_good {b : Bytes} (h : (fWhole b).2.2 = true) : fRead b = ((b.take (fWhole b).2.1.toNat).drop (fWhole b).1.toNat, (fWhole b).2.1, 0) := by
  have hb := s_bounds b 131072 (by omega)
  unfold fWhole at h ⊢; unfold fRead
  split at h
  · rename_i h0
    rw [if_pos h0, if_pos h0]
    dsimp only
    rw [List.drop_take, Int.toNat_natCast, show ((sN b 131072 : Int) + sX b 131072).toNat - sN b 131072 = sX b 131072 by omega]
  · cases h
theorem clone_nil' {e : Ty} {m : Mem} {A : Option Addr} {c : Nat} {l : List e.Den} (h : Rd (.sl e) m [.slice A l.length c] l) (hA : A = none) : l = [] := by
  subst hA
  obtain ⟨A', c', h1, _, _, h4⟩ := h
  rcases h4 with h4 | ⟨g, off, all, k1, _⟩
  · exact List.eq_nil_of_length_eq_zero h4
  · simp only [List.cons.injEq, Value.slice.injEq, and_true] at h1
    rw [← h1.1] at k1; cases k1
theorem fAppend_len (b r : Bytes) : (fAppend b r).1.length ≤ b.length + 131082 := by
  unfold fAppend
  split
  · simp
  · have := fEnc_len (r := r) (by omega)
    simp only [List.length_append]; omega
theorem fAppend_range (b r : Bytes) : 0 ≤ (fAppend b r).2 ∧ (fAppend b r).2 ≤ 3 := by unfold fAppend; split <;> exact ⟨by dsimp only; omega, by dsimp only; omega⟩
/-- a stands ahead of b. -/
abbrev kl (a b : List UInt8) : Prop := Op.bytesLess a b = true
theorem kl_cons {a b : UInt8} {x y : List UInt8} : kl (a :: x) (b :: y) ↔ a.toNat < b.toNat ∨ (a = b ∧ kl x y) := by
  simp only [kl, Op.bytesLess, Bool.or_eq_true, Bool.and_eq_true, decide_eq_true_eq, beq_iff_eq, UInt8.lt_iff_toNat_lt]
theorem kl_nil_cons (b : UInt8) (y : List UInt8) : kl [] (b :: y) := rfl
theorem kl_nil {x : List UInt8} : ¬ kl x [] := by cases x <;> simp [kl, Op.bytesLess]
theorem kl_irrefl : ∀ x : List UInt8, ¬ kl x x
  | [] => kl_nil
  | a :: x => fun h => by
    rcases kl_cons.1 h with h | ⟨_, h⟩
    · omega
    · exact kl_irrefl x h
theorem kl_trans : ∀ {x y z : List UInt8}, kl x y → kl y z → kl x z
  | _, _, [], _, h => absurd h kl_nil
  | _, [], _ :: _, h, _ => absurd h kl_nil
  | [], _ :: _, _ :: _, _, _ => kl_nil_cons _ _
  | a :: x, b :: y, c :: z, h, k => by
    rcases kl_cons.1 h with h1 | ⟨e1, h1⟩ <;> rcases kl_cons.1 k with k1 | ⟨e2, k1⟩
    · exact kl_cons.2 (.inl (by omega))
    · exact kl_cons.2 (.inl (e2 ▸ h1))
    · exact kl_cons.2 (.inl (e1 ▸ k1))
    · exact kl_cons.2 (.inr ⟨e1.trans e2, kl_trans h1 k1⟩)
theorem kl_total : ∀ x y : List UInt8, kl x y ∨ x = y ∨ kl y x
  | [], [] => .inr (.inl rfl)
  | [], _ :: _ => .inl (kl_nil_cons _ _)
  | _ :: _, [] => .inr (.inr (kl_nil_cons _ _))
  | a :: x, b :: y => by
    rcases Nat.lt_trichotomy a.toNat b.toNat with h | h | h
    · exact .inl (kl_cons.2 (.inl h))
    · have e : a = b := UInt8.toNat_inj.1 h
      subst e
      rcases kl_total x y with h | h | h
      · exact .inl (kl_cons.2 (.inr ⟨rfl, h⟩))
      · exact .inr (.inl (by rw [h]))
      · exact .inr (.inr (kl_cons.2 (.inr ⟨rfl, h⟩)))
    · exact .inr (.inr (kl_cons.2 (.inl h)))
theorem kl_ne {x y : List UInt8} (h : kl x y) : ¬ x = y := fun e => by subst e; exact kl_irrefl _ h
theorem kl_asymm {x y : List UInt8} (h : kl x y) : ¬ kl y x := fun k => kl_irrefl _ (kl_trans h k)
section
variable {P : Program} {n : Nat} {w0 : World} {σ : Env} {Ω : Ctx}
variable {ty : TypeId} {pos : String} {af : Array Edge} {d : Option Tmp} {gd : Option (Nat × Bool)}
variable {x y : Operand} {t u : TypeId} {a b : List UInt8}
theorem shr1 (a : Nat) {k : IntKind} : ∀ W, (Op.shift .shr .u64 (a : Int) k 1).run P W = .ok (.int .u64 ((a / 2 : Nat) : Int)) W := fun W => by
  show Result.ok (Value.int .u64 ((a : Int).fdiv (2 ^ (min 1 64)))) W = _
  have e : ((a : Int).fdiv (2 ^ (min 1 64))) = ((a / 2 : Nat) : Int) := by
    rw [Int.fdiv_eq_ediv_of_nonneg _ (by decide)]
    rfl
  rw [e]
theorem less_dec (a b : List UInt8) : Op.bytesLess a b = decide (kl a b) := Bool.decide_eq_true.symm
theorem leq_dec (a b : List UInt8) : (Op.bytesLess a b || a == b) = decide (¬ kl b a) := by
  rcases kl_total a b with h | h | h
  · rw [decide_eq_true (kl_asymm h), show Op.bytesLess a b = true from h]; rfl
  · subst h; rw [decide_eq_true (kl_irrefl a)]; simp
  · rw [decide_eq_false (by simpa using h), show Op.bytesLess a b = false from by simpa using kl_asymm h]; simpa using fun e : a = b => kl_ne h e.symm
theorem Yld.sgeq (hx : ev σ x = some (str a)) (hy : ev σ y = some (str b)) : Yld P n w0 σ Ω ⟨d, .binOp .geq t x y u, ty, pos, af, gd⟩ (.bool (decide (¬ kl a b))) := fun A W he _ => by
  rw [show decide (¬ kl a b) = !Op.bytesLess a b from by rw [decide_not, ← less_dec]]; simp [execOp, he.eval hx, he.eval hy, eqGuard_str, binOp, Op.stringOp]
theorem Yld.sleq (hx : ev σ x = some (str a)) (hy : ev σ y = some (str b)) : Yld P n w0 σ Ω ⟨d, .binOp .leq t x y u, ty, pos, af, gd⟩ (.bool (decide (¬ kl b a))) := fun A W he _ => by
  rw [← leq_dec]; simp [execOp, he.eval hx, he.eval hy, eqGuard_str, binOp, Op.stringOp]
end
abbrev TRun : Ty := .pair (.int .i64) (.pair (.int .i64) (.sl TOp))
abbrev DRun := Int × Int × (List DOp)
instance decRun : DecidableEq DRun := (@instDecidableEqProd _ _ inferInstance (@instDecidableEqProd _ _ inferInstance inferInstance))
theorem open_Run {m : Mem} {cs : List Value} {x0 : Int} {x1 : Int} {x2 : List DOp} (h : Rd TRun m cs (x0, x1, x2)) : ∃ (A2 : Option Addr), ∃ (c2 : Nat), cs = [(.int .i64 x0 : Value), .int .i64 x1, .slice A2 x2.length c2] ∧ inK .i64 x0 ∧ inK .i64 x1 ∧ Rd (.sl TOp) m [.slice A2 x2.length c2] x2 := by
  obtain ⟨p1, q1, rfl, u1, w1⟩ := Rd.pair h
  obtain ⟨rfl, z2⟩ := (show _ = _ ∧ _ from u1)
  obtain ⟨p3, q3, rfl, u3, w3⟩ := Rd.pair w1
  obtain ⟨rfl, z4⟩ := (show _ = _ ∧ _ from u3)
  have z5 := w3
  obtain ⟨A5, c5, rfl, _⟩ := Rd.slice1 w3
  exact ⟨A5, c5, rfl, z2, z4, z5⟩
theorem mk_Run {m : Mem} (x0 : Int) (x1 : Int) (x2 : List DOp) (h0 : inK .i64 x0) (h1 : inK .i64 x1) {v2 : Value} (h2 : Rd (.sl TOp) m [v2] x2) : Rd TRun m [.int .i64 x0, .int .i64 x1, v2] (x0, x1, x2) := (Rd.mkPair (c1 := [_]) (show Rd (.int .i64) m [_] _ from ⟨rfl, h0⟩) (Rd.mkPair (c1 := [_]) (show Rd (.int .i64) m [_] _ from ⟨rfl, h1⟩) h2))
theorem openO_Run {m : Mem} {cs : List Value} {x0 : Int} {x1 : Int} {x2 : List DOp} (h : Ow TRun m cs (x0, x1, x2)) : ∃ (A2 : Option Addr), ∃ (c2 : Nat), ∃ (n2 : Mem), cs = [(.int .i64 x0 : Value), .int .i64 x1, .slice A2 x2.length c2] ∧ Seps m [n2] ∧ inK .i64 x0 ∧ inK .i64 x1 ∧ Ow (.sl TOp) n2 [.slice A2 x2.length c2] x2 := by
  obtain ⟨p1, q1, ma1, mb1, rfl, dj1, la1, lb1, u1, w1⟩ := Ow.pair h
  obtain ⟨rfl, z2⟩ := (show _ = _ ∧ _ from u1)
  obtain ⟨p3, q3, ma3, mb3, rfl, dj3, la3, lb3, u3, w3⟩ := Ow.pair w1
  obtain ⟨rfl, z4⟩ := (show _ = _ ∧ _ from u3)
  have z5 := w3
  obtain ⟨A5, c5, rfl, _⟩ := Ow.slice1 w3
  exact ⟨A5, c5, _, rfl, (Seps.app dj1 la1 lb1 (Seps.nil _) (Seps.app dj3 la3 lb3 (Seps.nil _) (Seps.one (mle_refl _)))), z2, z4, z5⟩
theorem mkO_Run {m : Mem} {n2 : Mem} (x0 : Int) (x1 : Int) (x2 : List DOp) (hS : Seps m [n2]) (h0 : inK .i64 x0) (h1 : inK .i64 x1) {v2 : Value} (h2 : Ow (.sl TOp) n2 [v2] x2) : Ow TRun m [.int .i64 x0, .int .i64 x1, v2] (x0, x1, x2) := by
  obtain ⟨e1, la1, lb1, Sa1, Sb1⟩ := Seps.cut (l := []) (r := [n2]) hS
  obtain ⟨e2, la2, lb2, Sa2, Sb2⟩ := Seps.cut (l := []) (r := [n2]) Sb1
  exact (Ow.mkPair (c1 := [_]) e1 la1 lb1 (show Ow (.int .i64) _ [_] _ from ⟨rfl, h0⟩) (Ow.mkPair (c1 := [_]) e2 la2 lb2 (show Ow (.int .i64) _ [_] _ from ⟨rfl, h1⟩) (h2.up (Sb2.1 _ (.head _)))))
theorem cutN (b : Bytes) (n k : Nat) : (b.take (n + k)).drop n = (b.drop n).take k := by rw [List.drop_take, Nat.add_sub_cancel_left]
def tRd (b : Bytes) (m : Int) : Bytes × Int × Bool := if sE b m = 0 ∧ (sN b m : Int) + sX b m ≤ b.length then ((b.drop (sN b m)).take (sX b m), (sN b m : Int) + sX b m, true) else ([], 0, false)
section
variable {b : Bytes} {m : Int} {x : UInt8}
theorem tRd_no1 (h : ¬ sE b m = 0) : tRd b m = ([], 0, false) := if_neg fun q => h q.1
theorem tRd_no2 (h : (b.length : Int) < (sN b m : Int) + sX b m) : tRd b m = ([], 0, false) := if_neg fun q => by have := q.2; omega
theorem tRd_yes (h : ¬ ¬ sE b m = 0) (h2 : ¬ (b.length : Int) < (sN b m : Int) + sX b m) : tRd b m = ((b.take (sN b m + sX b m)).drop (sN b m), ((sN b m + sX b m : Nat) : Int), true) := by
  rw [cutN]; unfold tRd; rw [if_pos ⟨Decidable.not_not.1 h, by omega⟩]; rfl
theorem tRd_fits (b : Bytes) {m : Int} (hm : 0 ≤ m) (hm2 : m ≤ 1000) : ((tRd b m).1.length : Int) ≤ m ∧ 0 ≤ (tRd b m).2.1 ∧ (tRd b m).2.1 ≤ b.length ∧ ((tRd b m).2.2 = true → 1 ≤ (tRd b m).2.1) := by
  have h := s_bounds b m (by omega)
  have h1 := h.2.1 hm
  unfold tRd; split
  · rename_i q
    have := sN_pos q.1
    exact ⟨by simp only [List.length_take]; omega, by dsimp only; omega, by dsimp only; omega, fun _ => by dsimp only; omega⟩
  · exact ⟨by simpa using hm, Int.le_refl _, by simp, fun h => by cases h⟩
def opEnd (o : DOp) (n : Int) : DOp × Int × Int := if opCheck o = 0 then (o, n, 0) else ((false, [], []), 0, 5)
def opRd (b : Bytes) : DOp × Int × Int :=
  if b.length = 0 ∨ 1 < (b[0]?.getD 0).toNat ∨ (tRd (b.drop 1) 16).2.2 = false then ((false, [], []), 0, 5)
  else if (b[0]?.getD 0).toNat = 1 then
    if (tRd (b.drop (1 + (tRd (b.drop 1) 16).2.1).toNat) 32).2.2 = false then ((false, [], []), 0, 5)
    else opEnd (true, (tRd (b.drop 1) 16).1, (tRd (b.drop (1 + (tRd (b.drop 1) 16).2.1).toNat) 32).1) (1 + (tRd (b.drop 1) 16).2.1 + (tRd (b.drop (1 + (tRd (b.drop 1) 16).2.1).toNat) 32).2.1)
  else opEnd (false, (tRd (b.drop 1) 16).1, []) (1 + (tRd (b.drop 1) 16).2.1)
theorem opRd_nil (h : (b.length : Int) = 0) : opRd b = ((false, [], []), 0, 5) := if_pos (.inl (by omega))
theorem opRd_kind (hx : b[0]? = some x) (h : (1 : Int) < x.toNat) : opRd b = ((false, [], []), 0, 5) := if_pos (.inr (.inl (by rw [hx]; simp only [Option.getD_some]; omega)))
theorem opRd_key (hk : (tRd (b.drop 1) 16).2.2 = false) : opRd b = ((false, [], []), 0, 5) := if_pos (.inr (.inr hk))
theorem opRd_go (h0 : ¬ (b.length : Int) = 0) (hx : b[0]? = some x) (h1 : ¬ (1 : Int) < x.toNat) (hk : (tRd (b.drop 1) 16).2.2 = true) : ¬ (b.length = 0 ∨ 1 < (b[0]?.getD 0).toNat ∨ (tRd (b.drop 1) 16).2.2 = false) := by
  rw [hx, hk]; simp only [Option.getD_some]; intro q
  rcases q with q | q | q
  · omega
  · omega
  · cases q
theorem opRd_val (h0 : ¬ (b.length : Int) = 0) (hx : b[0]? = some x) (h1 : ¬ (1 : Int) < x.toNat) (hk : (tRd (b.drop 1) 16).2.2 = true) (h2 : (x.toNat : Int) = 1)
    (hv : (tRd (b.drop (1 + (tRd (b.drop 1) 16).2.1).toNat) 32).2.2 = false) : opRd b = ((false, [], []), 0, 5) := by
  unfold opRd; rw [if_neg (opRd_go h0 hx h1 hk), if_pos (by rw [hx]; simp only [Option.getD_some]; omega), if_pos hv]
theorem opRd_put (h0 : ¬ (b.length : Int) = 0) (hx : b[0]? = some x) (h1 : ¬ (1 : Int) < x.toNat) (hk : (tRd (b.drop 1) 16).2.2 = true) (h2 : (x.toNat : Int) = 1)
    (hv : (tRd (b.drop (1 + (tRd (b.drop 1) 16).2.1).toNat) 32).2.2 = true) : opRd b = opEnd (decide ((x.toNat : Int) = 1), (tRd (b.drop 1) 16).1, (tRd (b.drop (1 + (tRd (b.drop 1) 16).2.1).toNat) 32).1) (1 + (tRd (b.drop 1) 16).2.1 + (tRd (b.drop (1 + (tRd (b.drop 1) 16).2.1).toNat) 32).2.1) := by
  rw [decide_eq_true h2]; unfold opRd; rw [if_neg (opRd_go h0 hx h1 hk), if_pos (by rw [hx]; simp only [Option.getD_some]; omega), if_neg (by rw [hv]; decide)]
theorem opRd_del (h0 : ¬ (b.length : Int) = 0) (hx : b[0]? = some x) (h1 : ¬ (1 : Int) < x.toNat) (hk : (tRd (b.drop 1) 16).2.2 = true) (h2 : ¬ (x.toNat : Int) = 1) : opRd b = opEnd (decide ((x.toNat : Int) = 1), (tRd (b.drop 1) 16).1, []) (1 + (tRd (b.drop 1) 16).2.1) := by
  rw [decide_eq_false h2]; unfold opRd; rw [if_neg (opRd_go h0 hx h1 hk), if_neg (by rw [hx]; simp only [Option.getD_some]; omega)]
theorem opEnd_bad {o : DOp} {n : Int} (h : ¬ opCheck o = 0) : opEnd o n = ((false, [], []), 0, 5) := if_neg h
theorem opEnd_good {o : DOp} {n : Int} (h : ¬ ¬ opCheck o = 0) : opEnd o n = (o, n, 0) := if_pos (Decidable.not_not.1 h)
theorem opEnd_cases (o : DOp) (n : Int) : (opEnd o n = (o, n, 0) ∧ opOk o) ∨ opEnd o n = ((false, [], []), 0, 5) := by
  unfold opEnd; split
  · rename_i h; exact .inl ⟨rfl, opOk_of h⟩
  · exact .inr rfl
theorem opRd_cases (b : Bytes) : (opOk (opRd b).1 ∧ (opRd b).2.2 = 0 ∧ 1 ≤ (opRd b).2.1 ∧ (opRd b).2.1 ≤ b.length) ∨ opRd b = ((false, [], []), 0, 5) := by
  have f1 := tRd_fits (b.drop 1) (m := 16) (by omega) (by omega)
  have f2 := tRd_fits (b.drop (1 + (tRd (b.drop 1) 16).2.1).toNat) (m := 32) (by omega) (by omega)
  rw [List.length_drop] at f1 f2
  unfold opRd; split
  · exact .inr rfl
  · rename_i h
    split
    · split
      · exact .inr rfl
      · rename_i h2 h3
        rcases opEnd_cases (true, (tRd (b.drop 1) 16).1, (tRd (b.drop (1 + (tRd (b.drop 1) 16).2.1).toNat) 32).1) (1 + (tRd (b.drop 1) 16).2.1 + (tRd (b.drop (1 + (tRd (b.drop 1) 16).2.1).toNat) 32).2.1) with ⟨e, ho⟩ | e
        · rw [e]; exact .inl ⟨ho, rfl, by dsimp only; omega, by dsimp only; omega⟩
        · exact .inr e
    · rcases opEnd_cases (false, (tRd (b.drop 1) 16).1, []) (1 + (tRd (b.drop 1) 16).2.1) with ⟨e, ho⟩ | e
      · rw [e]; exact .inl ⟨ho, rfl, by dsimp only; omega, by dsimp only; omega⟩
      · exact .inr e
theorem opRd_fits (b : Bytes) : (opRd b).1.2.1.length ≤ 16 ∧ (opRd b).1.2.2.length ≤ 32 ∧ 0 ≤ (opRd b).2.1 ∧ (opRd b).2.1 ≤ b.length ∧ ((opRd b).2.2 = 0 ∨ (opRd b).2.2 = 5) := by
  rcases opRd_cases b with ⟨h1, h2, h3, h4⟩ | h
  · exact ⟨h1.2.1, h1.2.2.1, by omega, h4, .inl h2⟩
  · rw [h]; exact ⟨Nat.zero_le _, Nat.zero_le _, Int.le_refl _, by simp, .inr rfl⟩
theorem opRd_zero (h : (opRd b).2.2 = 0) : opOk (opRd b).1 ∧ 1 ≤ (opRd b).2.1 ∧ (opRd b).2.1 ≤ b.length := by
  rcases opRd_cases b with ⟨h1, h2, h3, h4⟩ | h'
  · exact ⟨h1, h3, h4⟩
  · rw [h'] at h; cases h
end
def opsUp (l : List DOp) : Prop := (∀ o ∈ l, opCheck o = 0) ∧ l.Pairwise fun a b => kl a.2.1 b.2.1
instance (l : List DOp) : Decidable (opsUp l) := by unfold opsUp; infer_instance
section
variable {l : List DOp} {k : Nat} {x p : DOp}
theorem ups_nil : opsUp [] := ⟨(fun _ h => by cases h), List.Pairwise.nil⟩
theorem ups_snoc (h : opsUp l) (hc : opCheck x = 0) (hp : ∀ p, l.getLast? = some p → kl p.2.1 x.2.1) : opsUp (l ++ [x]) := by
  refine ⟨fun o ho => ?_, List.pairwise_append.2 ⟨h.2, List.pairwise_singleton _ _, fun a ha b hb => ?_⟩⟩
  · rcases List.mem_append.1 ho with ho | ho
    · exact h.1 o ho
    · rw [List.mem_singleton.1 ho]; exact hc
  · rw [List.mem_singleton.1 hb]
    rcases List.eq_nil_or_concat l with rfl | ⟨l', q, rfl⟩
    · cases ha
    · rw [List.concat_eq_append] at *
      have hq := hp q (by simp)
      rcases List.mem_append.1 ha with ha | ha
      · exact kl_trans ((List.pairwise_append.1 h.2).2.2 a ha q (.head _)) hq
      · rw [List.mem_singleton.1 ha]; exact hq
theorem ups_next (h : opsUp (l.take k)) (hx : l[k]? = some x) (hc : ¬ ¬ opCheck x = 0) (hp : (k : Int) ≤ 0 ∨ ∃ p, l[((k : Int) - 1).toNat]? = some p ∧ ¬ ¬ kl p.2.1 x.2.1) : opsUp (l.take (k + 1)) := by
  rw [take_one hx]
  refine ups_snoc h (Decidable.not_not.1 hc) fun q hq => ?_
  rcases hp with hp | ⟨p, hp, hk⟩
  · rw [show k = 0 by omega] at hq; cases hq
  · have hkl := (List.getElem?_eq_some_iff.1 hx).1
    have : k ≠ 0 := fun e => by subst e; cases hq
    rw [List.getLast?_eq_getElem?, List.length_take, Nat.min_eq_left (by omega), List.getElem?_take_of_lt (by omega), show k - 1 = ((k : Int) - 1).toNat by omega, hp] at hq
    cases hq; exact Decidable.not_not.1 hk
theorem ups_bad1 (hx : l[k]? = some x) (hc : ¬ opCheck x = 0) : ¬ opsUp l := fun h => hc (h.1 x (List.mem_of_getElem? hx))
theorem ups_bad2 (hx : l[k]? = some x) (h0 : (0 : Int) < k) (hp : l[((k : Int) - 1).toNat]? = some p) (hk : ¬ kl p.2.1 x.2.1) : ¬ opsUp l := fun h => by
  obtain ⟨h1, e1⟩ := List.getElem?_eq_some_iff.1 hp
  obtain ⟨h2, e2⟩ := List.getElem?_eq_some_iff.1 hx
  have := List.pairwise_iff_getElem.1 h.2 _ _ h1 h2 (by omega)
  rw [e1, e2] at this
  exact hk this
end
def runCheck (r : DRun) : Int := if 1024 < r.2.2.length then 3 else if r.1 < 1 ∨ r.2.1 < r.1 ∨ 1048576 < r.2.1 then 2 else if opsUp r.2.2 then 0 else 2
def runBody (r : DRun) : Bytes := venc r.1.toNat ++ (venc r.2.1.toNat ++ (venc r.2.2.length ++ (r.2.2.map opEnc).flatten))
def runEncode (r : DRun) : Bytes × Int := if runCheck r = 0 then (runBody r, 0) else ([], runCheck r)
def rdOps : Nat → Bytes → Option (List DOp × Bytes)
  | 0, b => some ([], b)
  | n + 1, b => if (opRd b).2.2 = 0 then (rdOps n (b.drop (opRd b).2.1.toNat)).map fun q => ((opRd b).1 :: q.1, q.2) else none
abbrev bMx : Int := 1048576
def runDec3 (x y : Nat) (b : Bytes) : DRun × Int := match rdOps (sX b 1024) (b.drop (sN b 1024)) with
  | some (l, []) => if runCheck ((x : Int), (y : Int), l) = 0 then (((x : Int), (y : Int), l), 0) else ((0, 0, []), 5)
  | _ => ((0, 0, []), 5)
def runDecode (b : Bytes) : DRun × Int :=
  if sE b bMx = 0 ∧ sE (b.drop (sN b bMx)) bMx = 0 ∧ sE ((b.drop (sN b bMx)).drop (sN (b.drop (sN b bMx)) bMx)) 1024 = 0 then runDec3 (sX b bMx) (sX (b.drop (sN b bMx)) bMx) ((b.drop (sN b bMx)).drop (sN (b.drop (sN b bMx)) bMx)) else ((0, 0, []), 5)
section
variable {r : DRun} {b : Bytes}
theorem runCheck_long (h : (1024 : Int) < r.2.2.length) : runCheck r = 3 := if_pos (by omega)
theorem runCheck_arg (h : ¬ (1024 : Int) < r.2.2.length) (h2 : r.1 < 1 ∨ r.2.1 < r.1 ∨ 1048576 < r.2.1) : runCheck r = 2 := by unfold runCheck; rw [if_neg (by omega), if_pos h2]
theorem runCheck_ops (h : ¬ (1024 : Int) < r.2.2.length) (h2 : ¬ opsUp r.2.2) : runCheck r = 2 := by unfold runCheck; rw [if_neg (by omega)]; split <;> first | rfl | rw [if_neg h2]
theorem runCheck_good (h : ¬ (1024 : Int) < r.2.2.length) (h2 : ¬ (r.1 < 1 ∨ r.2.1 < r.1 ∨ 1048576 < r.2.1)) (h3 : opsUp r.2.2) : runCheck r = 0 := by unfold runCheck; rw [if_neg (by omega), if_neg h2, if_pos h3]
theorem runCheck_ok (h : runCheck r = 0) : r.2.2.length ≤ 1024 ∧ 1 ≤ r.1 ∧ r.1 ≤ r.2.1 ∧ r.2.1 ≤ 1048576 ∧ opsUp r.2.2 := by
  unfold runCheck at h
  split at h
  · cases h
  · split at h
    · cases h
    · split at h
      · rename_i h1 h2 h3; exact ⟨by omega, by omega, by omega, by omega, h3⟩
      · cases h
theorem runCheck_or (r : DRun) : ¬ runCheck r = 0 ∨ (1 ≤ r.1 ∧ r.1 ≤ r.2.1 ∧ r.2.1 ≤ 1048576 ∧ r.2.2.length ≤ 1024) := by
  by_cases h : runCheck r = 0
  · have := runCheck_ok h; exact .inr ⟨by omega, by omega, by omega, by omega⟩
  · exact .inl h
theorem runCheck_range (r : DRun) : 0 ≤ runCheck r ∧ runCheck r ≤ 3 := by
  unfold runCheck; split
  · omega
  · split
    · omega
    · split <;> omega
theorem venc_short {x : Nat} (h : x < 18446744073709551616) : (venc x).length ≤ 10 := venc_len h
theorem encs_len : ∀ {l : List DOp}, (∀ o ∈ l, opCheck o = 0) → (l.map opEnc).flatten.length ≤ 60 * l.length
  | [], _ => Nat.le_refl _
  | o :: l, h => by
    have h1 := opEnc_len (opOk_of (h o (.head _)))
    have h2 := encs_len (l := l) fun x hx => h x (.tail _ hx)
    simp only [List.map_cons, List.flatten_cons, List.length_append, List.length_cons]; omega
theorem runBody_len (h : runCheck r = 0) : (runBody r).length ≤ 61500 := by
  obtain ⟨h1, h2, h3, h4, h5⟩ := runCheck_ok h
  have := encs_len h5.1
  have a := venc_short (x := r.1.toNat) (by omega); have c := venc_short (x := r.2.1.toNat) (by omega); have d := venc_short (x := r.2.2.length) (by omega)
  unfold runBody; simp only [List.length_append]; omega
theorem runEncode_len (r : DRun) : (runEncode r).1.length ≤ 61500 ∧ 0 ≤ (runEncode r).2 ∧ (runEncode r).2 ≤ 3 := by
  have := runCheck_range r
  unfold runEncode; split
  · rename_i h; exact ⟨runBody_len h, Int.le_refl _, by dsimp only; omega⟩
  · exact ⟨by simp, this.1, this.2⟩
theorem runEnc_bad (h : ¬ runCheck r = 0) : runEncode r = ([], runCheck r) := if_neg h
theorem runEnc_good (h : ¬ ¬ runCheck r = 0) : runEncode r = (runBody r, 0) := if_pos (Decidable.not_not.1 h)
/-- the op that is put next. -/
theorem encs_next {l : List DOp} {k : Nat} {x : DOp} {b : Bytes} (hx : l[k]? = some x) (hc : opCheck x = 0) : (opAppend (b ++ ((l.take k).map opEnc).flatten) x).1 = b ++ ((l.take (k + 1)).map opEnc).flatten := by
  unfold opAppend; rw [if_pos (opOk_of hc), take_one hx]; simp
end
abbrev dB1 (b : Bytes) : Bytes := b.drop (sN b bMx)
abbrev dB2 (b : Bytes) : Bytes := (dB1 b).drop (sN (dB1 b) bMx)
abbrev dB3 (b : Bytes) : Bytes := (dB2 b).drop (sN (dB2 b) 1024)
section
variable {b c B : Bytes} {l : List DOp} {j N : Nat}
theorem runDec_1 (h : ¬ sE b bMx = 0) : runDecode b = ((0, 0, []), 5) := if_neg fun q => h q.1
theorem runDec_2 (h : ¬ sE (dB1 b) bMx = 0) : runDecode b = ((0, 0, []), 5) := if_neg fun q => h q.2.1
theorem runDec_3 (h : ¬ sE (dB2 b) 1024 = 0) : runDecode b = ((0, 0, []), 5) := if_neg fun q => h q.2.2
theorem runDec_go (h1 : ¬ ¬ sE b bMx = 0) (h2 : ¬ ¬ sE (dB1 b) bMx = 0) (h3 : ¬ ¬ sE (dB2 b) 1024 = 0) : runDecode b = runDec3 (sX b bMx) (sX (dB1 b) bMx) (dB2 b) :=
  if_pos ⟨Decidable.not_not.1 h1, Decidable.not_not.1 h2, Decidable.not_not.1 h3⟩
theorem rdOps_0 (N : Nat) (B : Bytes) : rdOps N B = (rdOps (N - 0) B).map fun q => (([] : List DOp) ++ q.1, q.2) := by
  rw [Nat.sub_zero]; cases rdOps N B <;> rfl
theorem rdOps_next (hl : rdOps N B = (rdOps (N - j) c).map fun q => (l ++ q.1, q.2)) (hj : j < N) (h : ¬ ¬ (opRd c).2.2 = 0) : rdOps N B = (rdOps (N - (j + 1)) (c.drop (opRd c).2.1.toNat)).map fun q => ((l ++ [(opRd c).1]) ++ q.1, q.2) := by
  obtain ⟨n, e⟩ : ∃ n, N - j = n + 1 := ⟨N - j - 1, by omega⟩
  rw [hl, e, rdOps, if_pos (Decidable.not_not.1 h), show N - (j + 1) = n by omega]
  cases rdOps n (c.drop (opRd c).2.1.toNat) with
  | none => rfl
  | some q => simp
theorem rdOps_bad (hl : rdOps N B = (rdOps (N - j) c).map fun q => (l ++ q.1, q.2)) (hj : j < N) (h : ¬ (opRd c).2.2 = 0) : rdOps N B = none := by
  obtain ⟨n, e⟩ : ∃ n, N - j = n + 1 := ⟨N - j - 1, by omega⟩
  rw [hl, e, rdOps, if_neg h]; rfl
theorem rdOps_all (hl : rdOps N B = (rdOps (N - j) c).map fun q => (l ++ q.1, q.2)) (hj : ¬ (j : Int) < (N : Nat)) : rdOps N B = some (l, c) := by
  rw [hl, show N - j = 0 by omega, rdOps]; simp
theorem runDec_op (h1 : ¬ ¬ sE b bMx = 0) (h2 : ¬ ¬ sE (dB1 b) bMx = 0) (h3 : ¬ ¬ sE (dB2 b) 1024 = 0) (hl : rdOps (sX (dB2 b) 1024) (dB3 b) = (rdOps (sX (dB2 b) 1024 - j) c).map fun q => (l ++ q.1, q.2)) (hj : (j : Int) < ((sX (dB2 b) 1024 : Nat) : Int)) (h : ¬ (opRd c).2.2 = 0) :
    runDecode b = ((0, 0, []), 5) := by
  rw [runDec_go h1 h2 h3]; unfold runDec3; rw [rdOps_bad hl (by omega) h]
theorem runDec_rest (h1 : ¬ ¬ sE b bMx = 0) (h2 : ¬ ¬ sE (dB1 b) bMx = 0) (h3 : ¬ ¬ sE (dB2 b) 1024 = 0) (hl : rdOps (sX (dB2 b) 1024) (dB3 b) = (rdOps (sX (dB2 b) 1024 - j) c).map fun q => (l ++ q.1, q.2)) (hj : ¬ (j : Int) < ((sX (dB2 b) 1024 : Nat) : Int)) (h : (0 : Int) < c.length) :
    runDecode b = ((0, 0, []), 5) := by
  rw [runDec_go h1 h2 h3]; unfold runDec3; rw [rdOps_all hl hj]
  cases c with
  | nil => simp at h
  | cons x c => rfl
theorem runDec_chk (h1 : ¬ ¬ sE b bMx = 0) (h2 : ¬ ¬ sE (dB1 b) bMx = 0) (h3 : ¬ ¬ sE (dB2 b) 1024 = 0) (hl : rdOps (sX (dB2 b) 1024) (dB3 b) = (rdOps (sX (dB2 b) 1024 - j) c).map fun q => (l ++ q.1, q.2)) (hj : ¬ (j : Int) < ((sX (dB2 b) 1024 : Nat) : Int)) (h : ¬ (0 : Int) < c.length)
    (hc : ¬ runCheck ((sX b bMx : Int), (sX (dB1 b) bMx : Int), l) = 0) : runDecode b = ((0, 0, []), 5) := by
  rw [runDec_go h1 h2 h3]; unfold runDec3; rw [rdOps_all hl hj, List.eq_nil_of_length_eq_zero (show c.length = 0 by omega)]
  exact if_neg hc
theorem runDec_good (h1 : ¬ ¬ sE b bMx = 0) (h2 : ¬ ¬ sE (dB1 b) bMx = 0) (h3 : ¬ ¬ sE (dB2 b) 1024 = 0) (hl : rdOps (sX (dB2 b) 1024) (dB3 b) = (rdOps (sX (dB2 b) 1024 - j) c).map fun q => (l ++ q.1, q.2)) (hj : ¬ (j : Int) < ((sX (dB2 b) 1024 : Nat) : Int)) (h : ¬ (0 : Int) < c.length)
    (hc : ¬ ¬ runCheck ((sX b bMx : Int), (sX (dB1 b) bMx : Int), l) = 0) : runDecode b = (((sX b bMx : Int), (sX (dB1 b) bMx : Int), l), 0) := by
  rw [runDec_go h1 h2 h3]; unfold runDec3; rw [rdOps_all hl hj, List.eq_nil_of_length_eq_zero (show c.length = 0 by omega)]
  exact if_pos (Decidable.not_not.1 hc)
theorem runDec_cases (b : Bytes) : ((runDecode b).2 = 0 ∧ runCheck (runDecode b).1 = 0) ∨ runDecode b = ((0, 0, []), 5) := by
  unfold runDecode; split
  · unfold runDec3; split
    · split
      · rename_i h; exact .inl ⟨rfl, h⟩
      · exact .inr rfl
    · exact .inr rfl
  · exact .inr rfl
theorem runDecode_fits (b : Bytes) : ((runDecode b).2 = 0 ∨ (runDecode b).2 = 5) ∧ (runDecode b).1.2.2.length ≤ 1024 ∧ 0 ≤ (runDecode b).1.1 ∧ (runDecode b).1.1 ≤ 1048576 ∧ 0 ≤ (runDecode b).1.2.1 ∧ (runDecode b).1.2.1 ≤ 1048576 := by
  rcases runDec_cases b with ⟨h1, h2⟩ | h
  · have := runCheck_ok h2
    exact ⟨.inl h1, by omega, by omega, by omega, by omega, by omega⟩
  · rw [h]; exact ⟨.inr rfl, Nat.zero_le _, Int.le_refl _, by decide, Int.le_refl _, by decide⟩
theorem runDec_zero (h : (runDecode b).2 = 0) : runCheck (runDecode b).1 = 0 := by
  rcases runDec_cases b with ⟨h1, h2⟩ | h'
  · exact h2
  · rw [h'] at h; cases h
end
theorem fnOk83 : fnOk Try.prog 83 = true := by kernel_rfl
theorem fnOk56 : fnOk Try.prog 56 = true := by kernel_rfl
theorem opText_ok (W : World) {v0 : Value} {d0 : List UInt8} (h0 : Rd (.sl .byte) (wm W) [v0] d0) (d1 : Int) (h1 : inK .i64 d1) (e0 : 0 ≤ d1 ∧ d1 ≤ 1000) : CallR Try.prog 83 [v0, .int .i64 d1] W (mnil) (fun v m' => v = .tuple #[str ((tRd d0 d1).1), .int .i64 ((tRd d0 d1).2.1), .bool ((tRd d0 d1).2.2)]) := by
  obtain ⟨A0, c0, rfl, l0, k0⟩ := h0.slice
  simp only [maxLen] at k0
  have h1' := h1; simp only [inK] at h1'
  refine CallR.ofA (n := 37) Try.func83 rfl rfl rfl ?_
  refine VC.rs ?_
  refine VO.as ?_
  refine VO.as ?_
  refine VO.as ?_
  refine VO.k5 0 1 4 5 6 ?_
  refine VC.rs ?_
  refine VO.mv ?_
  refine VO.mv ?_
  refine VO.callN 101 rfl fnOk56 rfl (fun W hW => vSmall_ok W (Rd.mono h0 (hW.at (i := 0) rfl)) d1 bdk) (fun v1 m1 hv1 => ?_)
  subst hv1
  have hfa2 := s_bounds d0 d1 (by omega)
  refine VO.mv ?_
  refine VO.y rfl (.ext rfl rfl) ?_
  refine VO.y rfl (.ext rfl rfl) ?_
  refine VO.y rfl (.ext rfl rfl) ?_
  refine VO.as ?_
  refine VO.as ?_
  refine VO.as ?_
  refine VO.k8 0 1 4 5 6 7 8 9 ?_
  refine VC.seq ?_
  refine VC.rs ?_
  refine VO.mv ?_
  refine VO.y rfl (.neq rfl rfl) ?_
  refine VO.mv ?_
  refine VO.dec (t := 19) rfl (fun hc3 => ?_) (fun hc3 => ?_)
  · -- T
    refine VO.gN ?_
    refine VO.gN ?_
    refine VO.gN ?_
    refine VO.gN ?_
    refine VO.gN ?_
    refine VO.gN ?_
    refine VO.y rfl (.pT rfl rfl) ?_
    refine VO.kp [0] [(0, wm W)] ?_
    refine VO.k9 0 1 4 5 6 7 8 9 26 ?_
    refine VC.condT rfl ?_
    refine VC.rs ?_
    refine VO.as ?_
    refine VO.as ?_
    refine VO.as ?_
    refine VO.k9 0 1 4 5 6 7 8 9 26 ?_
    refine VC.ret ?_
    refine outR ?_
    refine ⟨_, _, res_run (rs := [.tmp 4, .tmp 5, .tmp 6]) rfl (.tmp rfl (.tmp rfl (.tmp rfl .nil))), fun W_ hI => out_of (l := []) hI [] rfl rfl (mle_refl _) (fun hS_ => ?_)⟩
    dsimp only [packV]
    all_goals (first | rfl | (first | (rw [tRd_no1 (by assumption)] <;> first | rfl | done) | (rw [tRd_no2 (by omega)] <;> first | rfl | done) | (rw [tRd_yes (by assumption) (by omega)] <;> first | rfl | done)))
  · -- F
    refine VO.gy rfl ⟨_, rfl, rfl⟩ (.mv rfl) ?_
    refine VO.gy rfl ⟨_, rfl, rfl⟩ (.lenS rfl tsl38) ?_
    refine VO.gy rfl ⟨_, rfl, rfl⟩ (.mv rfl) ?_
    refine VO.gy rfl ⟨_, rfl, rfl⟩ (.mv rfl) ?_
    refine VO.gy rfl ⟨_, rfl, rfl⟩ (.add (c := ((sN d0 d1 + (sX d0 d1) : Nat) : Int)) rfl rfl (by omega) ⟨bd, bd⟩) ?_
    refine VO.gy rfl ⟨_, rfl, rfl⟩ (.lss rfl rfl) ?_
    refine VO.y rfl (.pF rfl rfl) ?_
    refine VO.kp [0] [(0, wm W)] ?_
    refine VO.k9 0 1 4 5 6 7 8 9 26 ?_
    refine VC.cond rfl (fun hc4 => ?_) (fun hc4 => ?_)
    · -- FT
      refine VC.rs ?_
      refine VO.as ?_
      refine VO.as ?_
      refine VO.as ?_
      refine VO.k9 0 1 4 5 6 7 8 9 26 ?_
      refine VC.ret ?_
      refine outR ?_
      refine ⟨_, _, res_run (rs := [.tmp 4, .tmp 5, .tmp 6]) rfl (.tmp rfl (.tmp rfl (.tmp rfl .nil))), fun W_ hI => out_of (l := []) hI [] rfl rfl (mle_refl _) (fun hS_ => ?_)⟩
      dsimp only [packV]
      all_goals (first | rfl | (first | (rw [tRd_no1 (by assumption)] <;> first | rfl | done) | (rw [tRd_no2 (by omega)] <;> first | rfl | done) | (rw [tRd_yes (by assumption) (by omega)] <;> first | rfl | done)))
    · -- FF
      refine VC.skip ?_
      refine outN ?_
      refine VC.rs ?_
      refine VO.mv ?_
      refine VO.mv ?_
      refine VO.mv ?_
      refine VO.mv ?_
      refine VO.y rfl (.add (c := ((sN d0 d1 + (sX d0 d1) : Nat) : Int)) rfl rfl (by omega) ⟨bd, bd⟩) ?_
      obtain ⟨A5, hA5, hs5⟩ := h0.sub' 1 (sN d0 d1) (sN d0 d1 + (sX d0 d1)) rfl bd bd
      refine VO.y rfl (.slI (sN d0 d1) (sN d0 d1 + (sX d0 d1)) A5 rfl rfl rfl tsl38 rfl rfl hA5 bd bd) ?_
      refine VO.y rfl (.b2s 0 rfl Try.underlying38 Try.underlying9 Try.underlying5 rfl hs5) ?_
      refine VO.mv ?_
      refine VO.mv ?_
      refine VO.y rfl (.add (c := ((sN d0 d1 + (sX d0 d1) : Nat) : Int)) rfl rfl (by omega) ⟨bd, bd⟩) ?_
      refine VO.as ?_
      refine VO.as ?_
      refine VO.as ?_
      refine VO.k9 0 1 4 5 6 7 8 9 26 ?_
      refine VC.ret ?_
      refine ⟨_, _, res_run (rs := [.tmp 4, .tmp 5, .tmp 6]) rfl (.tmp rfl (.tmp rfl (.tmp rfl .nil))), fun W_ hI => out_of (l := []) hI [] rfl rfl (mle_refl _) (fun hS_ => ?_)⟩
      dsimp only [packV]
      all_goals (first | rfl | (first | (rw [tRd_no1 (by assumption)] <;> first | rfl | done) | (rw [tRd_no2 (by omega)] <;> first | rfl | done) | (rw [tRd_yes (by assumption) (by omega)] <;> first | rfl | done)))
theorem fin0_opRead_ok {P : Prop} (h : P := by first | (rw [opRd_nil (by assumption)] <;> first | rfl | done) | (rw [opRd_kind ‹d0[0]? = some _› (by omega)] <;> first | rfl | done) | (rw [opRd_key (by assumption)] <;> first | rfl | done) | (rw [opRd_val (by assumption) ‹d0[0]? = some _› (by omega) (by assumption) (by omega) (by assumption)] <;> first | rfl | done) | (rw [opRd_put (by assumption) ‹d0[0]? = some _› (by omega) (by assumption) (by omega) (by assumption), opEnd_bad (by assumption)] <;> first | rfl | done) | (rw [opRd_put (by assumption) ‹d0[0]? = some _› (by omega) (by assumption) (by omega) (by assumption), opEnd_good (by assumption)] <;> first | rfl | done) | (rw [opRd_del (by assumption) ‹d0[0]? = some _› (by omega) (by assumption) (by omega), opEnd_bad (by assumption)] <;> first | rfl | done) | (rw [opRd_del (by assumption) ‹d0[0]? = some _› (by omega) (by assumption) (by omega), opEnd_good (by assumption)] <;> first | rfl | done)) : P := h
theorem opRead_ok (W : World) {v0 : Value} {d0 : List UInt8} (h0 : Rd (.sl .byte) (wm W) [v0] d0) : CallR Try.prog 57 [v0] W (mnil) (fun v m' => ∃ (s0 : List Value), v = .tuple #[.agg s0.toArray, .int .i64 ((opRd d0).2.1), .int .i64 ((opRd d0).2.2)] ∧ Ow TOp m' s0 ((opRd d0).1)) := by
  obtain ⟨A0, c0, rfl, l0, k0⟩ := h0.slice
  simp only [maxLen] at k0
  refine CallR.ofA (n := 65) Try.func57 rfl rfl rfl ?_
  refine VC.rs ?_
  refine VO.alloc 102 rfl tz35 (fun g1 => ?_)
  refine VO.as ?_
  refine VO.as ?_
  refine VO.k4 0 2 3 4 ?_
  refine VC.seq ?_
  refine VC.rs ?_
  refine VO.mv ?_
  refine VO.y rfl (.lenS rfl tsl38) ?_
  refine VO.y rfl (.eql rfl rfl) ?_
  refine VO.mv ?_
  refine VO.dec (t := 15) rfl (fun hc3 => ?_) (fun hc3 => ?_)
  · -- T
    refine VO.gN ?_
    refine VO.gN ?_
    refine VO.gN ?_
    refine VO.gN ?_
    refine VO.y rfl (.pT rfl rfl) ?_
    refine VO.k5 0 2 3 4 20 ?_
    refine VC.condT rfl ?_
    refine VC.rs ?_
    refine VO.y rfl (.bst (cs := [Value.bool false, str ([]), str ([])]) rfl tst35 tz35 rfl) ?_
    refine VO.store (k := 3) (c' := [Value.bool false, str ([]), str ([])]) 102 rfl rfl (.inl tk35) rfl rfl rfl rfl rfl ?_
    refine VO.as ?_
    refine VO.as ?_
    refine VO.kp [102, 0] [(102, mone g1 (.cells [Value.bool false, str ([]), str ([])].toArray 35 (0, 0))), (0, wm W)] ?_
    refine VO.k5 0 2 3 4 20 ?_
    refine VC.ret ?_
    refine outR ?_
    refine ⟨_, _, res_run (rs := [.cell 2 35, .tmp 3, .tmp 4]) rfl (.agg 102 rfl tk35 rfl ⟨_, _, _, mone_self _ _, Nat.le_of_ble_eq_true rfl, rfl⟩ (.tmp rfl (.tmp rfl .nil))), fun W_ hI => out_of (l := []) hI [] rfl rfl (mle_refl _) (fun hS_ => ?_)⟩
    dsimp only [packV]
    have he0 : ((opRd d0).1 : Ty.Den TOp) = (false, [], []) := by first | rfl | (exact fin0_opRead_ok)
    refine ⟨[Value.bool false, str ([]), str ([])], ?_, ?_⟩
    rotate_left
    · rw [he0]; exact (Ow.of (m := mnil) rfl (mk_Op (m := _) false [] [] bdm bdm))
    all_goals (first | rfl | (exact fin0_opRead_ok))
  · -- F
    refine VO.gy rfl ⟨_, rfl, rfl⟩ (.mv rfl) ?_
    obtain ⟨x4, hx4⟩ : ∃ z_, (d0)[0]? = some z_ := ⟨_, List.getElem?_eq_getElem bd⟩
    obtain ⟨gg4, oo4, ec4, ea4, hce4, hre4⟩ := h0.elem hx4
    cases ea4
    obtain rfl := (show _ = _ from hre4)
    have xb4 := x4.toNat_lt
    refine VO.gy rfl ⟨_, rfl, rfl⟩ (.ixI 0 rfl rfl tsl38 rfl bd) ?_
    refine VO.gy rfl ⟨_, rfl, rfl⟩ (.ld1 0 rfl tk5 rfl hce4) ?_
    refine VO.gy rfl ⟨_, rfl, rfl⟩ (.gtr rfl rfl) ?_
    refine VO.y rfl (.pF rfl rfl) ?_
    refine VO.k5 0 2 3 4 20 ?_
    refine VC.cond rfl (fun hc5 => ?_) (fun hc5 => ?_)
    · -- FT
      refine VC.rs ?_
      refine VO.y rfl (.bst (cs := [Value.bool false, str ([]), str ([])]) rfl tst35 tz35 rfl) ?_
      refine VO.store (k := 3) (c' := [Value.bool false, str ([]), str ([])]) 102 rfl rfl (.inl tk35) rfl rfl rfl rfl rfl ?_
      refine VO.as ?_
      refine VO.as ?_
      refine VO.kp [102, 0] [(102, mone g1 (.cells [Value.bool false, str ([]), str ([])].toArray 35 (0, 0))), (0, wm W)] ?_
      refine VO.k5 0 2 3 4 20 ?_
      refine VC.ret ?_
      refine outR ?_
      refine ⟨_, _, res_run (rs := [.cell 2 35, .tmp 3, .tmp 4]) rfl (.agg 102 rfl tk35 rfl ⟨_, _, _, mone_self _ _, Nat.le_of_ble_eq_true rfl, rfl⟩ (.tmp rfl (.tmp rfl .nil))), fun W_ hI => out_of (l := []) hI [] rfl rfl (mle_refl _) (fun hS_ => ?_)⟩
      dsimp only [packV]
      have he0 : ((opRd d0).1 : Ty.Den TOp) = (false, [], []) := by first | rfl | (exact fin0_opRead_ok)
      refine ⟨[Value.bool false, str ([]), str ([])], ?_, ?_⟩
      rotate_left
      · rw [he0]; exact (Ow.of (m := mnil) rfl (mk_Op (m := _) false [] [] bdm bdm))
      all_goals (first | rfl | (exact fin0_opRead_ok))
    · -- FF
      refine VC.skip ?_
      refine outN ?_
      refine VC.rs ?_
      refine VO.mv ?_
      refine VO.y rfl (.ixI 0 rfl rfl tsl38 rfl bd) ?_
      refine VO.y rfl (.ld1 0 rfl tk5 rfl hce4) ?_
      refine VO.y rfl (.eql rfl rfl) ?_
      refine VO.y rfl (.bst (cs := [Value.bool (decide (((x4.toNat : Nat) : Int) = 1)), str ([]), str ([])]) rfl tst35 tz35 rfl) ?_
      refine VO.alloc 108 rfl tz35 (fun g7 => ?_)
      refine VO.store (k := 3) (c' := [Value.bool (decide (((x4.toNat : Nat) : Int) = 1)), str ([]), str ([])]) 108 rfl rfl (.inl tk35) rfl rfl rfl rfl rfl ?_
      refine VO.kp [108, 102, 0] [(108, mone g7 (.cells [Value.bool (decide (((x4.toNat : Nat) : Int) = 1)), str ([]), str ([])].toArray 35 (0, 0))), (102, mone g1 (.cells [Value.bool false, str ([]), str ([])].toArray 35 (0, 0))), (0, wm W)] ?_
      refine VO.k6 0 2 3 4 5 20 ?_
      refine VC.rs ?_
      refine VO.mv ?_
      obtain ⟨A9, hA9, hs9⟩ := h0.drop 1 1 rfl bd
      refine VO.y rfl (.slLI 1 A9 rfl rfl tsl38 rfl hA9 bd) ?_
      refine VO.callN 110 rfl fnOk83 rfl (fun W hW => opText_ok W (Rd.mono hs9 (hW.at (i := 0) rfl)) 16 bdk (by first | decide | omega)) (fun v10 m10 hv10 => ?_)
      subst hv10
      have hfa11 := tRd_fits (d0.drop 1) (m := 16) (by omega) (by omega)
      refine VO.mv ?_
      refine VO.y rfl (.ext rfl rfl) ?_
      refine VO.y rfl (.ext rfl rfl) ?_
      refine VO.y rfl (.ext rfl rfl) ?_
      refine VO.as ?_
      refine VO.as ?_
      refine VO.as ?_
      refine VO.k9 0 2 3 4 5 6 7 8 20 ?_
      refine VC.seq ?_
      refine VC.rs ?_
      refine VO.mv ?_
      refine VO.y rfl (.not rfl) ?_
      refine VO.k10 0 2 3 4 5 6 7 8 20 35 ?_
      refine VC.condBN rfl (fun hc12 => ?_) (fun hc12 => ?_)
      · -- FFT
        refine VC.rs ?_
        refine VO.y rfl (.bst (cs := [Value.bool false, str ([]), str ([])]) rfl tst35 tz35 rfl) ?_
        refine VO.store (k := 3) (c' := [Value.bool false, str ([]), str ([])]) 102 rfl rfl (.inl tk35) rfl rfl rfl rfl rfl ?_
        refine VO.as ?_
        refine VO.as ?_
        refine VO.kp [108, 102, 0] [(108, mone g7 (.cells [Value.bool (decide (((x4.toNat : Nat) : Int) = 1)), str ([]), str ([])].toArray 35 (0, 0))), (102, mone g1 (.cells [Value.bool false, str ([]), str ([])].toArray 35 (0, 0))), (0, wm W)] ?_
        refine VO.k10 0 2 3 4 5 6 7 8 20 35 ?_
        refine VC.ret ?_
        refine outR ?_
        refine ⟨_, _, res_run (rs := [.cell 2 35, .tmp 3, .tmp 4]) rfl (.agg 102 rfl tk35 rfl ⟨_, _, _, mone_self _ _, Nat.le_of_ble_eq_true rfl, rfl⟩ (.tmp rfl (.tmp rfl .nil))), fun W_ hI => out_of (l := []) hI [] rfl rfl (mle_refl _) (fun hS_ => ?_)⟩
        dsimp only [packV]
        have he0 : ((opRd d0).1 : Ty.Den TOp) = (false, [], []) := by first | rfl | (exact fin0_opRead_ok)
        refine ⟨[Value.bool false, str ([]), str ([])], ?_, ?_⟩
        rotate_left
        · rw [he0]; exact (Ow.of (m := mnil) rfl (mk_Op (m := _) false [] [] bdm bdm))
        all_goals (first | rfl | (exact fin0_opRead_ok))
      · -- FFF
        refine VC.skip ?_
        refine outN ?_
        refine VC.rs ?_
        refine VO.mv ?_
        refine VO.mv ?_
        refine VO.y rfl (.add rfl rfl rfl ⟨bd, bd⟩) ?_
        refine VO.y rfl (.fa rfl tst35 rfl) ?_
        refine VO.store (k := 1) (c' := [Value.bool (decide (((x4.toNat : Nat) : Int) = 1)), str ((tRd (d0.drop 1) 16).1), str ([])]) 108 rfl rfl (.inr ⟨tk9, rfl⟩) rfl rfl rfl rfl rfl ?_
        refine VO.as ?_
        refine VO.kp [108, 102, 0] [(108, mone g7 (.cells [Value.bool (decide (((x4.toNat : Nat) : Int) = 1)), str ((tRd (d0.drop 1) 16).1), str ([])].toArray 35 (0, 0))), (102, mone g1 (.cells [Value.bool false, str ([]), str ([])].toArray 35 (0, 0))), (0, wm W)] ?_
        refine VO.k10 0 2 3 4 5 6 7 8 20 35 ?_
        refine VC.seq ?_
        refine VC.rs ?_
        refine VO.y rfl (.fa rfl tst35 rfl) ?_
        refine VO.y rfl (.ld1 108 rfl tk4 rfl (cellsAt_one rfl rfl)) ?_
        refine VO.k11 0 2 3 4 5 6 7 8 20 35 42 ?_
        refine VC.cond rfl (fun hc13 => ?_) (fun hc13 => ?_)
        · -- FFFT
          refine VC.rs ?_
          refine VO.mv ?_
          refine VO.mv ?_
          obtain ⟨A14, hA14, hs14⟩ := h0.drop 1 ((1 + ((tRd (d0.drop 1) 16).2.1)).toNat) rfl bd
          refine VO.y rfl (.slLI ((1 + ((tRd (d0.drop 1) 16).2.1)).toNat) A14 rfl rfl tsl38 bd hA14 bd) ?_
          refine VO.callN 115 rfl fnOk83 rfl (fun W hW => opText_ok W (Rd.mono hs14 (hW.at (i := 0) rfl)) 32 bdk (by first | decide | omega)) (fun v15 m15 hv15 => ?_)
          subst hv15
          have hfa16 := tRd_fits (d0.drop ((1 + ((tRd (d0.drop 1) 16).2.1)).toNat)) (m := 32) (by omega) (by omega)
          refine VO.mv ?_
          refine VO.y rfl (.ext rfl rfl) ?_
          refine VO.y rfl (.ext rfl rfl) ?_
          refine VO.y rfl (.ext rfl rfl) ?_
          refine VO.as ?_
          refine VO.as ?_
          refine VO.as ?_
          refine VO.k14 0 2 3 4 5 6 7 8 9 10 11 20 35 42 ?_
          refine VC.seq ?_
          refine VC.rs ?_
          refine VO.mv ?_
          refine VO.y rfl (.not rfl) ?_
          refine VO.kp [108, 102, 0] [(108, mone g7 (.cells [Value.bool (decide (((x4.toNat : Nat) : Int) = 1)), str ((tRd (d0.drop 1) 16).1), str ([])].toArray 35 (0, 0))), (102, mone g1 (.cells [Value.bool false, str ([]), str ([])].toArray 35 (0, 0))), (0, wm W)] ?_
          refine VO.k15 0 2 3 4 5 6 7 8 9 10 11 20 35 42 52 ?_
          refine VC.condBN rfl (fun hc17 => ?_) (fun hc17 => ?_)
          · -- FFFTT
            refine VC.rs ?_
            refine VO.y rfl (.bst (cs := [Value.bool false, str ([]), str ([])]) rfl tst35 tz35 rfl) ?_
            refine VO.store (k := 3) (c' := [Value.bool false, str ([]), str ([])]) 102 rfl rfl (.inl tk35) rfl rfl rfl rfl rfl ?_
            refine VO.as ?_
            refine VO.as ?_
            refine VO.k15 0 2 3 4 5 6 7 8 9 10 11 20 35 42 52 ?_
            refine VC.ret ?_
            refine outR ?_
            refine outR ?_
            refine ⟨_, _, res_run (rs := [.cell 2 35, .tmp 3, .tmp 4]) rfl (.agg 102 rfl tk35 rfl ⟨_, _, _, mone_self _ _, Nat.le_of_ble_eq_true rfl, rfl⟩ (.tmp rfl (.tmp rfl .nil))), fun W_ hI => out_of (l := []) hI [] rfl rfl (mle_refl _) (fun hS_ => ?_)⟩
            dsimp only [packV]
            have he0 : ((opRd d0).1 : Ty.Den TOp) = (false, [], []) := by first | rfl | (exact fin0_opRead_ok)
            refine ⟨[Value.bool false, str ([]), str ([])], ?_, ?_⟩
            rotate_left
            · rw [he0]; exact (Ow.of (m := mnil) rfl (mk_Op (m := _) false [] [] bdm bdm))
            all_goals (first | rfl | (exact fin0_opRead_ok))
          · -- FFFTF
            refine VC.skip ?_
            refine outN ?_
            refine VC.reg ?_
            refine VO.mv ?_
            refine VO.mv ?_
            refine VO.mv ?_
            refine VO.y rfl (.add rfl rfl rfl ⟨bd, bd⟩) ?_
            refine VO.y rfl (.fa rfl tst35 rfl) ?_
            refine VO.store (k := 1) (c' := [Value.bool (decide (((x4.toNat : Nat) : Int) = 1)), str ((tRd (d0.drop 1) 16).1), str ((tRd (d0.drop ((1 + ((tRd (d0.drop 1) 16).2.1)).toNat)) 32).1)]) 108 rfl rfl (.inr ⟨tk9, rfl⟩) rfl rfl rfl rfl rfl ?_
            refine VO.as ?_
            refine VO.k15 0 2 3 4 5 6 7 8 9 10 11 20 35 42 52 ?_
            refine outN ?_
            refine VC.seq ?_
            refine VC.rs ?_
            refine VO.y rfl (.ldA 108 rfl tk35 rfl (cellsAt_one rfl rfl)) ?_
            refine VO.callN 118 rfl fnOk49 rfl (fun W hW => opCheck_ok W (mk_Op (m := wm W) (decide (((x4.toNat : Nat) : Int) = 1)) ((tRd (d0.drop 1) 16).1) ((tRd (d0.drop ((1 + ((tRd (d0.drop 1) 16).2.1)).toNat)) 32).1) bdm bdm)) (fun v18 m18 hv18 => ?_)
            try dsimp only at hv18
            subst hv18
            refine VO.y rfl (.neq rfl rfl) ?_
            refine VO.k16 0 2 3 4 5 6 7 8 9 10 11 20 35 42 52 61 ?_
            refine VC.cond rfl (fun hc19 => ?_) (fun hc19 => ?_)
            · -- FFFTFT
              refine VC.rs ?_
              refine VO.y rfl (.bst (cs := [Value.bool false, str ([]), str ([])]) rfl tst35 tz35 rfl) ?_
              refine VO.store (k := 3) (c' := [Value.bool false, str ([]), str ([])]) 102 rfl rfl (.inl tk35) rfl rfl rfl rfl rfl ?_
              refine VO.as ?_
              refine VO.as ?_
              refine VO.kp [108, 102, 0] [(108, mone g7 (.cells [Value.bool (decide (((x4.toNat : Nat) : Int) = 1)), str ((tRd (d0.drop 1) 16).1), str ((tRd (d0.drop ((1 + ((tRd (d0.drop 1) 16).2.1)).toNat)) 32).1)].toArray 35 (0, 0))), (102, mone g1 (.cells [Value.bool false, str ([]), str ([])].toArray 35 (0, 0))), (0, wm W)] ?_
              refine VO.k16 0 2 3 4 5 6 7 8 9 10 11 20 35 42 52 61 ?_
              refine VC.ret ?_
              refine outR ?_
              refine ⟨_, _, res_run (rs := [.cell 2 35, .tmp 3, .tmp 4]) rfl (.agg 102 rfl tk35 rfl ⟨_, _, _, mone_self _ _, Nat.le_of_ble_eq_true rfl, rfl⟩ (.tmp rfl (.tmp rfl .nil))), fun W_ hI => out_of (l := []) hI [] rfl rfl (mle_refl _) (fun hS_ => ?_)⟩
              dsimp only [packV]
              have he0 : ((opRd d0).1 : Ty.Den TOp) = (false, [], []) := by first | rfl | (exact fin0_opRead_ok)
              refine ⟨[Value.bool false, str ([]), str ([])], ?_, ?_⟩
              rotate_left
              · rw [he0]; exact (Ow.of (m := mnil) rfl (mk_Op (m := _) false [] [] bdm bdm))
              all_goals (first | rfl | (exact fin0_opRead_ok))
            · -- FFFTFF
              refine VC.skip ?_
              refine outN ?_
              refine VC.rs ?_
              refine VO.y rfl (.ldA 108 rfl tk35 rfl (cellsAt_one rfl rfl)) ?_
              refine VO.mv ?_
              refine VO.store (k := 3) (c' := [Value.bool (decide (((x4.toNat : Nat) : Int) = 1)), str ((tRd (d0.drop 1) 16).1), str ((tRd (d0.drop ((1 + ((tRd (d0.drop 1) 16).2.1)).toNat)) 32).1)]) 102 rfl rfl (.inl tk35) rfl rfl rfl rfl rfl ?_
              refine VO.as ?_
              refine VO.as ?_
              refine VO.kp [108, 102, 0] [(108, mone g7 (.cells [Value.bool (decide (((x4.toNat : Nat) : Int) = 1)), str ((tRd (d0.drop 1) 16).1), str ((tRd (d0.drop ((1 + ((tRd (d0.drop 1) 16).2.1)).toNat)) 32).1)].toArray 35 (0, 0))), (102, mone g1 (.cells [Value.bool (decide (((x4.toNat : Nat) : Int) = 1)), str ((tRd (d0.drop 1) 16).1), str ((tRd (d0.drop ((1 + ((tRd (d0.drop 1) 16).2.1)).toNat)) 32).1)].toArray 35 (0, 0))), (0, wm W)] ?_
              refine VO.k16 0 2 3 4 5 6 7 8 9 10 11 20 35 42 52 61 ?_
              refine VC.ret ?_
              refine ⟨_, _, res_run (rs := [.cell 2 35, .tmp 3, .tmp 4]) rfl (.agg 102 rfl tk35 rfl ⟨_, _, _, mone_self _ _, Nat.le_of_ble_eq_true rfl, rfl⟩ (.tmp rfl (.tmp rfl .nil))), fun W_ hI => out_of (l := []) hI [] rfl rfl (mle_refl _) (fun hS_ => ?_)⟩
              dsimp only [packV]
              have he0 : ((opRd d0).1 : Ty.Den TOp) = (decide (((x4.toNat : Nat) : Int) = 1), (tRd (d0.drop 1) 16).1, (tRd (d0.drop ((1 + ((tRd (d0.drop 1) 16).2.1)).toNat)) 32).1) := by first | rfl | (exact fin0_opRead_ok)
              refine ⟨[Value.bool (decide (((x4.toNat : Nat) : Int) = 1)), str ((tRd (d0.drop 1) 16).1), str ((tRd (d0.drop ((1 + ((tRd (d0.drop 1) 16).2.1)).toNat)) 32).1)], ?_, ?_⟩
              rotate_left
              · rw [he0]; exact (Ow.of (m := mnil) rfl (mk_Op (m := _) (decide (((x4.toNat : Nat) : Int) = 1)) ((tRd (d0.drop 1) 16).1) ((tRd (d0.drop ((1 + ((tRd (d0.drop 1) 16).2.1)).toNat)) 32).1) bdm bdm))
              all_goals (first | rfl | (exact fin0_opRead_ok))
        · -- FFFF
          refine VC.skip ?_
          refine outN ?_
          refine VC.seq ?_
          refine VC.rs ?_
          refine VO.y rfl (.ldA 108 rfl tk35 rfl (cellsAt_one rfl rfl)) ?_
          refine VO.callN 120 rfl fnOk49 rfl (fun W hW => opCheck_ok W (mk_Op (m := wm W) (decide (((x4.toNat : Nat) : Int) = 1)) ((tRd (d0.drop 1) 16).1) [] bdm bdm)) (fun v20 m20 hv20 => ?_)
          try dsimp only at hv20
          subst hv20
          refine VO.y rfl (.neq rfl rfl) ?_
          refine VO.k12 0 2 3 4 5 6 7 8 20 35 42 61 ?_
          refine VC.cond rfl (fun hc21 => ?_) (fun hc21 => ?_)
          · -- FFFFT
            refine VC.rs ?_
            refine VO.y rfl (.bst (cs := [Value.bool false, str ([]), str ([])]) rfl tst35 tz35 rfl) ?_
            refine VO.store (k := 3) (c' := [Value.bool false, str ([]), str ([])]) 102 rfl rfl (.inl tk35) rfl rfl rfl rfl rfl ?_
            refine VO.as ?_
            refine VO.as ?_
            refine VO.kp [108, 102, 0] [(108, mone g7 (.cells [Value.bool (decide (((x4.toNat : Nat) : Int) = 1)), str ((tRd (d0.drop 1) 16).1), str ([])].toArray 35 (0, 0))), (102, mone g1 (.cells [Value.bool false, str ([]), str ([])].toArray 35 (0, 0))), (0, wm W)] ?_
            refine VO.k12 0 2 3 4 5 6 7 8 20 35 42 61 ?_
            refine VC.ret ?_
            refine outR ?_
            refine ⟨_, _, res_run (rs := [.cell 2 35, .tmp 3, .tmp 4]) rfl (.agg 102 rfl tk35 rfl ⟨_, _, _, mone_self _ _, Nat.le_of_ble_eq_true rfl, rfl⟩ (.tmp rfl (.tmp rfl .nil))), fun W_ hI => out_of (l := []) hI [] rfl rfl (mle_refl _) (fun hS_ => ?_)⟩
            dsimp only [packV]
            have he0 : ((opRd d0).1 : Ty.Den TOp) = (false, [], []) := by first | rfl | (exact fin0_opRead_ok)
            refine ⟨[Value.bool false, str ([]), str ([])], ?_, ?_⟩
            rotate_left
            · rw [he0]; exact (Ow.of (m := mnil) rfl (mk_Op (m := _) false [] [] bdm bdm))
            all_goals (first | rfl | (exact fin0_opRead_ok))
          · -- FFFFF
            refine VC.skip ?_
            refine outN ?_
            refine VC.rs ?_
            refine VO.y rfl (.ldA 108 rfl tk35 rfl (cellsAt_one rfl rfl)) ?_
            refine VO.mv ?_
            refine VO.store (k := 3) (c' := [Value.bool (decide (((x4.toNat : Nat) : Int) = 1)), str ((tRd (d0.drop 1) 16).1), str ([])]) 102 rfl rfl (.inl tk35) rfl rfl rfl rfl rfl ?_
            refine VO.as ?_
            refine VO.as ?_
            refine VO.kp [108, 102, 0] [(108, mone g7 (.cells [Value.bool (decide (((x4.toNat : Nat) : Int) = 1)), str ((tRd (d0.drop 1) 16).1), str ([])].toArray 35 (0, 0))), (102, mone g1 (.cells [Value.bool (decide (((x4.toNat : Nat) : Int) = 1)), str ((tRd (d0.drop 1) 16).1), str ([])].toArray 35 (0, 0))), (0, wm W)] ?_
            refine VO.k12 0 2 3 4 5 6 7 8 20 35 42 61 ?_
            refine VC.ret ?_
            refine ⟨_, _, res_run (rs := [.cell 2 35, .tmp 3, .tmp 4]) rfl (.agg 102 rfl tk35 rfl ⟨_, _, _, mone_self _ _, Nat.le_of_ble_eq_true rfl, rfl⟩ (.tmp rfl (.tmp rfl .nil))), fun W_ hI => out_of (l := []) hI [] rfl rfl (mle_refl _) (fun hS_ => ?_)⟩
            dsimp only [packV]
            have he0 : ((opRd d0).1 : Ty.Den TOp) = (decide (((x4.toNat : Nat) : Int) = 1), (tRd (d0.drop 1) 16).1, []) := by first | rfl | (exact fin0_opRead_ok)
            refine ⟨[Value.bool (decide (((x4.toNat : Nat) : Int) = 1)), str ((tRd (d0.drop 1) 16).1), str ([])], ?_, ?_⟩
            rotate_left
            · rw [he0]; exact (Ow.of (m := mnil) rfl (mk_Op (m := _) (decide (((x4.toNat : Nat) : Int) = 1)) ((tRd (d0.drop 1) 16).1) [] bdm bdm))
            all_goals (first | rfl | (exact fin0_opRead_ok))
theorem fnOk14 : fnOk Try.prog 14 = true := by kernel_rfl
theorem fnOk53 : fnOk Try.prog 53 = true := by kernel_rfl
theorem fnOk57 : fnOk Try.prog 57 = true := by kernel_rfl
theorem tar85 : tar Try.prog 85 = some (3, 1) := by kernel_rfl
theorem tia85 : tia Try.prog 85 = some (3, 3, 1) := by kernel_rfl
theorem tk32 : tk Try.prog 32 = some (some 3) := by kernel_rfl
theorem tst32 : tst Try.prog 32 = some [(0, 1), (1, 1), (2, 1)] := by kernel_rfl
theorem tz32 : tz Try.prog 32 = some [.int .i64 0, .int .i64 0, .slice none 0 0] := by kernel_rfl
theorem tz85 : tz Try.prog 85 = some [.int .i64 0, .int .i64 0, .int .i64 0] := by kernel_rfl
theorem tk30 : tk Try.prog 30 = some none := by kernel_rfl
theorem fin0_runCheck_ok_ {P : Prop} (h : P := by congr 1; first | exact (runCheck_long (by omega)).symm | exact (runCheck_arg (by omega) (by omega)).symm | exact (runCheck_ops (by omega) (ups_bad1 ‹d0.2.2[k]? = some _› (by assumption))).symm | exact (runCheck_ops (by omega) (ups_bad2 ‹d0.2.2[k]? = some _› (by omega) (by assumption) (by assumption))).symm | exact (runCheck_good (by omega) (by omega) (by have h_ := hu; rw [List.take_of_length_le (by omega)] at h_; exact h_)).symm) : P := h
theorem runCheck_ok_ (W : World) {v0 : List Value} {d0 : DRun} (h0 : Rd TRun (wm W) v0 d0) : CallR Try.prog 14 [.agg v0.toArray] W (mnil) (fun v m' => v = .int .i64 (runCheck d0)) := by
  obtain ⟨p0_A2, p0_c2, rfl, p0_0, p0_1, p0_2⟩ := open_Run (x0 := d0.1) (x1 := d0.2.1) (x2 := d0.2.2) h0
  simp only [inK] at p0_0
  simp only [inK] at p0_1
  have p0_r2 := Rd.room p0_2
  refine CallR.ofA (n := 52) Try.func14 rfl rfl rfl ?_
  refine VC.rs ?_
  refine VO.box (cs := [Value.int .i64 (d0.1), Value.int .i64 (d0.2.1), Value.slice p0_A2 (d0.2.2.length) (p0_c2)]) 102 rfl rfl rfl (fun g1 => ?_)
  refine VO.as ?_
  refine VO.k3 0 1 2 ?_
  refine VC.seq ?_
  refine VC.rs ?_
  refine VO.y rfl (.fa rfl tst32 rfl) ?_
  refine VO.y rfl (.ld1 102 rfl tk30 rfl (cellsAt_one rfl rfl)) ?_
  refine VO.y rfl (.lenS rfl tsl30) ?_
  refine VO.y rfl (.gtr rfl rfl) ?_
  refine VO.k4 0 1 2 8 ?_
  refine VC.cond rfl (fun hc3 => ?_) (fun hc3 => ?_)
  · -- T
    refine VC.rs ?_
    refine VO.as ?_
    refine VO.kp [102, 0] [(102, mone g1 (.cells [Value.int .i64 (d0.1), Value.int .i64 (d0.2.1), Value.slice p0_A2 (d0.2.2.length) (p0_c2)].toArray 32 (0, 0))), (0, wm W)] ?_
    refine VO.k4 0 1 2 8 ?_
    refine VC.ret ?_
    refine outR ?_
    refine ⟨_, _, res_run (rs := [.tmp 2]) rfl (.tmp rfl .nil), fun W_ hI => out_of (l := []) hI [] rfl rfl (mle_refl _) (fun hS_ => ?_)⟩
    dsimp only [packV]
    all_goals (first | rfl | (exact fin0_runCheck_ok_))
  · -- F
    refine VC.skip ?_
    refine outN ?_
    refine VC.seq ?_
    refine VC.rs ?_
    refine VO.y rfl (.fa rfl tst32 rfl) ?_
    refine VO.y rfl (.ld1 102 rfl tk3 rfl (cellsAt_one rfl rfl)) ?_
    refine VO.y rfl (.lss rfl rfl) ?_
    refine VO.mv ?_
    refine VO.dec (t := 12) rfl (fun hc4 => ?_) (fun hc4 => ?_)
    · -- FT
      refine VO.gN ?_
      refine VO.gN ?_
      refine VO.gN ?_
      refine VO.gN ?_
      refine VO.gN ?_
      refine VO.y rfl (.pT rfl rfl) ?_
      refine VO.mv ?_
      refine VO.gN ?_
      refine VO.gN ?_
      refine VO.gN ?_
      refine VO.y rfl (.pT rfl rfl) ?_
      refine VO.kp [102, 0] [(102, mone g1 (.cells [Value.int .i64 (d0.1), Value.int .i64 (d0.2.1), Value.slice p0_A2 (d0.2.2.length) (p0_c2)].toArray 32 (0, 0))), (0, wm W)] ?_
      refine VO.k5 0 1 2 8 23 ?_
      refine VC.condT rfl ?_
      refine VC.rs ?_
      refine VO.as ?_
      refine VO.k5 0 1 2 8 23 ?_
      refine VC.ret ?_
      refine outR ?_
      refine ⟨_, _, res_run (rs := [.tmp 2]) rfl (.tmp rfl .nil), fun W_ hI => out_of (l := []) hI [] rfl rfl (mle_refl _) (fun hS_ => ?_)⟩
      dsimp only [packV]
      all_goals (first | rfl | (exact fin0_runCheck_ok_))
    · -- FF
      refine VO.gy rfl ⟨_, rfl, rfl⟩ (.fa rfl tst32 rfl) ?_
      refine VO.gy rfl ⟨_, rfl, rfl⟩ (.ld1 102 rfl tk3 rfl (cellsAt_one rfl rfl)) ?_
      refine VO.gy rfl ⟨_, rfl, rfl⟩ (.fa rfl tst32 rfl) ?_
      refine VO.gy rfl ⟨_, rfl, rfl⟩ (.ld1 102 rfl tk3 rfl (cellsAt_one rfl rfl)) ?_
      refine VO.gy rfl ⟨_, rfl, rfl⟩ (.lss rfl rfl) ?_
      refine VO.y rfl (.pF rfl rfl) ?_
      refine VO.mv ?_
      refine VO.dec (t := 19) rfl (fun hc5 => ?_) (fun hc5 => ?_)
      · -- FFT
        refine VO.gN ?_
        refine VO.gN ?_
        refine VO.gN ?_
        refine VO.y rfl (.pT rfl rfl) ?_
        refine VO.kp [102, 0] [(102, mone g1 (.cells [Value.int .i64 (d0.1), Value.int .i64 (d0.2.1), Value.slice p0_A2 (d0.2.2.length) (p0_c2)].toArray 32 (0, 0))), (0, wm W)] ?_
        refine VO.k5 0 1 2 8 23 ?_
        refine VC.condT rfl ?_
        refine VC.rs ?_
        refine VO.as ?_
        refine VO.k5 0 1 2 8 23 ?_
        refine VC.ret ?_
        refine outR ?_
        refine ⟨_, _, res_run (rs := [.tmp 2]) rfl (.tmp rfl .nil), fun W_ hI => out_of (l := []) hI [] rfl rfl (mle_refl _) (fun hS_ => ?_)⟩
        dsimp only [packV]
        all_goals (first | rfl | (exact fin0_runCheck_ok_))
      · -- FFF
        refine VO.gy rfl ⟨_, rfl, rfl⟩ (.fa rfl tst32 rfl) ?_
        refine VO.gy rfl ⟨_, rfl, rfl⟩ (.ld1 102 rfl tk3 rfl (cellsAt_one rfl rfl)) ?_
        refine VO.gy rfl ⟨_, rfl, rfl⟩ (.gtr rfl rfl) ?_
        refine VO.y rfl (.pF rfl rfl) ?_
        refine VO.kp [102, 0] [(102, mone g1 (.cells [Value.int .i64 (d0.1), Value.int .i64 (d0.2.1), Value.slice p0_A2 (d0.2.2.length) (p0_c2)].toArray 32 (0, 0))), (0, wm W)] ?_
        refine VO.k5 0 1 2 8 23 ?_
        refine VC.cond rfl (fun hc6 => ?_) (fun hc6 => ?_)
        · -- FFFT
          refine VC.rs ?_
          refine VO.as ?_
          refine VO.k5 0 1 2 8 23 ?_
          refine VC.ret ?_
          refine outR ?_
          refine ⟨_, _, res_run (rs := [.tmp 2]) rfl (.tmp rfl .nil), fun W_ hI => out_of (l := []) hI [] rfl rfl (mle_refl _) (fun hS_ => ?_)⟩
          dsimp only [packV]
          all_goals (first | rfl | (exact fin0_runCheck_ok_))
        · -- FFFF
          refine VC.skip ?_
          refine outN ?_
          refine VC.seq ?_
          refine VC.rs ?_
          refine VO.y rfl (.fa rfl tst32 rfl) ?_
          refine VO.y rfl (.ld1 102 rfl tk30 rfl (cellsAt_one rfl rfl)) ?_
          refine VO.y rfl (.lenS rfl tsl30) ?_
          refine VO.mv ?_
          refine VO.k8 0 1 2 8 23 25 26 27 ?_
          refine VC.block ?_
          refine VC.loop (G := Nat) (fun k => [(27, Value.int .i64 (((k : Nat) : Int))), (0, Value.agg [Value.int .i64 (d0.1), Value.int .i64 (d0.2.1), Value.slice p0_A2 (d0.2.2.length) (p0_c2)].toArray), (1, Value.pointer (some ⟨g1, 0, none⟩)), (8, Value.bool (decide (1024 < ((d0.2.2.length : Nat) : Int)))), (23, Value.bool (decide (1048576 < d0.2.1))), (25, Value.slice p0_A2 (d0.2.2.length) (p0_c2)), (26, Value.int .i64 (((d0.2.2.length : Nat) : Int)))]) (fun k => [(102, mone g1 (.cells [Value.int .i64 (d0.1), Value.int .i64 (d0.2.1), Value.slice p0_A2 (d0.2.2.length) (p0_c2)].toArray 32 (0, 0))), (0, wm W)]) (fun k => (k ≤ d0.2.2.length) ∧ (opsUp (d0.2.2.take k))) (fun k => d0.2.2.length - k) 0 (⟨by omega, by exact ups_nil⟩) ⟨⟨rfl, rfl, rfl, rfl, rfl, rfl, rfl, trivial⟩, fun _ h => h.sub [102, 0]⟩ ?_
          rintro k ⟨hk, hu⟩
          refine VC.rs ?_
          refine VO.y rfl (.lss rfl rfl) ?_
          refine VO.k8 0 1 8 23 25 26 27 28 ?_
          refine VC.seq ?_
          refine VC.cond rfl (fun hc7 => ?_) (fun hc7 => ?_)
          · -- FFFFT
            refine VC.skip ?_
            refine outN ?_
            refine VC.seq ?_
            refine VC.block ?_
            refine VC.rs ?_
            refine VO.mv ?_
            obtain ⟨x8, hx8⟩ : ∃ z_, (d0.2.2)[k]? = some z_ := ⟨_, List.getElem?_eq_getElem bd⟩
            obtain ⟨gg8, oo8, ec8, ea8, hce8, hre8⟩ := p0_2.elem hx8
            cases ea8
            obtain ⟨rfl, q8_1, q8_2⟩ := open_Op (x0 := x8.1) (x1 := x8.2.1) (x2 := x8.2.2) hre8
            simp only [maxLen] at q8_1
            simp only [maxLen] at q8_2
            refine VO.y rfl (.ixI k rfl rfl tsl30 rfl bd) ?_
            refine VO.y rfl (.ldA 0 rfl tk35 rfl hce8) ?_
            refine VO.alloc 110 rfl tz35 (fun g9 => ?_)
            refine VO.as ?_
            refine VO.store (k := 3) (c' := [Value.bool x8.1, str (x8.2.1), str (x8.2.2)]) 110 rfl rfl (.inl tk35) rfl rfl rfl rfl rfl ?_
            refine VO.kp [110, 102, 0] [(110, mone g9 (.cells [Value.bool x8.1, str (x8.2.1), str (x8.2.2)].toArray 35 (0, 0))), (102, mone g1 (.cells [Value.int .i64 (d0.1), Value.int .i64 (d0.2.1), Value.slice (some ⟨gg8, oo8, none⟩) (d0.2.2.length) (p0_c2)].toArray 32 (0, 0))), (0, wm W)] ?_
            refine VO.k10 0 1 3 4 8 23 25 26 27 28 ?_
            refine VC.seq ?_
            refine VC.regD _ 16 [(0, true), (1, false), (2, true), (3, true), (4, true), (5, true), (6, true), (7, true), (8, true), (9, true), (10, true), (11, true), (12, true), (13, true), (14, true), (15, true)] follows (by kernel_rfl) (fun _ h => h.sub [110, 102, 0]) ?_
            refine VD.y rfl rfl (.inl rfl) (.ldA 110 rfl tk35 rfl (cellsAt_one rfl rfl)) ?_
            refine VD.callN 111 rfl rfl (.inl rfl) fnOk49 rfl (fun _ h => h.sub [110, 102, 0]) (fun W hW => opCheck_ok W (Rd.mono hre8 (hW.at (i := 0) rfl))) (fun v11 m11 hv11 => ?_)
            subst hv11
            refine VD.y rfl rfl (.inl rfl) (.neq rfl rfl) ?_
            refine VD.y rfl rfl (.inl rfl) (.mv rfl) ?_
            refine VD.dec (s := 35) rfl (fun hc12 => ?_) (fun hc12 => ?_)
            · -- FFFFTT
              refine VD.gn rfl rfl (.inl ⟨_, rfl, rfl⟩) ?_
              refine VD.gn rfl rfl (.inl ⟨_, rfl, rfl⟩) ?_
              refine VD.gn rfl rfl (.inl ⟨_, rfl, rfl⟩) ?_
              refine VD.gn rfl rfl (.inr ⟨_, rfl, rfl⟩) ?_
              refine VD.gn rfl rfl (.inr ⟨_, rfl, rfl⟩) ?_
              refine VD.gn rfl rfl (.inr ⟨_, rfl, rfl⟩) ?_
              refine VD.gn rfl rfl (.inr ⟨_, rfl, rfl⟩) ?_
              refine VD.gn rfl rfl (.inr ⟨_, rfl, rfl⟩) ?_
              refine VD.gn rfl rfl (.inr ⟨_, rfl, rfl⟩) ?_
              refine VD.gn rfl rfl (.inr ⟨_, rfl, rfl⟩) ?_
              refine VD.gn rfl rfl (.inr ⟨_, rfl, rfl⟩) ?_
              refine VD.gn rfl rfl (.inr ⟨_, rfl, rfl⟩) ?_
              refine VD.nil rfl ?_ rfl
              refine VO.gn rfl (.inr ⟨_, rfl, rfl⟩) ?_
              refine VO.gN ?_
              refine VO.y rfl (.pT rfl rfl) ?_
              refine VO.k11 0 1 3 4 8 23 25 26 27 28 50 ?_
              refine outN ?_
              refine VC.condT rfl ?_
              refine VC.rs ?_
              refine VO.as ?_
              refine VO.k12 0 1 2 3 4 8 23 25 26 27 28 50 ?_
              refine VC.ret ?_
              refine outBR ?_
              refine outR ?_
              refine outR ?_
              refine outBR ?_
              refine outR ?_
              refine ⟨_, _, res_run (rs := [.tmp 2]) rfl (.tmp rfl .nil), fun W_ hI => out_of (l := []) hI [] rfl rfl (mle_refl _) (fun hS_ => ?_)⟩
              dsimp only [packV]
              all_goals (first | rfl | (exact fin0_runCheck_ok_))
            · -- FFFFTF
              refine VD.y rfl rfl (.inr ⟨_, _, rfl, _, rfl, rfl⟩) (.mv rfl) ?_
              refine VD.y rfl rfl (.inr ⟨_, _, rfl, _, rfl, rfl⟩) (.gtr rfl rfl) ?_
              refine VD.y rfl rfl (.inr ⟨_, _, rfl, _, rfl, rfl⟩) (.mv rfl) ?_
              refine VD.dec (s := 38) rfl (fun hc13 => ?_) (fun hc13 => ?_)
              · -- FFFFTFT
                refine VD.y rfl rfl (.inr ⟨_, _, rfl, _, rfl, rfl⟩) (.fa rfl tst35 rfl) ?_
                refine VD.y rfl rfl (.inr ⟨_, _, rfl, _, rfl, rfl⟩) (.ld1 110 rfl tk9 rfl (cellsAt_one rfl rfl)) ?_
                refine VD.y rfl rfl (.inr ⟨_, _, rfl, _, rfl, rfl⟩) (.fa rfl tst32 rfl) ?_
                refine VD.y rfl rfl (.inr ⟨_, _, rfl, _, rfl, rfl⟩) (.ld1 102 rfl tk30 rfl (cellsAt_one rfl rfl)) ?_
                refine VD.y rfl rfl (.inr ⟨_, _, rfl, _, rfl, rfl⟩) (.mv rfl) ?_
                refine VD.y rfl rfl (.inr ⟨_, _, rfl, _, rfl, rfl⟩) (.sub rfl rfl rfl ⟨bd, bd⟩) ?_
                obtain ⟨x14, hx14⟩ : ∃ z_, (d0.2.2)[(((k : Nat) : Int) - 1).toNat]? = some z_ := ⟨_, List.getElem?_eq_getElem bd⟩
                obtain ⟨gg14, oo14, ec14, ea14, hce14, hre14⟩ := p0_2.elem hx14
                cases ea14
                obtain ⟨rfl, q14_1, q14_2⟩ := open_Op (x0 := x14.1) (x1 := x14.2.1) (x2 := x14.2.2) hre14
                simp only [maxLen] at q14_1
                simp only [maxLen] at q14_2
                refine VD.y rfl rfl (.inr ⟨_, _, rfl, _, rfl, rfl⟩) (.ixI ((((k : Nat) : Int) - 1).toNat) rfl rfl tsl30 bd bd) ?_
                refine VD.y rfl rfl (.inr ⟨_, _, rfl, _, rfl, rfl⟩) (.fa rfl tst35 rfl) ?_
                refine VD.y rfl rfl (.inr ⟨_, _, rfl, _, rfl, rfl⟩) (.ld1 0 rfl tk9 rfl (hce14.at1 (j := 1) rfl)) ?_
                refine VD.nil rfl ?_ rfl
                refine VO.gy rfl ⟨_, rfl, rfl⟩ (.sleq rfl rfl) ?_
                refine VO.gy rfl ⟨_, rfl, rfl⟩ (.pT rfl rfl) ?_
                refine VO.y rfl (.pF rfl rfl) ?_
                refine VO.k11 0 1 3 4 8 23 25 26 27 28 50 ?_
                refine outN ?_
                refine VC.cond rfl (fun hc15 => ?_) (fun hc15 => ?_)
                · -- FFFFTFTT
                  refine VC.rs ?_
                  refine VO.as ?_
                  refine VO.k12 0 1 2 3 4 8 23 25 26 27 28 50 ?_
                  refine VC.ret ?_
                  refine outBR ?_
                  refine outR ?_
                  refine outR ?_
                  refine outBR ?_
                  refine outR ?_
                  refine ⟨_, _, res_run (rs := [.tmp 2]) rfl (.tmp rfl .nil), fun W_ hI => out_of (l := []) hI [] rfl rfl (mle_refl _) (fun hS_ => ?_)⟩
                  dsimp only [packV]
                  all_goals (first | rfl | (exact fin0_runCheck_ok_))
                · -- FFFFTFTF
                  refine VC.skip ?_
                  refine outBN ?_
                  refine outN ?_
                  refine VC.reg ?_
                  refine VO.y rfl (.add (c := ((k + 1 : Nat) : Int)) rfl rfl (by omega) ⟨bd, bd⟩) ?_
                  refine VO.mv ?_
                  refine VO.k11 0 1 3 4 8 23 25 26 27 28 50 ?_
                  exact outN ⟨k + 1, ⟨by omega, by exact ups_next hu ‹d0.2.2[k]? = some _› (by assumption) (by first | exact .inl (by omega) | exact .inr ⟨_, by assumption, by assumption⟩)⟩, bd, ⟨⟨rfl, rfl, rfl, rfl, rfl, rfl, rfl, trivial⟩, fun _ h => Inv.sub h [102, 0]⟩⟩
              · -- FFFFTFF
                refine VD.gn rfl rfl (.inl ⟨_, rfl, rfl⟩) ?_
                refine VD.gn rfl rfl (.inl ⟨_, rfl, rfl⟩) ?_
                refine VD.gn rfl rfl (.inl ⟨_, rfl, rfl⟩) ?_
                refine VD.gn rfl rfl (.inl ⟨_, rfl, rfl⟩) ?_
                refine VD.gn rfl rfl (.inl ⟨_, rfl, rfl⟩) ?_
                refine VD.gn rfl rfl (.inl ⟨_, rfl, rfl⟩) ?_
                refine VD.gn rfl rfl (.inl ⟨_, rfl, rfl⟩) ?_
                refine VD.gn rfl rfl (.inl ⟨_, rfl, rfl⟩) ?_
                refine VD.gn rfl rfl (.inl ⟨_, rfl, rfl⟩) ?_
                refine VD.nil rfl ?_ rfl
                refine VO.gN ?_
                refine VO.gy rfl ⟨_, rfl, rfl⟩ (.pF rfl rfl) ?_
                refine VO.y rfl (.pF rfl rfl) ?_
                refine VO.k11 0 1 3 4 8 23 25 26 27 28 50 ?_
                refine outN ?_
                refine VC.condF rfl ?_
                refine VC.skip ?_
                refine outBN ?_
                refine outN ?_
                refine VC.reg ?_
                refine VO.y rfl (.add (c := ((k + 1 : Nat) : Int)) rfl rfl (by omega) ⟨bd, bd⟩) ?_
                refine VO.mv ?_
                refine VO.k11 0 1 3 4 8 23 25 26 27 28 50 ?_
                exact outN ⟨k + 1, ⟨by omega, by exact ups_next hu ‹d0.2.2[k]? = some _› (by assumption) (by first | exact .inl (by omega) | exact .inr ⟨_, by assumption, by assumption⟩)⟩, bd, ⟨⟨rfl, rfl, rfl, rfl, rfl, rfl, rfl, trivial⟩, fun _ h => Inv.sub h [102, 0]⟩⟩
          · -- FFFFF
            refine VC.exit ?_
            refine outE ?_
            refine outE ?_
            refine outBB ?_
            refine outN ?_
            refine VC.rs ?_
            refine VO.as ?_
            refine VO.kp [102, 0] [(102, mone g1 (.cells [Value.int .i64 (d0.1), Value.int .i64 (d0.2.1), Value.slice p0_A2 (d0.2.2.length) (p0_c2)].toArray 32 (0, 0))), (0, wm W)] ?_
            refine VO.k9 0 1 2 8 23 25 26 27 28 ?_
            refine VC.ret ?_
            refine ⟨_, _, res_run (rs := [.tmp 2]) rfl (.tmp rfl .nil), fun W_ hI => out_of (l := []) hI [] rfl rfl (mle_refl _) (fun hS_ => ?_)⟩
            dsimp only [packV]
            all_goals (first | rfl | (exact fin0_runCheck_ok_))
theorem runEncode_ok (W : World) {v0 : List Value} {d0 : DRun} (h0 : Rd TRun (wm W) v0 d0) : CallR Try.prog 17 [.agg v0.toArray] W (mnil) (fun v m' => ∃ (s0 : Value), v = .tuple #[s0, .int .i64 ((runEncode d0).2)] ∧ Ow (.sl .byte) m' [s0] ((runEncode d0).1)) := by
  have hrk := runCheck_or d0
  obtain ⟨p0_A2, p0_c2, rfl, p0_0, p0_1, p0_2⟩ := open_Run (x0 := d0.1) (x1 := d0.2.1) (x2 := d0.2.2) h0
  simp only [inK] at p0_0
  simp only [inK] at p0_1
  have p0_r2 := Rd.room p0_2
  refine CallR.ofA (n := 46) Try.func17 rfl rfl rfl ?_
  refine VC.rs ?_
  refine VO.box (cs := [Value.int .i64 (d0.1), Value.int .i64 (d0.2.1), Value.slice p0_A2 (d0.2.2.length) (p0_c2)]) 102 rfl rfl rfl (fun g1 => ?_)
  refine VO.as ?_
  refine VO.as ?_
  refine VO.k4 0 1 2 3 ?_
  refine VC.seq ?_
  refine VC.rs ?_
  refine VO.y rfl (.ldA 102 rfl tk32 rfl (cellsAt_one rfl rfl)) ?_
  refine VO.callN 103 rfl fnOk14 rfl (fun W hW => runCheck_ok_ W (Rd.mono h0 (hW.at (i := 0) rfl))) (fun v3 m3 hv3 => ?_)
  subst hv3
  have hfa4 := runCheck_range d0
  refine VO.as ?_
  refine VO.k5 0 1 2 3 4 ?_
  refine VC.rs ?_
  refine VO.mv ?_
  refine VO.y rfl (.neq rfl rfl) ?_
  refine VO.kp [102, 0] [(102, mone g1 (.cells [Value.int .i64 (d0.1), Value.int .i64 (d0.2.1), Value.slice p0_A2 (d0.2.2.length) (p0_c2)].toArray 32 (0, 0))), (0, wm W)] ?_
  refine VO.k6 0 1 2 3 4 13 ?_
  refine VC.cond rfl (fun hc5 => ?_) (fun hc5 => ?_)
  · -- T
    refine VC.rs ?_
    refine VO.mv ?_
    refine VO.as ?_
    refine VO.as ?_
    refine VO.k6 0 1 2 3 4 13 ?_
    refine VC.ret ?_
    refine outR ?_
    refine ⟨_, _, res_run (rs := [.tmp 2, .tmp 3]) rfl (.tmp rfl (.tmp rfl .nil)), fun W_ hI => out_of (l := []) hI [] rfl rfl (mle_refl _) (fun hS_ => ?_)⟩
    dsimp only [packV]
    have he0 : ((runEncode d0).1 : Ty.Den (.sl .byte)) = [] := by first | rfl | (first | (rw [runEnc_bad (by assumption)] <;> rfl) | (rw [runEnc_good (by assumption), hb, List.take_of_length_le (by omega)]; simp [runBody]; done))
    refine ⟨Value.slice none (0) (0), ?_, ?_⟩
    rotate_left
    · rw [he0]; exact (Ow.nil _ _)
    all_goals (first | rfl | (first | (rw [runEnc_bad (by assumption)] <;> rfl) | (rw [runEnc_good (by assumption)] <;> rfl)))
  · -- F
    refine VC.skip ?_
    refine outN ?_
    refine VC.rs ?_
    refine VO.as ?_
    refine VO.k7 0 1 2 3 4 5 13 ?_
    refine VC.seq ?_
    refine VC.rs ?_
    refine VO.y rfl (.fa rfl tst32 rfl) ?_
    refine VO.y rfl (.ld1 102 rfl tk3 rfl (cellsAt_one rfl rfl)) ?_
    refine VO.y rfl (.fa rfl tst32 rfl) ?_
    refine VO.y rfl (.ld1 102 rfl tk3 rfl (cellsAt_one rfl rfl)) ?_
    refine VO.y rfl (.fa rfl tst32 rfl) ?_
    refine VO.y rfl (.ld1 102 rfl tk30 rfl (cellsAt_one rfl rfl)) ?_
    refine VO.y rfl (.lenS rfl tsl30) ?_
    refine VO.y rfl (.bar (cs := [Value.int .i64 (d0.1), Value.int .i64 (d0.2.1), Value.int .i64 (((d0.2.2.length : Nat) : Int))]) rfl tar85 tz85 rfl) ?_
    refine VO.mv ?_
    refine VO.k9 0 1 2 3 4 5 13 22 23 ?_
    refine VC.block ?_
    refine VC.rounds 4 (VRounds.step ?_)
    refine VC.rs ?_
    refine VO.y rfl (.lss rfl rfl) ?_
    refine VO.kp [102, 0] [(102, mone g1 (.cells [Value.int .i64 (d0.1), Value.int .i64 (d0.2.1), Value.slice p0_A2 (d0.2.2.length) (p0_c2)].toArray 32 (0, 0))), (0, wm W)] ?_
    refine VO.k10 0 1 2 3 4 5 13 22 23 24 ?_
    refine VC.seq ?_
    refine VC.condKT rfl (decide_eq_true (by decide)) ?_
    refine VC.skip ?_
    refine outN ?_
    refine VC.seq ?_
    refine VC.block ?_
    refine VC.rs ?_
    refine VO.y rfl (.ix1V rfl rfl tia85 tk3 rfl rfl rfl) ?_
    refine VO.as ?_
    refine VO.k11 0 1 2 3 4 5 7 13 22 23 24 ?_
    refine VC.reg ?_
    refine VO.mv ?_
    refine VO.mv ?_
    refine VO.y rfl (.cvI (c := ((d0.1).toNat : Int)) rfl ⟨_, Try.underlying3⟩ Try.underlying87 (by rw [IntWalk.u64_in _ bd]; first | omega | (first | omega | (simp only [List.length_append, List.length_nil, List.length_cons, List.length_take, List.length_drop] at *; omega)))) ?_
    refine VO.callN 106 rfl fnOk52 rfl (fun W hW => vAppend_ok W (Rd.nil _ _ none 0 (Nat.zero_le _)) ((d0.1).toNat) bd bd) (fun v6 m6 hv6 => ?_)
    obtain ⟨s6_0, rfl, f6_0⟩ := hv6
    have hfa7 := venc_len (x := ((d0.1).toNat)) (by first | omega | exact or64 (by assumption) _)
    simp only [List.nil_append] at f6_0
    obtain ⟨A6_0, c6_0, eq6_0, l6_0, k6_0⟩ := f6_0.slice
    subst eq6_0
    simp only [maxLen] at k6_0
    refine VO.as ?_
    refine VO.k11 0 1 2 3 4 5 7 13 22 23 24 ?_
    refine outBN ?_
    refine outN ?_
    refine VC.reg ?_
    refine VO.y rfl (.add (c := ((1 : Nat) : Int)) rfl rfl (by omega) ⟨bd, bd⟩) ?_
    refine VO.mv ?_
    refine VO.kp [106, 102, 0] [(106, m6), (102, mone g1 (.cells [Value.int .i64 (d0.1), Value.int .i64 (d0.2.1), Value.slice p0_A2 (d0.2.2.length) (p0_c2)].toArray 32 (0, 0))), (0, wm W)] ?_
    refine VO.k11 0 1 2 3 4 5 7 13 22 23 24 ?_
    refine outN (VRounds.step ?_)
    refine VC.rs ?_
    refine VO.y rfl (.lss rfl rfl) ?_
    refine VO.k11 0 1 2 3 4 5 7 13 22 23 24 ?_
    refine VC.seq ?_
    refine VC.condKT rfl (decide_eq_true (by decide)) ?_
    refine VC.skip ?_
    refine outN ?_
    refine VC.seq ?_
    refine VC.block ?_
    refine VC.rs ?_
    refine VO.y rfl (.ix1V rfl rfl tia85 tk3 rfl rfl rfl) ?_
    refine VO.as ?_
    refine VO.k11 0 1 2 3 4 5 7 13 22 23 24 ?_
    refine VC.reg ?_
    refine VO.mv ?_
    refine VO.mv ?_
    refine VO.y rfl (.cvI (c := ((d0.2.1).toNat : Int)) rfl ⟨_, Try.underlying3⟩ Try.underlying87 (by rw [IntWalk.u64_in _ bd]; first | omega | (first | omega | (simp only [List.length_append, List.length_nil, List.length_cons, List.length_take, List.length_drop] at *; omega)))) ?_
    refine VO.callN 108 rfl fnOk52 rfl (fun W hW => vAppend_ok W (OwnL.rd (Ow.ownl f6_0 rfl mnil) (hW.at (i := 106) rfl) (mle_nil _)) ((d0.2.1).toNat) bd bd) (fun v8 m8 hv8 => ?_)
    obtain ⟨s8_0, rfl, f8_0⟩ := hv8
    have hfa9 := venc_len (x := ((d0.2.1).toNat)) (by first | omega | exact or64 (by assumption) _)
    obtain ⟨A8_0, c8_0, eq8_0, l8_0, k8_0⟩ := f8_0.slice
    subst eq8_0
    simp only [maxLen] at k8_0
    refine VO.as ?_
    refine VO.kp [108, 102, 0] [(108, m8), (102, mone g1 (.cells [Value.int .i64 (d0.1), Value.int .i64 (d0.2.1), Value.slice p0_A2 (d0.2.2.length) (p0_c2)].toArray 32 (0, 0))), (0, wm W)] ?_
    refine VO.k11 0 1 2 3 4 5 7 13 22 23 24 ?_
    refine outBN ?_
    refine outN ?_
    refine VC.reg ?_
    refine VO.y rfl (.add (c := ((2 : Nat) : Int)) rfl rfl (by omega) ⟨bd, bd⟩) ?_
    refine VO.mv ?_
    refine VO.k11 0 1 2 3 4 5 7 13 22 23 24 ?_
    refine outN (VRounds.step ?_)
    refine VC.rs ?_
    refine VO.y rfl (.lss rfl rfl) ?_
    refine VO.k11 0 1 2 3 4 5 7 13 22 23 24 ?_
    refine VC.seq ?_
    refine VC.condKT rfl (decide_eq_true (by decide)) ?_
    refine VC.skip ?_
    refine outN ?_
    refine VC.seq ?_
    refine VC.block ?_
    refine VC.rs ?_
    refine VO.y rfl (.ix1V rfl rfl tia85 tk3 rfl rfl rfl) ?_
    refine VO.as ?_
    refine VO.kp [108, 102, 0] [(108, m8), (102, mone g1 (.cells [Value.int .i64 (d0.1), Value.int .i64 (d0.2.1), Value.slice p0_A2 (d0.2.2.length) (p0_c2)].toArray 32 (0, 0))), (0, wm W)] ?_
    refine VO.k11 0 1 2 3 4 5 7 13 22 23 24 ?_
    refine VC.reg ?_
    refine VO.mv ?_
    refine VO.mv ?_
    refine VO.y rfl (.cvI rfl ⟨_, Try.underlying3⟩ Try.underlying87 (IntWalk.u64_in _ bd)) ?_
    refine VO.callN 110 rfl fnOk52 rfl (fun W hW => vAppend_ok W (OwnL.rd (Ow.ownl f8_0 rfl mnil) (hW.at (i := 108) rfl) (mle_nil _)) d0.2.2.length bd bd) (fun v10 m10 hv10 => ?_)
    obtain ⟨s10_0, rfl, f10_0⟩ := hv10
    have hfa11 := venc_len (x := d0.2.2.length) (by first | omega | exact or64 (by assumption) _)
    obtain ⟨A10_0, c10_0, eq10_0, l10_0, k10_0⟩ := f10_0.slice
    subst eq10_0
    simp only [maxLen] at k10_0
    refine VO.as ?_
    refine VO.k11 0 1 2 3 4 5 7 13 22 23 24 ?_
    refine outBN ?_
    refine outN ?_
    refine VC.reg ?_
    refine VO.y rfl (.add (c := ((3 : Nat) : Int)) rfl rfl (by omega) ⟨bd, bd⟩) ?_
    refine VO.mv ?_
    refine VO.k11 0 1 2 3 4 5 7 13 22 23 24 ?_
    refine outN (VRounds.step ?_)
    refine VC.rs ?_
    refine VO.y rfl (.lss rfl rfl) ?_
    refine VO.kp [110, 102, 0] [(110, m10), (102, mone g1 (.cells [Value.int .i64 (d0.1), Value.int .i64 (d0.2.1), Value.slice p0_A2 (d0.2.2.length) (p0_c2)].toArray 32 (0, 0))), (0, wm W)] ?_
    refine VO.k11 0 1 2 3 4 5 7 13 22 23 24 ?_
    refine VC.seq ?_
    refine VC.condKF rfl (decide_eq_false (by decide)) ?_
    refine VC.exit ?_
    refine outE ?_
    refine outE ?_
    refine outBB ?_
    refine outN ?_
    refine VC.seq ?_
    refine VC.rs ?_
    refine VO.y rfl (.fa rfl tst32 rfl) ?_
    refine VO.y rfl (.ld1 102 rfl tk30 rfl (cellsAt_one rfl rfl)) ?_
    refine VO.y rfl (.lenS rfl tsl30) ?_
    refine VO.mv ?_
    refine VO.k14 0 1 2 3 4 5 7 13 22 23 24 32 33 34 ?_
    refine VC.block ?_
    refine VC.loop (G := Nat × (List UInt8) × (Option Addr) × Nat × Mem) (fun g => [(5, Value.slice (g.2.2.1) ((g.2.1).length) ((g.2.2.2.1))), (34, Value.int .i64 ((((g.1) : Nat) : Int))), (0, Value.agg [Value.int .i64 (d0.1), Value.int .i64 (d0.2.1), Value.slice p0_A2 (d0.2.2.length) (p0_c2)].toArray), (1, Value.pointer (some ⟨g1, 0, none⟩)), (2, Value.slice none (0) (0)), (3, Value.int .i64 (0)), (4, Value.int .i64 (runCheck d0)), (7, Value.int .i64 (((d0.2.2.length : Nat) : Int))), (13, Value.bool (decide (¬ (runCheck d0) = 0))), (22, Value.agg [Value.int .i64 (d0.1), Value.int .i64 (d0.2.1), Value.int .i64 (((d0.2.2.length : Nat) : Int))].toArray), (23, Value.int .i64 (((3 : Nat) : Int))), (24, Value.bool (decide (((3 : Nat) : Int) < 3))), (32, Value.slice p0_A2 (d0.2.2.length) (p0_c2)), (33, Value.int .i64 (((d0.2.2.length : Nat) : Int)))]) (fun g => [(110, (g.2.2.2.2)), (102, mone g1 (.cells [Value.int .i64 (d0.1), Value.int .i64 (d0.2.1), Value.slice p0_A2 (d0.2.2.length) (p0_c2)].toArray 32 (0, 0))), (0, wm W)]) (fun g => ((g.1) ≤ d0.2.2.length) ∧ ((g.2.1) = venc d0.1.toNat ++ (venc d0.2.1.toNat ++ venc d0.2.2.length) ++ ((d0.2.2.take (g.1)).map opEnc).flatten) ∧ (OwnL .byte (g.2.2.2.2) mnil (.slice (g.2.2.1) (g.2.1).length (g.2.2.2.1)) (g.2.1))) (fun g => d0.2.2.length - (g.1)) (0, ((venc ((d0.1).toNat)) ++ venc ((d0.2.1).toNat)) ++ venc d0.2.2.length, A10_0, c10_0, m10) (⟨by omega, by simp, (Ow.ownl f10_0 rfl mnil)⟩) ⟨⟨rfl, rfl, rfl, rfl, rfl, rfl, rfl, rfl, rfl, rfl, rfl, rfl, rfl, rfl, trivial⟩, fun _ h => h.sub [110, 102, 0]⟩ ?_
    rintro ⟨k, b, b_A, b_c, b_m⟩ ⟨hk, hb, h_b⟩
    replace hk : k ≤ d0.2.2.length := hk
    replace hb : b = venc d0.1.toNat ++ (venc d0.2.1.toNat ++ venc d0.2.2.length) ++ ((d0.2.2.take k).map opEnc).flatten := hb
    replace h_b : OwnL .byte b_m mnil (.slice b_A b.length b_c) b := h_b
    show VC _ _ _ _ _ [(5, Value.slice b_A (b.length) (b_c)), (34, Value.int .i64 (((k : Nat) : Int))), (0, Value.agg [Value.int .i64 (d0.1), Value.int .i64 (d0.2.1), Value.slice p0_A2 (d0.2.2.length) (p0_c2)].toArray), (1, Value.pointer (some ⟨g1, 0, none⟩)), (2, Value.slice none (0) (0)), (3, Value.int .i64 (0)), (4, Value.int .i64 (runCheck d0)), (7, Value.int .i64 (((d0.2.2.length : Nat) : Int))), (13, Value.bool (decide (¬ (runCheck d0) = 0))), (22, Value.agg [Value.int .i64 (d0.1), Value.int .i64 (d0.2.1), Value.int .i64 (((d0.2.2.length : Nat) : Int))].toArray), (23, Value.int .i64 (((3 : Nat) : Int))), (24, Value.bool (decide (((3 : Nat) : Int) < 3))), (32, Value.slice p0_A2 (d0.2.2.length) (p0_c2)), (33, Value.int .i64 (((d0.2.2.length : Nat) : Int)))] [(110, b_m), (102, mone g1 (.cells [Value.int .i64 (d0.1), Value.int .i64 (d0.2.1), Value.slice p0_A2 (d0.2.2.length) (p0_c2)].toArray 32 (0, 0))), (0, wm W)]
    have l_b : b.length ≤ b_c := by obtain ⟨_, _, he, hl, _⟩ := h_b.slice; simp only [Value.slice.injEq] at he; omega
    have k_b : b_c ≤ 9223372036854775807 := by obtain ⟨_, _, he, _, hl⟩ := h_b.slice; simp only [Value.slice.injEq, maxLen] at he hl; omega
    have rk := runCheck_ok (Decidable.not_not.1 ‹¬ ¬ runCheck d0 = 0›)
    have hbl : b.length ≤ 30 + 60 * k := by (have h1_ := encs_len (l := d0.2.2.take k) (fun o ho => rk.2.2.2.2.1 o (List.mem_of_mem_take ho)); have h2_ := venc_short (x := d0.1.toNat) (by omega); have h3_ := venc_short (x := d0.2.1.toNat) (by omega); have h4_ := venc_short (x := d0.2.2.length) (by omega); rw [hb]; simp only [List.length_append, List.length_take] at *; omega)
    refine VC.rs ?_
    refine VO.y rfl (.lss rfl rfl) ?_
    refine VO.k15 0 1 2 3 4 5 7 13 22 23 24 32 33 34 35 ?_
    refine VC.seq ?_
    refine VC.cond rfl (fun hc12 => ?_) (fun hc12 => ?_)
    · -- FRRRRT
      refine VC.skip ?_
      refine outN ?_
      refine VC.seq ?_
      refine VC.block ?_
      refine VC.rs ?_
      obtain ⟨x13, hx13⟩ : ∃ z_, (d0.2.2)[k]? = some z_ := ⟨_, List.getElem?_eq_getElem bd⟩
      obtain ⟨gg13, oo13, ec13, ea13, hce13, hre13⟩ := p0_2.elem hx13
      cases ea13
      obtain ⟨rfl, q13_1, q13_2⟩ := open_Op (x0 := x13.1) (x1 := x13.2.1) (x2 := x13.2.2) hre13
      simp only [maxLen] at q13_1
      simp only [maxLen] at q13_2
      refine VO.y rfl (.ixI k rfl rfl tsl30 rfl bd) ?_
      refine VO.y rfl (.ldA 0 rfl tk35 rfl hce13) ?_
      refine VO.alloc 115 rfl tz35 (fun g14 => ?_)
      refine VO.store (k := 3) (c' := [Value.bool x13.1, str (x13.2.1), str (x13.2.2)]) 115 rfl rfl (.inl tk35) rfl rfl rfl rfl rfl ?_
      refine VO.kp [115, 110, 102, 0] [(115, mone g14 (.cells [Value.bool x13.1, str (x13.2.1), str (x13.2.2)].toArray 35 (0, 0))), (110, b_m), (102, mone g1 (.cells [Value.int .i64 (d0.1), Value.int .i64 (d0.2.1), Value.slice (some ⟨gg13, oo13, none⟩) (d0.2.2.length) (p0_c2)].toArray 32 (0, 0))), (0, wm W)] ?_
      refine VO.k16 0 1 2 3 4 5 7 9 13 22 23 24 32 33 34 35 ?_
      refine VC.reg ?_
      refine VO.mv ?_
      refine VO.y rfl (.ldA 115 rfl tk35 rfl (cellsAt_one rfl rfl)) ?_
      refine VO.callN 116 rfl fnOk53 rfl (fun W hW => opAppend_ok W (OwnL.rd h_b (hW.at (i := 110) rfl) (mle_nil _)) (Rd.mono hre13 (hW.at (i := 0) rfl)) bd) (fun v16 m16 hv16 => ?_)
      obtain ⟨s16_0, rfl, f16_0⟩ := hv16
      have hfa17 := opAppend_len b x13
      obtain ⟨A16_0, c16_0, eq16_0, l16_0, k16_0⟩ := f16_0.slice
      subst eq16_0
      simp only [maxLen] at k16_0
      refine VO.mv ?_
      refine VO.y rfl (.ext rfl rfl) ?_
      refine VO.y rfl (.ext rfl rfl) ?_
      refine VO.as ?_
      refine VO.k16 0 1 2 3 4 5 7 9 13 22 23 24 32 33 34 35 ?_
      refine outBN ?_
      refine outN ?_
      refine VC.reg ?_
      refine VO.y rfl (.add (c := ((k + 1 : Nat) : Int)) rfl rfl (by omega) ⟨bd, bd⟩) ?_
      refine VO.mv ?_
      refine VO.k16 0 1 2 3 4 5 7 9 13 22 23 24 32 33 34 35 ?_
      exact outN ⟨⟨k + 1, (opAppend b x13).1, A16_0, c16_0, m16⟩, ⟨by omega, by (rw [hb]; exact encs_next ‹d0.2.2[k]? = some _› (rk.2.2.2.2.1 _ (List.mem_of_getElem? ‹d0.2.2[k]? = some _›))), (Ow.ownl f16_0 rfl mnil)⟩, bd, ⟨⟨rfl, rfl, rfl, rfl, rfl, rfl, rfl, rfl, rfl, rfl, rfl, rfl, rfl, rfl, trivial⟩, fun _ h => Inv.sub (Inv.num h 116 110 rfl) [110, 102, 0]⟩⟩
    · -- FRRRRF
      refine VC.exit ?_
      refine outE ?_
      refine outE ?_
      refine outBB ?_
      refine outN ?_
      refine VC.rs ?_
      refine VO.mv ?_
      refine VO.as ?_
      refine VO.as ?_
      refine VO.kp [110, 102, 0] [(110, b_m), (102, mone g1 (.cells [Value.int .i64 (d0.1), Value.int .i64 (d0.2.1), Value.slice p0_A2 (d0.2.2.length) (p0_c2)].toArray 32 (0, 0))), (0, wm W)] ?_
      refine VO.k15 0 1 2 3 4 5 7 13 22 23 24 32 33 34 35 ?_
      refine VC.ret ?_
      refine ⟨_, _, res_run (rs := [.tmp 2, .tmp 3]) rfl (.tmp rfl (.tmp rfl .nil)), fun W_ hI => out_of (l := [b_m]) hI [110] rfl rfl (mle_refl _) (fun hS_ => ?_)⟩
      dsimp only [packV]
      have he0 : ((runEncode d0).1 : Ty.Den (.sl .byte)) = b := by first | rfl | (first | (rw [runEnc_bad (by assumption)] <;> rfl) | (rw [runEnc_good (by assumption), hb, List.take_of_length_le (by omega)]; simp [runBody]; done))
      refine ⟨Value.slice b_A (b.length) (b_c), ?_, ?_⟩
      rotate_left
      · rw [he0]; exact (Ow.up (OwnL.ow h_b rfl) (hS_.1 _ (.head _)))
      all_goals (first | rfl | (first | (rw [runEnc_bad (by assumption)] <;> rfl) | (rw [runEnc_good (by assumption)] <;> rfl)))
theorem fin0_runDecode_ok {P : Prop} (h : P := by first | (rw [runDec_1 (by assumption)] <;> first | rfl | done) | (rw [runDec_2 (by assumption)] <;> first | rfl | done) | (rw [runDec_3 (by assumption)] <;> first | rfl | done) | (rw [runDec_op (by assumption) (by assumption) (by assumption) hl (by omega) (by assumption)] <;> first | rfl | done) | (rw [runDec_rest (by assumption) (by assumption) (by assumption) hl (by omega) (by omega)] <;> first | rfl | done) | (rw [runDec_chk (by assumption) (by assumption) (by assumption) hl (by omega) (by omega) (by assumption)] <;> first | rfl | done) | (rw [runDec_good (by assumption) (by assumption) (by assumption) hl (by omega) (by omega) (by assumption)] <;> first | rfl | done)) : P := h
theorem runDecode_ok (W : World) {v0 : Value} {d0 : List UInt8} (h0 : Rd (.sl .byte) (wm W) [v0] d0) : CallR Try.prog 19 [v0] W (mnil) (fun v m' => ∃ (s0 : List Value), v = .tuple #[.agg s0.toArray, .int .i64 ((runDecode d0).2)] ∧ Ow TRun m' s0 ((runDecode d0).1)) := by
  obtain ⟨A0, c0, rfl, l0, k0⟩ := h0.slice
  simp only [maxLen] at k0
  refine CallR.ofA (n := 74) Try.func19 rfl rfl rfl ?_
  refine VC.rs ?_
  refine VO.alloc 102 rfl tz32 (fun g1 => ?_)
  refine VO.as ?_
  refine VO.k3 0 2 3 ?_
  refine VC.rs ?_
  refine VO.alloc 104 rfl tz85 (fun g3 => ?_)
  refine VO.k4 0 2 3 4 ?_
  refine VC.seq ?_
  refine VC.rs ?_
  refine VO.y rfl (.bar (cs := [Value.int .i64 (1048576), Value.int .i64 (1048576), Value.int .i64 (1024)]) rfl tar85 tz85 rfl) ?_
  refine VO.mv ?_
  refine VO.kp [104, 102, 0] [(104, mone g3 (.cells [Value.int .i64 (0), Value.int .i64 (0), Value.int .i64 (0)].toArray 85 (0, 0))), (102, mone g1 (.cells [Value.int .i64 (0), Value.int .i64 (0), Value.slice none (0) (0)].toArray 32 (0, 0))), (0, wm W)] ?_
  refine VO.k6 0 2 3 4 14 15 ?_
  refine VC.block ?_
  refine VC.rounds 4 (VRounds.step ?_)
  refine VC.rs ?_
  refine VO.y rfl (.lss rfl rfl) ?_
  refine VO.k7 0 2 3 4 14 15 16 ?_
  refine VC.seq ?_
  refine VC.condKT rfl (decide_eq_true (by decide)) ?_
  refine VC.skip ?_
  refine outN ?_
  refine VC.seq ?_
  refine VC.block ?_
  refine VC.rs ?_
  refine VO.mv ?_
  refine VO.y rfl (.ix1V rfl rfl tia85 tk3 rfl rfl rfl) ?_
  refine VO.as ?_
  refine VO.as ?_
  refine VO.k9 0 2 3 4 5 6 14 15 16 ?_
  refine VC.rs ?_
  refine VO.mv ?_
  refine VO.mv ?_
  refine VO.callN 105 rfl fnOk56 rfl (fun W hW => vSmall_ok W (Rd.mono h0 (hW.at (i := 0) rfl)) 1048576 bdk) (fun v5 m5 hv5 => ?_)
  subst hv5
  have hfa6 := s_bounds d0 1048576 (by omega)
  refine VO.mv ?_
  refine VO.y rfl (.ext rfl rfl) ?_
  refine VO.y rfl (.ext rfl rfl) ?_
  refine VO.y rfl (.ext rfl rfl) ?_
  refine VO.as ?_
  refine VO.as ?_
  refine VO.as ?_
  refine VO.kp [104, 102, 0] [(104, mone g3 (.cells [Value.int .i64 (0), Value.int .i64 (0), Value.int .i64 (0)].toArray 85 (0, 0))), (102, mone g1 (.cells [Value.int .i64 (0), Value.int .i64 (0), Value.slice none (0) (0)].toArray 32 (0, 0))), (0, wm W)] ?_
  refine VO.k12 0 2 3 4 5 6 7 8 9 14 15 16 ?_
  refine VC.seq ?_
  refine VC.rs ?_
  refine VO.mv ?_
  refine VO.y rfl (.neq rfl rfl) ?_
  refine VO.k13 0 2 3 4 5 6 7 8 9 14 15 16 27 ?_
  refine VC.cond rfl (fun hc7 => ?_) (fun hc7 => ?_)
  · -- RT
    refine VC.rs ?_
    refine VO.y rfl (.bst (cs := [Value.int .i64 (0), Value.int .i64 (0), Value.slice none (0) (0)]) rfl tst32 tz32 rfl) ?_
    refine VO.store (k := 3) (c' := [Value.int .i64 (0), Value.int .i64 (0), Value.slice none (0) (0)]) 102 rfl rfl (.inl tk32) rfl rfl rfl rfl rfl ?_
    refine VO.as ?_
    refine VO.k13 0 2 3 4 5 6 7 8 9 14 15 16 27 ?_
    refine VC.ret ?_
    refine outR ?_
    refine outBR ?_
    refine outR ?_
    refine outR ?_
    refine outBR ?_
    refine outR ?_
    refine ⟨_, _, res_run (rs := [.cell 2 32, .tmp 3]) rfl (.agg 102 rfl tk32 rfl ⟨_, _, _, mone_self _ _, Nat.le_of_ble_eq_true rfl, rfl⟩ (.tmp rfl .nil)), fun W_ hI => out_of (l := []) hI [] rfl rfl (mle_refl _) (fun hS_ => ?_)⟩
    dsimp only [packV]
    have he0 : ((runDecode d0).1 : Ty.Den TRun) = (0, 0, []) := by first | rfl | (exact fin0_runDecode_ok)
    refine ⟨[Value.int .i64 (0), Value.int .i64 (0), Value.slice none (0) (0)], ?_, ?_⟩
    rotate_left
    · rw [he0]; exact (mkO_Run 0 0 [] (Seps.nilAt 0 hS_) bdk bdk (Ow.nil _ _))
    all_goals (first | rfl | (exact fin0_runDecode_ok))
  · -- RF
    refine VC.skip ?_
    refine outN ?_
    refine VC.inv _ (fun _ h => Inv.num h 104 2104 rfl) ?_
    refine VC.regD _ 7 [(0, true), (1, true), (2, true), (3, true), (4, true), (5, true), (6, false)] follows (by kernel_rfl) (fun _ h => h.sub [2104, 102, 0]) ?_
    refine VD.y rfl rfl (.inl rfl) (.mv rfl) ?_
    refine VD.y rfl rfl (.inl rfl) (.mv rfl) ?_
    refine VD.y rfl rfl (.inl rfl) (.mv rfl) ?_
    refine VD.y rfl rfl (.inl rfl) (.mv rfl) ?_
    obtain ⟨A8, hA8, hs8⟩ := h0.drop 1 (sN d0 1048576) rfl bd
    refine VD.y rfl rfl (.inl rfl) (.slLI (sN d0 1048576) A8 rfl rfl tsl38 rfl hA8 bd) ?_
    refine VD.y rfl rfl (.inl rfl) (.ixa (i := 0) (o := 0) rfl rfl tar85 rfl rfl rfl) ?_
    refine VD.storeH (k := 1) (c' := [Value.int .i64 (((sX d0 1048576 : Nat) : Int)), Value.int .i64 (0), Value.int .i64 (0)]) 2104 rfl rfl rfl (.inr ⟨tk3, rfl⟩) rfl rfl rfl rfl rfl (fun _ h => h.sub [102, 0]) ?_
    refine VD.nil rfl ?_ rfl
    refine VO.as ?_
    refine VO.k13 0 2 3 4 5 6 7 8 9 14 15 16 27 ?_
    refine outBN ?_
    refine outN ?_
    refine VC.reg ?_
    refine VO.y rfl (.add (c := ((1 : Nat) : Int)) rfl rfl (by omega) ⟨bd, bd⟩) ?_
    refine VO.mv ?_
    refine VO.kp [2104, 102, 0] [(2104, mone g3 (.cells [Value.int .i64 (((sX d0 1048576 : Nat) : Int)), Value.int .i64 (0), Value.int .i64 (0)].toArray 85 (0, 0))), (102, mone g1 (.cells [Value.int .i64 (0), Value.int .i64 (0), Value.slice none (0) (0)].toArray 32 (0, 0))), (0, wm W)] ?_
    refine VO.k13 0 2 3 4 5 6 7 8 9 14 15 16 27 ?_
    refine outN (VRounds.step ?_)
    refine VC.rs ?_
    refine VO.y rfl (.lss rfl rfl) ?_
    refine VO.k13 0 2 3 4 5 6 7 8 9 14 15 16 27 ?_
    refine VC.seq ?_
    refine VC.condKT rfl (decide_eq_true (by decide)) ?_
    refine VC.skip ?_
    refine outN ?_
    refine VC.seq ?_
    refine VC.block ?_
    refine VC.rs ?_
    refine VO.mv ?_
    refine VO.y rfl (.ix1V rfl rfl tia85 tk3 rfl rfl rfl) ?_
    refine VO.as ?_
    refine VO.as ?_
    refine VO.k13 0 2 3 4 5 6 7 8 9 14 15 16 27 ?_
    refine VC.rs ?_
    refine VO.mv ?_
    refine VO.mv ?_
    refine VO.callN 109 rfl fnOk56 rfl (fun W hW => vSmall_ok W (Rd.mono hs8 (hW.at (i := 0) rfl)) 1048576 bdk) (fun v9 m9 hv9 => ?_)
    subst hv9
    have hfa10 := s_bounds (d0.drop (sN d0 1048576)) 1048576 (by omega)
    refine VO.mv ?_
    refine VO.y rfl (.ext rfl rfl) ?_
    refine VO.y rfl (.ext rfl rfl) ?_
    refine VO.y rfl (.ext rfl rfl) ?_
    refine VO.as ?_
    refine VO.as ?_
    refine VO.as ?_
    refine VO.kp [2104, 102, 0] [(2104, mone g3 (.cells [Value.int .i64 (((sX d0 1048576 : Nat) : Int)), Value.int .i64 (0), Value.int .i64 (0)].toArray 85 (0, 0))), (102, mone g1 (.cells [Value.int .i64 (0), Value.int .i64 (0), Value.slice none (0) (0)].toArray 32 (0, 0))), (0, wm W)] ?_
    refine VO.k13 0 2 3 4 5 6 7 8 9 14 15 16 27 ?_
    refine VC.seq ?_
    refine VC.rs ?_
    refine VO.mv ?_
    refine VO.y rfl (.neq rfl rfl) ?_
    refine VO.k13 0 2 3 4 5 6 7 8 9 14 15 16 27 ?_
    refine VC.cond rfl (fun hc11 => ?_) (fun hc11 => ?_)
    · -- RFRT
      refine VC.rs ?_
      refine VO.y rfl (.bst (cs := [Value.int .i64 (0), Value.int .i64 (0), Value.slice none (0) (0)]) rfl tst32 tz32 rfl) ?_
      refine VO.store (k := 3) (c' := [Value.int .i64 (0), Value.int .i64 (0), Value.slice none (0) (0)]) 102 rfl rfl (.inl tk32) rfl rfl rfl rfl rfl ?_
      refine VO.as ?_
      refine VO.k13 0 2 3 4 5 6 7 8 9 14 15 16 27 ?_
      refine VC.ret ?_
      refine outR ?_
      refine outBR ?_
      refine outR ?_
      refine outR ?_
      refine outBR ?_
      refine outR ?_
      refine ⟨_, _, res_run (rs := [.cell 2 32, .tmp 3]) rfl (.agg 102 rfl tk32 rfl ⟨_, _, _, mone_self _ _, Nat.le_of_ble_eq_true rfl, rfl⟩ (.tmp rfl .nil)), fun W_ hI => out_of (l := []) hI [] rfl rfl (mle_refl _) (fun hS_ => ?_)⟩
      dsimp only [packV]
      have he0 : ((runDecode d0).1 : Ty.Den TRun) = (0, 0, []) := by first | rfl | (exact fin0_runDecode_ok)
      refine ⟨[Value.int .i64 (0), Value.int .i64 (0), Value.slice none (0) (0)], ?_, ?_⟩
      rotate_left
      · rw [he0]; exact (mkO_Run 0 0 [] (Seps.nilAt 0 hS_) bdk bdk (Ow.nil _ _))
      all_goals (first | rfl | (exact fin0_runDecode_ok))
    · -- RFRF
      refine VC.skip ?_
      refine outN ?_
      refine VC.regD _ 7 [(0, true), (1, true), (2, true), (3, true), (4, true), (5, true), (6, false)] follows (by kernel_rfl) (fun _ h => h.sub [2104, 102, 0]) ?_
      refine VD.y rfl rfl (.inl rfl) (.mv rfl) ?_
      refine VD.y rfl rfl (.inl rfl) (.mv rfl) ?_
      refine VD.y rfl rfl (.inl rfl) (.mv rfl) ?_
      refine VD.y rfl rfl (.inl rfl) (.mv rfl) ?_
      obtain ⟨A12, hA12, hs12⟩ := hs8.drop 1 (sN (d0.drop (sN d0 1048576)) 1048576) rfl bd
      replace hs12 := Rd.relen (k := (d0.length - (sN d0 1048576)) - (sN (d0.drop (sN d0 1048576)) 1048576)) hs12 (by simp only [List.length_drop, List.length_take]; try omega)
      refine VD.y rfl rfl (.inl rfl) (.slLI (sN (d0.drop (sN d0 1048576)) 1048576) A12 rfl rfl tsl38 rfl hA12 bd) ?_
      refine VD.y rfl rfl (.inl rfl) (.ixa (i := 1) (o := 1) rfl rfl tar85 rfl rfl rfl) ?_
      refine VD.storeH (k := 1) (c' := [Value.int .i64 (((sX d0 1048576 : Nat) : Int)), Value.int .i64 (((sX (d0.drop (sN d0 1048576)) 1048576 : Nat) : Int)), Value.int .i64 (0)]) 2104 rfl rfl rfl (.inr ⟨tk3, rfl⟩) rfl rfl rfl rfl rfl (fun _ h => h.sub [102, 0]) ?_
      refine VD.nil rfl ?_ rfl
      refine VO.as ?_
      refine VO.k13 0 2 3 4 5 6 7 8 9 14 15 16 27 ?_
      refine outBN ?_
      refine outN ?_
      refine VC.reg ?_
      refine VO.y rfl (.add (c := ((2 : Nat) : Int)) rfl rfl (by omega) ⟨bd, bd⟩) ?_
      refine VO.mv ?_
      refine VO.kp [2104, 102, 0] [(2104, mone g3 (.cells [Value.int .i64 (((sX d0 1048576 : Nat) : Int)), Value.int .i64 (((sX (d0.drop (sN d0 1048576)) 1048576 : Nat) : Int)), Value.int .i64 (0)].toArray 85 (0, 0))), (102, mone g1 (.cells [Value.int .i64 (0), Value.int .i64 (0), Value.slice none (0) (0)].toArray 32 (0, 0))), (0, wm W)] ?_
      refine VO.k13 0 2 3 4 5 6 7 8 9 14 15 16 27 ?_
      refine outN (VRounds.step ?_)
      refine VC.rs ?_
      refine VO.y rfl (.lss rfl rfl) ?_
      refine VO.k13 0 2 3 4 5 6 7 8 9 14 15 16 27 ?_
      refine VC.seq ?_
      refine VC.condKT rfl (decide_eq_true (by decide)) ?_
      refine VC.skip ?_
      refine outN ?_
      refine VC.seq ?_
      refine VC.block ?_
      refine VC.rs ?_
      refine VO.mv ?_
      refine VO.y rfl (.ix1V rfl rfl tia85 tk3 rfl rfl rfl) ?_
      refine VO.as ?_
      refine VO.as ?_
      refine VO.k13 0 2 3 4 5 6 7 8 9 14 15 16 27 ?_
      refine VC.rs ?_
      refine VO.mv ?_
      refine VO.mv ?_
      refine VO.callN 113 rfl fnOk56 rfl (fun W hW => vSmall_ok W (Rd.mono hs12 (hW.at (i := 0) rfl)) 1024 bdk) (fun v13 m13 hv13 => ?_)
      subst hv13
      have hfa14 := s_bounds ((d0.drop (sN d0 1048576)).drop (sN (d0.drop (sN d0 1048576)) 1048576)) 1024 (by omega)
      refine VO.mv ?_
      refine VO.y rfl (.ext rfl rfl) ?_
      refine VO.y rfl (.ext rfl rfl) ?_
      refine VO.y rfl (.ext rfl rfl) ?_
      refine VO.as ?_
      refine VO.as ?_
      refine VO.as ?_
      refine VO.kp [2104, 102, 0] [(2104, mone g3 (.cells [Value.int .i64 (((sX d0 1048576 : Nat) : Int)), Value.int .i64 (((sX (d0.drop (sN d0 1048576)) 1048576 : Nat) : Int)), Value.int .i64 (0)].toArray 85 (0, 0))), (102, mone g1 (.cells [Value.int .i64 (0), Value.int .i64 (0), Value.slice none (0) (0)].toArray 32 (0, 0))), (0, wm W)] ?_
      refine VO.k13 0 2 3 4 5 6 7 8 9 14 15 16 27 ?_
      refine VC.seq ?_
      refine VC.rs ?_
      refine VO.mv ?_
      refine VO.y rfl (.neq rfl rfl) ?_
      refine VO.k13 0 2 3 4 5 6 7 8 9 14 15 16 27 ?_
      refine VC.cond rfl (fun hc15 => ?_) (fun hc15 => ?_)
      · -- RFRFRT
        refine VC.rs ?_
        refine VO.y rfl (.bst (cs := [Value.int .i64 (0), Value.int .i64 (0), Value.slice none (0) (0)]) rfl tst32 tz32 rfl) ?_
        refine VO.store (k := 3) (c' := [Value.int .i64 (0), Value.int .i64 (0), Value.slice none (0) (0)]) 102 rfl rfl (.inl tk32) rfl rfl rfl rfl rfl ?_
        refine VO.as ?_
        refine VO.k13 0 2 3 4 5 6 7 8 9 14 15 16 27 ?_
        refine VC.ret ?_
        refine outR ?_
        refine outBR ?_
        refine outR ?_
        refine outR ?_
        refine outBR ?_
        refine outR ?_
        refine ⟨_, _, res_run (rs := [.cell 2 32, .tmp 3]) rfl (.agg 102 rfl tk32 rfl ⟨_, _, _, mone_self _ _, Nat.le_of_ble_eq_true rfl, rfl⟩ (.tmp rfl .nil)), fun W_ hI => out_of (l := []) hI [] rfl rfl (mle_refl _) (fun hS_ => ?_)⟩
        dsimp only [packV]
        have he0 : ((runDecode d0).1 : Ty.Den TRun) = (0, 0, []) := by first | rfl | (exact fin0_runDecode_ok)
        refine ⟨[Value.int .i64 (0), Value.int .i64 (0), Value.slice none (0) (0)], ?_, ?_⟩
        rotate_left
        · rw [he0]; exact (mkO_Run 0 0 [] (Seps.nilAt 0 hS_) bdk bdk (Ow.nil _ _))
        all_goals (first | rfl | (exact fin0_runDecode_ok))
      · -- RFRFRF
        refine VC.skip ?_
        refine outN ?_
        refine VC.regD _ 7 [(0, true), (1, true), (2, true), (3, true), (4, true), (5, true), (6, false)] follows (by kernel_rfl) (fun _ h => h.sub [2104, 102, 0]) ?_
        refine VD.y rfl rfl (.inl rfl) (.mv rfl) ?_
        refine VD.y rfl rfl (.inl rfl) (.mv rfl) ?_
        refine VD.y rfl rfl (.inl rfl) (.mv rfl) ?_
        refine VD.y rfl rfl (.inl rfl) (.mv rfl) ?_
        obtain ⟨A16, hA16, hs16⟩ := hs12.drop 1 (sN ((d0.drop (sN d0 1048576)).drop (sN (d0.drop (sN d0 1048576)) 1048576)) 1024) rfl bd
        replace hs16 := Rd.relen (k := ((d0.length - (sN d0 1048576)) - (sN (d0.drop (sN d0 1048576)) 1048576)) - (sN ((d0.drop (sN d0 1048576)).drop (sN (d0.drop (sN d0 1048576)) 1048576)) 1024)) hs16 (by simp only [List.length_drop, List.length_take]; try omega)
        refine VD.y rfl rfl (.inl rfl) (.slLI (sN ((d0.drop (sN d0 1048576)).drop (sN (d0.drop (sN d0 1048576)) 1048576)) 1024) A16 rfl rfl tsl38 rfl hA16 bd) ?_
        refine VD.y rfl rfl (.inl rfl) (.ixa (i := 2) (o := 2) rfl rfl tar85 rfl rfl rfl) ?_
        refine VD.storeH (k := 1) (c' := [Value.int .i64 (((sX d0 1048576 : Nat) : Int)), Value.int .i64 (((sX (d0.drop (sN d0 1048576)) 1048576 : Nat) : Int)), Value.int .i64 (((sX ((d0.drop (sN d0 1048576)).drop (sN (d0.drop (sN d0 1048576)) 1048576)) 1024 : Nat) : Int))]) 2104 rfl rfl rfl (.inr ⟨tk3, rfl⟩) rfl rfl rfl rfl rfl (fun _ h => h.sub [102, 0]) ?_
        refine VD.nil rfl ?_ rfl
        refine VO.as ?_
        refine VO.k13 0 2 3 4 5 6 7 8 9 14 15 16 27 ?_
        refine outBN ?_
        refine outN ?_
        refine VC.reg ?_
        refine VO.y rfl (.add (c := ((3 : Nat) : Int)) rfl rfl (by omega) ⟨bd, bd⟩) ?_
        refine VO.mv ?_
        refine VO.kp [2104, 102, 0] [(2104, mone g3 (.cells [Value.int .i64 (((sX d0 1048576 : Nat) : Int)), Value.int .i64 (((sX (d0.drop (sN d0 1048576)) 1048576 : Nat) : Int)), Value.int .i64 (((sX ((d0.drop (sN d0 1048576)).drop (sN (d0.drop (sN d0 1048576)) 1048576)) 1024 : Nat) : Int))].toArray 85 (0, 0))), (102, mone g1 (.cells [Value.int .i64 (0), Value.int .i64 (0), Value.slice none (0) (0)].toArray 32 (0, 0))), (0, wm W)] ?_
        refine VO.k13 0 2 3 4 5 6 7 8 9 14 15 16 27 ?_
        refine outN (VRounds.step ?_)
        refine VC.rs ?_
        refine VO.y rfl (.lss rfl rfl) ?_
        refine VO.k13 0 2 3 4 5 6 7 8 9 14 15 16 27 ?_
        refine VC.seq ?_
        refine VC.condKF rfl (decide_eq_false (by decide)) ?_
        refine VC.exit ?_
        refine outE ?_
        refine outE ?_
        refine outBB ?_
        refine outN ?_
        refine VC.rs ?_
        refine VO.y rfl (.ixa (i := 0) (o := 0) rfl rfl tar85 rfl rfl rfl) ?_
        refine VO.y rfl (.ld1 2104 rfl tk3 rfl (cellsAt_one rfl rfl)) ?_
        refine VO.y rfl (.ixa (i := 1) (o := 1) rfl rfl tar85 rfl rfl rfl) ?_
        refine VO.y rfl (.ld1 2104 rfl tk3 rfl (cellsAt_one rfl rfl)) ?_
        refine VO.y rfl (.bst (cs := [Value.int .i64 (((sX d0 1048576 : Nat) : Int)), Value.int .i64 (((sX (d0.drop (sN d0 1048576)) 1048576 : Nat) : Int)), Value.slice none (0) (0)]) rfl tst32 tz32 rfl) ?_
        refine VO.alloc 118 rfl tz32 (fun g17 => ?_)
        refine VO.store (k := 3) (c' := [Value.int .i64 (((sX d0 1048576 : Nat) : Int)), Value.int .i64 (((sX (d0.drop (sN d0 1048576)) 1048576 : Nat) : Int)), Value.slice none (0) (0)]) 118 rfl rfl (.inl tk32) rfl rfl rfl rfl rfl ?_
        refine VO.k14 0 2 3 4 5 6 7 8 9 10 14 15 16 27 ?_
        refine VC.seq ?_
        refine VC.rs ?_
        refine VO.y rfl (.ixa (i := 2) (o := 2) rfl rfl tar85 rfl rfl rfl) ?_
        refine VO.y rfl (.ld1 2104 rfl tk3 rfl (cellsAt_one rfl rfl)) ?_
        refine VO.mv ?_
        refine VO.kp [118, 2104, 102, 0] [(118, mone g17 (.cells [Value.int .i64 (((sX d0 1048576 : Nat) : Int)), Value.int .i64 (((sX (d0.drop (sN d0 1048576)) 1048576 : Nat) : Int)), Value.slice none (0) (0)].toArray 32 (0, 0))), (2104, mone g3 (.cells [Value.int .i64 (((sX d0 1048576 : Nat) : Int)), Value.int .i64 (((sX (d0.drop (sN d0 1048576)) 1048576 : Nat) : Int)), Value.int .i64 (((sX ((d0.drop (sN d0 1048576)).drop (sN (d0.drop (sN d0 1048576)) 1048576)) 1024 : Nat) : Int))].toArray 85 (0, 0))), (102, mone g1 (.cells [Value.int .i64 (0), Value.int .i64 (0), Value.slice none (0) (0)].toArray 32 (0, 0))), (0, wm W)] ?_
        refine VO.k16 0 2 3 4 5 6 7 8 9 10 14 15 16 27 42 43 ?_
        refine VC.block ?_
        have hrl19 : ((d0.length - (sN d0 1048576)) - (sN (d0.drop (sN d0 1048576)) 1048576)) - (sN ((d0.drop (sN d0 1048576)).drop (sN (d0.drop (sN d0 1048576)) 1048576)) 1024) = (((d0.drop (sN d0 1048576)).drop (sN (d0.drop (sN d0 1048576)) 1048576)).drop (sN ((d0.drop (sN d0 1048576)).drop (sN (d0.drop (sN d0 1048576)) 1048576)) 1024)).length := by simp only [List.length_drop, List.length_take]; try omega
        rw [hrl19]
        replace hs16 := Rd.relen (k := (((d0.drop (sN d0 1048576)).drop (sN (d0.drop (sN d0 1048576)) 1048576)).drop (sN ((d0.drop (sN d0 1048576)).drop (sN (d0.drop (sN d0 1048576)) 1048576)) 1024)).length) hs16 rfl
        refine VC.inv ((120, mnil) :: _) (fun _ h => h.nilc 120) ?_
        refine VC.loop (G := Nat × (List UInt8) × (Option Addr) × Nat × (List DOp) × (Option Addr) × Nat × Mem) (fun g => [(0, Value.slice (g.2.2.1) ((g.2.1).length) ((g.2.2.2.1))), (43, Value.int .i64 ((((g.1) : Nat) : Int))), (2, Value.pointer (some ⟨g1, 0, none⟩)), (4, Value.pointer (some ⟨g3, 0, none⟩)), (5, Value.int .i64 (((2 : Nat) : Int))), (6, Value.int .i64 (1024)), (7, Value.int .i64 (((sX ((d0.drop (sN d0 1048576)).drop (sN (d0.drop (sN d0 1048576)) 1048576)) 1024 : Nat) : Int))), (8, Value.int .i64 (((sN ((d0.drop (sN d0 1048576)).drop (sN (d0.drop (sN d0 1048576)) 1048576)) 1024 : Nat) : Int))), (9, Value.int .i64 (sE ((d0.drop (sN d0 1048576)).drop (sN (d0.drop (sN d0 1048576)) 1048576)) 1024)), (10, Value.pointer (some ⟨g17, 0, none⟩)), (14, Value.agg [Value.int .i64 (1048576), Value.int .i64 (1048576), Value.int .i64 (1024)].toArray), (15, Value.int .i64 (((3 : Nat) : Int))), (16, Value.bool (decide (((3 : Nat) : Int) < 3))), (27, Value.bool (decide (¬ (sE ((d0.drop (sN d0 1048576)).drop (sN (d0.drop (sN d0 1048576)) 1048576)) 1024) = 0))), (42, Value.int .i64 (((sX ((d0.drop (sN d0 1048576)).drop (sN (d0.drop (sN d0 1048576)) 1048576)) 1024 : Nat) : Int)))]) (fun g => [(120, (g.2.2.2.2.2.2.2)), (118, mone g17 (.cells [Value.int .i64 (((sX d0 1048576 : Nat) : Int)), Value.int .i64 (((sX (d0.drop (sN d0 1048576)) 1048576 : Nat) : Int)), Value.slice (g.2.2.2.2.2.1) ((g.2.2.2.2.1).length) ((g.2.2.2.2.2.2.1))].toArray 32 (0, 0))), (2104, mone g3 (.cells [Value.int .i64 (((sX d0 1048576 : Nat) : Int)), Value.int .i64 (((sX (d0.drop (sN d0 1048576)) 1048576 : Nat) : Int)), Value.int .i64 (((sX ((d0.drop (sN d0 1048576)).drop (sN (d0.drop (sN d0 1048576)) 1048576)) 1024 : Nat) : Int))].toArray 85 (0, 0))), (102, mone g1 (.cells [Value.int .i64 (0), Value.int .i64 (0), Value.slice none (0) (0)].toArray 32 (0, 0))), (0, wm W)]) (fun g => ((g.1) ≤ sX ((d0.drop (sN d0 1048576)).drop (sN (d0.drop (sN d0 1048576)) 1048576)) 1024) ∧ (rdOps (sX ((d0.drop (sN d0 1048576)).drop (sN (d0.drop (sN d0 1048576)) 1048576)) 1024) (((d0.drop (sN d0 1048576)).drop (sN (d0.drop (sN d0 1048576)) 1048576)).drop (sN ((d0.drop (sN d0 1048576)).drop (sN (d0.drop (sN d0 1048576)) 1048576)) 1024)) = (rdOps (sX ((d0.drop (sN d0 1048576)).drop (sN (d0.drop (sN d0 1048576)) 1048576)) 1024 - (g.1)) (g.2.1)).map (fun q => ((g.2.2.2.2.1) ++ q.1, q.2))) ∧ ((g.2.2.2.2.1).length ≤ (g.1)) ∧ (Rd (.sl .byte) (wm W) [.slice (g.2.2.1) (g.2.1).length (g.2.2.2.1)] (g.2.1)) ∧ (OwnL TOp (g.2.2.2.2.2.2.2) mnil (.slice (g.2.2.2.2.2.1) (g.2.2.2.2.1).length (g.2.2.2.2.2.2.1)) (g.2.2.2.2.1))) (fun g => sX ((d0.drop (sN d0 1048576)).drop (sN (d0.drop (sN d0 1048576)) 1048576)) 1024 - (g.1)) (0, ((d0.drop (sN d0 1048576)).drop (sN (d0.drop (sN d0 1048576)) 1048576)).drop (sN ((d0.drop (sN d0 1048576)).drop (sN (d0.drop (sN d0 1048576)) 1048576)) 1024), A16, ((c0 - (sN d0 1048576)) - (sN (d0.drop (sN d0 1048576)) 1048576)) - (sN ((d0.drop (sN d0 1048576)).drop (sN (d0.drop (sN d0 1048576)) 1048576)) 1024), [], none, 0, mnil) (⟨by omega, by exact rdOps_0 _ _, by simp, hs16, (OwnL.nil TOp mnil mnil)⟩) ⟨⟨rfl, rfl, rfl, rfl, rfl, rfl, rfl, rfl, rfl, rfl, rfl, rfl, rfl, rfl, rfl, trivial⟩, fun _ h => h.sub [120, 118, 2104, 102, 0]⟩ ?_
        rintro ⟨j, b, b_A, b_c, l, l_A, l_c, l_m⟩ ⟨hj, hl, hll, h_b, h_l⟩
        replace hj : j ≤ sX ((d0.drop (sN d0 1048576)).drop (sN (d0.drop (sN d0 1048576)) 1048576)) 1024 := hj
        replace hl : rdOps (sX ((d0.drop (sN d0 1048576)).drop (sN (d0.drop (sN d0 1048576)) 1048576)) 1024) (((d0.drop (sN d0 1048576)).drop (sN (d0.drop (sN d0 1048576)) 1048576)).drop (sN ((d0.drop (sN d0 1048576)).drop (sN (d0.drop (sN d0 1048576)) 1048576)) 1024)) = (rdOps (sX ((d0.drop (sN d0 1048576)).drop (sN (d0.drop (sN d0 1048576)) 1048576)) 1024 - j) b).map (fun q => (l ++ q.1, q.2)) := hl
        replace hll : l.length ≤ j := hll
        replace h_b : Rd (.sl .byte) (wm W) [.slice b_A b.length b_c] b := h_b
        replace h_l : OwnL TOp l_m mnil (.slice l_A l.length l_c) l := h_l
        show VC _ _ _ _ _ [(0, Value.slice b_A (b.length) (b_c)), (43, Value.int .i64 (((j : Nat) : Int))), (2, Value.pointer (some ⟨g1, 0, none⟩)), (4, Value.pointer (some ⟨g3, 0, none⟩)), (5, Value.int .i64 (((2 : Nat) : Int))), (6, Value.int .i64 (1024)), (7, Value.int .i64 (((sX ((d0.drop (sN d0 1048576)).drop (sN (d0.drop (sN d0 1048576)) 1048576)) 1024 : Nat) : Int))), (8, Value.int .i64 (((sN ((d0.drop (sN d0 1048576)).drop (sN (d0.drop (sN d0 1048576)) 1048576)) 1024 : Nat) : Int))), (9, Value.int .i64 (sE ((d0.drop (sN d0 1048576)).drop (sN (d0.drop (sN d0 1048576)) 1048576)) 1024)), (10, Value.pointer (some ⟨g17, 0, none⟩)), (14, Value.agg [Value.int .i64 (1048576), Value.int .i64 (1048576), Value.int .i64 (1024)].toArray), (15, Value.int .i64 (((3 : Nat) : Int))), (16, Value.bool (decide (((3 : Nat) : Int) < 3))), (27, Value.bool (decide (¬ (sE ((d0.drop (sN d0 1048576)).drop (sN (d0.drop (sN d0 1048576)) 1048576)) 1024) = 0))), (42, Value.int .i64 (((sX ((d0.drop (sN d0 1048576)).drop (sN (d0.drop (sN d0 1048576)) 1048576)) 1024 : Nat) : Int)))] [(120, l_m), (118, mone g17 (.cells [Value.int .i64 (((sX d0 1048576 : Nat) : Int)), Value.int .i64 (((sX (d0.drop (sN d0 1048576)) 1048576 : Nat) : Int)), Value.slice l_A (l.length) (l_c)].toArray 32 (0, 0))), (2104, mone g3 (.cells [Value.int .i64 (((sX d0 1048576 : Nat) : Int)), Value.int .i64 (((sX (d0.drop (sN d0 1048576)) 1048576 : Nat) : Int)), Value.int .i64 (((sX ((d0.drop (sN d0 1048576)).drop (sN (d0.drop (sN d0 1048576)) 1048576)) 1024 : Nat) : Int))].toArray 85 (0, 0))), (102, mone g1 (.cells [Value.int .i64 (0), Value.int .i64 (0), Value.slice none (0) (0)].toArray 32 (0, 0))), (0, wm W)]
        have l_b : b.length ≤ b_c := by obtain ⟨_, _, he, hl, _⟩ := h_b.slice; simp only [Value.slice.injEq] at he; omega
        have k_b : b_c ≤ 9223372036854775807 := by obtain ⟨_, _, he, _, hl⟩ := h_b.slice; simp only [Value.slice.injEq, maxLen] at he hl; omega
        have l_l : l.length ≤ l_c := by obtain ⟨_, _, he, hl, _⟩ := h_l.slice; simp only [Value.slice.injEq] at he; omega
        have k_l : l_c ≤ 9223372036854775807 := by obtain ⟨_, _, he, _, hl⟩ := h_l.slice; simp only [Value.slice.injEq, maxLen] at he hl; omega
        refine VC.rs ?_
        refine VO.y rfl (.lss rfl rfl) ?_
        refine VO.k16 0 2 4 5 6 7 8 9 10 14 15 16 27 42 43 44 ?_
        refine VC.seq ?_
        refine VC.cond rfl (fun hc21 => ?_) (fun hc21 => ?_)
        · -- RFRFRFRT
          refine VC.skip ?_
          refine outN ?_
          refine VC.seq ?_
          refine VC.block ?_
          refine VC.rs ?_
          refine VO.mv ?_
          refine VO.callN 122 rfl fnOk57 rfl (fun W hW => opRead_ok W (Rd.mono h_b (hW.at (i := 0) rfl))) (fun v22 m22 hv22 => ?_)
          obtain ⟨s22_0, rfl, f22_0⟩ := hv22
          have hfa23 := opRd_fits b
          obtain ⟨rfl, q22_0_1, q22_0_2⟩ := open_Op (x0 := ((opRd b).1).1) (x1 := ((opRd b).1).2.1) (x2 := ((opRd b).1).2.2) (f22_0.rd (mle_refl _))
          simp only [maxLen] at q22_0_1
          simp only [maxLen] at q22_0_2
          refine VO.mv ?_
          refine VO.y rfl (.ext rfl rfl) ?_
          refine VO.y rfl (.ext rfl rfl) ?_
          refine VO.y rfl (.ext rfl rfl) ?_
          refine VO.alloc 125 rfl tz35 (fun g24 => ?_)
          refine VO.store (k := 3) (c' := [Value.bool (((opRd b).1).1), str (((opRd b).1).2.1), str (((opRd b).1).2.2)]) 125 rfl rfl (.inl tk35) rfl rfl rfl rfl rfl ?_
          refine VO.as ?_
          refine VO.as ?_
          refine VO.k19 0 2 4 5 6 7 8 9 10 11 12 13 14 15 16 27 42 43 44 ?_
          refine VC.seq ?_
          refine VC.rs ?_
          refine VO.mv ?_
          refine VO.y rfl (.neq rfl rfl) ?_
          refine VO.kp [125, 120, 118, 2104, 102, 0] [(125, mone g24 (.cells [Value.bool (((opRd b).1).1), str (((opRd b).1).2.1), str (((opRd b).1).2.2)].toArray 35 (0, 0))), (120, l_m), (118, mone g17 (.cells [Value.int .i64 (((sX d0 1048576 : Nat) : Int)), Value.int .i64 (((sX (d0.drop (sN d0 1048576)) 1048576 : Nat) : Int)), Value.slice l_A (l.length) (l_c)].toArray 32 (0, 0))), (2104, mone g3 (.cells [Value.int .i64 (((sX d0 1048576 : Nat) : Int)), Value.int .i64 (((sX (d0.drop (sN d0 1048576)) 1048576 : Nat) : Int)), Value.int .i64 (((sX ((d0.drop (sN d0 1048576)).drop (sN (d0.drop (sN d0 1048576)) 1048576)) 1024 : Nat) : Int))].toArray 85 (0, 0))), (102, mone g1 (.cells [Value.int .i64 (0), Value.int .i64 (0), Value.slice none (0) (0)].toArray 32 (0, 0))), (0, wm W)] ?_
          refine VO.k20 0 2 4 5 6 7 8 9 10 11 12 13 14 15 16 27 42 43 44 52 ?_
          refine VC.cond rfl (fun hc26 => ?_) (fun hc26 => ?_)
          · -- RFRFRFRTT
            refine VC.rs ?_
            refine VO.y rfl (.bst (cs := [Value.int .i64 (0), Value.int .i64 (0), Value.slice none (0) (0)]) rfl tst32 tz32 rfl) ?_
            refine VO.store (k := 3) (c' := [Value.int .i64 (0), Value.int .i64 (0), Value.slice none (0) (0)]) 102 rfl rfl (.inl tk32) rfl rfl rfl rfl rfl ?_
            refine VO.as ?_
            refine VO.k21 0 2 3 4 5 6 7 8 9 10 11 12 13 14 15 16 27 42 43 44 52 ?_
            refine VC.ret ?_
            refine outR ?_
            refine outBR ?_
            refine outR ?_
            refine outR ?_
            refine outBR ?_
            refine outR ?_
            refine ⟨_, _, res_run (rs := [.cell 2 32, .tmp 3]) rfl (.agg 102 rfl tk32 rfl ⟨_, _, _, mone_self _ _, Nat.le_of_ble_eq_true rfl, rfl⟩ (.tmp rfl .nil)), fun W_ hI => out_of (l := []) hI [] rfl rfl (mle_refl _) (fun hS_ => ?_)⟩
            dsimp only [packV]
            have he0 : ((runDecode d0).1 : Ty.Den TRun) = (0, 0, []) := by first | rfl | (exact fin0_runDecode_ok)
            refine ⟨[Value.int .i64 (0), Value.int .i64 (0), Value.slice none (0) (0)], ?_, ?_⟩
            rotate_left
            · rw [he0]; exact (mkO_Run 0 0 [] (Seps.nilAt 0 hS_) bdk bdk (Ow.nil _ _))
            all_goals (first | rfl | (exact fin0_runDecode_ok))
          · -- RFRFRFRTF
            refine VC.skip ?_
            refine outN ?_
            refine VC.inv _ (fun _ h => Inv.num h 118 2118 rfl) ?_
            refine VC.inv _ (fun _ h => Inv.num h 2104 104 rfl) ?_
            refine VC.regD _ 10 [(0, true), (1, true), (2, true), (5, true), (6, true), (7, true), (3, false), (4, false), (8, true), (9, false)] follows (by kernel_rfl) (fun _ h => h.sub [125, 2118, 104, 102, 0]) ?_
            refine VD.y rfl rfl (.inl rfl) (.fa rfl tst32 rfl) ?_
            refine VD.yH rfl rfl (.inl rfl) (by kernel_rfl) (.ld1 2118 rfl tk30 rfl (cellsAt_one rfl rfl)) ?_
            refine VD.y rfl rfl (.inl rfl) (.ldA 125 rfl tk35 rfl (cellsAt_one rfl rfl)) ?_
            refine VD.y rfl rfl (.inl rfl) (.mv rfl) ?_
            refine VD.y rfl rfl (.inl rfl) (.mv rfl) ?_
            obtain ⟨A27, hA27, hs27⟩ := h_b.drop 1 (((opRd b).2.1).toNat) rfl bd
            refine VD.y rfl rfl (.inl rfl) (.slLI (((opRd b).2.1).toNat) A27 rfl rfl tsl38 bd hA27 bd) ?_
            refine VD.bsl (cs := [Value.bool (((opRd b).1).1), str (((opRd b).1).2.1), str (((opRd b).1).2.2)]) 129 rfl rfl rfl tsl30 tz35 rfl rfl (fun _ h => h.sub [125, 2118, 104, 102, 0]) (fun g28 => ?_)
            obtain ⟨mo30, cs30, hM30, hA30, hC30⟩ := h_l
            refine VD.app 120 rfl rfl rfl rfl tsl30 tz35 rfl rfl hM30 hA30 (.row 129 _ _ _ 1 1 _ _ Try.underlying30 rfl (cellsAt_one rfl rfl)) (by simp [Value.oneCell']) bdm bd (by decide) (fun _ _ h => h.sub [125, 2118, 104, 102, 0]) (fun v30 m30 hN30 => ?_)
            have ho30 : OwnL TOp m30 mnil v30 (l ++ [((opRd b).1)]) := OwnL.one hC30 hN30 (show Rd TOp _ _ ((opRd b).1) from (mk_Op (m := _) (((opRd b).1).1) (((opRd b).1).2.1) (((opRd b).1).2.2) bdm bdm))
            obtain ⟨A30, c30, rfl, l30, k30⟩ := ho30.slice
            simp only [maxLen] at k30
            refine VD.y rfl rfl (.inl rfl) (.fa rfl tst32 rfl) ?_
            refine VD.storeH (k := 1) (c' := [Value.int .i64 (((sX d0 1048576 : Nat) : Int)), Value.int .i64 (((sX (d0.drop (sN d0 1048576)) 1048576 : Nat) : Int)), Value.slice A30 ((l ++ [((opRd b).1)]).length) (c30)]) 2118 rfl rfl rfl (.inr ⟨tk30, rfl⟩) rfl rfl rfl rfl rfl (fun _ h => h.sub [125, 104, 102, 0]) ?_
            refine VD.nil rfl ?_ rfl
            refine VO.as ?_
            refine VO.k20 0 2 4 5 6 7 8 9 10 11 12 13 14 15 16 27 42 43 44 52 ?_
            refine outBN ?_
            refine outN ?_
            refine VC.reg ?_
            refine VO.y rfl (.add (c := ((j + 1 : Nat) : Int)) rfl rfl (by omega) ⟨bd, bd⟩) ?_
            refine VO.mv ?_
            refine VO.k20 0 2 4 5 6 7 8 9 10 11 12 13 14 15 16 27 42 43 44 52 ?_
            have hrl31 : b.length - (((opRd b).2.1).toNat) = (b.drop (((opRd b).2.1).toNat)).length := by simp only [List.length_drop, List.length_take]; try omega
            rw [hrl31]
            exact outN ⟨⟨j + 1, b.drop (((opRd b).2.1).toNat), A27, b_c - (((opRd b).2.1).toNat), l ++ [((opRd b).1)], A30, c30, m30⟩, ⟨by omega, by exact rdOps_next hl (by omega) (by assumption), by (simp only [List.length_append, List.length_cons, List.length_nil]; omega), (Rd.relen hs27 rfl), ho30⟩, bd, ⟨⟨rfl, rfl, rfl, rfl, rfl, rfl, rfl, rfl, rfl, rfl, rfl, rfl, rfl, rfl, rfl, trivial⟩, fun _ h => Inv.sub (Inv.num (Inv.num h 2118 118 rfl) 104 2104 rfl) [120, 118, 2104, 102, 0]⟩⟩
        · -- RFRFRFRF
          refine VC.exit ?_
          refine outE ?_
          refine outE ?_
          refine outBB ?_
          refine outN ?_
          refine VC.seq ?_
          refine VC.rs ?_
          refine VO.mv ?_
          refine VO.y rfl (.lenS rfl tsl38) ?_
          refine VO.y rfl (.gtr rfl rfl) ?_
          refine VO.mv ?_
          refine VO.dec (t := 67) rfl (fun hc32 => ?_) (fun hc32 => ?_)
          · -- RFRFRFRFT
            refine VO.gN ?_
            refine VO.gN ?_
            refine VO.gN ?_
            refine VO.y rfl (.pT rfl rfl) ?_
            refine VO.k17 0 2 4 5 6 7 8 9 10 14 15 16 27 42 43 44 71 ?_
            refine VC.condT rfl ?_
            refine VC.rs ?_
            refine VO.y rfl (.bst (cs := [Value.int .i64 (0), Value.int .i64 (0), Value.slice none (0) (0)]) rfl tst32 tz32 rfl) ?_
            refine VO.store (k := 3) (c' := [Value.int .i64 (0), Value.int .i64 (0), Value.slice none (0) (0)]) 102 rfl rfl (.inl tk32) rfl rfl rfl rfl rfl ?_
            refine VO.as ?_
            refine VO.kp [120, 118, 2104, 102, 0] [(120, l_m), (118, mone g17 (.cells [Value.int .i64 (((sX d0 1048576 : Nat) : Int)), Value.int .i64 (((sX (d0.drop (sN d0 1048576)) 1048576 : Nat) : Int)), Value.slice l_A (l.length) (l_c)].toArray 32 (0, 0))), (2104, mone g3 (.cells [Value.int .i64 (((sX d0 1048576 : Nat) : Int)), Value.int .i64 (((sX (d0.drop (sN d0 1048576)) 1048576 : Nat) : Int)), Value.int .i64 (((sX ((d0.drop (sN d0 1048576)).drop (sN (d0.drop (sN d0 1048576)) 1048576)) 1024 : Nat) : Int))].toArray 85 (0, 0))), (102, mone g1 (.cells [Value.int .i64 (0), Value.int .i64 (0), Value.slice none (0) (0)].toArray 32 (0, 0))), (0, wm W)] ?_
            refine VO.k18 0 2 3 4 5 6 7 8 9 10 14 15 16 27 42 43 44 71 ?_
            refine VC.ret ?_
            refine outR ?_
            refine ⟨_, _, res_run (rs := [.cell 2 32, .tmp 3]) rfl (.agg 102 rfl tk32 rfl ⟨_, _, _, mone_self _ _, Nat.le_of_ble_eq_true rfl, rfl⟩ (.tmp rfl .nil)), fun W_ hI => out_of (l := []) hI [] rfl rfl (mle_refl _) (fun hS_ => ?_)⟩
            dsimp only [packV]
            have he0 : ((runDecode d0).1 : Ty.Den TRun) = (0, 0, []) := by first | rfl | (exact fin0_runDecode_ok)
            refine ⟨[Value.int .i64 (0), Value.int .i64 (0), Value.slice none (0) (0)], ?_, ?_⟩
            rotate_left
            · rw [he0]; exact (mkO_Run 0 0 [] (Seps.nilAt 0 hS_) bdk bdk (Ow.nil _ _))
            all_goals (first | rfl | (exact fin0_runDecode_ok))
          · -- RFRFRFRFF
            refine VO.gy rfl ⟨_, rfl, rfl⟩ (.ldA 118 rfl tk32 rfl (cellsAt_one rfl rfl)) ?_
            refine VO.gcallN 133 rfl ⟨_, rfl, rfl⟩ fnOk14 rfl (fun W hW => runCheck_ok_ W (mk_Run (m := wm W) ((sX d0 1048576 : Nat) : Int) ((sX (d0.drop (sN d0 1048576)) 1048576 : Nat) : Int) l bdk bdk (OwnL.rd h_l (hW.at (i := 120) rfl) (mle_nil _)))) (fun v33 m33 hv33 => ?_)
            try dsimp only at hv33
            subst hv33
            have hfa34 := runCheck_range (((sX d0 1048576 : Nat) : Int), ((sX (d0.drop (sN d0 1048576)) 1048576 : Nat) : Int), l)
            refine VO.gy rfl ⟨_, rfl, rfl⟩ (.neq rfl rfl) ?_
            refine VO.y rfl (.pF rfl rfl) ?_
            refine VO.k17 0 2 4 5 6 7 8 9 10 14 15 16 27 42 43 44 71 ?_
            refine VC.cond rfl (fun hc35 => ?_) (fun hc35 => ?_)
            · -- RFRFRFRFFT
              refine VC.rs ?_
              refine VO.y rfl (.bst (cs := [Value.int .i64 (0), Value.int .i64 (0), Value.slice none (0) (0)]) rfl tst32 tz32 rfl) ?_
              refine VO.store (k := 3) (c' := [Value.int .i64 (0), Value.int .i64 (0), Value.slice none (0) (0)]) 102 rfl rfl (.inl tk32) rfl rfl rfl rfl rfl ?_
              refine VO.as ?_
              refine VO.kp [120, 118, 2104, 102, 0] [(120, l_m), (118, mone g17 (.cells [Value.int .i64 (((sX d0 1048576 : Nat) : Int)), Value.int .i64 (((sX (d0.drop (sN d0 1048576)) 1048576 : Nat) : Int)), Value.slice l_A (l.length) (l_c)].toArray 32 (0, 0))), (2104, mone g3 (.cells [Value.int .i64 (((sX d0 1048576 : Nat) : Int)), Value.int .i64 (((sX (d0.drop (sN d0 1048576)) 1048576 : Nat) : Int)), Value.int .i64 (((sX ((d0.drop (sN d0 1048576)).drop (sN (d0.drop (sN d0 1048576)) 1048576)) 1024 : Nat) : Int))].toArray 85 (0, 0))), (102, mone g1 (.cells [Value.int .i64 (0), Value.int .i64 (0), Value.slice none (0) (0)].toArray 32 (0, 0))), (0, wm W)] ?_
              refine VO.k18 0 2 3 4 5 6 7 8 9 10 14 15 16 27 42 43 44 71 ?_
              refine VC.ret ?_
              refine outR ?_
              refine ⟨_, _, res_run (rs := [.cell 2 32, .tmp 3]) rfl (.agg 102 rfl tk32 rfl ⟨_, _, _, mone_self _ _, Nat.le_of_ble_eq_true rfl, rfl⟩ (.tmp rfl .nil)), fun W_ hI => out_of (l := []) hI [] rfl rfl (mle_refl _) (fun hS_ => ?_)⟩
              dsimp only [packV]
              have he0 : ((runDecode d0).1 : Ty.Den TRun) = (0, 0, []) := by first | rfl | (exact fin0_runDecode_ok)
              refine ⟨[Value.int .i64 (0), Value.int .i64 (0), Value.slice none (0) (0)], ?_, ?_⟩
              rotate_left
              · rw [he0]; exact (mkO_Run 0 0 [] (Seps.nilAt 0 hS_) bdk bdk (Ow.nil _ _))
              all_goals (first | rfl | (exact fin0_runDecode_ok))
            · -- RFRFRFRFFF
              refine VC.skip ?_
              refine outN ?_
              refine VC.rs ?_
              refine VO.y rfl (.ldA 118 rfl tk32 rfl (cellsAt_one rfl rfl)) ?_
              refine VO.store (k := 3) (c' := [Value.int .i64 (((sX d0 1048576 : Nat) : Int)), Value.int .i64 (((sX (d0.drop (sN d0 1048576)) 1048576 : Nat) : Int)), Value.slice l_A (l.length) (l_c)]) 102 rfl rfl (.inl tk32) rfl rfl rfl rfl rfl ?_
              refine VO.as ?_
              refine VO.kp [120, 118, 2104, 102, 0] [(120, l_m), (118, mone g17 (.cells [Value.int .i64 (((sX d0 1048576 : Nat) : Int)), Value.int .i64 (((sX (d0.drop (sN d0 1048576)) 1048576 : Nat) : Int)), Value.slice l_A (l.length) (l_c)].toArray 32 (0, 0))), (2104, mone g3 (.cells [Value.int .i64 (((sX d0 1048576 : Nat) : Int)), Value.int .i64 (((sX (d0.drop (sN d0 1048576)) 1048576 : Nat) : Int)), Value.int .i64 (((sX ((d0.drop (sN d0 1048576)).drop (sN (d0.drop (sN d0 1048576)) 1048576)) 1024 : Nat) : Int))].toArray 85 (0, 0))), (102, mone g1 (.cells [Value.int .i64 (((sX d0 1048576 : Nat) : Int)), Value.int .i64 (((sX (d0.drop (sN d0 1048576)) 1048576 : Nat) : Int)), Value.slice l_A (l.length) (l_c)].toArray 32 (0, 0))), (0, wm W)] ?_
              refine VO.k18 0 2 3 4 5 6 7 8 9 10 14 15 16 27 42 43 44 71 ?_
              refine VC.ret ?_
              refine ⟨_, _, res_run (rs := [.cell 2 32, .tmp 3]) rfl (.agg 102 rfl tk32 rfl ⟨_, _, _, mone_self _ _, Nat.le_of_ble_eq_true rfl, rfl⟩ (.tmp rfl .nil)), fun W_ hI => out_of (l := [l_m]) hI [120] rfl rfl (mle_refl _) (fun hS_ => ?_)⟩
              dsimp only [packV]
              have he0 : ((runDecode d0).1 : Ty.Den TRun) = (((sX d0 1048576 : Nat) : Int), ((sX (d0.drop (sN d0 1048576)) 1048576 : Nat) : Int), l) := by first | rfl | (exact fin0_runDecode_ok)
              refine ⟨[Value.int .i64 (((sX d0 1048576 : Nat) : Int)), Value.int .i64 (((sX (d0.drop (sN d0 1048576)) 1048576 : Nat) : Int)), Value.slice l_A (l.length) (l_c)], ?_, ?_⟩
              rotate_left
              · rw [he0]; exact (mkO_Run ((sX d0 1048576 : Nat) : Int) ((sX (d0.drop (sN d0 1048576)) 1048576 : Nat) : Int) l hS_ bdk bdk (OwnL.ow h_l rfl))
              all_goals (first | rfl | (exact fin0_runDecode_ok))
theorem fnOk63 : fnOk Try.prog 63 = true := by kernel_rfl
theorem fnOk64 : fnOk Try.prog 64 = true := by kernel_rfl
theorem tsl50 : tsl Try.prog 50 = some (38, 1, 24) := by kernel_rfl
theorem tsl52 : tsl Try.prog 52 = some (30, 1, 24) := by kernel_rfl
theorem tz30 : tz Try.prog 30 = some [.slice none 0 0] := by kernel_rfl
theorem tz38 : tz Try.prog 38 = some [.slice none 0 0] := by kernel_rfl
theorem OverBytes_ok (W : World) {m0 : Mem} (hm : mle (m0) (wm W)) {v0 : Value} {d0 : List UInt8} (h0 : Ow (.sl .byte) m0 [v0] d0) : CallR Try.prog 63 [v0] W (m0) (fun v m' => v = .tuple #[] ∧ Ow (.sl .byte) m' [v0] (d0.map cplB)) := by
  obtain ⟨A0, c0, e0_, l0, k0⟩ := h0.slice
  subst e0_
  simp only [maxLen] at k0
  refine CallR.ofB (n := 27) hm Try.func63 rfl rfl rfl ?_
  refine VC.rs ?_
  refine VO.mv ?_
  refine VO.y rfl (.capS rfl tsl38) ?_
  refine VO.as ?_
  refine VO.k2 0 2 ?_
  refine VC.seq ?_
  refine VC.rs ?_
  refine VO.as ?_
  refine VO.k3 0 2 3 ?_
  refine VC.block ?_
  refine VC.loop (G := Nat × (List UInt8) × Mem) (fun g => [(0, Value.slice A0 (d0.length) (c0)), (3, Value.int .i64 ((((g.1) : Nat) : Int))), (2, Value.int .i64 (((c0 : Nat) : Int)))]) (fun g => [(0, mout (wm W) (m0)), (1, (g.2.2))]) (fun g => ((g.1) ≤ d0.length) ∧ ((g.2.1) = (d0.take (g.1)).map cplB ++ d0.drop (g.1)) ∧ (OwnL .byte (g.2.2) mnil (.slice A0 (d0.length) (c0)) (g.2.1))) (fun g => d0.length - (g.1)) (0, d0, m0) (⟨by omega, by simp, (Ow.ownl h0 rfl mnil)⟩) ⟨⟨rfl, rfl, rfl, trivial⟩, fun _ h => h.sub [0, 1]⟩ ?_
  rintro ⟨k, l, l_m⟩ ⟨hk, hl, h_l⟩
  replace hk : k ≤ d0.length := hk
  replace hl : l = (d0.take k).map cplB ++ d0.drop k := hl
  replace h_l : OwnL .byte l_m mnil (.slice A0 (d0.length) (c0)) l := h_l
  show VC _ _ _ _ _ [(0, Value.slice A0 (d0.length) (c0)), (3, Value.int .i64 (((k : Nat) : Int))), (2, Value.int .i64 (((c0 : Nat) : Int)))] [(0, mout (wm W) (m0)), (1, l_m)]
  have ll_l := slice_len (OwnL.ow h_l rfl)
  refine VC.seq ?_
  refine VC.rs ?_
  refine VO.mv ?_
  refine VO.mv ?_
  refine VO.y rfl (.lenS rfl tsl38) ?_
  refine VO.y rfl (.lss rfl rfl) ?_
  refine VO.kp [0, 1] [(0, mout (wm W) (m0)), (1, l_m)] ?_
  refine VO.k4 0 2 3 9 ?_
  refine VC.cond rfl (fun hc1 => ?_) (fun hc1 => ?_)
  · -- T
    refine VC.skip ?_
    refine outN ?_
    refine VC.seq ?_
    refine VC.block ?_
    refine VC.reg ?_
    refine VO.mv ?_
    refine VO.mv ?_
    refine VO.mv ?_
    refine VO.mv ?_
    obtain ⟨x2, hx2⟩ : ∃ z_, (l)[k]? = some z_ := ⟨_, List.getElem?_eq_getElem bd⟩
    obtain ⟨gg2, oo2, ec2, ea2, hce2, hre2⟩ := h_l.elem hx2
    cases ea2
    obtain rfl := (show _ = _ from hre2)
    have xb2 := x2.toNat_lt
    refine VO.y rfl (.ixI k rfl rfl tsl38 rfl bd) ?_
    refine VO.y rfl (.ld1 1 rfl tk5 rfl hce2) ?_
    refine VO.y rfl (.cplB rfl bd) ?_
    refine VO.y rfl (.ixI k rfl rfl tsl38 rfl bd) ?_
    refine VO.upd (e := .byte) (k := 1) (i := k) (x' := UInt8.ofNat (255 - x2.toNat)) 1 0 rfl rfl (.inr ⟨tk5, rfl⟩) rfl rfl rfl (OwnL.ow h_l rfl) rfl hx2 rfl (fun mi ec he => upd1 he rfl rfl (rd_byteN bd)) (fun mu4 hu4 => ?_)
    have hl4 := slice_len hu4
    refine VO.k4 0 2 3 9 ?_
    refine outBN ?_
    refine outN ?_
    refine VC.reg ?_
    refine VO.mv ?_
    refine VO.y rfl (.add (c := ((k + 1 : Nat) : Int)) rfl rfl (by omega) ⟨bd, bd⟩) ?_
    refine VO.as ?_
    refine VO.k4 0 2 3 9 ?_
    exact outN ⟨⟨k + 1, (l).set k (UInt8.ofNat (255 - x2.toNat)), mu4⟩, ⟨by omega, by exact over_next hl ‹l[k]? = some _›, (Ow.ownl hu4 rfl mnil)⟩, bd, ⟨⟨rfl, rfl, rfl, trivial⟩, fun _ h => Inv.sub h [0, 1]⟩⟩
  · -- F
    refine VC.exit ?_
    refine outE ?_
    refine outE ?_
    refine outBB ?_
    refine outN ?_
    refine VC.block ?_
    refine VC.loop (G := (List UInt8) × Mem × Nat) (fun g => [(0, Value.slice A0 ((g.2.2)) (c0)), (2, Value.int .i64 (((c0 : Nat) : Int))), (3, Value.int .i64 (((k : Nat) : Int))), (9, Value.bool (decide (((k : Nat) : Int) < ((d0.length : Nat) : Int))))]) (fun g => [(0, mout (wm W) (m0)), (1, (g.2.1))]) (fun g => (∃ j, (g.1) = d0.map cplB ++ List.replicate j 99) ∧ ((g.2.2) ≤ c0) ∧ (OwnL .byte (g.2.1) mnil (.slice A0 ((g.2.2)) (c0)) (g.1))) (fun g => c0 - (g.2.2)) (l, l_m, d0.length) (⟨by (exact ⟨0, by rw [hl, List.take_of_length_le (by omega), List.drop_of_length_le (by omega)]; simp⟩), by omega, h_l⟩) ⟨⟨rfl, rfl, rfl, rfl, trivial⟩, fun _ h => h.sub [0, 1]⟩ ?_
    rintro ⟨l2, l2_m, l2_n⟩ ⟨hl2, hc, h_l2⟩
    replace hl2 : ∃ j, l2 = d0.map cplB ++ List.replicate j 99 := hl2
    replace hc : l2_n ≤ c0 := hc
    replace h_l2 : OwnL .byte l2_m mnil (.slice A0 (l2_n) (c0)) l2 := h_l2
    show VC _ _ _ _ _ [(0, Value.slice A0 (l2_n) (c0)), (2, Value.int .i64 (((c0 : Nat) : Int))), (3, Value.int .i64 (((k : Nat) : Int))), (9, Value.bool (decide (((k : Nat) : Int) < ((d0.length : Nat) : Int))))] [(0, mout (wm W) (m0)), (1, l2_m)]
    have ll_l2 := slice_len (OwnL.ow h_l2 rfl)
    refine VC.seq ?_
    refine VC.rs ?_
    refine VO.mv ?_
    refine VO.y rfl (.lenS rfl tsl38) ?_
    refine VO.mv ?_
    refine VO.y rfl (.lss rfl rfl) ?_
    refine VO.k5 0 2 3 9 23 ?_
    refine VC.cond rfl (fun hc5 => ?_) (fun hc5 => ?_)
    · -- FT
      refine VC.skip ?_
      refine outN ?_
      refine VC.block ?_
      refine VC.reg ?_
      refine VO.mv ?_
      refine VO.bsl (cs := [Value.int .u8 (99)]) 107 rfl rfl tsl38 tz5 rfl rfl (fun g6 => ?_)
      refine VO.inv ((109, mnil) :: _) (fun _ h => h.nilc 109) ?_
      have hxl8 := slice_len (OwnL.ow h_l2 rfl)
      refine VO.appI (e := .byte) (xs := l2) (cap := c0) (A := A0) (l := l2_n) 1 109 107 rfl rfl rfl tsl38 rfl rfl rfl (OwnL.ow h_l2 rfl) (Ow.of (m := mnil) rfl (rd_byteN bd)) Try.underlying38 (cellsAt_one rfl rfl) bd (fun m8 ho8 => ?_)
      refine VO.as ?_
      refine VO.k5 0 2 3 9 23 ?_
      refine outBN ?_
      exact outN ⟨⟨l2 ++ [UInt8.ofNat 99], m8, l2_n + 1⟩, ⟨by exact over_more hl2, by dsimp only; omega, (Ow.ownl ho8 rfl mnil)⟩, by (dsimp only; omega), ⟨⟨rfl, rfl, rfl, rfl, trivial⟩, fun _ h => Inv.sub h [0, 1]⟩⟩
    · -- FF
      refine VC.exit ?_
      refine outE ?_
      refine outE ?_
      refine outBB ?_
      have hcut0 := Ow.pre (j := d0.length) (OwnL.ow h_l2 rfl) bd
      refine ⟨_, _, res_run (rs := []) rfl .nil, fun W_ hI => out_of (l := [l2_m]) hI [1] rfl rfl (mle_refl _) (fun hS_ => ?_)⟩
      dsimp only [packV]
      have hm0_ : (d0.map cplB : Ty.Den (.sl .byte)) = (l2).take d0.length := by first | rfl | (obtain ⟨j, rfl⟩ := hl2; simp)
      refine ⟨?_, ?_⟩
      rotate_left
      · rw [hm0_]; exact (Ow.up hcut0 (hS_.1 _ (.head _)))
      all_goals (first | rfl | (simp [*]; done))
theorem fin0_ApartBytes_ok {P : Prop} (h : P := by first | omega | (simp only [List.length_append, List.length_nil, List.length_cons, List.length_take, List.length_drop] at *; omega) | (have h_ := apart_len hl4 hw4 ‹l[_]? = some _› ‹was[_]? = some _›; omega) | (exact e1 _ (List.mem_of_getElem? ‹d0[_]? = some _›))) : P := h
theorem ApartBytes_ok (W : World) {m0 : Mem} (hm : mle (m0) (wm W)) {v0 : Value} {d0 : List (List UInt8)} (h0 : Ow (.sl (.sl .byte)) m0 [v0] d0) (e0 : d0.length ≤ 1000) (e1 : ∀ x ∈ d0, x.length ≤ 140737488355000) : CallR Try.prog 26 [v0] W (m0) (fun v m' => v = .bool true) := by
  obtain ⟨A0, c0, e0_, l0, k0⟩ := h0.slice
  subst e0_
  simp only [maxLen] at k0
  refine CallR.ofB (n := 77) hm Try.func26 rfl rfl rfl ?_
  refine VC.rs ?_
  refine VO.as ?_
  refine VO.k2 0 2 ?_
  refine VC.rs ?_
  refine VO.mv ?_
  refine VO.y rfl (.lenS rfl tsl50) ?_
  refine VO.mks (e := (.sl .byte)) (a := ((d0.length : Nat) : Int)) (k := d0.length) 101 rfl rfl rfl rfl tsl50 tz38 (y := []) (Ow.nil _ mnil) (by simp only [maxLen]; (exact fin0_ApartBytes_ok)) (by exact fin0_ApartBytes_ok) (by decide) (fun v1 m1 hk1 => ?_)
  obtain ⟨A1, c1, rfl, l1, k1⟩ := hk1.slice
  simp only [maxLen] at k1
  have ln1 : (List.replicate d0.length ([] : List UInt8)).length = d0.length := List.length_replicate
  refine VO.as ?_
  refine VO.k3 0 2 3 ?_
  refine VC.seq ?_
  refine VC.rs ?_
  refine VO.as ?_
  refine VO.kp [101, 0, 1] [(101, m1), (0, mout (wm W) (m0)), (1, m0)] ?_
  refine VO.k4 0 2 3 4 ?_
  refine VC.block ?_
  refine VC.loop (G := Nat × (List (List UInt8)) × Mem) (fun g => [(3, Value.slice A1 ((List.replicate d0.length ([] : List UInt8)).length) (c1)), (4, Value.int .i64 ((((g.1) : Nat) : Int))), (0, Value.slice A0 (d0.length) (c0)), (2, Value.bool false)]) (fun g => [(101, (g.2.2)), (0, mout (wm W) (m0)), (1, m0)]) (fun g => ((g.1) ≤ d0.length) ∧ ((g.2.1) = d0.take (g.1) ++ List.replicate (d0.length - (g.1)) []) ∧ (Ow (.sl (.sl .byte)) (g.2.2) [.slice A1 ((List.replicate d0.length ([] : List UInt8)).length) (c1)] (g.2.1))) (fun g => d0.length - (g.1)) (0, List.replicate d0.length ([] : List UInt8), m1) (⟨by omega, by simp, hk1⟩) ⟨⟨rfl, rfl, rfl, rfl, trivial⟩, fun _ h => h.sub [101, 0, 1]⟩ ?_
  rintro ⟨i, was, was_m⟩ ⟨hi, hw, h_was⟩
  replace hi : i ≤ d0.length := hi
  replace hw : was = d0.take i ++ List.replicate (d0.length - i) [] := hw
  replace h_was : Ow (.sl (.sl .byte)) was_m [.slice A1 ((List.replicate d0.length ([] : List UInt8)).length) (c1)] was := h_was
  show VC _ _ _ _ _ [(3, Value.slice A1 ((List.replicate d0.length ([] : List UInt8)).length) (c1)), (4, Value.int .i64 (((i : Nat) : Int))), (0, Value.slice A0 (d0.length) (c0)), (2, Value.bool false)] [(101, was_m), (0, mout (wm W) (m0)), (1, m0)]
  have ll_was := slice_len h_was
  refine VC.seq ?_
  refine VC.rs ?_
  refine VO.mv ?_
  refine VO.mv ?_
  refine VO.y rfl (.lenS rfl tsl50) ?_
  refine VO.y rfl (.lss rfl rfl) ?_
  refine VO.k5 0 2 3 4 14 ?_
  refine VC.cond rfl (fun hc2 => ?_) (fun hc2 => ?_)
  · -- T
    refine VC.skip ?_
    refine outN ?_
    refine VC.seq ?_
    refine VC.block ?_
    refine VC.reg ?_
    refine VO.mv ?_
    refine VO.mv ?_
    refine VO.mv ?_
    refine VO.mv ?_
    obtain ⟨x3, hx3⟩ : ∃ z_, (d0)[i]? = some z_ := ⟨_, List.getElem?_eq_getElem (by exact fin0_ApartBytes_ok)⟩
    obtain ⟨gg3, oo3, ec3, ea3, hce3, hre3⟩ := (Ow.rd h0 (mle_refl _)).elem hx3
    cases ea3
    have hr3 := hre3
    obtain ⟨A3_, c3_, rfl, _⟩ := hre3
    have rr3 := Rd.room hr3
    refine VO.y rfl (.ixI i rfl rfl tsl50 rfl (by exact fin0_ApartBytes_ok)) ?_
    refine VO.y rfl (.ld1 1 rfl tk38 rfl hce3) ?_
    refine VO.callN 104 rfl fnOk51 rfl (fun W hW => CopyBytes_ok W (Rd.mono hr3 (hW.at (i := 1) rfl)) (by exact fin0_ApartBytes_ok)) (fun v4 m4 hv4 => ?_)
    obtain ⟨s4_0, rfl, f4_0⟩ := hv4
    obtain ⟨A4_0, c4_0, eq4_0, l4_0, k4_0⟩ := f4_0.slice
    subst eq4_0
    simp only [maxLen] at k4_0
    obtain ⟨x5, hx5⟩ : ∃ z_, (was)[i]? = some z_ := ⟨_, List.getElem?_eq_getElem (by exact fin0_ApartBytes_ok)⟩
    obtain ⟨gg5, oo5, ec5, ea5, hce5, hre5⟩ := (Ow.rd h_was (mle_refl _)).elem hx5
    cases ea5
    have hr5 := hre5
    obtain ⟨A5_, c5_, rfl, _⟩ := hre5
    have rr5 := Rd.room hr5
    refine VO.y rfl (.ixI i rfl rfl tsl50 rfl (by exact fin0_ApartBytes_ok)) ?_
    refine VO.setE (e := (.sl .byte)) (k := 1) (i := i) 101 104 rfl rfl (.inr ⟨tk38, rfl⟩) rfl rfl rfl rfl h_was rfl hx5 (x' := x3) (Ow.up (OwnL.ow (Ow.ownl f4_0 rfl mnil) rfl) ((Seps.one (mle_refl _)).1 _ (.head _))) (fun mu6 hu6 => ?_)
    have hl6 := slice_len hu6
    refine VO.k5 0 2 3 4 14 ?_
    refine outBN ?_
    refine outN ?_
    refine VC.reg ?_
    refine VO.mv ?_
    refine VO.y rfl (.add (c := ((i + 1 : Nat) : Int)) rfl rfl (by omega) ⟨by exact fin0_ApartBytes_ok, by exact fin0_ApartBytes_ok⟩) ?_
    refine VO.as ?_
    refine VO.kp [101, 0, 1] [(101, mu6), (0, mout (wm W) (m0)), (1, m0)] ?_
    refine VO.k5 0 2 3 4 14 ?_
    exact outN ⟨⟨i + 1, (was).set i x3, mu6⟩, ⟨by omega, by exact fill_next hw ‹d0[i]? = some _›, hu6⟩, by exact fin0_ApartBytes_ok, ⟨⟨rfl, rfl, rfl, rfl, trivial⟩, fun _ h => Inv.sub h [101, 0, 1]⟩⟩
  · -- F
    refine VC.exit ?_
    refine outE ?_
    refine outE ?_
    refine outBB ?_
    refine outN ?_
    refine VC.seq ?_
    refine VC.rs ?_
    refine VO.as ?_
    refine VO.k6 0 2 3 4 5 14 ?_
    refine VC.block ?_
    refine VC.loop (G := Nat × (List (List UInt8)) × Mem) (fun g => [(0, Value.slice A0 (d0.length) (c0)), (5, Value.int .i64 ((((g.1) : Nat) : Int))), (3, Value.slice A1 ((List.replicate d0.length ([] : List UInt8)).length) (c1)), (4, Value.int .i64 (((i : Nat) : Int))), (14, Value.bool (decide (((i : Nat) : Int) < ((d0.length : Nat) : Int))))]) (fun g => [(101, was_m), (0, mout (wm W) (m0)), (1, (g.2.2))]) (fun g => (was = d0) ∧ ((g.1) ≤ d0.length) ∧ ((g.2.1) = (d0.take (g.1)).map (List.map cplB) ++ d0.drop (g.1)) ∧ (Ow (.sl (.sl .byte)) (g.2.2) [.slice A0 (d0.length) (c0)] (g.2.1))) (fun g => d0.length - (g.1)) (0, d0, m0) (⟨by exact fill_all hw (by omega), by omega, by simp, h0⟩) ⟨⟨rfl, rfl, rfl, rfl, rfl, trivial⟩, fun _ h => h.sub [101, 0, 1]⟩ ?_
    rintro ⟨j, l, l_m⟩ ⟨hw2, hj, hl, h_l⟩
    replace hw2 : was = d0 := hw2
    replace hj : j ≤ d0.length := hj
    replace hl : l = (d0.take j).map (List.map cplB) ++ d0.drop j := hl
    replace h_l : Ow (.sl (.sl .byte)) l_m [.slice A0 (d0.length) (c0)] l := h_l
    show VC _ _ _ _ _ [(0, Value.slice A0 (d0.length) (c0)), (5, Value.int .i64 (((j : Nat) : Int))), (3, Value.slice A1 ((List.replicate d0.length ([] : List UInt8)).length) (c1)), (4, Value.int .i64 (((i : Nat) : Int))), (14, Value.bool (decide (((i : Nat) : Int) < ((d0.length : Nat) : Int))))] [(101, was_m), (0, mout (wm W) (m0)), (1, l_m)]
    have ll_l := slice_len h_l
    refine VC.seq ?_
    refine VC.rs ?_
    refine VO.mv ?_
    refine VO.mv ?_
    refine VO.y rfl (.lenS rfl tsl50) ?_
    refine VO.y rfl (.lss rfl rfl) ?_
    refine VO.kp [101, 0, 1] [(101, was_m), (0, mout (wm W) (m0)), (1, l_m)] ?_
    refine VO.k6 0 3 4 5 14 28 ?_
    refine VC.cond rfl (fun hc7 => ?_) (fun hc7 => ?_)
    · -- FT
      refine VC.skip ?_
      refine outN ?_
      refine VC.seq ?_
      refine VC.block ?_
      refine VC.seq ?_
      refine VC.seq ?_
      refine VC.regD _ 8 [(0, true), (1, true), (2, true), (3, true), (4, true), (5, true), (6, true), (7, true)] follows (by kernel_rfl) (fun _ h => h.sub [101, 0, 1]) ?_
      refine VD.y rfl rfl (.inl rfl) (.mv rfl) ?_
      refine VD.y rfl rfl (.inl rfl) (.mv rfl) ?_
      obtain ⟨x8, hx8⟩ : ∃ z_, (l)[j]? = some z_ := ⟨_, List.getElem?_eq_getElem (by exact fin0_ApartBytes_ok)⟩
      obtain ⟨gg8, oo8, ec8, ea8, hce8, hre8⟩ := (Ow.rd h_l (mle_refl _)).elem hx8
      cases ea8
      have hr8 := hre8
      obtain ⟨A8_, c8_, rfl, _⟩ := hre8
      have rr8 := Rd.room hr8
      refine VD.y rfl rfl (.inl rfl) (.ixI j rfl rfl tsl50 rfl (by exact fin0_ApartBytes_ok)) ?_
      refine VD.y rfl rfl (.inl rfl) (.ld1 1 rfl tk38 rfl hce8) ?_
      refine VD.y rfl rfl (.inl rfl) (.mv rfl) ?_
      refine VD.y rfl rfl (.inl rfl) (.mv rfl) ?_
      obtain ⟨x9, hx9⟩ : ∃ z_, (was)[j]? = some z_ := ⟨_, List.getElem?_eq_getElem (by exact fin0_ApartBytes_ok)⟩
      obtain ⟨gg9, oo9, ec9, ea9, hce9, hre9⟩ := (Ow.rd h_was (mle_refl _)).elem hx9
      cases ea9
      have hr9 := hre9
      obtain ⟨A9_, c9_, rfl, _⟩ := hre9
      have rr9 := Rd.room hr9
      refine VD.y rfl rfl (.inl rfl) (.ixI j rfl rfl tsl50 rfl (by exact fin0_ApartBytes_ok)) ?_
      refine VD.y rfl rfl (.inl rfl) (.ld1 101 rfl tk38 rfl hce9) ?_
      refine VD.nil rfl ?_ rfl
      refine VO.callN 110 rfl fnOk22 rfl (fun W hW => SameBytes_ok W (Rd.mono hr8 (hW.at (i := 1) rfl)) (Rd.mono hr9 (hW.at (i := 101) rfl))) (fun v10 m10 hv10 => ?_)
      subst hv10
      refine VO.y rfl (.notD rfl) ?_
      refine VO.k7 0 3 4 5 14 28 40 ?_
      refine outN ?_
      refine VC.cond rfl (fun hc11 => ?_) (fun hc11 => ?_)
      · -- FTT
        exact absurd (apart_same hl hw2 ‹l[j]? = some _› ‹was[j]? = some _›) hc11
      · -- FTF
        refine VC.skip ?_
        refine outN ?_
        refine VC.reg ?_
        refine VO.mv ?_
        refine VO.mv ?_
        refine VO.y rfl (.ixI j rfl rfl tsl50 rfl (by exact fin0_ApartBytes_ok)) ?_
        refine VO.y rfl (.ld1 1 rfl tk38 rfl hce8) ?_
        obtain ⟨mr13, me13, hH13, hE13, hB13⟩ := Ow.hole h_l hx8 hce8
        refine VO.parts 1 [1, 114] rfl hH13 ?_
        refine VO.call 114 rfl fnOk63 rfl rfl (fun W hW => OverBytes_ok W (hW.at (i := 114) rfl) hE13) (fun v13 m13 hv13 => ?_)
        obtain ⟨rfl, w13_0⟩ := hv13
        have wl13_0 := slice_len w13_0
        refine VO.gather (l := [mr13, m13]) 1 [1, 114] rfl (fun hg13 => ?_)
        have hL13 := Seps.back hg13 (fun hd_ => hB13 _ _ hd_ w13_0)
        have hl13 := slice_len hL13
        refine VO.k7 0 3 4 5 14 28 40 ?_
        refine outBN ?_
        refine outN ?_
        refine VC.reg ?_
        refine VO.mv ?_
        refine VO.y rfl (.add (c := ((j + 1 : Nat) : Int)) rfl rfl (by omega) ⟨by exact fin0_ApartBytes_ok, by exact fin0_ApartBytes_ok⟩) ?_
        refine VO.as ?_
        refine VO.kp [1, 101, 0] [(1, muns [mr13, m13]), (101, was_m), (0, mout (wm W) (m0))] ?_
        refine VO.k7 0 3 4 5 14 28 40 ?_
        exact outN ⟨⟨j + 1, (l).set j (x8.map cplB), muns [mr13, m13]⟩, ⟨by exact hw2, by omega, by exact (over_set hl ‹l[j]? = some _›).2, hL13⟩, by exact fin0_ApartBytes_ok, ⟨⟨rfl, rfl, rfl, rfl, rfl, trivial⟩, fun _ h => Inv.sub h [101, 0, 1]⟩⟩
    · -- FF
      refine VC.exit ?_
      refine outE ?_
      refine outE ?_
      refine outBB ?_
      refine outN ?_
      refine VC.seq ?_
      refine VC.rs ?_
      refine VO.as ?_
      refine VO.k7 0 3 4 5 6 14 28 ?_
      refine VC.block ?_
      refine VC.loop (G := Nat) (fun p => [(6, Value.int .i64 (((p : Nat) : Int))), (0, Value.slice A0 (d0.length) (c0)), (3, Value.slice A1 ((List.replicate d0.length ([] : List UInt8)).length) (c1)), (4, Value.int .i64 (((i : Nat) : Int))), (5, Value.int .i64 (((j : Nat) : Int))), (14, Value.bool (decide (((i : Nat) : Int) < ((d0.length : Nat) : Int)))), (28, Value.bool (decide (((j : Nat) : Int) < ((d0.length : Nat) : Int))))]) (fun p => [(101, was_m), (0, mout (wm W) (m0)), (1, l_m)]) (fun p => (was = d0) ∧ (p ≤ d0.length) ∧ (l = d0.map (List.map cplB))) (fun p => d0.length - p) 0 (⟨by exact hw2, by omega, by exact over_all hl (by omega)⟩) ⟨⟨rfl, rfl, rfl, rfl, rfl, rfl, rfl, trivial⟩, fun _ h => h.sub [101, 0, 1]⟩ ?_
      rintro p ⟨hw4, hp, hl4⟩
      refine VC.seq ?_
      refine VC.rs ?_
      refine VO.mv ?_
      refine VO.mv ?_
      refine VO.y rfl (.lenS rfl tsl50) ?_
      refine VO.y rfl (.lss rfl rfl) ?_
      refine VO.k8 0 3 4 5 6 14 28 49 ?_
      refine VC.cond rfl (fun hc15 => ?_) (fun hc15 => ?_)
      · -- FFT
        refine VC.skip ?_
        refine outN ?_
        refine VC.seq ?_
        refine VC.block ?_
        refine VC.rs ?_
        refine VO.as ?_
        refine VO.kp [101, 0, 1] [(101, was_m), (0, mout (wm W) (m0)), (1, l_m)] ?_
        refine VO.k9 0 3 4 5 6 7 14 28 49 ?_
        refine VC.block ?_
        refine VC.loop (G := Nat) (fun k => [(7, Value.int .i64 (((k : Nat) : Int))), (0, Value.slice A0 (d0.length) (c0)), (3, Value.slice A1 ((List.replicate d0.length ([] : List UInt8)).length) (c1)), (4, Value.int .i64 (((i : Nat) : Int))), (5, Value.int .i64 (((j : Nat) : Int))), (6, Value.int .i64 (((p : Nat) : Int))), (14, Value.bool (decide (((i : Nat) : Int) < ((d0.length : Nat) : Int)))), (28, Value.bool (decide (((j : Nat) : Int) < ((d0.length : Nat) : Int)))), (49, Value.bool (decide (((p : Nat) : Int) < ((d0.length : Nat) : Int))))]) (fun k => [(101, was_m), (0, mout (wm W) (m0)), (1, l_m)]) (fun k => (k ≤ 9223372036854775807)) (fun k => 9223372036854775807 - k) 0 (by omega) ⟨⟨rfl, rfl, rfl, rfl, rfl, rfl, rfl, rfl, rfl, trivial⟩, fun _ h => h.sub [101, 0, 1]⟩ ?_
        rintro k hk
        refine VC.seq ?_
        refine VC.rs ?_
        refine VO.mv ?_
        refine VO.mv ?_
        refine VO.mv ?_
        obtain ⟨x16, hx16⟩ : ∃ z_, (l)[p]? = some z_ := ⟨_, List.getElem?_eq_getElem (by exact fin0_ApartBytes_ok)⟩
        obtain ⟨gg16, oo16, ec16, ea16, hce16, hre16⟩ := (Ow.rd h_l (mle_refl _)).elem hx16
        cases ea16
        have hr16 := hre16
        obtain ⟨A16_, c16_, rfl, _⟩ := hre16
        have rr16 := Rd.room hr16
        refine VO.y rfl (.ixI p rfl rfl tsl50 rfl (by exact fin0_ApartBytes_ok)) ?_
        refine VO.y rfl (.ld1 1 rfl tk38 rfl hce16) ?_
        refine VO.y rfl (.lenS rfl tsl38) ?_
        refine VO.y rfl (.lss rfl rfl) ?_
        refine VO.k10 0 3 4 5 6 7 14 28 49 58 ?_
        refine VC.cond rfl (fun hc17 => ?_) (fun hc17 => ?_)
        · -- FFTT
          refine VC.skip ?_
          refine outN ?_
          refine VC.seq ?_
          refine VC.block ?_
          refine VC.seq ?_
          refine VC.regD _ 15 [(0, true), (1, true), (2, true), (3, true), (4, true), (5, true), (6, true), (7, true), (8, true), (9, true), (10, true), (11, true), (12, true), (13, true), (14, true)] follows (by kernel_rfl) (fun _ h => h.sub [101, 0, 1]) ?_
          refine VD.y rfl rfl (.inl rfl) (.mv rfl) ?_
          refine VD.y rfl rfl (.inl rfl) (.mv rfl) ?_
          refine VD.y rfl rfl (.inl rfl) (.ixI p rfl rfl tsl50 rfl (by exact fin0_ApartBytes_ok)) ?_
          refine VD.y rfl rfl (.inl rfl) (.ld1 1 rfl tk38 rfl hce16) ?_
          refine VD.y rfl rfl (.inl rfl) (.mv rfl) ?_
          obtain ⟨x19, hx19⟩ : ∃ z_, (x16)[k]? = some z_ := ⟨_, List.getElem?_eq_getElem (by exact fin0_ApartBytes_ok)⟩
          obtain ⟨gg19, oo19, ec19, ea19, hce19, hre19⟩ := hr16.elem hx19
          cases ea19
          obtain rfl := (show _ = _ from hre19)
          have xb19 := x19.toNat_lt
          refine VD.y rfl rfl (.inl rfl) (.ixI k rfl rfl tsl38 rfl (by exact fin0_ApartBytes_ok)) ?_
          refine VD.y rfl rfl (.inl rfl) (.ld1 1 rfl tk5 rfl hce19) ?_
          refine VD.y rfl rfl (.inl rfl) (.mv rfl) ?_
          refine VD.y rfl rfl (.inl rfl) (.mv rfl) ?_
          obtain ⟨x20, hx20⟩ : ∃ z_, (was)[p]? = some z_ := ⟨_, List.getElem?_eq_getElem (by exact fin0_ApartBytes_ok)⟩
          obtain ⟨gg20, oo20, ec20, ea20, hce20, hre20⟩ := (Ow.rd h_was (mle_refl _)).elem hx20
          cases ea20
          have hr20 := hre20
          obtain ⟨A20_, c20_, rfl, _⟩ := hre20
          have rr20 := Rd.room hr20
          refine VD.y rfl rfl (.inl rfl) (.ixI p rfl rfl tsl50 rfl (by exact fin0_ApartBytes_ok)) ?_
          refine VD.y rfl rfl (.inl rfl) (.ld1 101 rfl tk38 rfl hce20) ?_
          refine VD.y rfl rfl (.inl rfl) (.mv rfl) ?_
          obtain ⟨x21, hx21⟩ : ∃ z_, (x20)[k]? = some z_ := ⟨_, List.getElem?_eq_getElem (by exact fin0_ApartBytes_ok)⟩
          obtain ⟨gg21, oo21, ec21, ea21, hce21, hre21⟩ := hr20.elem hx21
          cases ea21
          obtain rfl := (show _ = _ from hre21)
          have xb21 := x21.toNat_lt
          refine VD.y rfl rfl (.inl rfl) (.ixI k rfl rfl tsl38 rfl (by exact fin0_ApartBytes_ok)) ?_
          refine VD.y rfl rfl (.inl rfl) (.ld1 101 rfl tk5 rfl hce21) ?_
          refine VD.y rfl rfl (.inl rfl) (.cplB rfl (by exact fin0_ApartBytes_ok)) ?_
          refine VD.nil rfl ?_ rfl
          refine VO.y rfl (.neq rfl rfl) ?_
          refine VO.k11 0 3 4 5 6 7 14 28 49 58 76 ?_
          refine outN ?_
          refine VC.cond rfl (fun hc22 => ?_) (fun hc22 => ?_)
          · -- FFTTT
            exact absurd (by have h_ := apart_eq (f := cplB) hl4 hw4 ‹l[p]? = some _› ‹was[p]? = some _› (by assumption) (by assumption); rw [h_, cplB_toNat]) hc22
          · -- FFTTF
            refine VC.skip ?_
            refine outBN ?_
            refine outN ?_
            refine VC.reg ?_
            refine VO.mv ?_
            refine VO.y rfl (.add (c := ((k + 1 : Nat) : Int)) rfl rfl (by omega) ⟨by exact fin0_ApartBytes_ok, by exact fin0_ApartBytes_ok⟩) ?_
            refine VO.as ?_
            refine VO.kp [101, 0, 1] [(101, was_m), (0, mout (wm W) (m0)), (1, l_m)] ?_
            refine VO.k11 0 3 4 5 6 7 14 28 49 58 76 ?_
            exact outN ⟨k + 1, by omega, by exact fin0_ApartBytes_ok, ⟨⟨rfl, rfl, rfl, rfl, rfl, rfl, rfl, rfl, rfl, trivial⟩, fun _ h => Inv.sub h [101, 0, 1]⟩⟩
        · -- FFTF
          refine VC.exit ?_
          refine outE ?_
          refine outE ?_
          refine outBB ?_
          refine outBN ?_
          refine outN ?_
          refine VC.reg ?_
          refine VO.mv ?_
          refine VO.y rfl (.add (c := ((p + 1 : Nat) : Int)) rfl rfl (by omega) ⟨by exact fin0_ApartBytes_ok, by exact fin0_ApartBytes_ok⟩) ?_
          refine VO.as ?_
          refine VO.k10 0 3 4 5 6 7 14 28 49 58 ?_
          exact outN ⟨p + 1, ⟨by exact hw4, by omega, by exact hl4⟩, by exact fin0_ApartBytes_ok, ⟨⟨rfl, rfl, rfl, rfl, rfl, rfl, rfl, trivial⟩, fun _ h => Inv.sub h [101, 0, 1]⟩⟩
      · -- FFF
        refine VC.exit ?_
        refine outE ?_
        refine outE ?_
        refine outBB ?_
        refine outN ?_
        refine VC.rs ?_
        refine VO.as ?_
        refine VO.kp [101, 0, 1] [(101, was_m), (0, mout (wm W) (m0)), (1, l_m)] ?_
        refine VO.k9 0 2 3 4 5 6 14 28 49 ?_
        refine VC.ret ?_
        refine ⟨_, _, res_run (rs := [.tmp 2]) rfl (.tmp rfl .nil), fun W_ hI => out_of (l := []) hI [] rfl rfl (mle_refl _) (fun hS_ => ?_)⟩
        dsimp only [packV]
        all_goals (first | rfl | (simp [*]; done))
theorem fin0_overOps_ok {P : Prop} (h : P := by first | omega | (simp only [List.length_append, List.length_nil, List.length_cons, List.length_take, List.length_drop] at *; omega) | (have h_ := e0 _ (List.mem_of_getElem? (over_set hl ‹l[_]? = some _›).1); omega) | (have h_ := e0 _ (List.mem_of_getElem? (over_set hl ‹l[_]? = some _›).1); simp only [List.length_append, List.length_cons, List.length_nil] at *; omega)) : P := h
theorem overOps_ok (W : World) {m0 : Mem} (hm : mle (m0) (wm W)) {v0 : Value} {d0 : List DOp} (h0 : Ow (.sl TOp) m0 [v0] d0) (e0 : ∀ o ∈ d0, o.2.1.length ≤ 140737488400000) : CallR Try.prog 64 [v0] W (m0) (fun v m' => v = .tuple #[] ∧ Ow (.sl TOp) m' [v0] (d0.map overOp)) := by
  obtain ⟨A0, c0, e0_, l0, k0⟩ := h0.slice
  subst e0_
  simp only [maxLen] at k0
  refine CallR.ofB (n := 30) hm Try.func64 rfl rfl rfl ?_
  refine VC.rs ?_
  refine VO.mv ?_
  refine VO.y rfl (.capS rfl tsl30) ?_
  refine VO.as ?_
  refine VO.k2 0 2 ?_
  refine VC.seq ?_
  refine VC.rs ?_
  refine VO.as ?_
  refine VO.k3 0 2 3 ?_
  refine VC.block ?_
  refine VC.loop (G := Nat × (List DOp) × Mem) (fun g => [(0, Value.slice A0 (d0.length) (c0)), (3, Value.int .i64 ((((g.1) : Nat) : Int))), (2, Value.int .i64 (((c0 : Nat) : Int)))]) (fun g => [(0, mout (wm W) (m0)), (1, (g.2.2))]) (fun g => ((g.1) ≤ d0.length) ∧ ((g.2.1) = (d0.take (g.1)).map overOp ++ d0.drop (g.1)) ∧ (OwnL TOp (g.2.2) mnil (.slice A0 (d0.length) (c0)) (g.2.1))) (fun g => d0.length - (g.1)) (0, d0, m0) (⟨by omega, by simp, (Ow.ownl h0 rfl mnil)⟩) ⟨⟨rfl, rfl, rfl, trivial⟩, fun _ h => h.sub [0, 1]⟩ ?_
  rintro ⟨k, l, l_m⟩ ⟨hk, hl, h_l⟩
  replace hk : k ≤ d0.length := hk
  replace hl : l = (d0.take k).map overOp ++ d0.drop k := hl
  replace h_l : OwnL TOp l_m mnil (.slice A0 (d0.length) (c0)) l := h_l
  show VC _ _ _ _ _ [(0, Value.slice A0 (d0.length) (c0)), (3, Value.int .i64 (((k : Nat) : Int))), (2, Value.int .i64 (((c0 : Nat) : Int)))] [(0, mout (wm W) (m0)), (1, l_m)]
  have ll_l := slice_len (OwnL.ow h_l rfl)
  refine VC.seq ?_
  refine VC.rs ?_
  refine VO.mv ?_
  refine VO.mv ?_
  refine VO.y rfl (.lenS rfl tsl30) ?_
  refine VO.y rfl (.lss rfl rfl) ?_
  refine VO.kp [0, 1] [(0, mout (wm W) (m0)), (1, l_m)] ?_
  refine VO.k4 0 2 3 9 ?_
  refine VC.cond rfl (fun hc1 => ?_) (fun hc1 => ?_)
  · -- T
    refine VC.skip ?_
    refine outN ?_
    refine VC.seq ?_
    refine VC.block ?_
    refine VC.reg ?_
    refine VO.mv ?_
    refine VO.mv ?_
    refine VO.mv ?_
    refine VO.mv ?_
    obtain ⟨x2, hx2⟩ : ∃ z_, (l)[k]? = some z_ := ⟨_, List.getElem?_eq_getElem (by exact fin0_overOps_ok)⟩
    obtain ⟨gg2, oo2, ec2, ea2, hce2, hre2⟩ := h_l.elem hx2
    cases ea2
    obtain ⟨rfl, q2_1, q2_2⟩ := open_Op (x0 := x2.1) (x1 := x2.2.1) (x2 := x2.2.2) hre2
    simp only [maxLen] at q2_1
    simp only [maxLen] at q2_2
    refine VO.y rfl (.ixI k rfl rfl tsl30 rfl (by exact fin0_overOps_ok)) ?_
    refine VO.y rfl (.fa rfl tst35 rfl) ?_
    refine VO.y rfl (.ld1 1 rfl tk9 rfl (hce2.at1 (j := 1) rfl)) ?_
    refine VO.y rfl (.scat rfl rfl (by exact fin0_overOps_ok)) ?_
    refine VO.y rfl (.ixI k rfl rfl tsl30 rfl (by exact fin0_overOps_ok)) ?_
    refine VO.y rfl (.fa rfl tst35 rfl) ?_
    refine VO.upd (e := TOp) (k := 1) (i := k) (x' := (x2.1, x2.2.1 ++ ([126]), x2.2.2)) 1 1 rfl rfl (.inr ⟨tk9, rfl⟩) rfl rfl rfl (OwnL.ow h_l rfl) rfl hx2 rfl (fun mi ec he => by obtain ⟨rfl, z1, z2⟩ := open_Op (x0 := x2.1) (x1 := x2.2.1) (x2 := x2.2.2) (he.rd (mle_refl _)); exact Ow.of (m := mnil) rfl (mk_Op x2.1 (x2.2.1 ++ ([126])) x2.2.2 (by simp only [maxLen]; (exact fin0_overOps_ok)) z2)) (fun mu4 hu4 => ?_)
    have hl4 := slice_len hu4
    refine VO.k4 0 2 3 9 ?_
    refine outBN ?_
    refine outN ?_
    refine VC.reg ?_
    refine VO.mv ?_
    refine VO.y rfl (.add (c := ((k + 1 : Nat) : Int)) rfl rfl (by omega) ⟨by exact fin0_overOps_ok, by exact fin0_overOps_ok⟩) ?_
    refine VO.as ?_
    refine VO.k4 0 2 3 9 ?_
    exact outN ⟨⟨k + 1, (l).set k (x2.1, x2.2.1 ++ ([126]), x2.2.2), mu4⟩, ⟨by omega, by exact (over_set (f := overOp) hl ‹l[k]? = some _›).2, (Ow.ownl hu4 rfl mnil)⟩, by exact fin0_overOps_ok, ⟨⟨rfl, rfl, rfl, trivial⟩, fun _ h => Inv.sub h [0, 1]⟩⟩
  · -- F
    refine VC.exit ?_
    refine outE ?_
    refine outE ?_
    refine outBB ?_
    refine outN ?_
    refine VC.block ?_
    refine VC.loop (G := (List DOp) × Mem × Nat) (fun g => [(0, Value.slice A0 ((g.2.2)) (c0)), (2, Value.int .i64 (((c0 : Nat) : Int))), (3, Value.int .i64 (((k : Nat) : Int))), (9, Value.bool (decide (((k : Nat) : Int) < ((d0.length : Nat) : Int))))]) (fun g => [(0, mout (wm W) (m0)), (1, (g.2.1))]) (fun g => (∃ j, (g.1) = d0.map overOp ++ List.replicate j (false, [111, 118, 101, 114], [])) ∧ ((g.2.2) ≤ c0) ∧ (OwnL TOp (g.2.1) mnil (.slice A0 ((g.2.2)) (c0)) (g.1))) (fun g => c0 - (g.2.2)) (l, l_m, d0.length) (⟨by (exact ⟨0, by rw [hl, List.take_of_length_le (by omega), List.drop_of_length_le (by omega)]; simp⟩), by omega, h_l⟩) ⟨⟨rfl, rfl, rfl, rfl, trivial⟩, fun _ h => h.sub [0, 1]⟩ ?_
    rintro ⟨l2, l2_m, l2_n⟩ ⟨hl2, hc, h_l2⟩
    replace hl2 : ∃ j, l2 = d0.map overOp ++ List.replicate j (false, [111, 118, 101, 114], []) := hl2
    replace hc : l2_n ≤ c0 := hc
    replace h_l2 : OwnL TOp l2_m mnil (.slice A0 (l2_n) (c0)) l2 := h_l2
    show VC _ _ _ _ _ [(0, Value.slice A0 (l2_n) (c0)), (2, Value.int .i64 (((c0 : Nat) : Int))), (3, Value.int .i64 (((k : Nat) : Int))), (9, Value.bool (decide (((k : Nat) : Int) < ((d0.length : Nat) : Int))))] [(0, mout (wm W) (m0)), (1, l2_m)]
    have ll_l2 := slice_len (OwnL.ow h_l2 rfl)
    refine VC.seq ?_
    refine VC.rs ?_
    refine VO.mv ?_
    refine VO.y rfl (.lenS rfl tsl30) ?_
    refine VO.mv ?_
    refine VO.y rfl (.lss rfl rfl) ?_
    refine VO.k5 0 2 3 9 25 ?_
    refine VC.cond rfl (fun hc5 => ?_) (fun hc5 => ?_)
    · -- FT
      refine VC.skip ?_
      refine outN ?_
      refine VC.block ?_
      refine VC.reg ?_
      refine VO.mv ?_
      refine VO.y rfl (.bst (cs := [Value.bool false, str ([111, 118, 101, 114]), str ([])]) rfl tst35 tz35 rfl) ?_
      refine VO.bsl (cs := [Value.bool false, str ([111, 118, 101, 114]), str ([])]) 107 rfl rfl tsl30 tz35 rfl rfl (fun g6 => ?_)
      refine VO.inv ((109, mnil) :: _) (fun _ h => h.nilc 109) ?_
      have hxl8 := slice_len (OwnL.ow h_l2 rfl)
      refine VO.appI (e := TOp) (xs := l2) (cap := c0) (A := A0) (l := l2_n) 1 109 107 rfl rfl rfl tsl30 rfl rfl rfl (OwnL.ow h_l2 rfl) (Ow.of (m := mnil) rfl (mk_Op (m := _) false ([111, 118, 101, 114]) [] (by simp only [maxLen]; (exact fin0_overOps_ok)) (by simp only [maxLen]; (exact fin0_overOps_ok)))) Try.underlying30 (cellsAt_one rfl rfl) (by exact fin0_overOps_ok) (fun m8 ho8 => ?_)
      refine VO.as ?_
      refine VO.k5 0 2 3 9 25 ?_
      refine outBN ?_
      exact outN ⟨⟨l2 ++ [(false, [111, 118, 101, 114], [])], m8, l2_n + 1⟩, ⟨by exact over_more hl2, by dsimp only; omega, (Ow.ownl ho8 rfl mnil)⟩, by (dsimp only; omega), ⟨⟨rfl, rfl, rfl, rfl, trivial⟩, fun _ h => Inv.sub h [0, 1]⟩⟩
    · -- FF
      refine VC.exit ?_
      refine outE ?_
      refine outE ?_
      refine outBB ?_
      have hcut0 := Ow.pre (j := d0.length) (OwnL.ow h_l2 rfl) (by exact fin0_overOps_ok)
      refine ⟨_, _, res_run (rs := []) rfl .nil, fun W_ hI => out_of (l := [l2_m]) hI [1] rfl rfl (mle_refl _) (fun hS_ => ?_)⟩
      dsimp only [packV]
      have hm0_ : (d0.map overOp : Ty.Den (.sl TOp)) = (l2).take d0.length := by first | rfl | (obtain ⟨j, rfl⟩ := hl2; simp)
      refine ⟨?_, ?_⟩
      rotate_left
      · rw [hm0_]; exact (Ow.up hcut0 (hS_.1 _ (.head _)))
      all_goals (first | rfl | (simp [*]; done))
theorem fin0_ApartOps_ok {P : Prop} (h : P := by first | omega | (simp only [List.length_append, List.length_nil, List.length_cons, List.length_take, List.length_drop] at *; omega) | (have h_ := apart_len hl4 hw4 ‹l[_]? = some _› ‹was[_]? = some _›; omega) | (have h_ := key_of hw4 e1 ‹was[_]? = some _› (by assumption); simp only [List.length_append, List.length_cons, List.length_nil] at *; omega) | (exact (e1 _ (List.mem_of_getElem? ‹d0[_]? = some _›)).1)) : P := h
theorem ApartOps_ok (W : World) {m0 : Mem} (hm : mle (m0) (wm W)) {v0 : Value} {d0 : List (List DOp)} (h0 : Ow (.sl (.sl TOp)) m0 [v0] d0) (e0 : d0.length ≤ 1000) (e1 : ∀ x ∈ d0, x.length ≤ 3518437208800 ∧ ∀ o ∈ x, o.2.1.length ≤ 140737488400000) : CallR Try.prog 27 [v0] W (m0) (fun v m' => v = .bool true) := by
  obtain ⟨A0, c0, e0_, l0, k0⟩ := h0.slice
  subst e0_
  simp only [maxLen] at k0
  refine CallR.ofB (n := 79) hm Try.func27 rfl rfl rfl ?_
  refine VC.rs ?_
  refine VO.as ?_
  refine VO.k2 0 2 ?_
  refine VC.rs ?_
  refine VO.mv ?_
  refine VO.y rfl (.lenS rfl tsl52) ?_
  refine VO.mks (e := (.sl TOp)) (a := ((d0.length : Nat) : Int)) (k := d0.length) 101 rfl rfl rfl rfl tsl52 tz30 (y := []) (Ow.nil _ mnil) (by simp only [maxLen]; (exact fin0_ApartOps_ok)) (by exact fin0_ApartOps_ok) (by decide) (fun v1 m1 hk1 => ?_)
  obtain ⟨A1, c1, rfl, l1, k1⟩ := hk1.slice
  simp only [maxLen] at k1
  have ln1 : (List.replicate d0.length ([] : List DOp)).length = d0.length := List.length_replicate
  refine VO.as ?_
  refine VO.k3 0 2 3 ?_
  refine VC.seq ?_
  refine VC.rs ?_
  refine VO.as ?_
  refine VO.kp [101, 0, 1] [(101, m1), (0, mout (wm W) (m0)), (1, m0)] ?_
  refine VO.k4 0 2 3 4 ?_
  refine VC.block ?_
  refine VC.loop (G := Nat × (List (List DOp)) × Mem) (fun g => [(3, Value.slice A1 ((List.replicate d0.length ([] : List DOp)).length) (c1)), (4, Value.int .i64 ((((g.1) : Nat) : Int))), (0, Value.slice A0 (d0.length) (c0)), (2, Value.bool false)]) (fun g => [(101, (g.2.2)), (0, mout (wm W) (m0)), (1, m0)]) (fun g => ((g.1) ≤ d0.length) ∧ ((g.2.1) = d0.take (g.1) ++ List.replicate (d0.length - (g.1)) []) ∧ (Ow (.sl (.sl TOp)) (g.2.2) [.slice A1 ((List.replicate d0.length ([] : List DOp)).length) (c1)] (g.2.1))) (fun g => d0.length - (g.1)) (0, List.replicate d0.length ([] : List DOp), m1) (⟨by omega, by simp, hk1⟩) ⟨⟨rfl, rfl, rfl, rfl, trivial⟩, fun _ h => h.sub [101, 0, 1]⟩ ?_
  rintro ⟨i, was, was_m⟩ ⟨hi, hw, h_was⟩
  replace hi : i ≤ d0.length := hi
  replace hw : was = d0.take i ++ List.replicate (d0.length - i) [] := hw
  replace h_was : Ow (.sl (.sl TOp)) was_m [.slice A1 ((List.replicate d0.length ([] : List DOp)).length) (c1)] was := h_was
  show VC _ _ _ _ _ [(3, Value.slice A1 ((List.replicate d0.length ([] : List DOp)).length) (c1)), (4, Value.int .i64 (((i : Nat) : Int))), (0, Value.slice A0 (d0.length) (c0)), (2, Value.bool false)] [(101, was_m), (0, mout (wm W) (m0)), (1, m0)]
  have ll_was := slice_len h_was
  refine VC.seq ?_
  refine VC.rs ?_
  refine VO.mv ?_
  refine VO.mv ?_
  refine VO.y rfl (.lenS rfl tsl52) ?_
  refine VO.y rfl (.lss rfl rfl) ?_
  refine VO.k5 0 2 3 4 14 ?_
  refine VC.cond rfl (fun hc2 => ?_) (fun hc2 => ?_)
  · -- T
    refine VC.skip ?_
    refine outN ?_
    refine VC.seq ?_
    refine VC.block ?_
    refine VC.reg ?_
    refine VO.mv ?_
    refine VO.mv ?_
    refine VO.mv ?_
    refine VO.mv ?_
    obtain ⟨x3, hx3⟩ : ∃ z_, (d0)[i]? = some z_ := ⟨_, List.getElem?_eq_getElem (by exact fin0_ApartOps_ok)⟩
    obtain ⟨gg3, oo3, ec3, ea3, hce3, hre3⟩ := (Ow.rd h0 (mle_refl _)).elem hx3
    cases ea3
    have hr3 := hre3
    obtain ⟨A3_, c3_, rfl, _⟩ := hre3
    have rr3 := Rd.room hr3
    refine VO.y rfl (.ixI i rfl rfl tsl52 rfl (by exact fin0_ApartOps_ok)) ?_
    refine VO.y rfl (.ld1 1 rfl tk30 rfl hce3) ?_
    refine VO.callN 104 rfl fnOk50 rfl (fun W hW => CopyOps_ok W (Rd.mono hr3 (hW.at (i := 1) rfl)) (by exact fin0_ApartOps_ok)) (fun v4 m4 hv4 => ?_)
    obtain ⟨s4_0, rfl, f4_0⟩ := hv4
    obtain ⟨A4_0, c4_0, eq4_0, l4_0, k4_0⟩ := f4_0.slice
    subst eq4_0
    simp only [maxLen] at k4_0
    obtain ⟨x5, hx5⟩ : ∃ z_, (was)[i]? = some z_ := ⟨_, List.getElem?_eq_getElem (by exact fin0_ApartOps_ok)⟩
    obtain ⟨gg5, oo5, ec5, ea5, hce5, hre5⟩ := (Ow.rd h_was (mle_refl _)).elem hx5
    cases ea5
    have hr5 := hre5
    obtain ⟨A5_, c5_, rfl, _⟩ := hre5
    have rr5 := Rd.room hr5
    refine VO.y rfl (.ixI i rfl rfl tsl52 rfl (by exact fin0_ApartOps_ok)) ?_
    refine VO.setE (e := (.sl TOp)) (k := 1) (i := i) 101 104 rfl rfl (.inr ⟨tk30, rfl⟩) rfl rfl rfl rfl h_was rfl hx5 (x' := x3) (Ow.up (OwnL.ow (Ow.ownl f4_0 rfl mnil) rfl) ((Seps.one (mle_refl _)).1 _ (.head _))) (fun mu6 hu6 => ?_)
    have hl6 := slice_len hu6
    refine VO.k5 0 2 3 4 14 ?_
    refine outBN ?_
    refine outN ?_
    refine VC.reg ?_
    refine VO.mv ?_
    refine VO.y rfl (.add (c := ((i + 1 : Nat) : Int)) rfl rfl (by omega) ⟨by exact fin0_ApartOps_ok, by exact fin0_ApartOps_ok⟩) ?_
    refine VO.as ?_
    refine VO.kp [101, 0, 1] [(101, mu6), (0, mout (wm W) (m0)), (1, m0)] ?_
    refine VO.k5 0 2 3 4 14 ?_
    exact outN ⟨⟨i + 1, (was).set i x3, mu6⟩, ⟨by omega, by exact fill_next hw ‹d0[i]? = some _›, hu6⟩, by exact fin0_ApartOps_ok, ⟨⟨rfl, rfl, rfl, rfl, trivial⟩, fun _ h => Inv.sub h [101, 0, 1]⟩⟩
  · -- F
    refine VC.exit ?_
    refine outE ?_
    refine outE ?_
    refine outBB ?_
    refine outN ?_
    refine VC.seq ?_
    refine VC.rs ?_
    refine VO.as ?_
    refine VO.k6 0 2 3 4 5 14 ?_
    refine VC.block ?_
    refine VC.loop (G := Nat × (List (List DOp)) × Mem) (fun g => [(0, Value.slice A0 (d0.length) (c0)), (5, Value.int .i64 ((((g.1) : Nat) : Int))), (3, Value.slice A1 ((List.replicate d0.length ([] : List DOp)).length) (c1)), (4, Value.int .i64 (((i : Nat) : Int))), (14, Value.bool (decide (((i : Nat) : Int) < ((d0.length : Nat) : Int))))]) (fun g => [(101, was_m), (0, mout (wm W) (m0)), (1, (g.2.2))]) (fun g => (was = d0) ∧ ((g.1) ≤ d0.length) ∧ ((g.2.1) = (d0.take (g.1)).map (List.map overOp) ++ d0.drop (g.1)) ∧ (Ow (.sl (.sl TOp)) (g.2.2) [.slice A0 (d0.length) (c0)] (g.2.1))) (fun g => d0.length - (g.1)) (0, d0, m0) (⟨by exact fill_all hw (by omega), by omega, by simp, h0⟩) ⟨⟨rfl, rfl, rfl, rfl, rfl, trivial⟩, fun _ h => h.sub [101, 0, 1]⟩ ?_
    rintro ⟨j, l, l_m⟩ ⟨hw2, hj, hl, h_l⟩
    replace hw2 : was = d0 := hw2
    replace hj : j ≤ d0.length := hj
    replace hl : l = (d0.take j).map (List.map overOp) ++ d0.drop j := hl
    replace h_l : Ow (.sl (.sl TOp)) l_m [.slice A0 (d0.length) (c0)] l := h_l
    show VC _ _ _ _ _ [(0, Value.slice A0 (d0.length) (c0)), (5, Value.int .i64 (((j : Nat) : Int))), (3, Value.slice A1 ((List.replicate d0.length ([] : List DOp)).length) (c1)), (4, Value.int .i64 (((i : Nat) : Int))), (14, Value.bool (decide (((i : Nat) : Int) < ((d0.length : Nat) : Int))))] [(101, was_m), (0, mout (wm W) (m0)), (1, l_m)]
    have ll_l := slice_len h_l
    refine VC.seq ?_
    refine VC.rs ?_
    refine VO.mv ?_
    refine VO.mv ?_
    refine VO.y rfl (.lenS rfl tsl52) ?_
    refine VO.y rfl (.lss rfl rfl) ?_
    refine VO.kp [101, 0, 1] [(101, was_m), (0, mout (wm W) (m0)), (1, l_m)] ?_
    refine VO.k6 0 3 4 5 14 28 ?_
    refine VC.cond rfl (fun hc7 => ?_) (fun hc7 => ?_)
    · -- FT
      refine VC.skip ?_
      refine outN ?_
      refine VC.seq ?_
      refine VC.block ?_
      refine VC.seq ?_
      refine VC.seq ?_
      refine VC.regD _ 8 [(0, true), (1, true), (2, true), (3, true), (4, true), (5, true), (6, true), (7, true)] follows (by kernel_rfl) (fun _ h => h.sub [101, 0, 1]) ?_
      refine VD.y rfl rfl (.inl rfl) (.mv rfl) ?_
      refine VD.y rfl rfl (.inl rfl) (.mv rfl) ?_
      obtain ⟨x8, hx8⟩ : ∃ z_, (l)[j]? = some z_ := ⟨_, List.getElem?_eq_getElem (by exact fin0_ApartOps_ok)⟩
      obtain ⟨gg8, oo8, ec8, ea8, hce8, hre8⟩ := (Ow.rd h_l (mle_refl _)).elem hx8
      cases ea8
      have hr8 := hre8
      obtain ⟨A8_, c8_, rfl, _⟩ := hre8
      have rr8 := Rd.room hr8
      refine VD.y rfl rfl (.inl rfl) (.ixI j rfl rfl tsl52 rfl (by exact fin0_ApartOps_ok)) ?_
      refine VD.y rfl rfl (.inl rfl) (.ld1 1 rfl tk30 rfl hce8) ?_
      refine VD.y rfl rfl (.inl rfl) (.mv rfl) ?_
      refine VD.y rfl rfl (.inl rfl) (.mv rfl) ?_
      obtain ⟨x9, hx9⟩ : ∃ z_, (was)[j]? = some z_ := ⟨_, List.getElem?_eq_getElem (by exact fin0_ApartOps_ok)⟩
      obtain ⟨gg9, oo9, ec9, ea9, hce9, hre9⟩ := (Ow.rd h_was (mle_refl _)).elem hx9
      cases ea9
      have hr9 := hre9
      obtain ⟨A9_, c9_, rfl, _⟩ := hre9
      have rr9 := Rd.room hr9
      refine VD.y rfl rfl (.inl rfl) (.ixI j rfl rfl tsl52 rfl (by exact fin0_ApartOps_ok)) ?_
      refine VD.y rfl rfl (.inl rfl) (.ld1 101 rfl tk30 rfl hce9) ?_
      refine VD.nil rfl ?_ rfl
      refine VO.callN 110 rfl fnOk62 rfl (fun W hW => SameOps_ok W (Rd.mono hr8 (hW.at (i := 1) rfl)) (Rd.mono hr9 (hW.at (i := 101) rfl))) (fun v10 m10 hv10 => ?_)
      subst hv10
      refine VO.y rfl (.notD rfl) ?_
      refine VO.k7 0 3 4 5 14 28 40 ?_
      refine outN ?_
      refine VC.cond rfl (fun hc11 => ?_) (fun hc11 => ?_)
      · -- FTT
        exact absurd (apart_same hl hw2 ‹l[j]? = some _› ‹was[j]? = some _›) hc11
      · -- FTF
        refine VC.skip ?_
        refine outN ?_
        refine VC.reg ?_
        refine VO.mv ?_
        refine VO.mv ?_
        refine VO.y rfl (.ixI j rfl rfl tsl52 rfl (by exact fin0_ApartOps_ok)) ?_
        refine VO.y rfl (.ld1 1 rfl tk30 rfl hce8) ?_
        obtain ⟨mr13, me13, hH13, hE13, hB13⟩ := Ow.hole h_l hx8 hce8
        refine VO.parts 1 [1, 114] rfl hH13 ?_
        refine VO.call 114 rfl fnOk64 rfl rfl (fun W hW => overOps_ok W (hW.at (i := 114) rfl) hE13 (by exact fun o ho => (e1 _ (List.mem_of_getElem? (over_set hl ‹l[_]? = some _›).1)).2 o ho)) (fun v13 m13 hv13 => ?_)
        obtain ⟨rfl, w13_0⟩ := hv13
        have wl13_0 := slice_len w13_0
        refine VO.gather (l := [mr13, m13]) 1 [1, 114] rfl (fun hg13 => ?_)
        have hL13 := Seps.back hg13 (fun hd_ => hB13 _ _ hd_ w13_0)
        have hl13 := slice_len hL13
        refine VO.k7 0 3 4 5 14 28 40 ?_
        refine outBN ?_
        refine outN ?_
        refine VC.reg ?_
        refine VO.mv ?_
        refine VO.y rfl (.add (c := ((j + 1 : Nat) : Int)) rfl rfl (by omega) ⟨by exact fin0_ApartOps_ok, by exact fin0_ApartOps_ok⟩) ?_
        refine VO.as ?_
        refine VO.kp [1, 101, 0] [(1, muns [mr13, m13]), (101, was_m), (0, mout (wm W) (m0))] ?_
        refine VO.k7 0 3 4 5 14 28 40 ?_
        exact outN ⟨⟨j + 1, (l).set j (x8.map overOp), muns [mr13, m13]⟩, ⟨by exact hw2, by omega, by exact (over_set hl ‹l[j]? = some _›).2, hL13⟩, by exact fin0_ApartOps_ok, ⟨⟨rfl, rfl, rfl, rfl, rfl, trivial⟩, fun _ h => Inv.sub h [101, 0, 1]⟩⟩
    · -- FF
      refine VC.exit ?_
      refine outE ?_
      refine outE ?_
      refine outBB ?_
      refine outN ?_
      refine VC.seq ?_
      refine VC.rs ?_
      refine VO.as ?_
      refine VO.k7 0 3 4 5 6 14 28 ?_
      refine VC.block ?_
      refine VC.loop (G := Nat) (fun p => [(6, Value.int .i64 (((p : Nat) : Int))), (0, Value.slice A0 (d0.length) (c0)), (3, Value.slice A1 ((List.replicate d0.length ([] : List DOp)).length) (c1)), (4, Value.int .i64 (((i : Nat) : Int))), (5, Value.int .i64 (((j : Nat) : Int))), (14, Value.bool (decide (((i : Nat) : Int) < ((d0.length : Nat) : Int)))), (28, Value.bool (decide (((j : Nat) : Int) < ((d0.length : Nat) : Int))))]) (fun p => [(101, was_m), (0, mout (wm W) (m0)), (1, l_m)]) (fun p => (was = d0) ∧ (p ≤ d0.length) ∧ (l = d0.map (List.map overOp))) (fun p => d0.length - p) 0 (⟨by exact hw2, by omega, by exact over_all hl (by omega)⟩) ⟨⟨rfl, rfl, rfl, rfl, rfl, rfl, rfl, trivial⟩, fun _ h => h.sub [101, 0, 1]⟩ ?_
      rintro p ⟨hw4, hp, hl4⟩
      refine VC.seq ?_
      refine VC.rs ?_
      refine VO.mv ?_
      refine VO.mv ?_
      refine VO.y rfl (.lenS rfl tsl52) ?_
      refine VO.y rfl (.lss rfl rfl) ?_
      refine VO.k8 0 3 4 5 6 14 28 49 ?_
      refine VC.cond rfl (fun hc15 => ?_) (fun hc15 => ?_)
      · -- FFT
        refine VC.skip ?_
        refine outN ?_
        refine VC.seq ?_
        refine VC.block ?_
        refine VC.rs ?_
        refine VO.as ?_
        refine VO.kp [101, 0, 1] [(101, was_m), (0, mout (wm W) (m0)), (1, l_m)] ?_
        refine VO.k9 0 3 4 5 6 7 14 28 49 ?_
        refine VC.block ?_
        refine VC.loop (G := Nat) (fun k => [(7, Value.int .i64 (((k : Nat) : Int))), (0, Value.slice A0 (d0.length) (c0)), (3, Value.slice A1 ((List.replicate d0.length ([] : List DOp)).length) (c1)), (4, Value.int .i64 (((i : Nat) : Int))), (5, Value.int .i64 (((j : Nat) : Int))), (6, Value.int .i64 (((p : Nat) : Int))), (14, Value.bool (decide (((i : Nat) : Int) < ((d0.length : Nat) : Int)))), (28, Value.bool (decide (((j : Nat) : Int) < ((d0.length : Nat) : Int)))), (49, Value.bool (decide (((p : Nat) : Int) < ((d0.length : Nat) : Int))))]) (fun k => [(101, was_m), (0, mout (wm W) (m0)), (1, l_m)]) (fun k => (k ≤ 9223372036854775807)) (fun k => 9223372036854775807 - k) 0 (by omega) ⟨⟨rfl, rfl, rfl, rfl, rfl, rfl, rfl, rfl, rfl, trivial⟩, fun _ h => h.sub [101, 0, 1]⟩ ?_
        rintro k hk
        refine VC.seq ?_
        refine VC.rs ?_
        refine VO.mv ?_
        refine VO.mv ?_
        refine VO.mv ?_
        obtain ⟨x16, hx16⟩ : ∃ z_, (l)[p]? = some z_ := ⟨_, List.getElem?_eq_getElem (by exact fin0_ApartOps_ok)⟩
        obtain ⟨gg16, oo16, ec16, ea16, hce16, hre16⟩ := (Ow.rd h_l (mle_refl _)).elem hx16
        cases ea16
        have hr16 := hre16
        obtain ⟨A16_, c16_, rfl, _⟩ := hre16
        have rr16 := Rd.room hr16
        refine VO.y rfl (.ixI p rfl rfl tsl52 rfl (by exact fin0_ApartOps_ok)) ?_
        refine VO.y rfl (.ld1 1 rfl tk30 rfl hce16) ?_
        refine VO.y rfl (.lenS rfl tsl30) ?_
        refine VO.y rfl (.lss rfl rfl) ?_
        refine VO.k10 0 3 4 5 6 7 14 28 49 58 ?_
        refine VC.cond rfl (fun hc17 => ?_) (fun hc17 => ?_)
        · -- FFTT
          refine VC.skip ?_
          refine outN ?_
          refine VC.seq ?_
          refine VC.block ?_
          refine VC.seq ?_
          refine VC.regD _ 17 [(0, true), (1, true), (2, true), (3, true), (4, true), (5, true), (6, true), (7, true), (8, true), (9, true), (10, true), (11, true), (12, true), (13, true), (14, true), (15, true), (16, true)] follows (by kernel_rfl) (fun _ h => h.sub [101, 0, 1]) ?_
          refine VD.y rfl rfl (.inl rfl) (.mv rfl) ?_
          refine VD.y rfl rfl (.inl rfl) (.mv rfl) ?_
          refine VD.y rfl rfl (.inl rfl) (.ixI p rfl rfl tsl52 rfl (by exact fin0_ApartOps_ok)) ?_
          refine VD.y rfl rfl (.inl rfl) (.ld1 1 rfl tk30 rfl hce16) ?_
          refine VD.y rfl rfl (.inl rfl) (.mv rfl) ?_
          obtain ⟨x19, hx19⟩ : ∃ z_, (x16)[k]? = some z_ := ⟨_, List.getElem?_eq_getElem (by exact fin0_ApartOps_ok)⟩
          obtain ⟨gg19, oo19, ec19, ea19, hce19, hre19⟩ := hr16.elem hx19
          cases ea19
          obtain ⟨rfl, q19_1, q19_2⟩ := open_Op (x0 := x19.1) (x1 := x19.2.1) (x2 := x19.2.2) hre19
          simp only [maxLen] at q19_1
          simp only [maxLen] at q19_2
          refine VD.y rfl rfl (.inl rfl) (.ixI k rfl rfl tsl30 rfl (by exact fin0_ApartOps_ok)) ?_
          refine VD.y rfl rfl (.inl rfl) (.fa rfl tst35 rfl) ?_
          refine VD.y rfl rfl (.inl rfl) (.ld1 1 rfl tk9 rfl (hce19.at1 (j := 1) rfl)) ?_
          refine VD.y rfl rfl (.inl rfl) (.mv rfl) ?_
          refine VD.y rfl rfl (.inl rfl) (.mv rfl) ?_
          obtain ⟨x20, hx20⟩ : ∃ z_, (was)[p]? = some z_ := ⟨_, List.getElem?_eq_getElem (by exact fin0_ApartOps_ok)⟩
          obtain ⟨gg20, oo20, ec20, ea20, hce20, hre20⟩ := (Ow.rd h_was (mle_refl _)).elem hx20
          cases ea20
          have hr20 := hre20
          obtain ⟨A20_, c20_, rfl, _⟩ := hre20
          have rr20 := Rd.room hr20
          refine VD.y rfl rfl (.inl rfl) (.ixI p rfl rfl tsl52 rfl (by exact fin0_ApartOps_ok)) ?_
          refine VD.y rfl rfl (.inl rfl) (.ld1 101 rfl tk30 rfl hce20) ?_
          refine VD.y rfl rfl (.inl rfl) (.mv rfl) ?_
          obtain ⟨x21, hx21⟩ : ∃ z_, (x20)[k]? = some z_ := ⟨_, List.getElem?_eq_getElem (by exact fin0_ApartOps_ok)⟩
          obtain ⟨gg21, oo21, ec21, ea21, hce21, hre21⟩ := hr20.elem hx21
          cases ea21
          obtain ⟨rfl, q21_1, q21_2⟩ := open_Op (x0 := x21.1) (x1 := x21.2.1) (x2 := x21.2.2) hre21
          simp only [maxLen] at q21_1
          simp only [maxLen] at q21_2
          refine VD.y rfl rfl (.inl rfl) (.ixI k rfl rfl tsl30 rfl (by exact fin0_ApartOps_ok)) ?_
          refine VD.y rfl rfl (.inl rfl) (.fa rfl tst35 rfl) ?_
          refine VD.y rfl rfl (.inl rfl) (.ld1 101 rfl tk9 rfl (hce21.at1 (j := 1) rfl)) ?_
          refine VD.y rfl rfl (.inl rfl) (.scat rfl rfl (by exact fin0_ApartOps_ok)) ?_
          refine VD.nil rfl ?_ rfl
          refine VO.y rfl (.sneq rfl rfl) ?_
          refine VO.k11 0 3 4 5 6 7 14 28 49 58 78 ?_
          refine outN ?_
          refine VC.cond rfl (fun hc22 => ?_) (fun hc22 => ?_)
          · -- FFTTT
            exact absurd (by have h_ := apart_eq (f := overOp) hl4 hw4 ‹l[p]? = some _› ‹was[p]? = some _› (by assumption) (by assumption); rw [h_]; rfl) hc22
          · -- FFTTF
            refine VC.skip ?_
            refine outBN ?_
            refine outN ?_
            refine VC.reg ?_
            refine VO.mv ?_
            refine VO.y rfl (.add (c := ((k + 1 : Nat) : Int)) rfl rfl (by omega) ⟨by exact fin0_ApartOps_ok, by exact fin0_ApartOps_ok⟩) ?_
            refine VO.as ?_
            refine VO.kp [101, 0, 1] [(101, was_m), (0, mout (wm W) (m0)), (1, l_m)] ?_
            refine VO.k11 0 3 4 5 6 7 14 28 49 58 78 ?_
            exact outN ⟨k + 1, by omega, by exact fin0_ApartOps_ok, ⟨⟨rfl, rfl, rfl, rfl, rfl, rfl, rfl, rfl, rfl, trivial⟩, fun _ h => Inv.sub h [101, 0, 1]⟩⟩
        · -- FFTF
          refine VC.exit ?_
          refine outE ?_
          refine outE ?_
          refine outBB ?_
          refine outBN ?_
          refine outN ?_
          refine VC.reg ?_
          refine VO.mv ?_
          refine VO.y rfl (.add (c := ((p + 1 : Nat) : Int)) rfl rfl (by omega) ⟨by exact fin0_ApartOps_ok, by exact fin0_ApartOps_ok⟩) ?_
          refine VO.as ?_
          refine VO.k10 0 3 4 5 6 7 14 28 49 58 ?_
          exact outN ⟨p + 1, ⟨by exact hw4, by omega, by exact hl4⟩, by exact fin0_ApartOps_ok, ⟨⟨rfl, rfl, rfl, rfl, rfl, rfl, rfl, trivial⟩, fun _ h => Inv.sub h [101, 0, 1]⟩⟩
      · -- FFF
        refine VC.exit ?_
        refine outE ?_
        refine outE ?_
        refine outBB ?_
        refine outN ?_
        refine VC.rs ?_
        refine VO.as ?_
        refine VO.kp [101, 0, 1] [(101, was_m), (0, mout (wm W) (m0)), (1, l_m)] ?_
        refine VO.k9 0 2 3 4 5 6 14 28 49 ?_
        refine VC.ret ?_
        refine ⟨_, _, res_run (rs := [.tmp 2]) rfl (.tmp rfl .nil), fun W_ hI => out_of (l := []) hI [] rfl rfl (mle_refl _) (fun hS_ => ?_)⟩
        dsimp only [packV]
        all_goals (first | rfl | (simp [*]; done))
theorem rDone_ok (W : World) {g0 : Nat} {E0 : TypeId} {d0 : Dref01Reader} {b0_0 : Value} (hm : mle (mone g0 (.cells [(b0_0 : Value), .int .i64 d0.2.1, .bool d0.2.2].toArray E0 (0, 0))) (wm W)) (h0_0 : Rd (.sl .byte) (mout (wm W) (mone g0 (.cells [(b0_0 : Value), .int .i64 d0.2.1, .bool d0.2.2].toArray E0 (0, 0)))) [b0_0] d0.1) (h0_1 : inK .i64 d0.2.1) : CallR Try.prog 60 [.pointer (some ⟨g0, 0, none⟩)] W (mone g0 (.cells [(b0_0 : Value), .int .i64 d0.2.1, .bool d0.2.2].toArray E0 (0, 0))) (fun v m' => v = .bool (decide (d0.2.2 = false ∧ d0.2.1 = d0.1.length)) ∧ m' = mone g0 (.cells [(b0_0 : Value), .int .i64 d0.2.1, .bool d0.2.2].toArray E0 (0, 0)) ∧ inK .i64 d0.2.1) := by
  obtain ⟨A0_0, c0_0, rfl, l0_0, k0_0⟩ := h0_0.slice
  simp only [maxLen] at k0_0
  have h0_1' := h0_1; simp only [inK] at h0_1'
  refine CallR.ofB (n := 20) hm Try.func60 rfl rfl rfl ?_
  refine VC.rs ?_
  refine VO.as ?_
  refine VO.k2 0 2 ?_
  refine VC.seq ?_
  refine VC.regD _ 15 [(0, true), (1, true), (2, true), (3, true), (4, true), (5, true), (6, true), (7, true), (8, true), (9, true), (10, true), (11, true), (12, true), (13, true), (14, true)] follows (by kernel_rfl) (fun _ h => h.sub [0, 1]) ?_
  refine VD.y rfl rfl (.inl rfl) (.mv rfl) ?_
  refine VD.y rfl rfl (.inl rfl) (.nilp rfl) ?_
  refine VD.y rfl rfl (.inl rfl) (.fa rfl tst96 rfl) ?_
  refine VD.y rfl rfl (.inl rfl) (.ld1 1 rfl tk4 rfl (cellsAt_one rfl rfl)) ?_
  refine VD.y rfl rfl (.inl rfl) (.not rfl) ?_
  refine VD.y rfl rfl (.inl rfl) (.mv rfl) ?_
  refine VD.decBN (s := 8) rfl (fun hc1 => ?_) (fun hc1 => ?_)
  · -- T
    refine VD.y rfl rfl (.inr ⟨_, _, rfl, _, rfl, rfl⟩) (.mv rfl) ?_
    refine VD.y rfl rfl (.inr ⟨_, _, rfl, _, rfl, rfl⟩) (.nilp rfl) ?_
    refine VD.y rfl rfl (.inr ⟨_, _, rfl, _, rfl, rfl⟩) (.fa rfl tst96 rfl) ?_
    refine VD.y rfl rfl (.inr ⟨_, _, rfl, _, rfl, rfl⟩) (.ld1 1 rfl tk3 rfl (cellsAt_one rfl rfl)) ?_
    refine VD.y rfl rfl (.inr ⟨_, _, rfl, _, rfl, rfl⟩) (.mv rfl) ?_
    refine VD.y rfl rfl (.inr ⟨_, _, rfl, _, rfl, rfl⟩) (.nilp rfl) ?_
    refine VD.y rfl rfl (.inr ⟨_, _, rfl, _, rfl, rfl⟩) (.fa rfl tst96 rfl) ?_
    refine VD.y rfl rfl (.inr ⟨_, _, rfl, _, rfl, rfl⟩) (.ld1 1 rfl tk38 rfl (cellsAt_one rfl rfl)) ?_
    refine VD.y rfl rfl (.inr ⟨_, _, rfl, _, rfl, rfl⟩) (.lenS rfl tsl38) ?_
    refine VD.nil rfl ?_ rfl
    refine VO.gy rfl ⟨_, rfl, rfl⟩ (.eql rfl rfl) ?_
    refine VO.y rfl (.pT rfl rfl) ?_
    refine VO.as ?_
    refine VO.k2 0 2 ?_
    refine outN ?_
    refine VC.ret ?_
    refine ⟨_, _, res_run (rs := [.tmp 2]) rfl (.tmp rfl .nil), fun W_ hI => out_of (l := [mone g0 (.cells [Value.slice A0_0 (d0.1.length) (c0_0), Value.int .i64 (d0.2.1), Value.bool d0.2.2].toArray E0 (0, 0))]) hI [1] rfl rfl (mle_refl _) (fun hS_ => ?_)⟩
    dsimp only [packV]
    refine ⟨?_, ?_, ?_⟩
    rotate_left
    · rw [muns_one]
    · exact (show inK .i64 _ by simp only [inK]; (first | omega | (simp only [List.length_append, List.length_nil, List.length_cons, List.length_take, List.length_drop] at *; omega)))
    all_goals (first | rfl | (simp [*]; done))
  · -- F
    refine VD.gn rfl rfl (.inl ⟨_, rfl, rfl⟩) ?_
    refine VD.gn rfl rfl (.inl ⟨_, rfl, rfl⟩) ?_
    refine VD.gn rfl rfl (.inl ⟨_, rfl, rfl⟩) ?_
    refine VD.gn rfl rfl (.inl ⟨_, rfl, rfl⟩) ?_
    refine VD.gn rfl rfl (.inl ⟨_, rfl, rfl⟩) ?_
    refine VD.gn rfl rfl (.inl ⟨_, rfl, rfl⟩) ?_
    refine VD.gn rfl rfl (.inl ⟨_, rfl, rfl⟩) ?_
    refine VD.gn rfl rfl (.inl ⟨_, rfl, rfl⟩) ?_
    refine VD.gn rfl rfl (.inl ⟨_, rfl, rfl⟩) ?_
    refine VD.nil rfl ?_ rfl
    refine VO.gN ?_
    refine VO.y rfl (.pF rfl rfl) ?_
    refine VO.as ?_
    refine VO.k2 0 2 ?_
    refine outN ?_
    refine VC.ret ?_
    refine ⟨_, _, res_run (rs := [.tmp 2]) rfl (.tmp rfl .nil), fun W_ hI => out_of (l := [mone g0 (.cells [Value.slice A0_0 (d0.1.length) (c0_0), Value.int .i64 (d0.2.1), Value.bool d0.2.2].toArray E0 (0, 0))]) hI [1] rfl rfl (mle_refl _) (fun hS_ => ?_)⟩
    dsimp only [packV]
    refine ⟨?_, ?_, ?_⟩
    rotate_left
    · rw [muns_one]
    · exact (show inK .i64 _ by simp only [inK]; (first | omega | (simp only [List.length_append, List.length_nil, List.length_cons, List.length_take, List.length_drop] at *; omega)))
    all_goals (first | rfl | (simp [*]; done))
abbrev DHC := Int × Int × Hd
instance decHC : DecidableEq DHC := (@instDecidableEqProd _ _ inferInstance (@instDecidableEqProd _ _ inferInstance inferInstance))
theorem fnOk88 : fnOk Try.prog 88 = true := by kernel_rfl
theorem fnOk89 : fnOk Try.prog 89 = true := by kernel_rfl
theorem cloneB_ok (W : World) {v0 : Value} {d0 : List UInt8} (h0 : Rd (.sl .byte) (wm W) [v0] d0) (e0 : d0.length ≤ 140737488355000) : CallR Try.prog 89 [v0] W (mnil) (fun v m' => ∃ (s0 : Value), v = s0 ∧ Ow (.sl .byte) m' [s0] (d0)) := by
  obtain ⟨A0, c0, rfl, l0, k0⟩ := h0.slice
  simp only [maxLen] at k0
  refine CallR.ofA (n := 8) Try.func89 rfl rfl rfl ?_
  refine VC.rs ?_
  refine VO.as ?_
  refine VO.k2 0 2 ?_
  refine VC.seq ?_
  refine VC.rs ?_
  refine VO.mv ?_
  refine VO.y rfl (.snil rfl rfl Try.underlying38) ?_
  refine VO.k3 0 2 4 ?_
  refine VC.cond rfl (fun hc1 => ?_) (fun hc1 => ?_)
  · -- T
    refine VC.rs ?_
    refine VO.as ?_
    refine VO.kp [0] [(0, wm W)] ?_
    refine VO.k3 0 2 4 ?_
    refine VC.ret ?_
    refine outR ?_
    refine ⟨_, _, res_run (rs := [.tmp 2]) rfl (.tmp rfl .nil), fun W_ hI => out_of (l := []) hI [] rfl rfl (mle_refl _) (fun hS_ => ?_)⟩
    dsimp only [packV]
    have he0 : (d0 : Ty.Den (.sl .byte)) = [] := by first | rfl | (exact clone_nil' h0 ‹_ = none›)
    refine ⟨Value.slice none (0) (0), ?_, ?_⟩
    rotate_left
    · rw [he0]; exact (Ow.nil _ _)
    all_goals (first | rfl | (simp [*]; done))
  · -- F
    refine VC.skip ?_
    refine outN ?_
    refine VC.rs ?_
    refine VO.bsl (cs := []) 103 rfl rfl tsl38 tz5 rfl rfl (fun g2 => ?_)
    refine VO.mv ?_
    have ho5 : OwnL .byte (mone g2 (.cells [].toArray 5 (0, 0))) mnil (Value.slice (some ⟨g2, 0, none⟩) (0) (0)) [] := OwnL.lit 0 All2c.nil rfl rfl
    obtain ⟨mo4, cs4, hM4, hA4, hC4⟩ := ho5
    obtain ⟨all4, hS4, hR4⟩ := Rd.srcI (P := Try.prog) (h0) Try.underlying38
    refine VO.app 103 rfl rfl rfl tsl38 tz5 rfl rfl hM4 hA4 (hS4 _ 0 rfl) hR4.nice bdm bd (by decide) (fun v4 m4 hN4 => ?_)
    have ho4 : OwnL .byte m4 mnil v4 (d0) := OwnL.more hC4 hN4 (All2c.mono hR4 fun _ _ h => Rd.flat rfl h _)
    obtain ⟨A4, c4, rfl, l4, k4⟩ := ho4.slice
    simp only [maxLen] at k4
    refine VO.as ?_
    refine VO.kp [103, 0] [(103, m4), (0, wm W)] ?_
    refine VO.k3 0 2 4 ?_
    refine VC.ret ?_
    refine ⟨_, _, res_run (rs := [.tmp 2]) rfl (.tmp rfl .nil), fun W_ hI => out_of (l := [m4]) hI [103] rfl rfl (mle_refl _) (fun hS_ => ?_)⟩
    dsimp only [packV]
    have he0 : (d0 : Ty.Den (.sl .byte)) = d0 := by first | rfl | (exact clone_nil' h0 ‹_ = none›)
    refine ⟨Value.slice A4 ((d0).length) (c4), ?_, ?_⟩
    rotate_left
    · rw [he0]; exact (Ow.up (OwnL.ow ho4 rfl) (hS_.1 _ (.head _)))
    all_goals (first | rfl | (simp [*]; done))
theorem fAppend_ok (W : World) {v0 : Value} {d0 : List UInt8} (h0 : Rd (.sl .byte) (wm W) [v0] d0) {v1 : Value} {d1 : List UInt8} (h1 : Rd (.sl .byte) (wm W) [v1] d1) (e0 : d0.length ≤ 140737488000000) : CallR Try.prog 43 [v0, v1] W (mnil) (fun v m' => ∃ (s0 : Value), v = .tuple #[s0, .int .i64 ((fAppend d0 d1).2)] ∧ Ow (.sl .byte) m' [s0] ((fAppend d0 d1).1)) := by
  obtain ⟨A0, c0, rfl, l0, k0⟩ := h0.slice
  simp only [maxLen] at k0
  obtain ⟨A1, c1, rfl, l1, k1⟩ := h1.slice
  simp only [maxLen] at k1
  refine CallR.ofA (n := 16) Try.func43 rfl rfl rfl ?_
  refine VC.rs ?_
  refine VO.as ?_
  refine VO.as ?_
  refine VO.k4 0 1 4 5 ?_
  refine VC.seq ?_
  refine VC.rs ?_
  refine VO.mv ?_
  refine VO.y rfl (.lenS rfl tsl38) ?_
  refine VO.y rfl (.gtr rfl rfl) ?_
  refine VO.k5 0 1 4 5 8 ?_
  refine VC.cond rfl (fun hc1 => ?_) (fun hc1 => ?_)
  · -- T
    refine VC.rs ?_
    refine VO.as ?_
    refine VO.as ?_
    refine VO.kp [0] [(0, wm W)] ?_
    refine VO.k5 0 1 4 5 8 ?_
    refine VC.ret ?_
    refine outR ?_
    refine ⟨_, _, res_run (rs := [.tmp 4, .tmp 5]) rfl (.tmp rfl (.tmp rfl .nil)), fun W_ hI => out_of (l := []) hI [] rfl rfl (mle_refl _) (fun hS_ => ?_)⟩
    dsimp only [packV]
    have he0 : ((fAppend d0 d1).1 : Ty.Den (.sl .byte)) = [] := by first | rfl | (first | (rw [fAppend_long (by omega)] <;> rfl) | (rw [fAppend_good (by omega)] <;> first | rfl | (simp only [fEnc, List.append_assoc, Int.toNat_natCast, List.nil_append]; done)))
    refine ⟨Value.slice none (0) (0), ?_, ?_⟩
    rotate_left
    · rw [he0]; exact (Ow.nil _ _)
    all_goals (first | rfl | (first | (rw [fAppend_long (by omega)] <;> rfl) | (rw [fAppend_good (by omega)] <;> first | rfl | (simp only [fEnc, List.append_assoc, Int.toNat_natCast, List.nil_append]; done))))
  · -- F
    refine VC.skip ?_
    refine outN ?_
    refine VC.rs ?_
    refine VO.mv ?_
    refine VO.mv ?_
    refine VO.y rfl (.lenS rfl tsl38) ?_
    refine VO.y rfl (.cvI rfl ⟨_, Try.underlying3⟩ Try.underlying87 (IntWalk.u64_in _ bd)) ?_
    refine VO.callN 102 rfl fnOk52 rfl (fun W hW => vAppend_ok W (Rd.mono h0 (hW.at (i := 0) rfl)) d1.length bd bd) (fun v2 m2 hv2 => ?_)
    obtain ⟨s2_0, rfl, f2_0⟩ := hv2
    have hfa3 := venc_len (x := d1.length) (by first | omega | exact or64 (by assumption) _)
    obtain ⟨A2_0, c2_0, eq2_0, l2_0, k2_0⟩ := f2_0.slice
    subst eq2_0
    simp only [maxLen] at k2_0
    refine VO.mv ?_
    obtain ⟨mo4, cs4, hM4, hA4, hC4⟩ := (Ow.ownl f2_0 rfl mnil)
    obtain ⟨all4, hS4, hR4⟩ := Rd.srcI (P := Try.prog) (h1) Try.underlying38
    refine VO.app 102 rfl rfl rfl tsl38 tz5 rfl rfl hM4 hA4 (hS4 _ 0 rfl) hR4.nice bdm bd (by decide) (fun v4 m4 hN4 => ?_)
    have ho4 : OwnL .byte m4 mnil v4 ((d0 ++ venc d1.length) ++ d1) := OwnL.more hC4 hN4 (All2c.mono hR4 fun _ _ h => Rd.flat rfl h _)
    obtain ⟨A4, c4, rfl, l4, k4⟩ := ho4.slice
    simp only [maxLen] at k4
    refine VO.as ?_
    refine VO.as ?_
    refine VO.kp [102, 0] [(102, m4), (0, wm W)] ?_
    refine VO.k5 0 1 4 5 8 ?_
    refine VC.ret ?_
    refine ⟨_, _, res_run (rs := [.tmp 4, .tmp 5]) rfl (.tmp rfl (.tmp rfl .nil)), fun W_ hI => out_of (l := [m4]) hI [102] rfl rfl (mle_refl _) (fun hS_ => ?_)⟩
    dsimp only [packV]
    have he0 : ((fAppend d0 d1).1 : Ty.Den (.sl .byte)) = (d0 ++ venc d1.length) ++ d1 := by first | rfl | (first | (rw [fAppend_long (by omega)] <;> rfl) | (rw [fAppend_good (by omega)] <;> first | rfl | (simp only [fEnc, List.append_assoc, Int.toNat_natCast, List.nil_append]; done)))
    refine ⟨Value.slice A4 (((d0 ++ venc d1.length) ++ d1).length) (c4), ?_, ?_⟩
    rotate_left
    · rw [he0]; exact (Ow.up (OwnL.ow ho4 rfl) (hS_.1 _ (.head _)))
    all_goals (first | rfl | (first | (rw [fAppend_long (by omega)] <;> rfl) | (rw [fAppend_good (by omega)] <;> first | rfl | (simp only [fEnc, List.append_assoc, Int.toNat_natCast, List.nil_append]; done))))
theorem fWhole_ok (W : World) {v0 : Value} {d0 : List UInt8} (h0 : Rd (.sl .byte) (wm W) [v0] d0) : CallR Try.prog 88 [v0] W (mnil) (fun v m' => v = .tuple #[.int .i64 ((fWhole d0).1), .int .i64 ((fWhole d0).2.1), .bool ((fWhole d0).2.2)]) := by
  obtain ⟨A0, c0, rfl, l0, k0⟩ := h0.slice
  simp only [maxLen] at k0
  refine CallR.ofA (n := 28) Try.func88 rfl rfl rfl ?_
  refine VC.rs ?_
  refine VO.as ?_
  refine VO.as ?_
  refine VO.as ?_
  refine VO.k4 0 2 3 4 ?_
  refine VC.rs ?_
  refine VO.mv ?_
  refine VO.callN 101 rfl fnOk56 rfl (fun W hW => vSmall_ok W (Rd.mono h0 (hW.at (i := 0) rfl)) 131072 bdk) (fun v1 m1 hv1 => ?_)
  subst hv1
  have hfa2 := s_bounds d0 131072 (by omega)
  refine VO.mv ?_
  refine VO.y rfl (.ext rfl rfl) ?_
  refine VO.y rfl (.ext rfl rfl) ?_
  refine VO.y rfl (.ext rfl rfl) ?_
  refine VO.as ?_
  refine VO.as ?_
  refine VO.as ?_
  refine VO.k7 0 2 3 4 5 6 7 ?_
  refine VC.seq ?_
  refine VC.rs ?_
  refine VO.mv ?_
  refine VO.y rfl (.neq rfl rfl) ?_
  refine VO.mv ?_
  refine VO.dec (t := 16) rfl (fun hc3 => ?_) (fun hc3 => ?_)
  · -- T
    refine VO.gN ?_
    refine VO.gN ?_
    refine VO.gN ?_
    refine VO.gN ?_
    refine VO.gN ?_
    refine VO.gN ?_
    refine VO.y rfl (.pT rfl rfl) ?_
    refine VO.kp [0] [(0, wm W)] ?_
    refine VO.k8 0 2 3 4 5 6 7 23 ?_
    refine VC.condT rfl ?_
    refine VC.rs ?_
    refine VO.as ?_
    refine VO.as ?_
    refine VO.as ?_
    refine VO.k8 0 2 3 4 5 6 7 23 ?_
    refine VC.ret ?_
    refine outR ?_
    refine ⟨_, _, res_run (rs := [.tmp 2, .tmp 3, .tmp 4]) rfl (.tmp rfl (.tmp rfl (.tmp rfl .nil))), fun W_ hI => out_of (l := []) hI [] rfl rfl (mle_refl _) (fun hS_ => ?_)⟩
    dsimp only [packV]
    all_goals (first | rfl | (first | (rw [whole_no1 (by assumption)] <;> rfl) | (rw [whole_no2 (by omega)] <;> rfl) | (rw [whole_yes (by assumption) (by omega)] <;> rfl)))
  · -- F
    refine VO.gy rfl ⟨_, rfl, rfl⟩ (.mv rfl) ?_
    refine VO.gy rfl ⟨_, rfl, rfl⟩ (.lenS rfl tsl38) ?_
    refine VO.gy rfl ⟨_, rfl, rfl⟩ (.mv rfl) ?_
    refine VO.gy rfl ⟨_, rfl, rfl⟩ (.sub rfl rfl rfl ⟨bd, bd⟩) ?_
    refine VO.gy rfl ⟨_, rfl, rfl⟩ (.mv rfl) ?_
    refine VO.gy rfl ⟨_, rfl, rfl⟩ (.lss rfl rfl) ?_
    refine VO.y rfl (.pF rfl rfl) ?_
    refine VO.kp [0] [(0, wm W)] ?_
    refine VO.k8 0 2 3 4 5 6 7 23 ?_
    refine VC.cond rfl (fun hc4 => ?_) (fun hc4 => ?_)
    · -- FT
      refine VC.rs ?_
      refine VO.as ?_
      refine VO.as ?_
      refine VO.as ?_
      refine VO.k8 0 2 3 4 5 6 7 23 ?_
      refine VC.ret ?_
      refine outR ?_
      refine ⟨_, _, res_run (rs := [.tmp 2, .tmp 3, .tmp 4]) rfl (.tmp rfl (.tmp rfl (.tmp rfl .nil))), fun W_ hI => out_of (l := []) hI [] rfl rfl (mle_refl _) (fun hS_ => ?_)⟩
      dsimp only [packV]
      all_goals (first | rfl | (first | (rw [whole_no1 (by assumption)] <;> rfl) | (rw [whole_no2 (by omega)] <;> rfl) | (rw [whole_yes (by assumption) (by omega)] <;> rfl)))
    · -- FF
      refine VC.skip ?_
      refine outN ?_
      refine VC.rs ?_
      refine VO.mv ?_
      refine VO.mv ?_
      refine VO.mv ?_
      refine VO.y rfl (.add (c := ((sN d0 131072 + (sX d0 131072) : Nat) : Int)) rfl rfl (by omega) ⟨bd, bd⟩) ?_
      refine VO.as ?_
      refine VO.as ?_
      refine VO.as ?_
      refine VO.k8 0 2 3 4 5 6 7 23 ?_
      refine VC.ret ?_
      refine ⟨_, _, res_run (rs := [.tmp 2, .tmp 3, .tmp 4]) rfl (.tmp rfl (.tmp rfl (.tmp rfl .nil))), fun W_ hI => out_of (l := []) hI [] rfl rfl (mle_refl _) (fun hS_ => ?_)⟩
      dsimp only [packV]
      all_goals (first | rfl | (first | (rw [whole_no1 (by assumption)] <;> rfl) | (rw [whole_no2 (by omega)] <;> rfl) | (rw [whole_yes (by assumption) (by omega)] <;> rfl)))
theorem fRead_ok (W : World) {v0 : Value} {d0 : List UInt8} (h0 : Rd (.sl .byte) (wm W) [v0] d0) : CallR Try.prog 75 [v0] W (mnil) (fun v m' => ∃ (s0 : Value), v = .tuple #[s0, .int .i64 ((fRead d0).2.1), .int .i64 ((fRead d0).2.2)] ∧ Ow (.sl .byte) m' [s0] ((fRead d0).1)) := by
  obtain ⟨A0, c0, rfl, l0, k0⟩ := h0.slice
  simp only [maxLen] at k0
  refine CallR.ofA (n := 22) Try.func75 rfl rfl rfl ?_
  refine VC.rs ?_
  refine VO.as ?_
  refine VO.as ?_
  refine VO.as ?_
  refine VO.k4 0 2 3 4 ?_
  refine VC.rs ?_
  refine VO.mv ?_
  refine VO.callN 101 rfl fnOk88 rfl (fun W hW => fWhole_ok W (Rd.mono h0 (hW.at (i := 0) rfl))) (fun v1 m1 hv1 => ?_)
  subst hv1
  have hfa2 := fWhole_bounds d0
  refine VO.mv ?_
  refine VO.y rfl (.ext rfl rfl) ?_
  refine VO.y rfl (.ext rfl rfl) ?_
  refine VO.y rfl (.ext rfl rfl) ?_
  refine VO.as ?_
  refine VO.as ?_
  refine VO.as ?_
  refine VO.k7 0 2 3 4 5 6 7 ?_
  refine VC.seq ?_
  refine VC.rs ?_
  refine VO.mv ?_
  refine VO.y rfl (.not rfl) ?_
  refine VO.kp [0] [(0, wm W)] ?_
  refine VO.k8 0 2 3 4 5 6 7 15 ?_
  refine VC.condBN rfl (fun hc3 => ?_) (fun hc3 => ?_)
  · -- T
    refine VC.rs ?_
    refine VO.as ?_
    refine VO.as ?_
    refine VO.as ?_
    refine VO.k8 0 2 3 4 5 6 7 15 ?_
    refine VC.ret ?_
    refine outR ?_
    refine ⟨_, _, res_run (rs := [.tmp 2, .tmp 3, .tmp 4]) rfl (.tmp rfl (.tmp rfl (.tmp rfl .nil))), fun W_ hI => out_of (l := []) hI [] rfl rfl (mle_refl _) (fun hS_ => ?_)⟩
    dsimp only [packV]
    have he0 : ((fRead d0).1 : Ty.Den (.sl .byte)) = [] := by first | rfl | (first | (rw [fRead_bad (by first | assumption | simpa using ‹_›)] <;> rfl) | (rw [fRead_good (by first | assumption | simpa using ‹_›)] <;> rfl))
    refine ⟨Value.slice none (0) (0), ?_, ?_⟩
    rotate_left
    · rw [he0]; exact (Ow.nil _ _)
    all_goals (first | rfl | (first | (rw [fRead_bad (by first | assumption | simpa using ‹_›)] <;> rfl) | (rw [fRead_good (by first | assumption | simpa using ‹_›)] <;> rfl)))
  · -- F
    refine VC.skip ?_
    refine outN ?_
    refine VC.rs ?_
    refine VO.mv ?_
    refine VO.mv ?_
    refine VO.mv ?_
    obtain ⟨A4, hA4, hs4⟩ := h0.sub' 1 (((fWhole d0).1).toNat) (((fWhole d0).2.1).toNat) rfl bd bd
    refine VO.y rfl (.slI (((fWhole d0).1).toNat) (((fWhole d0).2.1).toNat) A4 rfl rfl rfl tsl38 bd bd hA4 bd bd) ?_
    refine VO.callN 105 rfl fnOk89 rfl (fun W hW => cloneB_ok W (Rd.mono hs4 (hW.at (i := 0) rfl)) bd) (fun v5 m5 hv5 => ?_)
    obtain ⟨s5_0, rfl, f5_0⟩ := hv5
    obtain ⟨A5_0, c5_0, eq5_0, l5_0, k5_0⟩ := f5_0.slice
    subst eq5_0
    simp only [maxLen] at k5_0
    refine VO.mv ?_
    refine VO.as ?_
    refine VO.as ?_
    refine VO.as ?_
    refine VO.k8 0 2 3 4 5 6 7 15 ?_
    refine VC.ret ?_
    refine ⟨_, _, res_run (rs := [.tmp 2, .tmp 3, .tmp 4]) rfl (.tmp rfl (.tmp rfl (.tmp rfl .nil))), fun W_ hI => out_of (l := [m5]) hI [105] rfl rfl (mle_refl _) (fun hS_ => ?_)⟩
    dsimp only [packV]
    have he0 : ((fRead d0).1 : Ty.Den (.sl .byte)) = ((d0.take (((fWhole d0).2.1).toNat)).drop (((fWhole d0).1).toNat)) := by first | rfl | (first | (rw [fRead_bad (by first | assumption | simpa using ‹_›)] <;> rfl) | (rw [fRead_good (by first | assumption | simpa using ‹_›)] <;> rfl))
    refine ⟨Value.slice A5_0 (((d0.take (((fWhole d0).2.1).toNat)).drop (((fWhole d0).1).toNat)).length) (c5_0), ?_, ?_⟩
    rotate_left
    · rw [he0]; exact (Ow.up (OwnL.ow (Ow.ownl f5_0 rfl mnil) rfl) (hS_.1 _ (.head _)))
    all_goals (first | rfl | (first | (rw [fRead_bad (by first | assumption | simpa using ‹_›)] <;> rfl) | (rw [fRead_good (by first | assumption | simpa using ‹_›)] <;> rfl)))
abbrev Tdiskstep : Ty := .pair (.int .i64) (.pair (.int .i64) (.pair (.sl .byte) (.int .i64)))
abbrev Ddiskstep := Int × Int × (List UInt8) × Int
instance decdiskstep : DecidableEq Ddiskstep := (@instDecidableEqProd _ _ inferInstance (@instDecidableEqProd _ _ inferInstance (@instDecidableEqProd _ _ inferInstance inferInstance)))
theorem open_diskstep {m : Mem} {cs : List Value} {x0 : Int} {x1 : Int} {x2 : List UInt8} {x3 : Int} (h : Rd Tdiskstep m cs (x0, x1, x2, x3)) : ∃ (A2 : Option Addr), ∃ (c2 : Nat), cs = [(.int .i64 x0 : Value), .int .i64 x1, .slice A2 x2.length c2, .int .i64 x3] ∧ inK .i64 x0 ∧ inK .i64 x1 ∧ Rd (.sl .byte) m [.slice A2 x2.length c2] x2 ∧ inK .i64 x3 := by
  obtain ⟨p1, q1, rfl, u1, w1⟩ := Rd.pair h
  obtain ⟨rfl, z2⟩ := (show _ = _ ∧ _ from u1)
  obtain ⟨p3, q3, rfl, u3, w3⟩ := Rd.pair w1
  obtain ⟨rfl, z4⟩ := (show _ = _ ∧ _ from u3)
  obtain ⟨p5, q5, rfl, u5, w5⟩ := Rd.pair w3
  have z6 := u5
  obtain ⟨A6, c6, rfl, _⟩ := Rd.slice1 u5
  obtain ⟨rfl, z7⟩ := (show _ = _ ∧ _ from w5)
  exact ⟨A6, c6, rfl, z2, z4, z6, z7⟩
theorem mkO_diskstep {m : Mem} {n2 : Mem} (x0 : Int) (x1 : Int) (x2 : List UInt8) (x3 : Int) (hS : Seps m [n2]) (h0 : inK .i64 x0) (h1 : inK .i64 x1) {v2 : Value} (h2 : Ow (.sl .byte) n2 [v2] x2) (h3 : inK .i64 x3) : Ow Tdiskstep m [.int .i64 x0, .int .i64 x1, v2, .int .i64 x3] (x0, x1, x2, x3) := by
  obtain ⟨e1, la1, lb1, Sa1, Sb1⟩ := Seps.cut (l := []) (r := [n2]) hS
  obtain ⟨e2, la2, lb2, Sa2, Sb2⟩ := Seps.cut (l := []) (r := [n2]) Sb1
  obtain ⟨e3, la3, lb3, Sa3, Sb3⟩ := Seps.cut (l := [n2]) (r := []) Sb2
  exact (Ow.mkPair (c1 := [_]) e1 la1 lb1 (show Ow (.int .i64) _ [_] _ from ⟨rfl, h0⟩) (Ow.mkPair (c1 := [_]) e2 la2 lb2 (show Ow (.int .i64) _ [_] _ from ⟨rfl, h1⟩) (Ow.mkPair (c1 := [_]) e3 la3 lb3 (h2.up (Sa3.1 _ (.head _))) (show Ow (.int .i64) _ [_] _ from ⟨rfl, h3⟩))))
abbrev TdiskDisk : Ty := .pair .bool (.pair .bool (.pair .bool (.pair (.int .i64) (.pair (.int .i64) (.pair (.pair (.sl .byte) (.pair (.sl .byte) (.pair (.sl .byte) (.sl .byte)))) (.sl Tdiskstep))))))
abbrev DdiskDisk := Bool × Bool × Bool × Int × Int × ((List UInt8) × (List UInt8) × (List UInt8) × (List UInt8)) × (List Ddiskstep)
instance decdiskDisk : DecidableEq DdiskDisk := (@instDecidableEqProd _ _ inferInstance (@instDecidableEqProd _ _ inferInstance (@instDecidableEqProd _ _ inferInstance (@instDecidableEqProd _ _ inferInstance (@instDecidableEqProd _ _ inferInstance (@instDecidableEqProd _ _ (@instDecidableEqProd _ _ inferInstance (@instDecidableEqProd _ _ inferInstance (@instDecidableEqProd _ _ inferInstance inferInstance))) inferInstance))))))
theorem openO_diskDisk {m : Mem} {cs : List Value} {x0 : Bool} {x1 : Bool} {x2 : Bool} {x3 : Int} {x4 : Int} {x5 : List UInt8} {x6 : List UInt8} {x7 : List UInt8} {x8 : List UInt8} {x9 : List Ddiskstep} (h : Ow TdiskDisk m cs (x0, x1, x2, x3, x4, (x5, x6, x7, x8), x9)) : ∃ (A5 : Option Addr), ∃ (c5 : Nat), ∃ (A6 : Option Addr), ∃ (c6 : Nat), ∃ (A7 : Option Addr), ∃ (c7 : Nat), ∃ (A8 : Option Addr), ∃ (c8 : Nat), ∃ (A9 : Option Addr), ∃ (c9 : Nat), ∃ (n5 : Mem), ∃ (n6 : Mem), ∃ (n7 : Mem), ∃ (n8 : Mem), ∃ (n9 : Mem), cs = [(.bool x0 : Value), .bool x1, .bool x2, .int .i64 x3, .int .i64 x4, .slice A5 x5.length c5, .slice A6 x6.length c6, .slice A7 x7.length c7, .slice A8 x8.length c8, .slice A9 x9.length c9] ∧ Seps m [n5, n6, n7, n8, n9] ∧ inK .i64 x3 ∧ inK .i64 x4 ∧ Ow (.sl .byte) n5 [.slice A5 x5.length c5] x5 ∧ Ow (.sl .byte) n6 [.slice A6 x6.length c6] x6 ∧ Ow (.sl .byte) n7 [.slice A7 x7.length c7] x7 ∧ Ow (.sl .byte) n8 [.slice A8 x8.length c8] x8 ∧ Ow (.sl Tdiskstep) n9 [.slice A9 x9.length c9] x9 := by
  obtain ⟨p1, q1, ma1, mb1, rfl, dj1, la1, lb1, u1, w1⟩ := Ow.pair h
  obtain rfl := (show _ = _ from u1)
  obtain ⟨p3, q3, ma3, mb3, rfl, dj3, la3, lb3, u3, w3⟩ := Ow.pair w1
  obtain rfl := (show _ = _ from u3)
  obtain ⟨p5, q5, ma5, mb5, rfl, dj5, la5, lb5, u5, w5⟩ := Ow.pair w3
  obtain rfl := (show _ = _ from u5)
  obtain ⟨p7, q7, ma7, mb7, rfl, dj7, la7, lb7, u7, w7⟩ := Ow.pair w5
  obtain ⟨rfl, z8⟩ := (show _ = _ ∧ _ from u7)
  obtain ⟨p9, q9, ma9, mb9, rfl, dj9, la9, lb9, u9, w9⟩ := Ow.pair w7
  obtain ⟨rfl, z10⟩ := (show _ = _ ∧ _ from u9)
  obtain ⟨p11, q11, ma11, mb11, rfl, dj11, la11, lb11, u11, w11⟩ := Ow.pair w9
  obtain ⟨p12, q12, ma12, mb12, rfl, dj12, la12, lb12, u12, w12⟩ := Ow.pair u11
  have z13 := u12
  obtain ⟨A13, c13, rfl, _⟩ := Ow.slice1 u12
  obtain ⟨p14, q14, ma14, mb14, rfl, dj14, la14, lb14, u14, w14⟩ := Ow.pair w12
  have z15 := u14
  obtain ⟨A15, c15, rfl, _⟩ := Ow.slice1 u14
  obtain ⟨p16, q16, ma16, mb16, rfl, dj16, la16, lb16, u16, w16⟩ := Ow.pair w14
  have z17 := u16
  obtain ⟨A17, c17, rfl, _⟩ := Ow.slice1 u16
  have z18 := w16
  obtain ⟨A18, c18, rfl, _⟩ := Ow.slice1 w16
  have z19 := w11
  obtain ⟨A19, c19, rfl, _⟩ := Ow.slice1 w11
  exact ⟨A13, c13, A15, c15, A17, c17, A18, c18, A19, c19, _, _, _, _, _, rfl, (Seps.app dj1 la1 lb1 (Seps.nil _) (Seps.app dj3 la3 lb3 (Seps.nil _) (Seps.app dj5 la5 lb5 (Seps.nil _) (Seps.app dj7 la7 lb7 (Seps.nil _) (Seps.app dj9 la9 lb9 (Seps.nil _) (Seps.app dj11 la11 lb11 (Seps.app dj12 la12 lb12 (Seps.one (mle_refl _)) (Seps.app dj14 la14 lb14 (Seps.one (mle_refl _)) (Seps.app dj16 la16 lb16 (Seps.one (mle_refl _)) (Seps.one (mle_refl _))))) (Seps.one (mle_refl _)))))))), z8, z10, z13, z15, z17, z18, z19⟩
theorem mkO_diskDisk {m : Mem} {n5 n6 n7 n8 n9 : Mem} (x0 : Bool) (x1 : Bool) (x2 : Bool) (x3 : Int) (x4 : Int) (x5 : List UInt8) (x6 : List UInt8) (x7 : List UInt8) (x8 : List UInt8) (x9 : List Ddiskstep) (hS : Seps m [n5, n6, n7, n8, n9]) (h3 : inK .i64 x3) (h4 : inK .i64 x4) {v5 : Value} (h5 : Ow (.sl .byte) n5 [v5] x5) {v6 : Value} (h6 : Ow (.sl .byte) n6 [v6] x6) {v7 : Value} (h7 : Ow (.sl .byte) n7 [v7] x7) {v8 : Value} (h8 : Ow (.sl .byte) n8 [v8] x8) {v9 : Value} (h9 : Ow (.sl Tdiskstep) n9 [v9] x9) : Ow TdiskDisk m [.bool x0, .bool x1, .bool x2, .int .i64 x3, .int .i64 x4, v5, v6, v7, v8, v9] (x0, x1, x2, x3, x4, (x5, x6, x7, x8), x9) := by
  obtain ⟨e1, la1, lb1, Sa1, Sb1⟩ := Seps.cut (l := []) (r := [n5, n6, n7, n8, n9]) hS
  obtain ⟨e2, la2, lb2, Sa2, Sb2⟩ := Seps.cut (l := []) (r := [n5, n6, n7, n8, n9]) Sb1
  obtain ⟨e3, la3, lb3, Sa3, Sb3⟩ := Seps.cut (l := []) (r := [n5, n6, n7, n8, n9]) Sb2
  obtain ⟨e4, la4, lb4, Sa4, Sb4⟩ := Seps.cut (l := []) (r := [n5, n6, n7, n8, n9]) Sb3
  obtain ⟨e5, la5, lb5, Sa5, Sb5⟩ := Seps.cut (l := []) (r := [n5, n6, n7, n8, n9]) Sb4
  obtain ⟨e6, la6, lb6, Sa6, Sb6⟩ := Seps.cut (l := [n5, n6, n7, n8]) (r := [n9]) Sb5
  obtain ⟨e7, la7, lb7, Sa7, Sb7⟩ := Seps.cut (l := [n5]) (r := [n6, n7, n8]) Sa6
  obtain ⟨e8, la8, lb8, Sa8, Sb8⟩ := Seps.cut (l := [n6]) (r := [n7, n8]) Sb7
  obtain ⟨e9, la9, lb9, Sa9, Sb9⟩ := Seps.cut (l := [n7]) (r := [n8]) Sb8
  exact (Ow.mkPair (c1 := [_]) e1 la1 lb1 (show Ow .bool _ [_] _ from rfl) (Ow.mkPair (c1 := [_]) e2 la2 lb2 (show Ow .bool _ [_] _ from rfl) (Ow.mkPair (c1 := [_]) e3 la3 lb3 (show Ow .bool _ [_] _ from rfl) (Ow.mkPair (c1 := [_]) e4 la4 lb4 (show Ow (.int .i64) _ [_] _ from ⟨rfl, h3⟩) (Ow.mkPair (c1 := [_]) e5 la5 lb5 (show Ow (.int .i64) _ [_] _ from ⟨rfl, h4⟩) (Ow.mkPair (c1 := [_, _, _, _]) e6 la6 lb6 (Ow.mkPair (c1 := [_]) e7 la7 lb7 (h5.up (Sa7.1 _ (.head _))) (Ow.mkPair (c1 := [_]) e8 la8 lb8 (h6.up (Sa8.1 _ (.head _))) (Ow.mkPair (c1 := [_]) e9 la9 lb9 (h7.up (Sa9.1 _ (.head _))) (h8.up (Sb9.1 _ (.head _)))))) (h9.up (Sb6.1 _ (.head _)))))))))
theorem openP_diskDisk {m : Mem} {cs : List Value} {g : Nat} {x0 : Bool} {x1 : Bool} {x2 : Bool} {x3 : Int} {x4 : Int} {x5 : List UInt8} {x6 : List UInt8} {x7 : List UInt8} {x8 : List UInt8} {x9 : List Ddiskstep} (h : Ow (.ptr TdiskDisk) m cs (g, (x0, x1, x2, x3, x4, (x5, x6, x7, x8), x9))) : ∃ (E : TypeId), ∃ (A5 : Option Addr), ∃ (c5 : Nat), ∃ (A6 : Option Addr), ∃ (c6 : Nat), ∃ (A7 : Option Addr), ∃ (c7 : Nat), ∃ (A8 : Option Addr), ∃ (c8 : Nat), ∃ (A9 : Option Addr), ∃ (c9 : Nat), ∃ (n5 : Mem), ∃ (n6 : Mem), ∃ (n7 : Mem), ∃ (n8 : Mem), ∃ (n9 : Mem), cs = [.pointer (some ⟨g, 0, none⟩)] ∧ Seps m [mone g (.cells [(.bool x0 : Value), .bool x1, .bool x2, .int .i64 x3, .int .i64 x4, .slice A5 x5.length c5, .slice A6 x6.length c6, .slice A7 x7.length c7, .slice A8 x8.length c8, .slice A9 x9.length c9].toArray E (0, 0)), n5, n6, n7, n8, n9] ∧ inK .i64 x3 ∧ inK .i64 x4 ∧ Ow (.sl .byte) n5 [.slice A5 x5.length c5] x5 ∧ Ow (.sl .byte) n6 [.slice A6 x6.length c6] x6 ∧ Ow (.sl .byte) n7 [.slice A7 x7.length c7] x7 ∧ Ow (.sl .byte) n8 [.slice A8 x8.length c8] x8 ∧ Ow (.sl Tdiskstep) n9 [.slice A9 x9.length c9] x9 := by
  obtain ⟨rfl, rc, E, m1, hd, l0, l1, h1⟩ := Ow.opnP h
  obtain ⟨A5, c5, A6, c6, A7, c7, A8, c8, A9, c9, n5, n6, n7, n8, n9, rfl, hS, f3, f4, f5, f6, f7, f8, f9⟩ := openO_diskDisk h1
  exact ⟨E, A5, c5, A6, c6, A7, c7, A8, c8, A9, c9, n5, n6, n7, n8, n9, rfl, Seps.app hd l0 l1 (Seps.one (mle_refl _)) hS, f3, f4, f5, f6, f7, f8, f9⟩
theorem mkP_diskDisk {m : Mem} {g : Nat} {E : TypeId} {n5 n6 n7 n8 n9 : Mem}{v5 : Value}{v6 : Value}{v7 : Value}{v8 : Value}{v9 : Value} (x0 : Bool) (x1 : Bool) (x2 : Bool) (x3 : Int) (x4 : Int) (x5 : List UInt8) (x6 : List UInt8) (x7 : List UInt8) (x8 : List UInt8) (x9 : List Ddiskstep) (hS : Seps m [mone g (.cells [.bool x0, .bool x1, .bool x2, .int .i64 x3, .int .i64 x4, v5, v6, v7, v8, v9].toArray E (0, 0)), n5, n6, n7, n8, n9]) (h3 : inK .i64 x3) (h4 : inK .i64 x4) (h5 : Ow (.sl .byte) n5 [v5] x5) (h6 : Ow (.sl .byte) n6 [v6] x6) (h7 : Ow (.sl .byte) n7 [v7] x7) (h8 : Ow (.sl .byte) n8 [v8] x8) (h9 : Ow (.sl Tdiskstep) n9 [v9] x9) : Ow (.ptr TdiskDisk) m [.pointer (some ⟨g, 0, none⟩)] (g, (x0, x1, x2, x3, x4, (x5, x6, x7, x8), x9)) :=
  Ow.clsP hS fun hS => mkO_diskDisk x0 x1 x2 x3 x4 x5 x6 x7 x8 x9 hS h3 h4 h5 h6 h7 h8 h9
abbrev Dref05Raw := Int × Bool × Int × (List UInt8)
instance decref05Raw : DecidableEq Dref05Raw := (@instDecidableEqProd _ _ inferInstance (@instDecidableEqProd _ _ inferInstance (@instDecidableEqProd _ _ inferInstance inferInstance)))
abbrev Dref05Disk := Bool × ((List UInt8) × (List UInt8) × (List UInt8) × (List UInt8)) × (List Dref05Raw) × Bool × Bool × Int × Int
instance decref05Disk : DecidableEq Dref05Disk := (@instDecidableEqProd _ _ inferInstance (@instDecidableEqProd _ _ (@instDecidableEqProd _ _ inferInstance (@instDecidableEqProd _ _ inferInstance (@instDecidableEqProd _ _ inferInstance inferInstance))) (@instDecidableEqProd _ _ inferInstance (@instDecidableEqProd _ _ inferInstance (@instDecidableEqProd _ _ inferInstance (@instDecidableEqProd _ _ inferInstance inferInstance))))))
abbrev Dlaw05Act := Int × Int × Int × Int × (List UInt8)
instance declaw05Act : DecidableEq Dlaw05Act := (@instDecidableEqProd _ _ inferInstance (@instDecidableEqProd _ _ inferInstance (@instDecidableEqProd _ _ inferInstance (@instDecidableEqProd _ _ inferInstance inferInstance))))
abbrev Dur := Bytes × Bytes × Bytes × Bytes
abbrev DStep := Ddiskstep
abbrev DDisk := DdiskDisk
def getF (q : Dur) (f : Int) : Bytes := if f = 0 then q.1 else if f = 1 then q.2.1 else if f = 2 then q.2.2.1 else q.2.2.2
def setF (q : Dur) (f : Int) (b : Bytes) : Dur := if f = 0 then (b, q.2) else if f = 1 then (q.1, b, q.2.2) else if f = 2 then (q.1, q.2.1, b, q.2.2.2) else (q.1, q.2.1, q.2.2.1, b)
def doneB (b : Bytes) (s : DStep) : Bytes := if s.1 = 0 then b ++ s.2.2.1 else if s.1 = 1 then b.take s.2.2.2.toNat else b
def stepQ (q : Dur) (s : DStep) : Dur := setF q s.2.1 (doneB (getF q s.2.1) s)
def play (q : Dur) (l : List DStep) : Dur := l.foldl stepQ q
def heldStep (f : Int) (b : Bytes) (s : DStep) : Bytes := if s.2.1 = f then doneB b s else b
def heldB (q : Dur) (l : List DStep) (f : Int) : Bytes := l.foldl (heldStep f) (getF q f)
def inF (f : Int) : Prop := 0 ≤ f ∧ f < 4
instance (f : Int) : Decidable (inF f) := by unfold inF; infer_instance
theorem get_set {q : Dur} {f g : Int} {b : Bytes} (hf : inF f) (hg : inF g) : getF (setF q f b) g = if f = g then b else getF q g := by
  obtain ⟨h0, h1⟩ := hf; obtain ⟨h2, h3⟩ := hg
  obtain rfl | rfl | rfl | rfl : f = 0 ∨ f = 1 ∨ f = 2 ∨ f = 3 := by omega
  all_goals obtain rfl | rfl | rfl | rfl : g = 0 ∨ g = 1 ∨ g = 2 ∨ g = 3 := by omega
  all_goals rfl
/-- A step that may be pending. -/
def goodSt (q : Dur) (s : DStep) : Prop := (s.1 = 0 ∨ s.1 = 1) ∧ inF s.2.1 ∧ (s.1 = 0 → 1 ≤ s.2.2.1.length ∧ s.2.2.1.length ≤ 64) ∧ (s.1 = 1 → 0 ≤ s.2.2.2 ∧ s.2.2.2 ≤ (getF q s.2.1).length)
def goodL : Dur → List DStep → Prop
  | _, [] => True
  | q, s :: r => goodSt q s ∧ goodL (stepQ q s) r
theorem goodL_app : ∀ {l r : List DStep} {q : Dur}, goodL q (l ++ r) ↔ goodL q l ∧ goodL (play q l) r
  | [], r, q => by simp [goodL, play]
  | s :: l, r, q => by
    show goodSt q s ∧ goodL (stepQ q s) (l ++ r) ↔ (goodSt q s ∧ goodL (stepQ q s) l) ∧ goodL (play (stepQ q s) l) r
    rw [goodL_app (l := l), and_assoc]
theorem play_held : ∀ {l : List DStep} {q : Dur} {f : Int}, goodL q l → inF f → getF (play q l) f = heldB q l f
  | [], q, f, _, _ => rfl
  | s :: l, q, f, h, hf => by
    show getF (play (stepQ q s) l) f = _
    rw [play_held h.2 hf]
    show l.foldl (heldStep f) (getF (stepQ q s) f) = l.foldl (heldStep f) (heldStep f (getF q f) s)
    rw [stepQ, get_set h.1.2.1 hf]
    unfold heldStep
    split
    · rename_i he; rw [he]
    · rfl
def sizeQ (q : Dur) : Nat := q.1.length + q.2.1.length + q.2.2.1.length + q.2.2.2.length
def sizeL (l : List DStep) : Nat := (l.map fun s => s.2.2.1.length).sum
theorem sizeL_cons (s : DStep) (l : List DStep) : sizeL (s :: l) = s.2.2.1.length + sizeL l := by simp [sizeL]
theorem sizeL_app (l r : List DStep) : sizeL (l ++ r) = sizeL l + sizeL r := by simp [sizeL]
theorem getF_size (q : Dur) (f : Int) : (getF q f).length ≤ sizeQ q := by unfold getF sizeQ; split <;> (try split) <;> (try split) <;> omega
theorem setF_size {q : Dur} {f : Int} {b : Bytes} : sizeQ (setF q f b) + (getF q f).length = sizeQ q + b.length := by
  unfold setF getF sizeQ
  split
  · dsimp only; omega
  · split
    · dsimp only; omega
    · split <;> (dsimp only; omega)
theorem doneB_size (b : Bytes) (s : DStep) : (doneB b s).length ≤ b.length + s.2.2.1.length := by
  unfold doneB
  split
  · simp
  · split
    · simp only [List.length_take]; omega
    · omega
theorem stepQ_size (q : Dur) (s : DStep) : sizeQ (stepQ q s) ≤ sizeQ q + s.2.2.1.length := by
  have := setF_size (q := q) (f := s.2.1) (b := doneB (getF q s.2.1) s)
  have := doneB_size (getF q s.2.1) s
  unfold stepQ
  omega
theorem play_size : ∀ (l : List DStep) (q : Dur), sizeQ (play q l) ≤ sizeQ q + sizeL l
  | [], q => by simp [play, sizeL]
  | s :: l, q => by
    have h1 := play_size l (stepQ q s)
    have h2 := stepQ_size q s
    rw [sizeL_cons]
    show sizeQ (play (stepQ q s) l) ≤ _
    omega
theorem foldl_heldStep_size (f : Int) : ∀ (l : List DStep) (b : Bytes), (l.foldl (heldStep f) b).length ≤ b.length + sizeL l
  | [], b => by simp [sizeL]
  | s :: l, b => by
    have h1 := foldl_heldStep_size f l (heldStep f b s)
    have h2 : (heldStep f b s).length ≤ b.length + s.2.2.1.length := by
      unfold heldStep
      split
      · exact doneB_size b s
      · omega
    rw [sizeL_cons, List.foldl_cons]; omega
theorem heldB_size (q : Dur) (l : List DStep) (f : Int) : (heldB q l f).length ≤ sizeQ q + sizeL l := by
  have := foldl_heldStep_size f l (getF q f)
  have := getF_size q f
  unfold heldB; omega
def okD (d : DDisk) : Prop := goodL d.2.2.2.2.2.1 d.2.2.2.2.2.2 ∧ 0 ≤ d.2.2.2.1 ∧ 0 ≤ d.2.2.2.2.1
def wD (d : DDisk) : Nat := sizeQ d.2.2.2.2.2.1 + sizeL d.2.2.2.2.2.2 + d.2.2.2.2.2.2.length + d.2.2.2.2.1.toNat
def newD : DDisk := (true, false, false, 0, 0, ([], [], [], []), [])
theorem okD_new : okD newD := ⟨trivial, Int.le_refl _, Int.le_refl _⟩
def wrongD (d : DDisk) : Int := if d.1 = false then 1 else if d.2.1 = true then 6 else 0
def burnD (d : DDisk) : DDisk × Bool := if d.2.2.1 = true then (if d.2.2.2.1 = 0 then ((d.1, true, d.2.2), false) else ((d.1, d.2.1, d.2.2.1, d.2.2.2.1 - 1, d.2.2.2.2.1 + 1, d.2.2.2.2.2), true)) else ((d.1, d.2.1, d.2.2.1, d.2.2.2.1, d.2.2.2.2.1 + 1, d.2.2.2.2.2), true)
def addP (d : DDisk) (s : DStep) : DDisk := (d.1, d.2.1, d.2.2.1, d.2.2.2.1, d.2.2.2.2.1, d.2.2.2.2.2.1, d.2.2.2.2.2.2 ++ [s])
theorem getF0 {q : Dur} {f : Int} (h : f = 0) : getF q f = q.1 := by subst h; rfl
theorem getF1 {q : Dur} {f : Int} (h : f = 1) : getF q f = q.2.1 := by subst h; rfl
theorem getF2 {q : Dur} {f : Int} (h : f = 2) : getF q f = q.2.2.1 := by subst h; rfl
theorem getF3 {q : Dur} {f : Int} (h : f = 3) : getF q f = q.2.2.2 := by subst h; rfl
theorem setQ0 {q : Dur} {f : Int} {b : Bytes} (h : f = 0) : setF q f b = (b, q.2) := by subst h; rfl
theorem setQ1 {q : Dur} {f : Int} {b : Bytes} (h : f = 1) : setF q f b = (q.1, b, q.2.2) := by subst h; rfl
theorem setQ2 {q : Dur} {f : Int} {b : Bytes} (h : f = 2) : setF q f b = (q.1, q.2.1, b, q.2.2.2) := by subst h; rfl
theorem setQ3 {q : Dur} {f : Int} {b : Bytes} (h : f = 3) : setF q f b = (q.1, q.2.1, q.2.2.1, b) := by subst h; rfl
def settleD (d : DDisk) (k : Nat) : DDisk := (d.1, d.2.1, d.2.2.1, d.2.2.2.1, d.2.2.2.2.1, play d.2.2.2.2.2.1 (d.2.2.2.2.2.2.take k), d.2.2.2.2.2.2.drop k)
theorem get_take {α : Type} {l : List α} {n k : Nat} {x : α} (h : (l.take n)[k]? = some x) : l[k]? = some x := by
  rw [List.getElem?_take] at h
  split at h
  · exact h
  · cases h
theorem drop_split {α : Type} {l : List α} {k : Nat} {x : α} (h : l[k]? = some x) : l = l.take k ++ x :: l.drop (k + 1) := by
  obtain ⟨h1, h2⟩ := List.getElem?_eq_some_iff.1 h
  rw [← h2, ← List.drop_eq_getElem_cons h1, List.take_append_drop]
section
variable {q : Dur} {l : List DStep} {f : Int} {b : Bytes} {k : Nat} {s : DStep}
theorem held_next (hb : b = heldB q (l.take k) f) (hs : l[k]? = some s) : heldStep f b s = heldB q (l.take (k + 1)) f := by
  rw [hb, heldB, heldB, List.take_add_one, hs, List.foldl_append]; rfl
theorem held_yes (hb : b = heldB q (l.take k) f) (hs : l[k]? = some s) (h : s.2.1 = f) : doneB b s = heldB q (l.take (k + 1)) f := by
  rw [← held_next hb hs, heldStep, if_pos h]
theorem held_no (hb : b = heldB q (l.take k) f) (hs : l[k]? = some s) (h : ¬ s.2.1 = f) : b = heldB q (l.take (k + 1)) f := by
  rw [← held_next hb hs, heldStep, if_neg h]
theorem good_at (hg : goodL q l) (hs : l[k]? = some s) : goodSt (play q (l.take k)) s ∧ goodL q (l.take k) := by
  rw [drop_split hs, goodL_app] at hg
  exact ⟨hg.2.1, hg.1⟩
theorem held_cut (hg : goodL q l) (hb : b = heldB q (l.take k) f) (hs : l[k]? = some s) (hf : inF f) (h : s.2.1 = f) : s.1 = 1 → 0 ≤ s.2.2.2 ∧ s.2.2.2 ≤ b.length := by
  obtain ⟨h1, h2⟩ := good_at hg hs
  intro h3
  have := h1.2.2.2 h3
  rw [h, play_held h2 hf, ← hb] at this
  exact this
theorem sizeL_take (hs : l[k]? = some s) : sizeL (l.take k) + s.2.2.1.length ≤ sizeL l := by
  conv => rhs; rw [drop_split hs]
  rw [sizeL_app, sizeL_cons]; omega
theorem held_room (hb : b = heldB q (l.take k) f) (hs : l[k]? = some s) : b.length + s.2.2.1.length ≤ sizeQ q + sizeL l := by
  have h1 := heldB_size q (l.take k) f
  have h2 := sizeL_take hs
  rw [hb]; omega
theorem play_next {q0 : Dur} (hb : q = play q0 (l.take k)) (hs : l[k]? = some s) : stepQ q s = play q0 (l.take (k + 1)) := by
  rw [hb, play, play, List.take_add_one, hs, List.foldl_append]; rfl
theorem play_cut {q0 : Dur} (hg : goodL q0 l) (hb : q = play q0 (l.take k)) (hs : l[k]? = some s) : inF s.2.1 ∧ (s.1 = 1 → 0 ≤ s.2.2.2 ∧ s.2.2.2 ≤ (getF q s.2.1).length) := by
  obtain ⟨h1, h2⟩ := good_at hg hs
  subst hb
  exact ⟨h1.2.1, h1.2.2.2⟩
theorem play_room {q0 : Dur} (hb : q = play q0 (l.take k)) (hs : l[k]? = some s) : (getF q s.2.1).length + s.2.2.1.length ≤ sizeQ q0 + sizeL l := by
  have h1 := play_size (l.take k) q0
  have h2 := sizeL_take hs
  have h3 := getF_size q s.2.1
  subst hb; omega
end
theorem burn_ok {d : DDisk} (h : okD d) : okD (burnD d).1 := by
  obtain ⟨h1, h2, h3⟩ := h
  unfold burnD
  split
  · split
    · exact ⟨h1, h2, h3⟩
    · exact ⟨h1, by dsimp only; omega, by dsimp only; omega⟩
  · exact ⟨h1, h2, by dsimp only; omega⟩
theorem burn_w {d : DDisk} (h : okD d) : wD (burnD d).1 ≤ wD d + 1 := by
  have h3 := h.2.2
  unfold burnD
  split
  · split
    · show wD d ≤ _; omega
    · simp only [wD]; omega
  · simp only [wD]; omega
theorem burn_same (d : DDisk) : (burnD d).1.1 = d.1 ∧ (burnD d).1.2.2.2.2.2 = d.2.2.2.2.2 := by
  unfold burnD
  split
  · split <;> exact ⟨rfl, rfl⟩
  · exact ⟨rfl, rfl⟩
theorem add_ok {d : DDisk} {s : DStep} (h : okD d) (hs : goodSt (play d.2.2.2.2.2.1 d.2.2.2.2.2.2) s) : okD (addP d s) :=
  ⟨goodL_app.2 ⟨h.1, hs, trivial⟩, h.2⟩
theorem add_w (d : DDisk) (s : DStep) : wD (addP d s) = wD d + s.2.2.1.length + 1 := by
  simp only [wD, addP, sizeL_app, sizeL_cons, List.length_append, List.length_cons, List.length_nil]
  show sizeQ _ + (sizeL _ + (s.2.2.1.length + sizeL [])) + _ + _ = _
  simp only [sizeL, List.map_nil, List.sum_nil]
  omega
theorem settle_ok {d : DDisk} (k : Nat) (h : okD d) : okD (settleD d k) := by
  obtain ⟨h1, h2⟩ := h
  rw [← List.take_append_drop k d.2.2.2.2.2.2, goodL_app] at h1
  exact ⟨h1.2, h2⟩
theorem settle_w (d : DDisk) (k : Nat) : wD (settleD d k) ≤ wD d := by
  have h1 := play_size (d.2.2.2.2.2.2.take k) d.2.2.2.2.2.1
  have h2 : sizeL d.2.2.2.2.2.2 = sizeL (d.2.2.2.2.2.2.take k) + sizeL (d.2.2.2.2.2.2.drop k) := by rw [← sizeL_app, List.take_append_drop]
  simp only [wD, settleD, List.length_drop]
  omega
def writeGo : Nat → DDisk → Int → Bytes → DDisk × Int
  | 0, d, _, _ => (d, 0)
  | n + 1, d, f, b => if b.length = 0 then (d, 0) else if (burnD d).2 = true then writeGo n (addP (burnD d).1 (0, f, b.take 64, 0)) f (b.drop 64) else ((burnD d).1, 6)
def dWrite (d : DDisk) (f : Int) (b : Bytes) : DDisk × Int := if ¬ wrongD d = 0 then (d, wrongD d) else if ¬ inF f then (d, 2) else writeGo b.length d f b
section
variable {d d' : DDisk} {f : Int} {b : Bytes} {n m : Nat} {p : DDisk × Int}
theorem write_end (hp : p = writeGo n d f b) (hb : b.length = 0) : p = (d, 0) := by
  rw [hp]; cases n with
  | zero => rfl
  | succ n => exact if_pos hb
theorem write_off (hp : p = writeGo n d f b) (hn : b.length ≤ n) (hb : 0 < b.length) (h : ¬ (burnD d).2 = true) : p = ((burnD d).1, 6) := by
  rw [hp]; cases n with
  | zero => omega
  | succ n => rw [writeGo, if_neg (by omega), if_neg h]
theorem write_step (hp : p = writeGo n d f b) (hn : b.length ≤ n) (hb : 0 < b.length) (h : (burnD d).2 = true) (hm : m = min b.length 64) : p = writeGo (n - 1) (addP (burnD d).1 (0, f, b.take m, 0)) f (b.drop m) := by
  rw [hp]; cases n with
  | zero => omega
  | succ n =>
    rw [writeGo, if_neg (by omega), if_pos h]
    have h1 : b.take m = b.take 64 := by
      by_cases h0 : b.length ≤ 64
      · rw [hm, List.take_of_length_le (by omega), List.take_of_length_le h0]
      · rw [hm, Nat.min_eq_right (by omega)]
    have h2 : b.drop m = b.drop 64 := by
      by_cases h0 : b.length ≤ 64
      · rw [hm, List.drop_of_length_le (by omega), List.drop_of_length_le h0]
      · rw [hm, Nat.min_eq_right (by omega)]
    rw [h1, h2]; rfl
theorem step_ok (h : okD d) (hf : inF f) (hb : 0 < b.length) (hm : m = min b.length 64) : okD (addP (burnD d).1 (0, f, b.take m, 0)) :=
  add_ok (burn_ok h) ⟨.inl rfl, hf, fun _ => by simp only [List.length_take]; omega, fun h => by cases h⟩
theorem step_w (h : okD d) (hb : 0 < b.length) (hm : m = min b.length 64) : wD (addP (burnD d).1 (0, f, b.take m, 0)) + 3 * (b.drop m).length ≤ wD d + 3 * b.length := by
  have h1 := burn_w h
  rw [add_w]
  simp only [List.length_take, List.length_drop]
  omega
theorem writeGo_ok : ∀ (n : Nat) {d : DDisk} {b : Bytes}, okD d → inF f → okD (writeGo n d f b).1 ∧ wD (writeGo n d f b).1 ≤ wD d + 3 * b.length + 1
  | 0, d, b, h, _ => ⟨h, by show wD d ≤ _; omega⟩
  | n + 1, d, b, h, hf => by
    unfold writeGo
    split
    · exact ⟨h, by show wD d ≤ _; omega⟩
    · rename_i h0
      split
      · have e1 : b.take 64 = b.take (min b.length 64) := by
          by_cases h0 : b.length ≤ 64
          · rw [Nat.min_eq_left h0, List.take_of_length_le h0, List.take_of_length_le (Nat.le_refl _)]
          · rw [Nat.min_eq_right (by omega)]
        have h1 := step_ok (m := min b.length 64) h hf (by omega) rfl
        have h2 := step_w (f := f) (m := min b.length 64) h (by omega) rfl
        rw [← e1] at h1 h2
        obtain ⟨k1, k2⟩ := writeGo_ok n (b := b.drop 64) h1 hf
        simp only [List.length_drop] at h2 k2
        exact ⟨k1, by omega⟩
      · have := burn_w h
        exact ⟨burn_ok h, by dsimp only; omega⟩
end
theorem write_ok {d : DDisk} {f : Int} {b : Bytes} (h : okD d) : okD (dWrite d f b).1 := by
  unfold dWrite; split
  · exact h
  · split
    · exact h
    · rename_i hf; exact (writeGo_ok _ h (Decidable.not_not.1 hf)).1
theorem write_w {d : DDisk} {f : Int} {b : Bytes} (h : okD d) : wD (dWrite d f b).1 ≤ wD d + 3 * b.length + 1 := by
  unfold dWrite; split
  · show wD d ≤ _; omega
  · split
    · show wD d ≤ _; omega
    · rename_i hf; exact (writeGo_ok _ h (Decidable.not_not.1 hf)).2
def dCut (d : DDisk) (f n : Int) : DDisk × Int := if ¬ wrongD d = 0 then (d, wrongD d) else if ¬ inF f ∨ n < 0 ∨ ((heldB d.2.2.2.2.2.1 d.2.2.2.2.2.2 f).length : Int) < n then (d, 2) else
  if (burnD d).2 = true then (addP (burnD d).1 (1, f, [], n), 0) else ((burnD d).1, 6)
theorem cut_ok {d : DDisk} {f n : Int} (h : okD d) : okD (dCut d f n).1 := by
  unfold dCut; split
  · exact h
  · split
    · exact h
    · rename_i h1
      have hf : inF f := Decidable.byContradiction fun q => h1 (.inl q)
      have hn : ¬ n < 0 := fun q => h1 (.inr (.inl q))
      have hl : ¬ ((heldB d.2.2.2.2.2.1 d.2.2.2.2.2.2 f).length : Int) < n := fun q => h1 (.inr (.inr q))
      split
      · refine add_ok (burn_ok h) ⟨.inr rfl, hf, fun h => (by cases h), fun _ => ?_⟩
        rw [(burn_same d).2]
        rw [play_held h.1 hf]
        dsimp only; omega
      · exact burn_ok h
theorem cut_w {d : DDisk} {f n : Int} (h : okD d) : wD (dCut d f n).1 ≤ wD d + 2 := by
  have := burn_w h
  unfold dCut; split
  · show wD d ≤ _; omega
  · split
    · show wD d ≤ _; omega
    · split
      · rw [add_w]; simp only [List.length_nil]; omega
      · dsimp only; omega
def dSync (d : DDisk) : DDisk × Int := if ¬ wrongD d = 0 then (d, wrongD d) else if (burnD d).2 = true then (settleD (burnD d).1 (burnD d).1.2.2.2.2.2.2.length, 0) else ((burnD d).1, 6)
theorem sync_ok {d : DDisk} (h : okD d) : okD (dSync d).1 := by
  unfold dSync; split
  · exact h
  · split
    · exact settle_ok _ (burn_ok h)
    · exact burn_ok h
theorem sync_w {d : DDisk} (h : okD d) : wD (dSync d).1 ≤ wD d + 1 := by
  have h1 := burn_w h
  unfold dSync; split
  · show wD d ≤ _; omega
  · split
    · have := settle_w (burnD d).1 (burnD d).1.2.2.2.2.2.2.length
      dsimp only; omega
    · dsimp only; omega
def dRead (d : DDisk) (f : Int) : Bytes × Int := if ¬ wrongD d = 0 then ([], wrongD d) else if ¬ inF f then ([], 2) else (heldB d.2.2.2.2.2.1 d.2.2.2.2.2.2 f, 0)
theorem read_size (d : DDisk) (f : Int) : (dRead d f).1.length ≤ wD d := by
  have := heldB_size d.2.2.2.2.2.1 d.2.2.2.2.2.2 f
  unfold dRead; split
  · exact Nat.zero_le _
  · split
    · exact Nat.zero_le _
    · dsimp only [wD]; omega
def dFuse (d : DDisk) (n : Int) : DDisk × Int := if ¬ wrongD d = 0 then (d, wrongD d) else if n < 0 then (d, 2) else ((d.1, d.2.1, true, n, d.2.2.2.2), 0)
theorem fuse_ok {d : DDisk} {n : Int} (h : okD d) : okD (dFuse d n).1 := by
  unfold dFuse; split
  · exact h
  · split
    · exact h
    · exact ⟨h.1, by dsimp only; omega, h.2.2⟩
def tornQ (d : DDisk) (t : Int) : Dur := match d.2.2.2.2.2.2 with
  | [] => d.2.2.2.2.2.1
  | s :: _ => if s.1 = 0 then stepQ d.2.2.2.2.2.1 (s.1, s.2.1, s.2.2.1.take (min t ((s.2.2.1.length : Int) - 1)).toNat, s.2.2.2) else d.2.2.2.2.2.1
def dStart (d : DDisk) (k t : Int) : DDisk × Int := if d.1 = false then (d, 1) else if d.2.1 = false ∨ k < 0 ∨ t < 0 then (d, 2) else
  ((d.1, false, false, 0, d.2.2.2.2.1, tornQ (settleD d (min k d.2.2.2.2.2.2.length).toNat) t, []), 0)
theorem start_ok {d : DDisk} {k t : Int} (h : okD d) : okD (dStart d k t).1 := by
  unfold dStart; split
  · exact h
  · split
    · exact h
    · exact ⟨trivial, Int.le_refl _, h.2.2⟩
theorem len_w (d : DDisk) : d.2.2.2.2.2.2.length ≤ wD d := by unfold wD; omega
theorem write_bad1 {d : DDisk} {f : Int} {b : Bytes} (h : ¬ wrongD d = 0) : dWrite d f b = (d, wrongD d) := if_pos h
theorem write_bad2 {d : DDisk} {f : Int} {b : Bytes} (h : ¬ ¬ wrongD d = 0) (h2 : ¬ inF f) : dWrite d f b = (d, 2) := by unfold dWrite; rw [if_neg h, if_pos h2]
theorem write_go {d : DDisk} {f : Int} {b : Bytes} (h : ¬ ¬ wrongD d = 0) (h2 : ¬ ¬ inF f) : dWrite d f b = writeGo b.length d f b := by unfold dWrite; rw [if_neg h, if_neg h2]
theorem cut_bad1 {d : DDisk} {f n : Int} (h : ¬ wrongD d = 0) : dCut d f n = (d, wrongD d) := if_pos h
theorem cut_bad2 {d : DDisk} {f n : Int} (h : ¬ ¬ wrongD d = 0) (h2 : ¬ inF f ∨ n < 0 ∨ ((heldB d.2.2.2.2.2.1 d.2.2.2.2.2.2 f).length : Int) < n) : dCut d f n = (d, 2) := by unfold dCut; rw [if_neg h, if_pos h2]
theorem cut_go {d : DDisk} {f n : Int} (h : ¬ ¬ wrongD d = 0) (h1 : ¬ ¬ inF f) (h2 : ¬ n < 0) (h3 : ¬ ((heldB d.2.2.2.2.2.1 d.2.2.2.2.2.2 f).length : Int) < n) (h4 : ¬ ¬ (burnD d).2 = true) : dCut d f n = (addP (burnD d).1 (1, f, [], n), 0) := by
  unfold dCut; rw [if_neg h, if_neg (fun q => q.elim h1 fun q => q.elim h2 h3), if_pos (Decidable.not_not.1 h4)]
theorem cut_off {d : DDisk} {f n : Int} (h : ¬ ¬ wrongD d = 0) (h1 : ¬ ¬ inF f) (h2 : ¬ n < 0) (h3 : ¬ ((heldB d.2.2.2.2.2.1 d.2.2.2.2.2.2 f).length : Int) < n) (h4 : ¬ (burnD d).2 = true) : dCut d f n = ((burnD d).1, 6) := by
  unfold dCut; rw [if_neg h, if_neg (fun q => q.elim h1 fun q => q.elim h2 h3), if_neg h4]
theorem sync_bad {d : DDisk} (h : ¬ wrongD d = 0) : dSync d = (d, wrongD d) := if_pos h
theorem sync_off {d : DDisk} (h : ¬ ¬ wrongD d = 0) (h4 : ¬ (burnD d).2 = true) : dSync d = ((burnD d).1, 6) := by unfold dSync; rw [if_neg h, if_neg h4]
theorem sync_go {d : DDisk} (h : ¬ ¬ wrongD d = 0) (h4 : ¬ ¬ (burnD d).2 = true) : dSync d = (settleD (burnD d).1 (burnD d).1.2.2.2.2.2.2.length, 0) := by unfold dSync; rw [if_neg h, if_pos (Decidable.not_not.1 h4)]
abbrev DAct := Dlaw05Act
def smallA (l : List DAct) : Prop := (∀ a ∈ l, a.2.2.2.2.length ≤ 400) ∧ l.length ≤ 100
instance (l : List DAct) : Decidable (smallA l) := by unfold smallA; infer_instance
structure Fz (n : Int) (d : DDisk) : Prop where
  ok : okD d
  made : d.1 = true
  has : d.2.2.1 = true
  sum : d.2.2.2.2.1 + d.2.2.2.1 = n
  off : d.2.1 = true → d.2.2.2.1 = 0
theorem Fz.burn {n : Int} {d : DDisk} (h : Fz n d) (ho : d.2.1 = false) : Fz n (burnD d).1 ∧ ((burnD d).2 = true ↔ (burnD d).1.2.1 = false) ∧ ((burnD d).2 = true → (burnD d).1.2.1 = false) := by
  have hk := burn_ok h.ok
  obtain ⟨h1, h2, h3, h4, h5⟩ := h
  unfold burnD at hk ⊢
  rw [if_pos h3] at hk ⊢
  split
  · rename_i h0
    rw [if_pos h0] at hk
    exact ⟨⟨hk, h2, h3, h4, fun _ => h0⟩, by simp, by simp⟩
  · rename_i h0
    rw [if_neg h0] at hk
    exact ⟨⟨hk, h2, h3, by dsimp only; omega, fun q => absurd (ho.symm.trans q) (by decide)⟩, by simp [ho], fun _ => ho⟩
theorem Fz.add {n : Int} {d : DDisk} {s : DStep} (h : Fz n d) (hk : okD (addP d s)) : Fz n (addP d s) := ⟨hk, h.made, h.has, h.sum, h.off⟩
/-- What a call leaves: e the answer, d' the disk behind it. -/
structure Fs (n : Int) (d d' : DDisk) (e : Int) : Prop where
  fz : Fz n d'
  off : e = 6 ↔ d'.2.1 = true
  arg : e = 2 → d' = d
theorem Fs.wrong {n : Int} {d : DDisk} (h : Fz n d) (hw : ¬ wrongD d = 0) : Fs n d d (wrongD d) := by
  have hm : ¬ d.1 = false := by rw [h.made]; decide
  unfold wrongD at hw ⊢
  rw [if_neg hm] at hw ⊢
  by_cases ho : d.2.1 = true
  · rw [if_pos ho]; exact ⟨h, by simp [ho], fun q => by cases q⟩
  · rw [if_neg ho] at hw; exact absurd rfl hw
theorem on_of {n : Int} {d : DDisk} (h : Fz n d) (hw : wrongD d = 0) : d.2.1 = false := by
  have hm : ¬ d.1 = false := by rw [h.made]; decide
  unfold wrongD at hw
  rw [if_neg hm] at hw
  by_cases ho : d.2.1 = true
  · rw [if_pos ho] at hw; cases hw
  · simpa using ho
theorem Fs.go {m : Nat} : ∀ {n : Int} {d : DDisk} {f : Int} {b : Bytes}, Fz n d → inF f → d.2.1 = false → Fs n d (writeGo m d f b).1 (writeGo m d f b).2 := by
  induction m with
  | zero => intro n d f b h _ ho; exact ⟨h, by simp [writeGo, ho], fun _ => rfl⟩
  | succ m ih =>
    intro n d f b h hf ho
    obtain ⟨k1, k2, k3⟩ := h.burn ho
    unfold writeGo
    split
    · exact ⟨h, by simp [ho], fun _ => rfl⟩
    · rename_i h0
      split
      · rename_i hb
        have e1 : b.take 64 = b.take (min b.length 64) := by
          by_cases h0 : b.length ≤ 64
          · rw [Nat.min_eq_left h0, List.take_of_length_le h0, List.take_of_length_le (Nat.le_refl _)]
          · rw [Nat.min_eq_right (by omega)]
        have hs := step_ok (m := min b.length 64) h.ok hf (by omega) rfl
        rw [← e1] at hs
        have hq := ih (b := b.drop 64) (k1.add hs) hf (k3 hb)
        refine ⟨hq.fz, hq.off, fun q => ?_⟩
        exfalso
        have : ∀ (m : Nat) (d : DDisk) (b : Bytes), (writeGo m d f b).2 = 0 ∨ (writeGo m d f b).2 = 6 := by
          intro m
          induction m with
          | zero => intro d b; exact .inl rfl
          | succ m ih => intro d b; unfold writeGo; split
                         · exact .inl rfl
                         · split
                           · exact ih _ _
                           · exact .inr rfl
        rcases this m _ (b.drop 64) with e | e <;> rw [e] at q <;> cases q
      · rename_i hb
        refine ⟨k1, ?_, fun q => by cases q⟩
        have : (burnD d).1.2.1 = true := by
          cases hc : (burnD d).1.2.1 with
          | true => rfl
          | false => exact absurd (k2.2 hc) hb
        simp [this]
theorem Fs.cut {n : Int} {d : DDisk} {f k : Int} (h : Fz n d) : Fs n d (dCut d f k).1 (dCut d f k).2 := by
  have hk := cut_ok (f := f) (n := k) h.ok
  unfold dCut at hk ⊢
  split
  · rename_i hw; exact Fs.wrong h hw
  · rename_i hw
    have ho := on_of h (Decidable.not_not.1 hw)
    obtain ⟨k1, k2, k3⟩ := h.burn ho
    split
    · exact ⟨h, by simp [ho], fun _ => rfl⟩
    · rename_i hf
      rw [if_neg hw, if_neg hf] at hk
      split
      · rename_i hb
        rw [if_pos hb] at hk
        exact ⟨k1.add hk, by show (0 : Int) = 6 ↔ (burnD d).1.2.1 = true; simp [k3 hb], fun q => by cases q⟩
      · rename_i hb
        refine ⟨k1, ?_, fun q => by cases q⟩
        have : (burnD d).1.2.1 = true := by
          cases hc : (burnD d).1.2.1 with
          | true => rfl
          | false => exact absurd (k2.2 hc) hb
        simp [this]
/-- file by file a front part -/
def leQ (p q : Dur) : Prop := ∀ f : Int, inF f → getF p f <+: getF q f
theorem leQ.trans {p q r : Dur} (h : leQ p q) (h' : leQ q r) : leQ p r := fun f hf => (h f hf).trans (h' f hf)
def begB (b a : Bytes) : Prop := a.length ≤ b.length ∧ b.take a.length = a
instance (b a : Bytes) : Decidable (begB b a) := by unfold begB; infer_instance
abbrev DSection := Int × Int × (List DCommit)
instance decSection : DecidableEq DSection := (@instDecidableEqProd _ _ inferInstance (@instDecidableEqProd _ _ inferInstance inferInstance))
def hB1 (B : Bytes) : Bytes := B.drop (sN B 1048576)
def hB2 (B : Bytes) : Bytes := (hB1 B).drop (sN (hB1 B) 1048576)
abbrev hR1 (B : Bytes) : Int × RS := rNum B 1048576 (0, false)
abbrev hR2 (B : Bytes) : Int × RS := rNum B 1048576 (hR1 B).2
abbrev hR3 (B : Bytes) : Int × RS := rNum B 1048576 (hR2 B).2
abbrev DRaw := Dref05Raw
abbrev DRDisk := Dref05Disk
def stepOf (r : DRaw) : DStep := (if r.2.1 = true then 1 else 0, r.1, r.2.2.2, r.2.2.1)
def rawOf (s : DStep) : DRaw := (s.2.1, decide (s.1 = 1), s.2.2.2, s.2.2.1)
@[simp] theorem raw_step (r : DRaw) : rawOf (stepOf r) = r := by obtain ⟨f, c, t, b⟩ := r; cases c <;> rfl
theorem step_raw {s : DStep} (h : s.1 = 0 ∨ s.1 = 1) : stepOf (rawOf s) = s := by
  obtain ⟨k, f, b, t⟩ := s
  rcases h with h | h <;> (dsimp only at h; subst h; rfl)
@[simp] theorem raws_steps (l : List DRaw) : (l.map stepOf).map rawOf = l := by
  rw [List.map_map]
  conv => rhs; rw [← List.map_id l]
  congr 1; funext r; exact raw_step r
@[simp] theorem comp_rs : rawOf ∘ stepOf = id := funext raw_step
theorem steps_raws : ∀ {l : List DStep} {q : Dur}, goodL q l → (l.map rawOf).map stepOf = l
  | [], _, _ => rfl
  | s :: l, q, h => by rw [List.map_cons, List.map_cons, step_raw h.1.1, steps_raws h.2]
def fromR (r : DRDisk) : DDisk := (r.1, !r.2.2.2.1, r.2.2.2.2.1, if r.2.2.2.2.1 = true then r.2.2.2.2.2.1 else 0, r.2.2.2.2.2.2, r.2.1, r.2.2.1.map stepOf)
def toR (d : DDisk) (x : Int) : DRDisk := (d.1, d.2.2.2.2.2.1, d.2.2.2.2.2.2.map rawOf, !d.2.1, d.2.2.1, if d.2.2.1 = true then d.2.2.2.1 else x, d.2.2.2.2.1)
/-- A disk without a fuse has none left. -/
def nf (d : DDisk) : Prop := d.2.2.1 = false → d.2.2.2.1 = 0
theorem from_to {d : DDisk} {x : Int} (h : okD d) (hn : nf d) : fromR (toR d x) = d := by
  obtain ⟨m, o, f, n, c, q, l⟩ := d
  have h1 := steps_raws h.1
  unfold nf at hn
  dsimp only at h1 hn
  unfold fromR toR
  dsimp only
  rw [h1]
  cases f
  · simp [hn rfl]
  · simp
theorem nf_from (r : DRDisk) : nf (fromR r) := by
  unfold nf fromR
  dsimp only
  intro h; rw [h]; rfl
section
variable {d : DDisk}
theorem nf_fuse {n : Int} (h : nf d) : nf (dFuse d n).1 := by
  unfold dFuse; split
  · exact h
  · split
    · exact h
    · intro q; cases q
theorem nf_start {k t : Int} (h : nf d) : nf (dStart d k t).1 := by
  unfold dStart; split
  · exact h
  · split
    · exact h
    · intro _; rfl
end
section
variable {d : DDisk} {f n : Int} {b : Bytes}
theorem read_held {f : Int} (h : wrongD d = 0) (hf : inF f) : dRead d f = (heldB d.2.2.2.2.2.1 d.2.2.2.2.2.2 f, 0) := by
  unfold dRead; rw [if_neg (by rw [h]; decide), if_neg (Decidable.not_not.2 hf)]
theorem go_err : ∀ (n : Nat) {d : DDisk} {b : Bytes}, (writeGo n d f b).2 = 0 ∨ (writeGo n d f b).2 = 6
  | 0, d, b => .inl rfl
  | n + 1, d, b => by
    unfold writeGo
    split
    · exact .inl rfl
    · split
      · exact go_err n
      · exact .inr rfl
end
/-- what the files hold -/
def curD (d : DDisk) : Dur := play d.2.2.2.2.2.1 d.2.2.2.2.2.2
theorem cur_burn (d : DDisk) : curD (burnD d).1 = curD d := by unfold curD; rw [(burn_same d).2]
theorem dur_burn (d : DDisk) : (burnD d).1.2.2.2.2.2.1 = d.2.2.2.2.2.1 := by rw [(burn_same d).2]
theorem made_burn (d : DDisk) : (burnD d).1.1 = d.1 := (burn_same d).1
/-- a disk, on or off, with or without a fuse, to which there were only writes since it was synced -/
structure Pg (d : DDisk) (A S : Dur) : Prop where
  ok : okD d
  made : d.1 = true
  all : ∀ s ∈ d.2.2.2.2.2.2, s.1 = 0 ∧ inF s.2.1
  dur : d.2.2.2.2.2.1 = S
  ends : curD d = A
section
variable {d : DDisk} {A S : Dur} {f n k t : Int} {b : Bytes}
theorem Pg.right (h : Pg d A S) (ho : d.2.1 = false) : wrongD d = 0 := by unfold wrongD; rw [if_neg (by rw [h.made]; decide), if_neg (by rw [ho]; decide)]
theorem Pg.burn (h : Pg d A S) : Pg (burnD d).1 A S := ⟨burn_ok h.ok, by rw [made_burn]; exact h.made, by rw [(burn_same d).2]; exact h.all, by rw [dur_burn]; exact h.dur, by rw [cur_burn]; exact h.ends⟩
end
def Tw (d : DDisk) (r : DRDisk) : Prop := okD d ∧ fromR r = d
theorem Tw.keep {d d' : DDisk} {r : DRDisk} {x : Int} (h : Tw d r) (hk : okD d') (hn : nf d') : Tw d' (toR d' x) := ⟨hk, from_to hk hn⟩
theorem Tw.nf {d : DDisk} {r : DRDisk} (h : Tw d r) : nf d := by rw [← h.2]; exact nf_from r
section
variable {d : DDisk} {r : DRDisk} (h : Tw d r)
include h
theorem Tw.fuse {n : Int} : Tw (dFuse d n).1 (toR (dFuse (fromR r) n).1 r.2.2.2.2.2.1) ∧ (dFuse (fromR r) n).2 = (dFuse d n).2 := by rw [h.2]; exact ⟨h.keep (fuse_ok h.1) (nf_fuse h.nf), rfl⟩
theorem Tw.start {k t : Int} : Tw (dStart d k t).1 (toR (dStart (fromR r) k t).1 r.2.2.2.2.2.1) ∧ (dStart (fromR r) k t).2 = (dStart d k t).2 := by rw [h.2]; exact ⟨h.keep (start_ok h.1) (nf_start h.nf), rfl⟩
end
def smallS (s : DSection) : Prop := (∀ c ∈ s.2.2, c.2.2.length ≤ 40) ∧ s.2.2.length ≤ 40
instance (s : DSection) : Decidable (smallS s) := by unfold smallS; infer_instance
def logOk (ep n : Int) (B : Bytes) : Prop := (fRead B).2.2 = 0 ∧ (cDecode (fRead B).1).2 = 0 ∧ (cFollows ep n [(cDecode (fRead B).1).1]).1 = 0
instance (ep n : Int) (B : Bytes) : Decidable (logOk ep n B) := by unfold logOk; infer_instance
def onD (d : DDisk) : Prop := d.1 = true ∧ d.2.1 = false
instance (d : DDisk) : Decidable (onD d) := by unfold onD; infer_instance
def tornD (d : DDisk) (f n : Int) : DDisk × Int := if ((heldB d.2.2.2.2.2.1 d.2.2.2.2.2.2 f).length : Int) = n then (d, 0) else if ¬ (dCut d f n).2 = 0 then dCut d f n else dSync (dCut d f n).1
section
variable {d : DDisk} {br : Bool} {l l' : List DCommit} {c : DCommit} {q : DDisk × Int} {to n most : Int}
theorem read_err' {f : Int} (d : DDisk) (hf : inF f) : (dRead d f).2 = wrongD d := by
  by_cases h : wrongD d = 0
  · rw [read_held h hf, h]
  · unfold dRead; rw [if_pos h]
theorem wrong_rng (d : DDisk) : 0 ≤ wrongD d ∧ wrongD d ≤ 6 := by unfold wrongD; split; exact ⟨by omega, by omega⟩; split <;> exact ⟨by omega, by omega⟩
theorem write_rng (d : DDisk) (f : Int) (b : Bytes) : 0 ≤ (dWrite d f b).2 ∧ (dWrite d f b).2 ≤ 6 := by
  have h0 := wrong_rng d
  unfold dWrite; split
  · exact h0
  · split
    · exact ⟨by dsimp only; omega, by dsimp only; omega⟩
    · rcases go_err b.length (d := d) (f := f) (b := b) with h | h <;> rw [h] <;> exact ⟨by omega, by omega⟩
theorem tornD_ok {f : Int} (h : okD d) : okD (tornD d f n).1 := by
  unfold tornD; split
  · exact h
  · split
    · exact cut_ok h
    · exact sync_ok (cut_ok h)
theorem tornD_w {f : Int} (h : okD d) : wD (tornD d f n).1 ≤ wD d + 3 := by
  have h1 := cut_w (f := f) (n := n) h
  have h2 := sync_w (cut_ok (f := f) (n := n) h)
  unfold tornD; split
  · dsimp only; omega
  · split
    · omega
    · omega
end
def endR (l : List DRun) : Int := match l.getLast? with
  | some r => r.2.1
  | none => 0
def chainU : Int → List DRun → Prop
  | _, [] => True
  | e, r :: l => runCheck r = 0 ∧ r.1 = e + 1 ∧ chainU r.2.1 l
def okU (l : List DRun) : Prop := chainU 0 l
def rFrame (r : DRun) : Bytes := fEnc (runBody r)
section
variable {l : List DRun} {r x : DRun} {e : Int} {k : Nat}
theorem endR_nil (h : ¬ ¬ (l.length : Int) = 0) : endR l = 0 := by rw [List.eq_nil_of_length_eq_zero (show l.length = 0 by omega)]; rfl
theorem endR_at (hx : l[k]? = some x) (h : k + 1 = l.length) : endR l = x.2.1 := by
  unfold endR; rw [List.getLast?_eq_getElem?, show l.length - 1 = k by omega, hx]
theorem endR_snoc : endR (l ++ [r]) = r.2.1 := by unfold endR; rw [List.getLast?_append]; rfl
theorem chain_app : ∀ {l : List DRun} {e : Int}, chainU e (l ++ [r]) ↔ chainU e l ∧ runCheck r = 0 ∧ r.1 = (match l.getLast? with | some x => x.2.1 | none => e) + 1
  | [], e => by simp [chainU]
  | x :: l, e => by
    have h : (match (x :: l).getLast? with | some x => x.2.1 | none => e) = (match l.getLast? with | some y => y.2.1 | none => x.2.1) := by
      cases l with
      | nil => rfl
      | cons y l => rw [List.getLast?_cons_cons]; cases h : (y :: l).getLast? <;> simp_all
    rw [h, List.cons_append, chainU, chain_app, chainU]; exact ⟨fun h => ⟨⟨h.1, h.2.1, h.2.2.1⟩, h.2.2.2⟩, fun h => ⟨h.1.1, h.1.2.1, h.1.2.2, h.2⟩⟩
theorem okU_nil : okU [] := trivial
theorem okU_snoc (h : okU l) (hc : runCheck r = 0) (he : r.1 = endR l + 1) : okU (l ++ [r]) := chain_app.2 ⟨h, hc, he⟩
theorem okU_all : ∀ {l : List DRun} {e : Int}, chainU e l → ∀ r ∈ l, runCheck r = 0
  | [], _, _, _, h => by cases h
  | x :: l, e, h, r, hr => by
    rcases List.mem_cons.1 hr with rfl | hr
    · exact h.1
    · exact okU_all h.2.2 r hr
theorem chain_len : ∀ {l : List DRun} {e : Int}, chainU e l → e + l.length ≤ (match l.getLast? with | some x => x.2.1 | none => e)
  | [], e, _ => by simp
  | x :: l, e, h => by
    have h0 := runCheck_ok h.1
    have h1 := chain_len h.2.2
    have h2 : (match (x :: l).getLast? with | some x => x.2.1 | none => e) = (match l.getLast? with | some y => y.2.1 | none => x.2.1) := by
      cases l with
      | nil => rfl
      | cons y l => rw [List.getLast?_cons_cons]; cases h : (y :: l).getLast? <;> simp_all
    rw [h2]; have h3 := h.2.1; rw [List.length_cons]; omega
theorem okU_len (h : okU l) : (l.length : Int) ≤ endR l ∧ 0 ≤ endR l ∧ endR l ≤ 1048576 := by
  have h1 := chain_len h
  have h2 : endR l ≤ 1048576 := by
    unfold endR
    cases he : l.getLast? with
    | none => decide
    | some x => exact (runCheck_ok (okU_all h x (List.mem_of_getLast? he))).2.2.2.1
  have h3 : (l.length : Int) ≤ endR l := by have := h1; rw [Int.zero_add] at this; exact this
  exact ⟨h3, by omega, h2⟩
end
def runOkAt (e : Int) (B : Bytes) : Prop := (fRead B).2.2 = 0 ∧ (runDecode (fRead B).1).2 = 0 ∧ (runDecode (fRead B).1).1.1 = e + 1
instance (e : Int) (B : Bytes) : Decidable (runOkAt e B) := by unfold runOkAt; infer_instance
def runGo : Nat → Bytes → List DRun → Int → List DRun × Int
  | 0, _, l, a => (l, a)
  | k + 1, B, l, a => if runOkAt (endR l) (B.drop a.toNat) then runGo k B (l ++ [(runDecode (fRead (B.drop a.toNat)).1).1]) (a + (fRead (B.drop a.toNat)).2.1) else (l, a)
def runF (B : Bytes) : List DRun × Int := runGo B.length B [] 0
def runAt (B : Bytes) (l : List DRun) (a : Int) : Prop := 0 ≤ a ∧ a ≤ B.length ∧ okU l ∧ ∃ n : Nat, (B.length : Int) - a ≤ n ∧ runF B = runGo n B l a
section
variable {B : Bytes} {l : List DRun} {a e : Int}
theorem runAt_0 (B : Bytes) : runAt B [] 0 := ⟨Int.le_refl _, Int.natCast_nonneg _, okU_nil, B.length, by omega, rfl⟩
theorem runOk_pos (h : runOkAt e B) : 1 ≤ (fRead B).2.1 ∧ (fRead B).2.1 ≤ B.length := by
  have := fRead_bounds B
  exact ⟨this.2.2.2.2.1 h.1, this.2.1⟩
theorem runAt_end (h : runAt B l a) (hn : ¬ runOkAt (endR l) (B.drop a.toNat)) : runF B = (l, a) := by
  obtain ⟨_, _, _, n, _, h2⟩ := h
  rw [h2]; cases n with
  | zero => rfl
  | succ n => exact if_neg hn
theorem runAt_next (h : runAt B l a) (ho : runOkAt (endR l) (B.drop a.toNat)) : runAt B (l ++ [(runDecode (fRead (B.drop a.toNat)).1).1]) (a + (fRead (B.drop a.toNat)).2.1) := by
  obtain ⟨h0, h1, h3, n, hn, h2⟩ := h
  have hp := runOk_pos ho
  rw [List.length_drop] at hp
  refine ⟨by omega, by omega, okU_snoc h3 (runDec_zero ho.2.1) ho.2.2, n - 1, by omega, ?_⟩
  rw [h2]; cases n with
  | zero => omega
  | succ n => exact if_pos ho
theorem runOk_of (he : e = endR l) (h1 : ¬ ¬ (fRead B).2.2 = 0) (h2 : ¬ ¬ (runDecode (fRead B).1).2 = 0) (h3 : ¬ ¬ (runDecode (fRead B).1).1.1 = e + 1) : runOkAt (endR l) B := ⟨Decidable.not_not.1 h1, Decidable.not_not.1 h2, by rw [← he]; exact Decidable.not_not.1 h3⟩
theorem runNo_1 (h : ¬ (fRead B).2.2 = 0) : ¬ runOkAt (endR l) B := fun q => h q.1
theorem runNo_2 (h : ¬ (runDecode (fRead B).1).2 = 0) : ¬ runOkAt (endR l) B := fun q => h q.2.1
theorem runNo_3 (he : e = endR l) (h : ¬ (runDecode (fRead B).1).1.1 = e + 1) : ¬ runOkAt (endR l) B := fun q => h (by rw [he]; exact q.2.2)
theorem runGo_spec : ∀ {k : Nat} {l : List DRun} {a : Int}, okU l → 0 ≤ a → a ≤ B.length → okU (runGo k B l a).1 ∧ 0 ≤ (runGo k B l a).2 ∧ (runGo k B l a).2 ≤ B.length
  | 0, l, a, h, h0, h1 => ⟨h, h0, h1⟩
  | k + 1, l, a, h, h0, h1 => by
    unfold runGo; split
    · rename_i ho
      have hp := runOk_pos ho
      rw [List.length_drop] at hp
      exact runGo_spec (okU_snoc h (runDec_zero ho.2.1) ho.2.2) (by omega) (by omega)
    · exact ⟨h, h0, h1⟩
theorem runF_ok (B : Bytes) : okU (runF B).1 ∧ 0 ≤ (runF B).2 ∧ (runF B).2 ≤ B.length := runGo_spec okU_nil (Int.le_refl _) (by omega)
theorem runF_bounds (B : Bytes) : 0 ≤ (runF B).2 ∧ (runF B).2 ≤ B.length ∧ (runF B).1.length ≤ 1048576 := by
  have h := runF_ok B; have h2 := okU_len h.1
  exact ⟨h.2.1, h.2.2, by omega⟩
end
def uOpen (d : DDisk) : DDisk × Int := if ¬ wrongD d = 0 then (d, wrongD d) else tornD d 2 (runF (dRead d 2).1).2
abbrev USt := DDisk × Bool × List DRun
def uFlush (d : DDisk) (br : Bool) (l : List DRun) (x : DRun) : USt × Int :=
  if br = true ∨ ¬ onD d then ((d, true, l), 6) else if ¬ runCheck x = 0 then ((d, br, l), runCheck x) else if ¬ x.1 = endR l + 1 then ((d, br, l), 15)
  else if ¬ (dWrite d 2 (rFrame x)).2 = 0 then (((dWrite d 2 (rFrame x)).1, true, l), (dWrite d 2 (rFrame x)).2)
  else if ¬ (dSync (dWrite d 2 (rFrame x)).1).2 = 0 then (((dSync (dWrite d 2 (rFrame x)).1).1, true, l), (dSync (dWrite d 2 (rFrame x)).1).2)
  else (((dSync (dWrite d 2 (rFrame x)).1).1, br, l ++ [x]), 0)
section
variable {d : DDisk} {br : Bool} {l : List DRun} {x : DRun}
theorem flush_off (h : br = true ∨ ¬ onD d) : uFlush d br l x = ((d, true, l), 6) := if_pos h
theorem flush_enc (h : ¬ (br = true ∨ ¬ onD d)) (h2 : ¬ (runEncode x).2 = 0) : uFlush d br l x = ((d, br, l), (runEncode x).2) := by
  have e : (runEncode x).2 = runCheck x := by unfold runEncode; split <;> (rename_i q; first | exact q.symm | rfl)
  rw [e] at h2 ⊢; unfold uFlush; rw [if_neg h, if_pos h2]
theorem enc_zero (h2 : ¬ ¬ (runEncode x).2 = 0) : runCheck x = 0 ∧ runEncode x = (runBody x, 0) := by
  have e : (runEncode x).2 = runCheck x := by unfold runEncode; split <;> (rename_i q; first | exact q.symm | rfl)
  rw [e] at h2
  exact ⟨Decidable.not_not.1 h2, runEnc_good h2⟩
theorem flush_order (h : ¬ (br = true ∨ ¬ onD d)) (h2 : ¬ ¬ (runEncode x).2 = 0) (h3 : ¬ x.1 = endR l + 1) : uFlush d br l x = ((d, br, l), 15) := by
  unfold uFlush; rw [if_neg h, if_neg (Decidable.not_not.2 (enc_zero h2).1), if_pos h3]
theorem enc_frame (h2 : ¬ ¬ (runEncode x).2 = 0) : fAppend [] (runEncode x).1 = (rFrame x, 0) := by
  have h := enc_zero h2
  have := runBody_len h.1
  rw [h.2, fAppend_good (by dsimp only; omega)]; rfl
theorem rFrame_len (h : runCheck x = 0) : (rFrame x).length ≤ 61510 ∧ 1 ≤ (rFrame x).length := by
  have := runBody_len h
  have h2 := fEnc_len (r := runBody x) (by omega)
  exact ⟨by unfold rFrame; omega, fEnc_pos _⟩
theorem enc_flen (h2 : ¬ ¬ (runEncode x).2 = 0) : (fAppend [] (runEncode x).1).1.length ≤ 61510 := by rw [enc_frame h2]; exact (rFrame_len (enc_zero h2).1).1
theorem flush_write (h : ¬ (br = true ∨ ¬ onD d)) (h2 : ¬ ¬ (runEncode x).2 = 0) (h3 : ¬ ¬ x.1 = endR l + 1) (h4 : ¬ (dWrite d 2 (fAppend [] (runEncode x).1).1).2 = 0) :
    uFlush d br l x = (((dWrite d 2 (fAppend [] (runEncode x).1).1).1, true, l), (dWrite d 2 (fAppend [] (runEncode x).1).1).2) := by
  rw [enc_frame h2] at h4 ⊢; unfold uFlush; rw [if_neg h, if_neg (Decidable.not_not.2 (enc_zero h2).1), if_neg h3, if_pos h4]
theorem flush_sync (h : ¬ (br = true ∨ ¬ onD d)) (h2 : ¬ ¬ (runEncode x).2 = 0) (h3 : ¬ ¬ x.1 = endR l + 1) (h4 : (dWrite d 2 (fAppend [] (runEncode x).1).1).2 = 0) (h5 : ¬ (dSync (dWrite d 2 (fAppend [] (runEncode x).1).1).1).2 = 0) :
    uFlush d br l x = (((dSync (dWrite d 2 (fAppend [] (runEncode x).1).1).1).1, true, l), (dSync (dWrite d 2 (fAppend [] (runEncode x).1).1).1).2) := by
  rw [enc_frame h2] at h4 h5 ⊢; unfold uFlush; rw [if_neg h, if_neg (Decidable.not_not.2 (enc_zero h2).1), if_neg h3, if_neg (Decidable.not_not.2 h4), if_pos h5]
theorem flush_good (h : ¬ (br = true ∨ ¬ onD d)) (h2 : ¬ ¬ (runEncode x).2 = 0) (h3 : ¬ ¬ x.1 = endR l + 1) (h4 : (dWrite d 2 (fAppend [] (runEncode x).1).1).2 = 0) (h5 : ¬ ¬ (dSync (dWrite d 2 (fAppend [] (runEncode x).1).1).1).2 = 0) :
    uFlush d br l x = (((dSync (dWrite d 2 (fAppend [] (runEncode x).1).1).1).1, br, l ++ [x]), 0) := by
  rw [enc_frame h2] at h4 h5 ⊢; unfold uFlush; rw [if_neg h, if_neg (Decidable.not_not.2 (enc_zero h2).1), if_neg h3, if_neg (Decidable.not_not.2 h4), if_neg h5]
theorem flush_okU (h : okU l) : okU (uFlush d br l x).1.2.2 := by
  unfold uFlush; split
  · exact h
  · split
    · exact h
    · split
      · exact h
      · split
        · exact h
        · split
          · exact h
          · rename_i h2 h3 _ _; exact okU_snoc h (Decidable.not_not.1 h2) (Decidable.not_not.1 h3)
theorem flush_ok (h : okD d) : okD (uFlush d br l x).1.1 := by
  unfold uFlush; split
  · exact h
  · split
    · exact h
    · split
      · exact h
      · split
        · exact write_ok h
        · split <;> exact sync_ok (write_ok h)
theorem flush_w (h : okD d) : wD (uFlush d br l x).1.1 ≤ wD d + 184600 := by
  unfold uFlush; split
  · dsimp only; omega
  · split
    · dsimp only; omega
    · rename_i h0; split
      · dsimp only; omega
      · have h1 := write_w (f := 2) (b := rFrame x) h
        have h2 := (rFrame_len (Decidable.not_not.1 h0)).1
        have h3 := sync_w (write_ok (f := 2) (b := rFrame x) h)
        split
        · dsimp only; omega
        · split <;> (dsimp only; omega)
theorem uopen_ok (h : okD d) : okD (uOpen d).1 := by unfold uOpen; split; exact h; exact tornD_ok h
theorem uopen_w (h : okD d) : wD (uOpen d).1 ≤ wD d + 3 := by unfold uOpen; split; (dsimp only; omega); exact tornD_w h
theorem uopen_bad (h : ¬ (dRead d 2).2 = 0) : uOpen d = (d, (dRead d 2).2) := by rw [read_err' d (by decide)] at h ⊢; exact if_pos h
theorem uopen_read (h : ¬ ¬ (dRead d 2).2 = 0) : wrongD d = 0 ∧ dRead d 2 = (heldB d.2.2.2.2.2.1 d.2.2.2.2.2.2 2, 0) := by
  rw [read_err' d (by decide)] at h
  have h0 := Decidable.not_not.1 h
  exact ⟨h0, read_held h0 (by decide)⟩
theorem uopen_go (h : ¬ ¬ (dRead d 2).2 = 0) : uOpen d = tornD d 2 (runF (dRead d 2).1).2 := by unfold uOpen; rw [if_neg (Decidable.not_not.2 (uopen_read h).1)]
theorem uopen_is (h : ¬ ¬ (dRead d 2).2 = 0) : heldB d.2.2.2.2.2.1 d.2.2.2.2.2.2 2 = (dRead d 2).1 := by rw [(uopen_read h).2]
theorem uopen_whole (h : ¬ ¬ (dRead d 2).2 = 0) (h2 : ¬ (runF (dRead d 2).1).2 < ((dRead d 2).1.length : Int)) : uOpen d = (d, 0) := by
  have h3 := (runF_bounds (dRead d 2).1).2.1
  rw [uopen_go h]; unfold tornD; rw [uopen_is h, if_pos (by omega)]
theorem uopen_cutbad (h : ¬ ¬ (dRead d 2).2 = 0) (h2 : (runF (dRead d 2).1).2 < ((dRead d 2).1.length : Int)) (h3 : ¬ (dCut d 2 (runF (dRead d 2).1).2).2 = 0) : uOpen d = dCut d 2 (runF (dRead d 2).1).2 := by
  rw [uopen_go h]; unfold tornD; rw [uopen_is h, if_neg (by omega), if_pos h3]
theorem uopen_sync (h : ¬ ¬ (dRead d 2).2 = 0) (h2 : (runF (dRead d 2).1).2 < ((dRead d 2).1.length : Int)) (h3 : ¬ ¬ (dCut d 2 (runF (dRead d 2).1).2).2 = 0) : uOpen d = dSync (dCut d 2 (runF (dRead d 2).1).2).1 := by
  rw [uopen_go h]; unfold tornD; rw [uopen_is h, if_neg (by omega), if_neg h3]
end
theorem fnOk19 : fnOk Try.prog 19 = true := by kernel_rfl
theorem fnOk75 : fnOk Try.prog 75 = true := by kernel_rfl
theorem tsl47 : tsl Try.prog 47 = some (32, 3, 40) := by kernel_rfl
theorem fin0_uScan_ok {P : Prop} (h : P := by first | exact congrArg Prod.fst (runAt_end hl (runNo_1 (by assumption))) | exact (congrArg Prod.fst (runAt_end hl (runNo_1 (by assumption)))).symm | (rw [runAt_end hl (runNo_1 (by assumption))]; done) | exact congrArg Prod.fst (runAt_end hl (runNo_2 (by assumption))) | exact (congrArg Prod.fst (runAt_end hl (runNo_2 (by assumption)))).symm | (rw [runAt_end hl (runNo_2 (by assumption))]; done) | exact congrArg Prod.fst (runAt_end hl (runNo_3 hen (by assumption))) | exact (congrArg Prod.fst (runAt_end hl (runNo_3 hen (by assumption)))).symm | (rw [runAt_end hl (runNo_3 hen (by assumption))]; done)) : P := h
set_option maxHeartbeats 4000000 in
theorem uScan_ok (W : World) {v0 : Value} {d0 : List UInt8} (h0 : Rd (.sl .byte) (wm W) [v0] d0) (e0 : d0.length ≤ 140737488355000) : CallR Try.prog 39 [v0] W (mnil) (fun v m' => ∃ (s0 : Value), v = .tuple #[s0, .int .i64 ((runF d0).2)] ∧ Ow (.sl TRun) m' [s0] ((runF d0).1)) := by
  obtain ⟨A0, c0, rfl, l0, k0⟩ := h0.slice
  simp only [maxLen] at k0
  refine CallR.ofA (n := 46) Try.func39 rfl rfl rfl ?_
  refine VC.rs ?_
  refine VO.as ?_
  refine VO.as ?_
  refine VO.k3 0 2 3 ?_
  refine VC.rs ?_
  refine VO.as ?_
  refine VO.k4 0 2 3 4 ?_
  refine VC.rs ?_
  refine VO.as ?_
  refine VO.as ?_
  refine VO.kp [0] [(0, wm W)] ?_
  refine VO.k6 0 2 3 4 5 6 ?_
  refine VC.seq ?_
  refine VC.block ?_
  refine VC.inv ((101, mnil) :: _) (fun _ h => h.nilc 101) ?_
  refine VC.loop (G := (List DRun) × (Option Addr) × Nat × Mem × Int × Int) (fun g => [(4, Value.slice (g.2.1) ((g.1).length) ((g.2.2.1))), (5, Value.int .i64 ((g.2.2.2.2.2))), (6, Value.int .i64 ((g.2.2.2.2.1))), (0, Value.slice A0 (d0.length) (c0)), (2, Value.slice none (0) (0)), (3, Value.int .i64 (0))]) (fun g => [(101, (g.2.2.2.1)), (0, wm W)]) (fun g => (runAt d0 (g.1) (g.2.2.2.2.1)) ∧ ((g.2.2.2.2.2) = endR (g.1)) ∧ (Ow (.sl TRun) (g.2.2.2.1) [.slice (g.2.1) (g.1).length (g.2.2.1)] (g.1))) (fun g => ((d0.length : Int) - (g.2.2.2.2.1)).toNat) ([], none, 0, mnil, 0, 0) (⟨by exact runAt_0 d0, by rfl, (Ow.nil TRun mnil)⟩) ⟨⟨rfl, rfl, rfl, rfl, rfl, rfl, trivial⟩, fun _ h => h.sub [101, 0]⟩ ?_
  rintro ⟨l, l_A, l_c, l_m, at_, en⟩ ⟨hl, hen, h_l⟩
  replace hl : runAt d0 l at_ := hl
  replace hen : en = endR l := hen
  replace h_l : Ow (.sl TRun) l_m [.slice l_A l.length l_c] l := h_l
  show VC _ _ _ _ _ [(4, Value.slice l_A (l.length) (l_c)), (5, Value.int .i64 (en)), (6, Value.int .i64 (at_)), (0, Value.slice A0 (d0.length) (c0)), (2, Value.slice none (0) (0)), (3, Value.int .i64 (0))] [(101, l_m), (0, wm W)]
  have l_l : l.length ≤ l_c := by obtain ⟨_, _, he, hl, _⟩ := h_l.slice; simp only [Value.slice.injEq] at he; omega
  have k_l : l_c ≤ 9223372036854775807 := by obtain ⟨_, _, he, _, hl⟩ := h_l.slice; simp only [Value.slice.injEq, maxLen] at he hl; omega
  have hat0 := hl.1; have hat1 := hl.2.1
  have hrb := fRead_bounds (d0.drop at_.toNat)
  have hll := okU_len hl.2.2.1
  have hen2 := hen
  refine VC.block ?_
  refine VC.rs ?_
  refine VO.mv ?_
  refine VO.mv ?_
  obtain ⟨A2, hA2, hs2⟩ := h0.drop 1 ((at_).toNat) rfl bd
  refine VO.y rfl (.slLI ((at_).toNat) A2 rfl rfl tsl38 bd hA2 bd) ?_
  refine VO.callN 103 rfl fnOk75 rfl (fun W hW => fRead_ok W (Rd.mono hs2 (hW.at (i := 0) rfl))) (fun v3 m3 hv3 => ?_)
  obtain ⟨s3_0, rfl, f3_0⟩ := hv3
  have hfa4 := fRead_bounds (d0.drop ((at_).toNat))
  obtain ⟨A3_0, c3_0, eq3_0, l3_0, k3_0⟩ := f3_0.slice
  subst eq3_0
  simp only [maxLen] at k3_0
  refine VO.mv ?_
  refine VO.y rfl (.ext rfl rfl) ?_
  refine VO.y rfl (.ext rfl rfl) ?_
  refine VO.y rfl (.ext rfl rfl) ?_
  refine VO.as ?_
  refine VO.as ?_
  refine VO.as ?_
  refine VO.k9 0 2 3 4 5 6 7 8 9 ?_
  refine VC.seq ?_
  refine VC.rs ?_
  refine VO.mv ?_
  refine VO.y rfl (.neq rfl rfl) ?_
  refine VO.k10 0 2 3 4 5 6 7 8 9 20 ?_
  refine VC.cond rfl (fun hc5 => ?_) (fun hc5 => ?_)
  · -- T
    refine VC.exit ?_
    refine outE ?_
    refine outBE rfl ?_
    refine outE ?_
    refine outBB ?_
    refine outN ?_
    refine VC.rs ?_
    refine VO.mv ?_
    refine VO.mv ?_
    refine VO.as ?_
    refine VO.as ?_
    refine VO.kp [103, 101, 0] [(103, m3), (101, l_m), (0, wm W)] ?_
    refine VO.k10 0 2 3 4 5 6 7 8 9 20 ?_
    refine VC.ret ?_
    refine ⟨_, _, res_run (rs := [.tmp 2, .tmp 3]) rfl (.tmp rfl (.tmp rfl .nil)), fun W_ hI => out_of (l := [l_m]) hI [101] rfl rfl (mle_refl _) (fun hS_ => ?_)⟩
    dsimp only [packV]
    have he0 : ((runF d0).1 : Ty.Den (.sl TRun)) = l := by first | rfl | (exact fin0_uScan_ok)
    refine ⟨Value.slice l_A (l.length) (l_c), ?_, ?_⟩
    rotate_left
    · rw [he0]; exact (Ow.up h_l (hS_.1 _ (.head _)))
    all_goals (first | rfl | (exact fin0_uScan_ok))
  · -- F
    refine VC.skip ?_
    refine outN ?_
    refine VC.rs ?_
    refine VO.mv ?_
    refine VO.callN 106 rfl fnOk19 rfl (fun W hW => runDecode_ok W (OwnL.rd (Ow.ownl f3_0 rfl mnil) (hW.at (i := 103) rfl) (mle_nil _))) (fun v6 m6 hv6 => ?_)
    obtain ⟨s6_0, rfl, f6_0⟩ := hv6
    have hfa7 := runDecode_fits ((fRead (d0.drop ((at_).toNat))).1)
    obtain ⟨q6_0_A2, q6_0_c2, q6_0_n2, rfl, q6_0_S, q6_0_0, q6_0_1, q6_0_2⟩ := openO_Run (x0 := ((runDecode ((fRead (d0.drop ((at_).toNat))).1)).1).1) (x1 := ((runDecode ((fRead (d0.drop ((at_).toNat))).1)).1).2.1) (x2 := ((runDecode ((fRead (d0.drop ((at_).toNat))).1)).1).2.2) f6_0
    simp only [inK] at q6_0_0
    simp only [inK] at q6_0_1
    have q6_0_r2 := q6_0_2.rm
    refine VO.inv _ (fun _ h => h.parts (i := 106) rfl q6_0_S [108]) ?_
    refine VO.mv ?_
    refine VO.y rfl (.ext rfl rfl) ?_
    refine VO.y rfl (.ext rfl rfl) ?_
    refine VO.alloc 110 rfl tz32 (fun g9 => ?_)
    refine VO.store (k := 3) (c' := [Value.int .i64 (((runDecode ((fRead (d0.drop ((at_).toNat))).1)).1).1), Value.int .i64 (((runDecode ((fRead (d0.drop ((at_).toNat))).1)).1).2.1), Value.slice q6_0_A2 ((((runDecode ((fRead (d0.drop ((at_).toNat))).1)).1).2.2).length) (q6_0_c2)]) 110 rfl rfl (.inl tk32) rfl rfl rfl rfl rfl ?_
    refine VO.as ?_
    refine VO.kp [110, 108, 103, 101, 0] [(110, mone g9 (.cells [Value.int .i64 (((runDecode ((fRead (d0.drop ((at_).toNat))).1)).1).1), Value.int .i64 (((runDecode ((fRead (d0.drop ((at_).toNat))).1)).1).2.1), Value.slice q6_0_A2 ((((runDecode ((fRead (d0.drop ((at_).toNat))).1)).1).2.2).length) (q6_0_c2)].toArray 32 (0, 0))), (108, q6_0_n2), (103, m3), (101, l_m), (0, wm W)] ?_
    refine VO.k11 0 2 3 4 5 6 7 8 9 10 20 ?_
    refine VC.seq ?_
    refine VC.rs ?_
    refine VO.mv ?_
    refine VO.y rfl (.neq rfl rfl) ?_
    refine VO.mv ?_
    refine VO.dec (t := 28) rfl (fun hc11 => ?_) (fun hc11 => ?_)
    · -- FT
      refine VO.gN ?_
      refine VO.gN ?_
      refine VO.gN ?_
      refine VO.gN ?_
      refine VO.gN ?_
      refine VO.y rfl (.pT rfl rfl) ?_
      refine VO.k12 0 2 3 4 5 6 7 8 9 10 20 34 ?_
      refine VC.condT rfl ?_
      refine VC.exit ?_
      refine outE ?_
      refine outBE rfl ?_
      refine outE ?_
      refine outBB ?_
      refine outN ?_
      refine VC.rs ?_
      refine VO.mv ?_
      refine VO.mv ?_
      refine VO.as ?_
      refine VO.as ?_
      refine VO.k12 0 2 3 4 5 6 7 8 9 10 20 34 ?_
      refine VC.ret ?_
      refine ⟨_, _, res_run (rs := [.tmp 2, .tmp 3]) rfl (.tmp rfl (.tmp rfl .nil)), fun W_ hI => out_of (l := [l_m]) hI [101] rfl rfl (mle_refl _) (fun hS_ => ?_)⟩
      dsimp only [packV]
      have he0 : ((runF d0).1 : Ty.Den (.sl TRun)) = l := by first | rfl | (exact fin0_uScan_ok)
      refine ⟨Value.slice l_A (l.length) (l_c), ?_, ?_⟩
      rotate_left
      · rw [he0]; exact (Ow.up h_l (hS_.1 _ (.head _)))
      all_goals (first | rfl | (exact fin0_uScan_ok))
    · -- FF
      refine VO.gy rfl ⟨_, rfl, rfl⟩ (.fa rfl tst32 rfl) ?_
      refine VO.gy rfl ⟨_, rfl, rfl⟩ (.ld1 110 rfl tk3 rfl (cellsAt_one rfl rfl)) ?_
      refine VO.gy rfl ⟨_, rfl, rfl⟩ (.mv rfl) ?_
      refine VO.gy rfl ⟨_, rfl, rfl⟩ (.add rfl rfl rfl ⟨bd, bd⟩) ?_
      refine VO.gy rfl ⟨_, rfl, rfl⟩ (.neq rfl rfl) ?_
      refine VO.y rfl (.pF rfl rfl) ?_
      refine VO.k12 0 2 3 4 5 6 7 8 9 10 20 34 ?_
      refine VC.cond rfl (fun hc12 => ?_) (fun hc12 => ?_)
      · -- FFT
        refine VC.exit ?_
        refine outE ?_
        refine outBE rfl ?_
        refine outE ?_
        refine outBB ?_
        refine outN ?_
        refine VC.rs ?_
        refine VO.mv ?_
        refine VO.mv ?_
        refine VO.as ?_
        refine VO.as ?_
        refine VO.k12 0 2 3 4 5 6 7 8 9 10 20 34 ?_
        refine VC.ret ?_
        refine ⟨_, _, res_run (rs := [.tmp 2, .tmp 3]) rfl (.tmp rfl (.tmp rfl .nil)), fun W_ hI => out_of (l := [l_m]) hI [101] rfl rfl (mle_refl _) (fun hS_ => ?_)⟩
        dsimp only [packV]
        have he0 : ((runF d0).1 : Ty.Den (.sl TRun)) = l := by first | rfl | (exact fin0_uScan_ok)
        refine ⟨Value.slice l_A (l.length) (l_c), ?_, ?_⟩
        rotate_left
        · rw [he0]; exact (Ow.up h_l (hS_.1 _ (.head _)))
        all_goals (first | rfl | (exact fin0_uScan_ok))
      · -- FFF
        refine VC.skip ?_
        refine outN ?_
        refine VC.regD _ 11 [(0, true), (1, true), (4, true), (5, true), (6, true), (7, true), (8, true), (2, false), (3, false), (9, true), (10, true)] follows (by kernel_rfl) (fun _ h => h.sub [110, 103, 0]) ?_
        refine VD.y rfl rfl (.inl rfl) (.mv rfl) ?_
        refine VD.y rfl rfl (.inl rfl) (.ldA 110 rfl tk32 rfl (cellsAt_one rfl rfl)) ?_
        refine VD.y rfl rfl (.inl rfl) (.fa rfl tst32 rfl) ?_
        refine VD.y rfl rfl (.inl rfl) (.ld1 110 rfl tk3 rfl (cellsAt_one rfl rfl)) ?_
        refine VD.y rfl rfl (.inl rfl) (.mv rfl) ?_
        refine VD.y rfl rfl (.inl rfl) (.mv rfl) ?_
        refine VD.y rfl rfl (.inl rfl) (.add rfl rfl rfl ⟨bd, bd⟩) ?_
        refine VD.bsl (cs := [Value.int .i64 (((runDecode ((fRead (d0.drop ((at_).toNat))).1)).1).1), Value.int .i64 (((runDecode ((fRead (d0.drop ((at_).toNat))).1)).1).2.1), Value.slice q6_0_A2 ((((runDecode ((fRead (d0.drop ((at_).toNat))).1)).1).2.2).length) (q6_0_c2)]) 114 rfl rfl rfl tsl47 tz32 rfl rfl (fun _ h => h.sub [110, 103, 0]) (fun g13 => ?_)
        refine VD.appO (e := TRun) 101 108 114 rfl rfl rfl rfl tsl47 tz32 rfl rfl rfl rfl h_l (show Ow TRun _ _ ((runDecode ((fRead (d0.drop ((at_).toNat))).1)).1) from (mkO_Run (((runDecode ((fRead (d0.drop ((at_).toNat))).1)).1).1) (((runDecode ((fRead (d0.drop ((at_).toNat))).1)).1).2.1) (((runDecode ((fRead (d0.drop ((at_).toNat))).1)).1).2.2) (Seps.one (mle_refl _)) bdk bdk (OwnL.ow (Ow.ownl q6_0_2 rfl mnil) rfl))) Try.underlying47 (cellsAt_one rfl rfl) bdm bd (by decide) (fun _ _ h => h.sub [110, 103, 0]) (fun v15 m15 ho15 => ?_)
        obtain ⟨A15, c15, rfl, l15, k15⟩ := ho15.slice
        simp only [maxLen] at k15
        refine VD.y rfl rfl (.inl rfl) (.as rfl) ?_
        refine VD.y rfl rfl (.inl rfl) (.as rfl) ?_
        refine VD.nil rfl ?_ rfl
        refine VO.as ?_
        refine VO.k12 0 2 3 4 5 6 7 8 9 10 20 34 ?_
        refine outBN ?_
        exact outN ⟨⟨l ++ [((runDecode ((fRead (d0.drop ((at_).toNat))).1)).1)], A15, c15, m15, at_ + ((fRead (d0.drop ((at_).toNat))).2.1), ((runDecode ((fRead (d0.drop ((at_).toNat))).1)).1).2.1⟩, ⟨by exact runAt_next hl (runOk_of hen (by assumption) (by assumption) (by assumption)), by exact endR_snoc.symm, ho15⟩, by (have h_ := runOk_pos (runOk_of hen (by assumption) (by assumption) (by assumption)); simp only [List.length_drop] at *; omega), ⟨⟨rfl, rfl, rfl, rfl, rfl, rfl, trivial⟩, fun _ h => Inv.sub h [101, 0]⟩⟩
end Go.Proofs.Ytgmdjhdgaddigaa
