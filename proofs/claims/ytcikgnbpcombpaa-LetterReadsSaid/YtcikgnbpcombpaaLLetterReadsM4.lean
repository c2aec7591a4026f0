/- Part 4 of the proof of LLetterReads: what it needs of the library, the walks and the plain laws. Conditions: those named in each theorem. -/
import Derived.Test.YtcikgnbpcombpaaLLetterReadsM3
namespace Go.Proofs.Ytcikgnbpcombpaa
section
set_option linter.unusedVariables false
theorem cellsAt.uniq {m : Mem} {g off k : Nat} {a b : List Value} (h : cellsAt m g off k a) (h' : cellsAt m g off k b) : a = b := by
  obtain ⟨c, E, fz, h1, h2, h3⟩ := h
  obtain ⟨c', E', fz', h1', h2', h3'⟩ := h'
  rw [h1] at h1'
  cases h1'
  rw [h3, h3']
theorem OwAll.hole {α : Type} {R : Mem → List Value → α → Prop} {k : Nat} (hk : ∀ m c x, R m c x → c.length = k) : ∀ {xs : List α} {m : Mem} {cs : List Value} {i : Nat} {a : α}, OwAll R m cs xs → xs[i]? = some a →
    ∃ mr me, mdj mr me ∧ mle mr m ∧ mle me m ∧ R me ((cs.drop (i * k)).take k) a ∧ ∀ me' x', mdj mr me' → R me' ((cs.drop (i * k)).take k) x' → OwAll R (mun mr me') cs (xs.set i x')
  | y :: r, m, _, 0, a, ⟨c1, c2, m1, m2, h1, h2, h3, h4, h5, h6⟩, hi => by
    simp at hi; subst hi
    have e : ((c1 ++ c2).drop (0 * k)).take k = c1 := by rw [Nat.zero_mul, List.drop_zero]; exact List.take_left' (hk _ _ _ h5)
    rw [h1, e]
    exact ⟨m2, m1, h2.symm, h4, h3, h5, fun me' x' hd hx => ⟨c1, c2, me', m2, rfl, hd.symm, mle_un_right hd, mle_un_left _ _, hx, h6⟩⟩
  | y :: r, m, _, i + 1, a, ⟨c1, c2, m1, m2, h1, h2, h3, h4, h5, h6⟩, hi => by
    have hi' : r[i]? = some a := by simpa using hi
    obtain ⟨mr, me, d, l1, l2, hR, hb⟩ := OwAll.hole hk h6 hi'
    have d1 : mdj m1 mr := h2.mono (mle_refl _) l1
    have e : ((c1 ++ c2).drop ((i + 1) * k)).take k = (c2.drop (i * k)).take k := by
      rw [show (i + 1) * k = c1.length + i * k by rw [hk _ _ _ h5, Nat.add_mul]; omega, ← List.drop_drop, List.drop_left]
    rw [h1, e]
    refine ⟨mun m1 mr, me, mdj_un (h2.mono (mle_refl _) l2) d, mun_le h3 (l1.trans h4), l2.trans h4, hR, fun me' x' hd hx => ?_⟩
    have d2 := hd.mono (mle_un_left _ _) (mle_refl _)
    have d3 := hd.mono (mle_un_right d1) (mle_refl _)
    exact ⟨c1, c2, m1, mun mr me', rfl, (mdj_un d1.symm d2.symm).symm, (mle_un_left _ _).trans (mle_un_left _ _), mun_le ((mle_un_right d1).trans (mle_un_left _ _)) (mle_un_right hd), h5, hb me' x' d3 hx⟩
/-- An element of a list of one's own is taken out; what is put back goes into its place. -/
theorem Ow.hole {e : Ty} {m : Mem} {g off l c i : Nat} {xs : List e.Den} {a : e.Den} {yc : List Value} (h : Ow (.sl e) m [.slice (some ⟨g, off, none⟩) l c] xs) (hi : xs[i]? = some a) (hc : cellsAt m g (off + i * e.sz) e.sz yc) :
    ∃ mr me, Seps m [mr, me] ∧ Ow e me yc a ∧ ∀ me' x', mdj mr me' → Ow e me' yc x' → Ow (.sl e) (mun mr me') [.slice (some ⟨g, off, none⟩) l c] (xs.set i x') := by
  obtain ⟨m0, m1, rc, hS, hA, hL⟩ := h.opn
  have hlt : i < xs.length := (List.getElem?_eq_some_iff.1 hi).1
  have d01 : mdj m0 m1 := by have := hS.2; simpa using this
  have l0 := hS.1 m0 (.head _)
  have l1 := hS.1 m1 (.tail _ (.head _))
  obtain ⟨g', off', c', hv, hcell⟩ := hA.cells (by omega)
  simp only [Value.slice.injEq, Option.some.injEq, Addr.mk.injEq, and_true] at hv
  obtain ⟨⟨rfl, rfl⟩, hl, rfl⟩ := hv
  have hm2 : i * e.sz + e.sz ≤ xs.length * e.sz := by
    have := Nat.mul_le_mul_right e.sz (Nat.succ_le_of_lt hlt)
    rwa [Nat.succ_mul] at this
  have hyc := ((hcell.sub hm2).mono l0).uniq hc
  obtain ⟨mr, me, d, k1, k2, hR, hb⟩ := OwAll.hole (fun _ _ _ h => h.len) hL hi
  rw [hyc] at hR hb
  have d0r : mdj m0 mr := d01.mono (mle_refl _) k1
  have d0e : mdj m0 me := d01.mono (mle_refl _) k2
  refine ⟨mun m0 mr, me, .two (mdj_un d0e d) (mun_le l0 (k1.trans l1)) (k2.trans l1), hR, fun me' x' hd hx => ?_⟩
  have d2 := hd.mono (mle_un_left _ _) (mle_refl _)
  have d3 := hd.mono (mle_un_right d0r) (mle_refl _)
  refine Ow.cls (m0 := m0) (m1 := mun mr me') (rc := rc) (.two (mdj_un d0r.symm d2.symm).symm ((mle_un_left _ _).trans (mle_un_left _ _)) (mun_le ((mle_un_right d0r).trans (mle_un_left _ _)) (mle_un_right hd))) ?_ (hb me' x' d3 hx)
  rw [List.length_set]; exact hA
theorem Seps.back {e : Ty} {mr me : Mem} {v : Value} {xs : List e.Den} (hS : Seps (muns [mr, me]) [mr, me]) (h : mdj mr me → Ow (.sl e) (mun mr me) [v] xs) : Ow (.sl e) (muns [mr, me]) [v] xs :=
  (h (by simpa using hS.2)).up (mun_le (hS.1 _ (.head _)) (hS.1 _ (.tail _ (.head _))))
section
variable {P : Program} {n : Nat} {w0 : World} {σ : Env} {Ω : Ctx} {ops : Array Oper} {K : Env → Ctx → Prop} {R : Exit → Env → Ctx → Prop}
variable {ty : TypeId} {pos : String} {af : Array Edge} {d : Option Tmp} {gd : Option (Nat × Bool)} {r : List Oper}
theorem appIn_wp {s x : Operand} {t xt e : TypeId} {sz b len cap k : Nat} {A : Option Addr} {xv : Value} {cs xs : List Value} {i : Nat} {m m0 : Mem} {a : Act} {W : World} (he : EnvOk n σ a) (hi : Inv w0 Ω W) (hsv : ev σ s = some (.slice A len cap)) (hxv : ev σ x = some xv) (ht : tsl P t = some (e, sz, b))
    (hm : cget Ω i = some m) (hm0 : mle m0 m) (hown : OwnA sz m0 (.slice A len cap) len cs) (hs : SrcW P W sz xt xv k xs) (h1 : ∀ u ∈ xs, u.oneCell' = true) (hle : len + k ≤ cap)
    {K' : Act → World → Prop} {Q : Exit → Act → World → Prop} (hK : ∀ m' W', OwnA sz m' (.slice A (len + k) cap) (len + k) (cs ++ xs) → Inv w0 (cset Ω i m') W' → K' (a.put d (.slice A (len + k) cap)) W') :
    (⟨d, .call { callee := .builtin .append, args := [s, x].toArray, argTypes := [t, xt].toArray }, ty, pos, af, gd⟩ : Oper).wp P a W K' Q := by
  have hex : ∀ (res : Value) (W' : World), (Builtin.append_ #[t, xt] ty #[.slice A len cap, xv]).run P W = .ok res W' → (execOp a.eval ⟨d, .call { callee := .builtin .append, args := [s, x].toArray, argTypes := [t, xt].toArray }, ty, pos, af, gd⟩).run P W = .ok (.value res) W' := by
    intro res W' h
    simp [execOp, resolve, invoke, builtin, he.eval hsv, he.eval hxv, h]
  cases hown with
  | nil A =>
    have hk : k = 0 := by omega
    subst hk
    have hx : xs = [] := List.eq_nil_of_length_eq_zero (by simpa using hs.len)
    subst hx
    unfold Oper.wp
    rw [hex (.slice A 0 0) W (by rw [append_eq ht hs ty (by omega)]; cases A <;> rfl)]
    exact hK mnil _ (.nil A) (hi.set hm rfl rfl rfl (Nat.le_refl _) (mout_le _ _) (mle_nil _) fun g => .inl rfl)
  | row g off len cap E c h1' h2' h3' =>
    have hg := hi.at hm g _ (hm0 g _ (mone_self _ _))
    have hmul := Nat.mul_le_mul_right sz hle
    have hl2 := hs.len
    obtain ⟨W', hrun, ho, htp, hu, hsz, hfar, hgg⟩ := setCells_heap (P := P) xs W g (off + len * sz) c.toArray E (0, 0) hg (by simp [hl2]; rw [Nat.add_mul] at hmul; omega) (Nat.le_refl _) h1 0 (off + len * sz) rfl
    unfold Oper.wp
    rw [hex (.slice (some ⟨g, off, none⟩) (len + k) cap) W' (by rw [append_eq ht hs ty hle]; simp only [add_off, hrun]; rfl)]
    have hsl : splice c (off + len * sz) xs = c.take (off + len * sz) ++ (xs ++ c.drop (off + len * sz + xs.length)) := rfl
    have hlc : (splice c (off + len * sz) xs).length = c.length := by rw [hsl]; simp [hl2]; rw [Nat.add_mul] at hmul; omega
    refine hK (mone g (.cells (splice c (off + len * sz) xs).toArray E (0, 0))) _ ?_ (hi.set hm ho htp hu (Nat.le_of_eq hsz.symm) ?_ (mone_le hgg) fun g' => ?_)
    · have := OwnA.row (sz := sz) g off (len + k) cap E (splice c (off + len * sz) xs) (by rw [hlc]; exact h1') hle h3'
      have e1 : List.take ((len + k) * sz) (List.drop off (splice c (off + len * sz) xs)) = List.take (len * sz) (List.drop off c) ++ xs := by
        rw [hsl, List.drop_append_of_le_length (by simp; rw [Nat.add_mul] at hmul; omega), ← List.append_assoc]
        have e2 : List.drop off (List.take (off + len * sz) c) = List.take (len * sz) (List.drop off c) := by
          rw [List.drop_take]; congr 1; omega
        rw [e2]
        have e3 : (List.take (len * sz) (List.drop off c) ++ xs).length = (len + k) * sz := by
          rw [Nat.add_mul] at hmul ⊢
          simp [hl2]; omega
        rw [← e3]
        exact List.take_left
      rw [e1] at this
      exact this
    · intro q o h
      unfold mout at h
      split at h
      · cases h
      · rename_i hn
        have hne : q ≠ g := by rintro rfl; rw [hm0 _ _ (mone_self _ _)] at hn; cases hn
        unfold wm at h ⊢
        rw [hfar q hne]; exact h
    · by_cases hgg' : g' = g
      · subst hgg'; right; left; rw [hm0 _ _ (mone_self _ _)]; simp
      · exact .inl (mone_ne _ hgg')
/-- One thing, owned in chunk j, is appended within the room: the list stays where it is. -/
theorem VO.appI {e : Ty} {s x : Operand} {t xt et xe : TypeId} {b dd g c cap l : Nat} {A : Option Addr} {xs : List e.Den} {y : e.Den} {yc : List Value} (i j k : Nat) {m mj mk : Mem} (hd : Nat.blt dd n = true) (hsv : ev σ s = some (.slice A l cap)) (hxv : ev σ x = some (.slice (some ⟨g, 0, none⟩) 1 c)) (ht : tsl P t = some (et, e.sz, b))
    (hm : cget Ω i = some m) (hj : cget (cdel Ω i) j = some mj) (hk : cget Ω k = some mk) (hown : Ow (.sl e) m [.slice A l cap] xs) (hy : Ow e mj yc y) (hxt : P.underlying xt = some (.slice xe)) (hc : cellsAt mk g 0 e.sz yc) (hle : l + 1 ≤ cap)
    (h : ∀ m', Ow (.sl e) m' [.slice A (l + 1) cap] (xs ++ [y]) → VO P n w0 ops r ((dd, .slice A (l + 1) cap) :: σ) ((i, m') :: cdel (cdel Ω i) j) K) :
    VO P n w0 ops (⟨some dd, .call { callee := .builtin .append, args := [s, x].toArray, argTypes := [t, xt].toArray }, ty, pos, af, none⟩ :: r) σ Ω K :=
  fun Q hQ a W he hi => wpList_plain rfl fun K' hK => by
    obtain rfl := slice_len hown
    obtain ⟨m0, m1, rc, hS, hA, hL⟩ := hown.opn
    obtain ⟨q1, q2, q3, q4, _⟩ := hi.gets (ids := [i, j]) (l := [m, mj]) (by simp [cgets, hm, hj])
    have dmj : mdj m mj := by simpa using q1
    have d01 : mdj m0 m1 := by have := hS.2; simpa using this
    have l0 := hS.1 m0 (.head _)
    have l1 := hS.1 m1 (.tail _ (.head _))
    have d1j : mdj m1 mj := dmj.mono l1 (mle_refl _)
    have hnew : mdj m0 (mun m1 mj) := (mdj_un d01.symm (dmj.mono l0 (mle_refl _)).symm).symm
    have hΩ2 : Inv w0 ((i, m0) :: (j, mun m1 mj) :: cdel (cdel Ω i) j) W := by
      have hdel : Inv w0 (cdel (cdel Ω i) j) W := q4
      have f1 : ∀ p ∈ cdel (cdel Ω i) j, mdj m p.2 := fun p hp => q3 m (.head _) p hp
      have f2 : ∀ p ∈ cdel (cdel Ω i) j, mdj mj p.2 := fun p hp => q3 mj (.tail _ (.head _)) p hp
      refine ⟨hi.os, hi.tape, hi.output, hi.size, fun p hp => ?_, List.pairwise_cons.2 ⟨fun p hp => ?_, List.pairwise_cons.2 ⟨fun p hp => ?_, hdel.dj⟩⟩⟩
      · rcases List.mem_cons.1 hp with rfl | hp
        · exact l0.trans (hi.at hm)
        · rcases List.mem_cons.1 hp with rfl | hp
          · exact mun_le (l1.trans (hi.at hm)) (q2 mj (.tail _ (.head _)))
          · exact hdel.le p hp
      · rcases List.mem_cons.1 hp with rfl | hp
        · exact hnew
        · exact (f1 p hp).mono l0 (mle_refl _)
      · exact mdj_un ((f1 p hp).mono l1 (mle_refl _)) (f2 p hp)
    have hsrc : SrcW P W e.sz xt (.slice (some ⟨g, 0, none⟩) 1 c) 1 yc := by
      refine ⟨⟨_, hxt, by simp⟩, by rw [hy.len]; omega, fun W' hW => ?_, fun W' => by simp [Builtin.lenOf]⟩
      have hc2 : cellsAt (wm W') g 0 (1 * e.sz) yc := by
        rw [Nat.one_mul]
        refine hc.mono (fun q o ho => ?_)
        have := hi.at hk q o ho
        unfold wm at this ⊢
        rw [hW]; exact this
      exact firstCells_row hc2
    refine appIn_wp (i := i) (m := m0) (m0 := m0) he hΩ2 hsv hxv ht (by simp [cget]) (mle_refl _) hA hsrc hy.nice hle fun m' W' hA' hi' => ?_
    have hc' : cset ((i, m0) :: (j, mun m1 mj) :: cdel (cdel Ω i) j) i m' = (i, m') :: (j, mun m1 mj) :: cdel (cdel Ω i) j := by simp [cset]
    rw [hc'] at hi'
    have hdj : mdj m' (mun m1 mj) := (List.pairwise_cons.1 hi'.dj).1 _ (.head _)
    have hall : OwAll (Ow e) (mun m1 mj) (rc ++ yc) (xs ++ [y]) := OwAll.app d1j (mle_un_left _ _) (mle_un_right d1j) hL (.one hy (mle_refl _))
    have el : (xs ++ [y]).length = xs.length + 1 := by simp
    have hA' : OwnA e.sz m' (.slice A (xs.length + 1) cap) (xs ++ [y]).length (rc ++ yc) := by rw [el]; exact hA'
    have how : Ow (.sl e) (mun m' (mun m1 mj)) [.slice A (xs.length + 1) cap] (xs ++ [y]) := ⟨_, m', mun m1 mj, rc ++ yc, rfl, hdj, mle_un_left _ _, mle_un_right hdj, hA', hall⟩
    refine hK _ _ (h _ how Q hQ _ _ (he.put hd _) ?_)
    refine ⟨hi'.os, hi'.tape, hi'.output, hi'.size, fun p hp => ?_, List.pairwise_cons.2 ⟨fun p hp => ?_, (List.pairwise_cons.1 (List.pairwise_cons.1 hi'.dj).2).2⟩⟩
    · rcases List.mem_cons.1 hp with rfl | hp
      · exact mun_le (hi'.le (i, m') (.head _)) (hi'.le (j, mun m1 mj) (.tail _ (.head _)))
      · exact hi'.le p (.tail _ (.tail _ hp))
    · exact mdj_un ((List.pairwise_cons.1 hi'.dj).1 p (.tail _ hp)) ((List.pairwise_cons.1 (List.pairwise_cons.1 hi'.dj).2).1 p hp)
end
end
section
set_option linter.unusedVariables false
theorem over_set {α : Type} {f : α → α} {d l : List α} {k : Nat} {x : α} (hl : l = (d.take k).map f ++ d.drop k) (hx : l[k]? = some x) : d[k]? = some x ∧ l.set k (f x) = (d.take (k + 1)).map f ++ d.drop (k + 1) := by
  subst hl
  have hk : k < d.length := by
    have := (List.getElem?_eq_some_iff.1 hx).1
    simp at this; omega
  have hlen : ((d.take k).map f).length = k := by simp; omega
  rw [List.getElem?_append_right (by omega), hlen, Nat.sub_self, List.getElem?_drop, Nat.add_zero] at hx
  refine ⟨hx, ?_⟩
  obtain ⟨_, hx'⟩ := List.getElem?_eq_some_iff.1 hx
  rw [List.set_append_right _ _ (by omega), hlen, Nat.sub_self, List.drop_eq_getElem_cons hk, List.set_cons_zero, List.take_succ_eq_append_getElem hk, List.map_append, List.append_assoc, hx']
  rfl
theorem over_more {α : Type} {d l : List α} {x : α} (h : ∃ j, l = d ++ List.replicate j x) : ∃ j, l ++ [x] = d ++ List.replicate j x := by
  obtain ⟨j, rfl⟩ := h
  exact ⟨j + 1, by rw [List.replicate_succ', List.append_assoc]⟩
theorem fill_next {α : Type} {was d : List α} {i : Nat} {x y : α} (h : was = d.take i ++ List.replicate (d.length - i) y) (hx : d[i]? = some x) : was.set i x = d.take (i + 1) ++ List.replicate (d.length - (i + 1)) y := by
  subst h
  obtain ⟨hi, hx'⟩ := List.getElem?_eq_some_iff.1 hx
  rw [List.set_append_right _ _ (by simp; omega), List.length_take, Nat.min_eq_left (by omega), Nat.sub_self, show d.length - i = (d.length - (i + 1)) + 1 by omega, List.replicate_succ, List.set_cons_zero, List.take_succ_eq_append_getElem hi, hx', List.append_assoc]
  rfl
theorem fill_all {α : Type} {was d : List α} {i : Nat} {y : α} (h : was = d.take i ++ List.replicate (d.length - i) y) (hi : d.length ≤ i) : was = d := by
  rw [h, List.take_of_length_le hi, show d.length - i = 0 by omega]; simp
theorem over_all {α : Type} {f : α → α} {d l : List α} {k : Nat} (hl : l = (d.take k).map f ++ d.drop k) (hk : d.length ≤ k) : l = d.map f := by
  rw [hl, List.take_of_length_le hk, List.drop_of_length_le hk, List.append_nil]
section
variable {α : Type} {f : α → α} {d l was : List (List α)} {i k : Nat} {x y : List α} {a b : α}
theorem apart_at (hl : l = d.map (List.map f)) (hw : was = d) (hx : l[i]? = some x) (hy : was[i]? = some y) : x = y.map f := by
  subst hl; subst hw
  rw [List.getElem?_map, hy] at hx
  exact (Option.some.inj hx).symm
theorem apart_len (hl : l = d.map (List.map f)) (hw : was = d) (hx : l[i]? = some x) (hy : was[i]? = some y) : x.length = y.length := by rw [apart_at hl hw hx hy, List.length_map]
theorem apart_eq (hl : l = d.map (List.map f)) (hw : was = d) (hx : l[i]? = some x) (hy : was[i]? = some y) (hxk : x[k]? = some a) (hyk : y[k]? = some b) : a = f b := by
  rw [apart_at hl hw hx hy, List.getElem?_map, hyk] at hxk
  exact (Option.some.inj hxk).symm
end
theorem apart_same {α : Type} {f : α → α} {d l was : List α} {k : Nat} {x y : α} (hl : l = (d.take k).map f ++ d.drop k) (hw : was = d) (hx : l[k]? = some x) (hy : was[k]? = some y) : x = y := by
  subst hw
  have := (over_set hl hx).1
  rw [hy] at this
  exact (Option.some.inj this).symm
def overOp (o : DOp) : DOp := (o.1, o.2.1 ++ [126], o.2.2)
theorem key_of {n i k : Nat} {d was : List (List DOp)} {y : List DOp} {o : DOp} (hw : was = d) (e : ∀ x ∈ d, x.length ≤ n ∧ ∀ o ∈ x, o.2.1.length ≤ 140737488400000) (hy : was[i]? = some y) (hk : y[k]? = some o) : o.2.1.length ≤ 140737488400000 := by
  subst hw
  exact (e _ (List.mem_of_getElem? hy)).2 _ (List.mem_of_getElem? hk)
theorem bRead_keys (B : Bytes) : ∀ o ∈ (bRead B).1, o.2.1.length ≤ 16 := by
  rcases bRead_cases B with h0 | h0
  · generalize hp : bRead B = p at *
    obtain ⟨m, n, f⟩ := p
    dsimp only at h0
    subst h0
    exact fun o ho => (batchCheck_mem (bRead_back hp).1 ho).2.1
  · rw [h0]; exact fun o ho => (by cases ho)
end
section
set_option linter.unusedVariables false
set_option linter.unusedSimpArgs false
set_option maxRecDepth 4000
theorem fnOk86 : fnOk Try.prog 86 = true := by kernel_rfl
theorem tsl81 : tsl Try.prog 81 = some (41, 1, 24) := by kernel_rfl
theorem tz30 : tz Try.prog 30 = some [.slice none 0 0] := by kernel_rfl
theorem tz41 : tz Try.prog 41 = some [.slice none 0 0] := by kernel_rfl
theorem fin0_overOps_ok {P : Prop} (h : P := by first | omega | (simp only [List.length_append, List.length_nil, List.length_cons, List.length_take, List.length_drop] at *; omega) | (have h_ := e0 _ (List.mem_of_getElem? (over_set hl ‹l[_]? = some _›).1); omega) | (have h_ := e0 _ (List.mem_of_getElem? (over_set hl ‹l[_]? = some _›).1); simp only [List.length_append, List.length_cons, List.length_nil] at *; omega)) : P := h
theorem overOps_ok (W : World) {m0 : Mem} (hm : mle (m0) (wm W)) {v0 : Value} {d0 : List DOp} (h0 : Ow (.sl TOp) m0 [v0] d0) (e0 : ∀ o ∈ d0, o.2.1.length ≤ 140737488400000) : CallR Try.prog 86 [v0] W (m0) (fun v m' => v = .tuple #[] ∧ Ow (.sl TOp) m' [v0] (d0.map overOp)) := by
  obtain ⟨A0, c0, e0_, l0, k0⟩ := h0.slice
  subst e0_
  simp only [maxLen] at k0
  refine CallR.ofB (n := 30) hm Try.func86 rfl rfl rfl ?_
  refine VC.rs ?_
  refine VO.mv ?_
  refine VO.y rfl (.capS rfl tsl41) ?_
  refine VO.as ?_
  refine VO.k2 0 2 ?_
  refine VC.seq ?_
  refine VC.rs ?_
  refine VO.as ?_
  refine VO.k3 0 2 3 ?_
  refine VC.block ?_
  refine VC.loop (G := Nat × (List DOp) × Mem) (fun g => [(0, Value.slice A0 (d0.length) (c0)), (3, Value.int .i64 ((((g.1) : Nat) : Int))), (0, Value.slice A0 (d0.length) (c0)), (2, Value.int .i64 (((c0 : Nat) : Int)))]) (fun g => [(0, mout (wm W) (m0)), (1, (g.2.2))]) (fun g => ((g.1) ≤ d0.length) ∧ ((g.2.1) = (d0.take (g.1)).map overOp ++ d0.drop (g.1)) ∧ (OwnL TOp (g.2.2) mnil (.slice A0 (d0.length) (c0)) (g.2.1))) (fun g => d0.length - (g.1)) (0, d0, m0) (⟨by omega, by simp, (Ow.ownl h0 rfl mnil)⟩) ⟨⟨rfl, rfl, rfl, rfl, trivial⟩, fun _ h => h.sub [0, 1]⟩ ?_
  rintro ⟨k, l, l_m⟩ ⟨hk, hl, h_l⟩
  replace hk : k ≤ d0.length := hk
  replace hl : l = (d0.take k).map overOp ++ d0.drop k := hl
  replace h_l : OwnL TOp l_m mnil (.slice A0 (d0.length) (c0)) l := h_l
  show VC _ _ _ _ _ [(0, Value.slice A0 (d0.length) (c0)), (3, Value.int .i64 (((k : Nat) : Int))), (0, Value.slice A0 (d0.length) (c0)), (2, Value.int .i64 (((c0 : Nat) : Int)))] [(0, mout (wm W) (m0)), (1, l_m)]
  have ll_l := slice_len (OwnL.ow h_l rfl)
  refine VC.seq ?_
  refine VC.rs ?_
  refine VO.mv ?_
  refine VO.mv ?_
  refine VO.y rfl (.lenS rfl tsl41) ?_
  refine VO.y rfl (.lss rfl rfl) ?_
  refine VO.keep [0, 1] [(0, mout (wm W) (m0)), (1, l_m)] (by kernel_rfl) ?_
  refine VO.k4 0 2 3 9 ?_
  refine VC.cond rfl (fun hc1 => ?_) (fun hc1 => ?_)
  · -- T
    refine VC.skip ?_
    refine outN ?_
    refine VC.seq ?_
    refine VC.block ?_
    refine VC.reg ?_
    refine VO.mv ?_
    refine VO.mv ?_
    refine VO.mv ?_
    refine VO.mv ?_
    obtain ⟨x2, hx2⟩ : ∃ z_, (l)[k]? = some z_ := ⟨_, List.getElem?_eq_getElem (by exact fin0_overOps_ok)⟩
    obtain ⟨gg2, oo2, ec2, ea2, hce2, hre2⟩ := h_l.elem hx2
    cases ea2
    obtain ⟨rfl, q2_1, q2_2⟩ := open_Op (x0 := x2.1) (x1 := x2.2.1) (x2 := x2.2.2) hre2
    simp only [maxLen] at q2_1
    simp only [maxLen] at q2_2
    refine VO.y rfl (.ixI k rfl rfl tsl41 rfl (by exact fin0_overOps_ok)) ?_
    refine VO.y rfl (.fa rfl tst40 rfl) ?_
    refine VO.y rfl (.ld1 1 rfl tk9 rfl (hce2.at1 (j := 1) rfl)) ?_
    refine VO.y rfl (.scat rfl rfl (by exact fin0_overOps_ok)) ?_
    refine VO.y rfl (.ixI k rfl rfl tsl41 rfl (by exact fin0_overOps_ok)) ?_
    refine VO.y rfl (.fa rfl tst40 rfl) ?_
    refine VO.upd (e := TOp) (k := 1) (i := k) (x' := (x2.1, x2.2.1 ++ ([126]), x2.2.2)) 1 1 rfl rfl (.inr ⟨tk9, rfl⟩) rfl rfl rfl (OwnL.ow h_l rfl) rfl hx2 rfl (fun mi ec he => by obtain ⟨rfl, z1, z2⟩ := open_Op (x0 := x2.1) (x1 := x2.2.1) (x2 := x2.2.2) (he.rd (mle_refl _)); exact Ow.of (m := mnil) rfl (mk_Op x2.1 (x2.2.1 ++ ([126])) x2.2.2 (by simp only [maxLen]; (exact fin0_overOps_ok)) z2)) (fun mu4 hu4 => ?_)
    have hl4 := slice_len hu4
    refine VO.k4 0 2 3 9 ?_
    refine outBN ?_
    refine outN ?_
    refine VC.reg ?_
    refine VO.mv ?_
    refine VO.y rfl (.add (c := ((k + 1 : Nat) : Int)) rfl rfl (by omega) ⟨by exact fin0_overOps_ok, by exact fin0_overOps_ok⟩) ?_
    refine VO.as ?_
    refine VO.k4 0 2 3 9 ?_
    exact outN ⟨⟨k + 1, (l).set k (x2.1, x2.2.1 ++ ([126]), x2.2.2), mu4⟩, ⟨by omega, by exact (over_set (f := overOp) hl ‹l[k]? = some _›).2, (Ow.ownl hu4 rfl mnil)⟩, by exact fin0_overOps_ok, ⟨⟨rfl, rfl, rfl, rfl, trivial⟩, fun _ h => Inv.sub h [0, 1]⟩⟩
  · -- F
    refine VC.exit ?_
    refine outE ?_
    refine outE ?_
    refine outBB ?_
    refine outN ?_
    refine VC.block ?_
    refine VC.loop (G := (List DOp) × Mem × Nat) (fun g => [(0, Value.slice A0 ((g.2.2)) (c0)), (2, Value.int .i64 (((c0 : Nat) : Int))), (3, Value.int .i64 (((k : Nat) : Int))), (9, Value.bool (decide (((k : Nat) : Int) < ((d0.length : Nat) : Int))))]) (fun g => [(0, mout (wm W) (m0)), (1, (g.2.1))]) (fun g => (∃ j, (g.1) = d0.map overOp ++ List.replicate j (false, [111, 118, 101, 114], [])) ∧ ((g.2.2) ≤ c0) ∧ (OwnL TOp (g.2.1) mnil (.slice A0 ((g.2.2)) (c0)) (g.1))) (fun g => c0 - (g.2.2)) (l, l_m, d0.length) (⟨by (exact ⟨0, by rw [hl, List.take_of_length_le (by omega), List.drop_of_length_le (by omega)]; simp⟩), by omega, h_l⟩) ⟨⟨rfl, rfl, rfl, rfl, trivial⟩, fun _ h => h.sub [0, 1]⟩ ?_
    rintro ⟨l2, l2_m, l2_n⟩ ⟨hl2, hc, h_l2⟩
    replace hl2 : ∃ j, l2 = d0.map overOp ++ List.replicate j (false, [111, 118, 101, 114], []) := hl2
    replace hc : l2_n ≤ c0 := hc
    replace h_l2 : OwnL TOp l2_m mnil (.slice A0 (l2_n) (c0)) l2 := h_l2
    show VC _ _ _ _ _ [(0, Value.slice A0 (l2_n) (c0)), (2, Value.int .i64 (((c0 : Nat) : Int))), (3, Value.int .i64 (((k : Nat) : Int))), (9, Value.bool (decide (((k : Nat) : Int) < ((d0.length : Nat) : Int))))] [(0, mout (wm W) (m0)), (1, l2_m)]
    have ll_l2 := slice_len (OwnL.ow h_l2 rfl)
    refine VC.seq ?_
    refine VC.rs ?_
    refine VO.mv ?_
    refine VO.y rfl (.lenS rfl tsl41) ?_
    refine VO.mv ?_
    refine VO.y rfl (.lss rfl rfl) ?_
    refine VO.k5 0 2 3 9 25 ?_
    refine VC.cond rfl (fun hc5 => ?_) (fun hc5 => ?_)
    · -- FT
      refine VC.skip ?_
      refine outN ?_
      refine VC.block ?_
      refine VC.reg ?_
      refine VO.mv ?_
      refine VO.y rfl (.bst (cs := [Value.bool false, str ([111, 118, 101, 114]), str ([])]) rfl tst40 tz40 rfl) ?_
      refine VO.bsl (cs := [Value.bool false, str ([111, 118, 101, 114]), str ([])]) 107 rfl rfl tsl41 tz40 rfl rfl (fun g6 => ?_)
      refine VO.inv ((109, mnil) :: _) (fun _ h => h.nilc 109) ?_
      have hxl8 := slice_len (OwnL.ow h_l2 rfl)
      refine VO.appI (e := TOp) (xs := l2) (cap := c0) (A := A0) (l := l2_n) 1 109 107 rfl rfl rfl tsl41 rfl rfl rfl (OwnL.ow h_l2 rfl) (Ow.of (m := mnil) rfl (mk_Op (m := _) false ([111, 118, 101, 114]) [] (by simp only [maxLen]; (exact fin0_overOps_ok)) (by simp only [maxLen]; (exact fin0_overOps_ok)))) Try.underlying41 (cellsAt_one rfl rfl) (by exact fin0_overOps_ok) (fun m8 ho8 => ?_)
      refine VO.as ?_
      refine VO.k5 0 2 3 9 25 ?_
      refine outBN ?_
      exact outN ⟨⟨l2 ++ [(false, [111, 118, 101, 114], [])], m8, l2_n + 1⟩, ⟨by exact over_more hl2, by dsimp only; omega, (Ow.ownl ho8 rfl mnil)⟩, by (dsimp only; omega), ⟨⟨rfl, rfl, rfl, rfl, trivial⟩, fun _ h => Inv.sub h [0, 1]⟩⟩
    · -- FF
      refine VC.exit ?_
      refine outE ?_
      refine outE ?_
      refine outBB ?_
      have hcut0 := Ow.pre (j := d0.length) (OwnL.ow h_l2 rfl) (by exact fin0_overOps_ok)
      refine ⟨_, _, res_run (rs := []) rfl .nil, fun W_ hI => out_of (l := [l2_m]) hI [1] rfl rfl (mle_refl _) (fun hS_ => ?_)⟩
      dsimp only [packV]
      have hm0_ : (d0.map overOp : Ty.Den (.sl TOp)) = (l2).take d0.length := by first | rfl | (obtain ⟨j, rfl⟩ := hl2; simp)
      refine ⟨?_, ?_⟩
      rotate_left
      · rw [hm0_]; exact (Ow.up hcut0 (hS_.1 _ (.head _)))
      all_goals (first | rfl | (simp [*]; done))
theorem fin0_ApartOps_ok {P : Prop} (h : P := by first | omega | (simp only [List.length_append, List.length_nil, List.length_cons, List.length_take, List.length_drop] at *; omega) | (have h_ := apart_len hl4 hw4 ‹l[_]? = some _› ‹was[_]? = some _›; omega) | (have h_ := key_of hw4 e1 ‹was[_]? = some _› (by assumption); simp only [List.length_append, List.length_cons, List.length_nil] at *; omega) | (exact (e1 _ (List.mem_of_getElem? ‹d0[_]? = some _›)).1)) : P := h
theorem ApartOps_ok (W : World) {m0 : Mem} (hm : mle (m0) (wm W)) {v0 : Value} {d0 : List (List DOp)} (h0 : Ow (.sl (.sl TOp)) m0 [v0] d0) (e0 : d0.length ≤ 1000) (e1 : ∀ x ∈ d0, x.length ≤ 3518437208800 ∧ ∀ o ∈ x, o.2.1.length ≤ 140737488400000) : CallR Try.prog 60 [v0] W (m0) (fun v m' => v = .bool true) := by
  obtain ⟨A0, c0, e0_, l0, k0⟩ := h0.slice
  subst e0_
  simp only [maxLen] at k0
  refine CallR.ofB (n := 79) hm Try.func60 rfl rfl rfl ?_
  refine VC.rs ?_
  refine VO.as ?_
  refine VO.k2 0 2 ?_
  refine VC.rs ?_
  refine VO.mv ?_
  refine VO.y rfl (.lenS rfl tsl81) ?_
  refine VO.mks (e := (.sl TOp)) (a := ((d0.length : Nat) : Int)) (k := d0.length) 101 rfl rfl rfl rfl tsl81 tz41 (y := []) (Ow.nil _ mnil) (by simp only [maxLen]; (exact fin0_ApartOps_ok)) (by exact fin0_ApartOps_ok) (by decide) (fun v1 m1 hk1 => ?_)
  obtain ⟨A1, c1, rfl, l1, k1⟩ := hk1.slice
  simp only [maxLen] at k1
  have ln1 : (List.replicate d0.length ([] : List DOp)).length = d0.length := List.length_replicate
  refine VO.as ?_
  refine VO.k3 0 2 3 ?_
  refine VC.seq ?_
  refine VC.rs ?_
  refine VO.as ?_
  refine VO.keep [101, 0, 1] [(101, m1), (0, mout (wm W) (m0)), (1, m0)] (by kernel_rfl) ?_
  refine VO.k4 0 2 3 4 ?_
  refine VC.block ?_
  refine VC.loop (G := Nat × (List (List DOp)) × Mem) (fun g => [(3, Value.slice A1 ((List.replicate d0.length ([] : List DOp)).length) (c1)), (4, Value.int .i64 ((((g.1) : Nat) : Int))), (0, Value.slice A0 (d0.length) (c0)), (2, Value.bool false), (3, Value.slice A1 ((List.replicate d0.length ([] : List DOp)).length) (c1))]) (fun g => [(101, (g.2.2)), (0, mout (wm W) (m0)), (1, m0)]) (fun g => ((g.1) ≤ d0.length) ∧ ((g.2.1) = d0.take (g.1) ++ List.replicate (d0.length - (g.1)) []) ∧ (Ow (.sl (.sl TOp)) (g.2.2) [.slice A1 ((List.replicate d0.length ([] : List DOp)).length) (c1)] (g.2.1))) (fun g => d0.length - (g.1)) (0, List.replicate d0.length ([] : List DOp), m1) (⟨by omega, by simp, hk1⟩) ⟨⟨rfl, rfl, rfl, rfl, rfl, trivial⟩, fun _ h => h.sub [101, 0, 1]⟩ ?_
  rintro ⟨i, was, was_m⟩ ⟨hi, hw, h_was⟩
  replace hi : i ≤ d0.length := hi
  replace hw : was = d0.take i ++ List.replicate (d0.length - i) [] := hw
  replace h_was : Ow (.sl (.sl TOp)) was_m [.slice A1 ((List.replicate d0.length ([] : List DOp)).length) (c1)] was := h_was
  show VC _ _ _ _ _ [(3, Value.slice A1 ((List.replicate d0.length ([] : List DOp)).length) (c1)), (4, Value.int .i64 (((i : Nat) : Int))), (0, Value.slice A0 (d0.length) (c0)), (2, Value.bool false), (3, Value.slice A1 ((List.replicate d0.length ([] : List DOp)).length) (c1))] [(101, was_m), (0, mout (wm W) (m0)), (1, m0)]
  have ll_was := slice_len h_was
  refine VC.seq ?_
  refine VC.rs ?_
  refine VO.mv ?_
  refine VO.mv ?_
  refine VO.y rfl (.lenS rfl tsl81) ?_
  refine VO.y rfl (.lss rfl rfl) ?_
  refine VO.k5 0 2 3 4 14 ?_
  refine VC.cond rfl (fun hc2 => ?_) (fun hc2 => ?_)
  · -- T
    refine VC.skip ?_
    refine outN ?_
    refine VC.seq ?_
    refine VC.block ?_
    refine VC.reg ?_
    refine VO.mv ?_
    refine VO.mv ?_
    refine VO.mv ?_
    refine VO.mv ?_
    obtain ⟨x3, hx3⟩ : ∃ z_, (d0)[i]? = some z_ := ⟨_, List.getElem?_eq_getElem (by exact fin0_ApartOps_ok)⟩
    obtain ⟨gg3, oo3, ec3, ea3, hce3, hre3⟩ := (Ow.rd h0 (mle_refl _)).elem hx3
    cases ea3
    have hr3 := hre3
    obtain ⟨A3_, c3_, rfl, _⟩ := hre3
    have rr3 := Rd.room hr3
    refine VO.y rfl (.ixI i rfl rfl tsl81 rfl (by exact fin0_ApartOps_ok)) ?_
    refine VO.y rfl (.ld1 1 rfl tk41 rfl hce3) ?_
    refine VO.callN 104 rfl fnOk84 rfl (fun W hW => CopyOps_ok W (Rd.mono hr3 (hW.at (i := 1) rfl)) (by exact fin0_ApartOps_ok)) (fun v4 m4 hv4 => ?_)
    obtain ⟨s4_0, rfl, f4_0⟩ := hv4
    obtain ⟨A4_0, c4_0, eq4_0, l4_0, k4_0⟩ := f4_0.slice
    subst eq4_0
    simp only [maxLen] at k4_0
    obtain ⟨x5, hx5⟩ : ∃ z_, (was)[i]? = some z_ := ⟨_, List.getElem?_eq_getElem (by exact fin0_ApartOps_ok)⟩
    obtain ⟨gg5, oo5, ec5, ea5, hce5, hre5⟩ := (Ow.rd h_was (mle_refl _)).elem hx5
    cases ea5
    have hr5 := hre5
    obtain ⟨A5_, c5_, rfl, _⟩ := hre5
    have rr5 := Rd.room hr5
    refine VO.y rfl (.ixI i rfl rfl tsl81 rfl (by exact fin0_ApartOps_ok)) ?_
    refine VO.setE (e := (.sl TOp)) (k := 1) (i := i) 101 104 rfl rfl (.inr ⟨tk41, rfl⟩) rfl rfl rfl rfl h_was rfl hx5 (x' := x3) (Ow.up (OwnL.ow (Ow.ownl f4_0 rfl mnil) rfl) ((Seps.one (mle_refl _)).1 _ (.head _))) (fun mu6 hu6 => ?_)
    have hl6 := slice_len hu6
    refine VO.k5 0 2 3 4 14 ?_
    refine outBN ?_
    refine outN ?_
    refine VC.reg ?_
    refine VO.mv ?_
    refine VO.y rfl (.add (c := ((i + 1 : Nat) : Int)) rfl rfl (by omega) ⟨by exact fin0_ApartOps_ok, by exact fin0_ApartOps_ok⟩) ?_
    refine VO.as ?_
    refine VO.keep [101, 0, 1] [(101, mu6), (0, mout (wm W) (m0)), (1, m0)] (by kernel_rfl) ?_
    refine VO.k5 0 2 3 4 14 ?_
    exact outN ⟨⟨i + 1, (was).set i x3, mu6⟩, ⟨by omega, by exact fill_next hw ‹d0[i]? = some _›, hu6⟩, by exact fin0_ApartOps_ok, ⟨⟨rfl, rfl, rfl, rfl, rfl, trivial⟩, fun _ h => Inv.sub h [101, 0, 1]⟩⟩
  · -- F
    refine VC.exit ?_
    refine outE ?_
    refine outE ?_
    refine outBB ?_
    refine outN ?_
    refine VC.seq ?_
    refine VC.rs ?_
    refine VO.as ?_
    refine VO.k6 0 2 3 4 5 14 ?_
    refine VC.block ?_
    refine VC.loop (G := Nat × (List (List DOp)) × Mem) (fun g => [(0, Value.slice A0 (d0.length) (c0)), (5, Value.int .i64 ((((g.1) : Nat) : Int))), (0, Value.slice A0 (d0.length) (c0)), (3, Value.slice A1 ((List.replicate d0.length ([] : List DOp)).length) (c1)), (4, Value.int .i64 (((i : Nat) : Int))), (14, Value.bool (decide (((i : Nat) : Int) < ((d0.length : Nat) : Int))))]) (fun g => [(101, was_m), (0, mout (wm W) (m0)), (1, (g.2.2))]) (fun g => (was = d0) ∧ ((g.1) ≤ d0.length) ∧ ((g.2.1) = (d0.take (g.1)).map (List.map overOp) ++ d0.drop (g.1)) ∧ (Ow (.sl (.sl TOp)) (g.2.2) [.slice A0 (d0.length) (c0)] (g.2.1))) (fun g => d0.length - (g.1)) (0, d0, m0) (⟨by exact fill_all hw (by omega), by omega, by simp, h0⟩) ⟨⟨rfl, rfl, rfl, rfl, rfl, rfl, trivial⟩, fun _ h => h.sub [101, 0, 1]⟩ ?_
    rintro ⟨j, l, l_m⟩ ⟨hw2, hj, hl, h_l⟩
    replace hw2 : was = d0 := hw2
    replace hj : j ≤ d0.length := hj
    replace hl : l = (d0.take j).map (List.map overOp) ++ d0.drop j := hl
    replace h_l : Ow (.sl (.sl TOp)) l_m [.slice A0 (d0.length) (c0)] l := h_l
    show VC _ _ _ _ _ [(0, Value.slice A0 (d0.length) (c0)), (5, Value.int .i64 (((j : Nat) : Int))), (0, Value.slice A0 (d0.length) (c0)), (3, Value.slice A1 ((List.replicate d0.length ([] : List DOp)).length) (c1)), (4, Value.int .i64 (((i : Nat) : Int))), (14, Value.bool (decide (((i : Nat) : Int) < ((d0.length : Nat) : Int))))] [(101, was_m), (0, mout (wm W) (m0)), (1, l_m)]
    have ll_l := slice_len h_l
    refine VC.seq ?_
    refine VC.rs ?_
    refine VO.mv ?_
    refine VO.mv ?_
    refine VO.y rfl (.lenS rfl tsl81) ?_
    refine VO.y rfl (.lss rfl rfl) ?_
    refine VO.keep [101, 0, 1] [(101, was_m), (0, mout (wm W) (m0)), (1, l_m)] (by kernel_rfl) ?_
    refine VO.k6 0 3 4 5 14 28 ?_
    refine VC.cond rfl (fun hc7 => ?_) (fun hc7 => ?_)
    · -- FT
      refine VC.skip ?_
      refine outN ?_
      refine VC.seq ?_
      refine VC.block ?_
      refine VC.seq ?_
      refine VC.seq ?_
      refine VC.regD _ 8 [(0, true), (1, true), (2, true), (3, true), (4, true), (5, true), (6, true), (7, true)] follows (by kernel_rfl) (fun _ h => h.sub [101, 0, 1]) ?_
      refine VD.y rfl rfl (.inl rfl) (.mv rfl) ?_
      refine VD.y rfl rfl (.inl rfl) (.mv rfl) ?_
      obtain ⟨x8, hx8⟩ : ∃ z_, (l)[j]? = some z_ := ⟨_, List.getElem?_eq_getElem (by exact fin0_ApartOps_ok)⟩
      obtain ⟨gg8, oo8, ec8, ea8, hce8, hre8⟩ := (Ow.rd h_l (mle_refl _)).elem hx8
      cases ea8
      have hr8 := hre8
      obtain ⟨A8_, c8_, rfl, _⟩ := hre8
      have rr8 := Rd.room hr8
      refine VD.y rfl rfl (.inl rfl) (.ixI j rfl rfl tsl81 rfl (by exact fin0_ApartOps_ok)) ?_
      refine VD.y rfl rfl (.inl rfl) (.ld1 1 rfl tk41 rfl hce8) ?_
      refine VD.y rfl rfl (.inl rfl) (.mv rfl) ?_
      refine VD.y rfl rfl (.inl rfl) (.mv rfl) ?_
      obtain ⟨x9, hx9⟩ : ∃ z_, (was)[j]? = some z_ := ⟨_, List.getElem?_eq_getElem (by exact fin0_ApartOps_ok)⟩
      obtain ⟨gg9, oo9, ec9, ea9, hce9, hre9⟩ := (Ow.rd h_was (mle_refl _)).elem hx9
      cases ea9
      have hr9 := hre9
      obtain ⟨A9_, c9_, rfl, _⟩ := hre9
      have rr9 := Rd.room hr9
      refine VD.y rfl rfl (.inl rfl) (.ixI j rfl rfl tsl81 rfl (by exact fin0_ApartOps_ok)) ?_
      refine VD.y rfl rfl (.inl rfl) (.ld1 101 rfl tk41 rfl hce9) ?_
      refine VD.nil rfl ?_ rfl
      refine VO.callN 110 rfl fnOk85 rfl (fun W hW => SameOps_ok W (Rd.mono hr8 (hW.at (i := 1) rfl)) (Rd.mono hr9 (hW.at (i := 101) rfl))) (fun v10 m10 hv10 => ?_)
      subst hv10
      refine VO.y rfl (.notD rfl) ?_
      refine VO.k7 0 3 4 5 14 28 40 ?_
      refine outN ?_
      refine VC.cond rfl (fun hc11 => ?_) (fun hc11 => ?_)
      · -- FTT
        exact absurd (apart_same hl hw2 ‹l[j]? = some _› ‹was[j]? = some _›) hc11
      · -- FTF
        refine VC.skip ?_
        refine outN ?_
        refine VC.reg ?_
        refine VO.mv ?_
        refine VO.mv ?_
        refine VO.y rfl (.ixI j rfl rfl tsl81 rfl (by exact fin0_ApartOps_ok)) ?_
        refine VO.y rfl (.ld1 1 rfl tk41 rfl hce8) ?_
        obtain ⟨mr13, me13, hH13, hE13, hB13⟩ := Ow.hole h_l hx8 hce8
        refine VO.parts 1 [1, 114] rfl hH13 ?_
        refine VO.call 114 rfl fnOk86 rfl rfl (fun W hW => overOps_ok W (hW.at (i := 114) rfl) hE13 (by exact fun o ho => (e1 _ (List.mem_of_getElem? (over_set hl ‹l[_]? = some _›).1)).2 o ho)) (fun v13 m13 hv13 => ?_)
        obtain ⟨rfl, w13_0⟩ := hv13
        have wl13_0 := slice_len w13_0
        refine VO.gather (l := [mr13, m13]) 1 [1, 114] rfl (fun hg13 => ?_)
        have hL13 := Seps.back hg13 (fun hd_ => hB13 _ _ hd_ w13_0)
        have hl13 := slice_len hL13
        refine VO.k7 0 3 4 5 14 28 40 ?_
        refine outBN ?_
        refine outN ?_
        refine VC.reg ?_
        refine VO.mv ?_
        refine VO.y rfl (.add (c := ((j + 1 : Nat) : Int)) rfl rfl (by omega) ⟨by exact fin0_ApartOps_ok, by exact fin0_ApartOps_ok⟩) ?_
        refine VO.as ?_
        refine VO.keep [1, 101, 0] [(1, muns [mr13, m13]), (101, was_m), (0, mout (wm W) (m0))] (by kernel_rfl) ?_
        refine VO.k7 0 3 4 5 14 28 40 ?_
        exact outN ⟨⟨j + 1, (l).set j (x8.map overOp), muns [mr13, m13]⟩, ⟨by exact hw2, by omega, by exact (over_set hl ‹l[j]? = some _›).2, hL13⟩, by exact fin0_ApartOps_ok, ⟨⟨rfl, rfl, rfl, rfl, rfl, rfl, trivial⟩, fun _ h => Inv.sub h [101, 0, 1]⟩⟩
    · -- FF
      refine VC.exit ?_
      refine outE ?_
      refine outE ?_
      refine outBB ?_
      refine outN ?_
      refine VC.seq ?_
      refine VC.rs ?_
      refine VO.as ?_
      refine VO.k7 0 3 4 5 6 14 28 ?_
      refine VC.block ?_
      refine VC.loop (G := Nat) (fun p => [(6, Value.int .i64 (((p : Nat) : Int))), (0, Value.slice A0 (d0.length) (c0)), (3, Value.slice A1 ((List.replicate d0.length ([] : List DOp)).length) (c1)), (4, Value.int .i64 (((i : Nat) : Int))), (5, Value.int .i64 (((j : Nat) : Int))), (14, Value.bool (decide (((i : Nat) : Int) < ((d0.length : Nat) : Int)))), (28, Value.bool (decide (((j : Nat) : Int) < ((d0.length : Nat) : Int))))]) (fun p => [(101, was_m), (0, mout (wm W) (m0)), (1, l_m)]) (fun p => (was = d0) ∧ (p ≤ d0.length) ∧ (l = d0.map (List.map overOp))) (fun p => d0.length - p) 0 (⟨by exact hw2, by omega, by exact over_all hl (by omega)⟩) ⟨⟨rfl, rfl, rfl, rfl, rfl, rfl, rfl, trivial⟩, fun _ h => h.sub [101, 0, 1]⟩ ?_
      rintro p ⟨hw4, hp, hl4⟩
      refine VC.seq ?_
      refine VC.rs ?_
      refine VO.mv ?_
      refine VO.mv ?_
      refine VO.y rfl (.lenS rfl tsl81) ?_
      refine VO.y rfl (.lss rfl rfl) ?_
      refine VO.k8 0 3 4 5 6 14 28 49 ?_
      refine VC.cond rfl (fun hc15 => ?_) (fun hc15 => ?_)
      · -- FFT
        refine VC.skip ?_
        refine outN ?_
        refine VC.seq ?_
        refine VC.block ?_
        refine VC.rs ?_
        refine VO.as ?_
        refine VO.keep [101, 0, 1] [(101, was_m), (0, mout (wm W) (m0)), (1, l_m)] (by kernel_rfl) ?_
        refine VO.k9 0 3 4 5 6 7 14 28 49 ?_
        refine VC.block ?_
        refine VC.loop (G := Nat) (fun k => [(7, Value.int .i64 (((k : Nat) : Int))), (0, Value.slice A0 (d0.length) (c0)), (3, Value.slice A1 ((List.replicate d0.length ([] : List DOp)).length) (c1)), (4, Value.int .i64 (((i : Nat) : Int))), (5, Value.int .i64 (((j : Nat) : Int))), (6, Value.int .i64 (((p : Nat) : Int))), (14, Value.bool (decide (((i : Nat) : Int) < ((d0.length : Nat) : Int)))), (28, Value.bool (decide (((j : Nat) : Int) < ((d0.length : Nat) : Int)))), (49, Value.bool (decide (((p : Nat) : Int) < ((d0.length : Nat) : Int))))]) (fun k => [(101, was_m), (0, mout (wm W) (m0)), (1, l_m)]) (fun k => (k ≤ 9223372036854775807)) (fun k => 9223372036854775807 - k) 0 (by omega) ⟨⟨rfl, rfl, rfl, rfl, rfl, rfl, rfl, rfl, rfl, trivial⟩, fun _ h => h.sub [101, 0, 1]⟩ ?_
        rintro k hk
        refine VC.seq ?_
        refine VC.rs ?_
        refine VO.mv ?_
        refine VO.mv ?_
        refine VO.mv ?_
        obtain ⟨x16, hx16⟩ : ∃ z_, (l)[p]? = some z_ := ⟨_, List.getElem?_eq_getElem (by exact fin0_ApartOps_ok)⟩
        obtain ⟨gg16, oo16, ec16, ea16, hce16, hre16⟩ := (Ow.rd h_l (mle_refl _)).elem hx16
        cases ea16
        have hr16 := hre16
        obtain ⟨A16_, c16_, rfl, _⟩ := hre16
        have rr16 := Rd.room hr16
        refine VO.y rfl (.ixI p rfl rfl tsl81 rfl (by exact fin0_ApartOps_ok)) ?_
        refine VO.y rfl (.ld1 1 rfl tk41 rfl hce16) ?_
        refine VO.y rfl (.lenS rfl tsl41) ?_
        refine VO.y rfl (.lss rfl rfl) ?_
        refine VO.k10 0 3 4 5 6 7 14 28 49 58 ?_
        refine VC.cond rfl (fun hc17 => ?_) (fun hc17 => ?_)
        · -- FFTT
          refine VC.skip ?_
          refine outN ?_
          refine VC.seq ?_
          refine VC.block ?_
          refine VC.seq ?_
          refine VC.regD _ 17 [(0, true), (1, true), (2, true), (3, true), (4, true), (5, true), (6, true), (7, true), (8, true), (9, true), (10, true), (11, true), (12, true), (13, true), (14, true), (15, true), (16, true)] follows (by kernel_rfl) (fun _ h => h.sub [101, 0, 1]) ?_
          refine VD.y rfl rfl (.inl rfl) (.mv rfl) ?_
          refine VD.y rfl rfl (.inl rfl) (.mv rfl) ?_
          refine VD.y rfl rfl (.inl rfl) (.ixI p rfl rfl tsl81 rfl (by exact fin0_ApartOps_ok)) ?_
          refine VD.y rfl rfl (.inl rfl) (.ld1 1 rfl tk41 rfl hce16) ?_
          refine VD.y rfl rfl (.inl rfl) (.mv rfl) ?_
          obtain ⟨x19, hx19⟩ : ∃ z_, (x16)[k]? = some z_ := ⟨_, List.getElem?_eq_getElem (by exact fin0_ApartOps_ok)⟩
          obtain ⟨gg19, oo19, ec19, ea19, hce19, hre19⟩ := hr16.elem hx19
          cases ea19
          obtain ⟨rfl, q19_1, q19_2⟩ := open_Op (x0 := x19.1) (x1 := x19.2.1) (x2 := x19.2.2) hre19
          simp only [maxLen] at q19_1
          simp only [maxLen] at q19_2
          refine VD.y rfl rfl (.inl rfl) (.ixI k rfl rfl tsl41 rfl (by exact fin0_ApartOps_ok)) ?_
          refine VD.y rfl rfl (.inl rfl) (.fa rfl tst40 rfl) ?_
          refine VD.y rfl rfl (.inl rfl) (.ld1 1 rfl tk9 rfl (hce19.at1 (j := 1) rfl)) ?_
          refine VD.y rfl rfl (.inl rfl) (.mv rfl) ?_
          refine VD.y rfl rfl (.inl rfl) (.mv rfl) ?_
          obtain ⟨x20, hx20⟩ : ∃ z_, (was)[p]? = some z_ := ⟨_, List.getElem?_eq_getElem (by exact fin0_ApartOps_ok)⟩
          obtain ⟨gg20, oo20, ec20, ea20, hce20, hre20⟩ := (Ow.rd h_was (mle_refl _)).elem hx20
          cases ea20
          have hr20 := hre20
          obtain ⟨A20_, c20_, rfl, _⟩ := hre20
          have rr20 := Rd.room hr20
          refine VD.y rfl rfl (.inl rfl) (.ixI p rfl rfl tsl81 rfl (by exact fin0_ApartOps_ok)) ?_
          refine VD.y rfl rfl (.inl rfl) (.ld1 101 rfl tk41 rfl hce20) ?_
          refine VD.y rfl rfl (.inl rfl) (.mv rfl) ?_
          obtain ⟨x21, hx21⟩ : ∃ z_, (x20)[k]? = some z_ := ⟨_, List.getElem?_eq_getElem (by exact fin0_ApartOps_ok)⟩
          obtain ⟨gg21, oo21, ec21, ea21, hce21, hre21⟩ := hr20.elem hx21
          cases ea21
          obtain ⟨rfl, q21_1, q21_2⟩ := open_Op (x0 := x21.1) (x1 := x21.2.1) (x2 := x21.2.2) hre21
          simp only [maxLen] at q21_1
          simp only [maxLen] at q21_2
          refine VD.y rfl rfl (.inl rfl) (.ixI k rfl rfl tsl41 rfl (by exact fin0_ApartOps_ok)) ?_
          refine VD.y rfl rfl (.inl rfl) (.fa rfl tst40 rfl) ?_
          refine VD.y rfl rfl (.inl rfl) (.ld1 101 rfl tk9 rfl (hce21.at1 (j := 1) rfl)) ?_
          refine VD.y rfl rfl (.inl rfl) (.scat rfl rfl (by exact fin0_ApartOps_ok)) ?_
          refine VD.nil rfl ?_ rfl
          refine VO.y rfl (.sneq rfl rfl) ?_
          refine VO.k11 0 3 4 5 6 7 14 28 49 58 78 ?_
          refine outN ?_
          refine VC.cond rfl (fun hc22 => ?_) (fun hc22 => ?_)
          · -- FFTTT
            exact absurd (by have h_ := apart_eq (f := overOp) hl4 hw4 ‹l[p]? = some _› ‹was[p]? = some _› (by assumption) (by assumption); rw [h_]; rfl) hc22
          · -- FFTTF
            refine VC.skip ?_
            refine outBN ?_
            refine outN ?_
            refine VC.reg ?_
            refine VO.mv ?_
            refine VO.y rfl (.add (c := ((k + 1 : Nat) : Int)) rfl rfl (by omega) ⟨by exact fin0_ApartOps_ok, by exact fin0_ApartOps_ok⟩) ?_
            refine VO.as ?_
            refine VO.keep [101, 0, 1] [(101, was_m), (0, mout (wm W) (m0)), (1, l_m)] (by kernel_rfl) ?_
            refine VO.k11 0 3 4 5 6 7 14 28 49 58 78 ?_
            exact outN ⟨k + 1, by omega, by exact fin0_ApartOps_ok, ⟨⟨rfl, rfl, rfl, rfl, rfl, rfl, rfl, rfl, rfl, trivial⟩, fun _ h => Inv.sub h [101, 0, 1]⟩⟩
        · -- FFTF
          refine VC.exit ?_
          refine outE ?_
          refine outE ?_
          refine outBB ?_
          refine outBN ?_
          refine outN ?_
          refine VC.reg ?_
          refine VO.mv ?_
          refine VO.y rfl (.add (c := ((p + 1 : Nat) : Int)) rfl rfl (by omega) ⟨by exact fin0_ApartOps_ok, by exact fin0_ApartOps_ok⟩) ?_
          refine VO.as ?_
          refine VO.k10 0 3 4 5 6 7 14 28 49 58 ?_
          exact outN ⟨p + 1, ⟨by exact hw4, by omega, by exact hl4⟩, by exact fin0_ApartOps_ok, ⟨⟨rfl, rfl, rfl, rfl, rfl, rfl, rfl, trivial⟩, fun _ h => Inv.sub h [101, 0, 1]⟩⟩
      · -- FFF
        refine VC.exit ?_
        refine outE ?_
        refine outE ?_
        refine outBB ?_
        refine outN ?_
        refine VC.rs ?_
        refine VO.as ?_
        refine VO.keep [101, 0, 1] [(101, was_m), (0, mout (wm W) (m0)), (1, l_m)] (by kernel_rfl) ?_
        refine VO.k9 0 2 3 4 5 6 14 28 49 ?_
        refine VC.ret ?_
        refine ⟨_, _, res_run (rs := [.tmp 2]) rfl (.tmp rfl .nil), fun W_ hI => out_of (l := []) hI [] rfl rfl (mle_refl _) (fun hS_ => ?_)⟩
        dsimp only [packV]
        all_goals (first | rfl | (simp [*]; done))
end
section
set_option linter.unusedVariables false
def zC : DCommit := (0, 0, [])
def cEnc (c : DCommit) : Bytes := venc c.1.toNat ++ (venc c.2.1.toNat ++ batchEnc c.2.2)
def cEncode (c : DCommit) : Bytes × Int := if cCheck c = 0 then (cEnc c, 0) else ([], cCheck c)
def cPart (B : Bytes) : DCommit := ((sX B 1048576 : Int), (sX (B.drop (sN B 1048576)) 1048576 : Int), (bRead (B.drop (sN B 1048576 + sN (B.drop (sN B 1048576)) 1048576))).1)
def cDecode (B : Bytes) : DCommit × Int :=
  if sE B 1048576 = 0 ∧ sE (B.drop (sN B 1048576)) 1048576 = 0 ∧ (bRead (B.drop (sN B 1048576 + sN (B.drop (sN B 1048576)) 1048576))).2.2 = 0 ∧
    ((sN B 1048576 : Int) + (sN (B.drop (sN B 1048576)) 1048576 : Int) + (bRead (B.drop (sN B 1048576 + sN (B.drop (sN B 1048576)) 1048576))).2.1 = B.length) ∧ cCheck (cPart B) = 0 then (cPart B, 0) else (zC, 5)
def rDecode (B : Bytes) : DCommit × Int :=
  let a := rNum B 1048576 (0, false)
  let b := rNum B 1048576 a.2
  let l := nextRef B b.2
  if l.2.2 = false ∧ l.2.1 = B.length ∧ cCheck (a.1, b.1, l.1) = 0 then ((a.1, b.1, l.1), 0) else (zC, 5)
theorem s_there {x : Nat} {m : Int} (h : (x : Int) ≤ m) (hm : m ≤ 9223372036854775807) (r : Bytes) : sX (venc x ++ r) m = x ∧ sN (venc x ++ r) m = (venc x).length ∧ sE (venc x ++ r) m = 0 := by
  have hs : vsmall (venc x ++ r) m = some (x, (venc x).length) := by unfold vsmall; rw [vread_there (by omega)]; exact if_pos h
  unfold sX sN sE; rw [hs]; exact ⟨rfl, rfl, rfl⟩
theorem s_back {B : Bytes} {m : Int} (h : sE B m = 0) : B = venc (sX B m) ++ B.drop (sN B m) := by
  unfold sE sX sN vsmall at *
  cases hv : vread B with
  | none => rw [hv] at h; cases h
  | some p =>
    obtain ⟨y, n⟩ := p
    rw [hv] at h
    dsimp only at h ⊢
    by_cases hy : (y : Int) ≤ m
    · rw [if_pos hy]; exact (vread_back hv).1
    · rw [if_neg hy] at h; cases h
theorem cCheck_zero {c : DCommit} (h : cCheck c = 0) : 1 ≤ c.1 ∧ c.1 ≤ 1048576 ∧ 1 ≤ c.2.1 ∧ c.2.1 ≤ 1048576 ∧ batchCheck c.2.2 = 0 := by
  unfold cCheck at h
  split at h
  · split at h
    · exact ⟨by omega, by omega, by omega, by omega, h⟩
    · cases h
  · cases h
theorem cDecode_there {c : DCommit} (h : cCheck c = 0) : cDecode (cEnc c) = (c, 0) := by
  obtain ⟨h1, h2, h3, h4, h5⟩ := cCheck_zero h
  obtain ⟨a1, a2, a3⟩ := s_there (x := c.1.toNat) (m := 1048576) (by omega) (by omega) (venc c.2.1.toNat ++ batchEnc c.2.2)
  obtain ⟨b1, b2, b3⟩ := s_there (x := c.2.1.toNat) (m := 1048576) (by omega) (by omega) (batchEnc c.2.2)
  have r := bRead_there h5 []
  rw [List.append_nil] at r
  have hd : (cEnc c).drop (venc c.1.toNat).length = venc c.2.1.toNat ++ batchEnc c.2.2 := by rw [cEnc, List.drop_left]
  have hd2 : (cEnc c).drop ((venc c.1.toNat).length + (venc c.2.1.toNat).length) = batchEnc c.2.2 := by rw [← List.drop_drop, hd, List.drop_left]
  have hp : cPart (cEnc c) = c := by
    unfold cPart
    rw [show sX (cEnc c) 1048576 = c.1.toNat from a1, show sN (cEnc c) 1048576 = _ from a2, hd, b1, b2, hd2, r]
    exact Prod.ext (by simp only; omega) (Prod.ext (by simp only; omega) rfl)
  unfold cDecode
  rw [hp, show sE (cEnc c) 1048576 = 0 from a3, show sN (cEnc c) 1048576 = _ from a2, hd, b2, b3, hd2, r]
  rw [if_pos ⟨rfl, rfl, rfl, by simp only [cEnc, List.length_append]; omega, h⟩]
theorem cDecode_back {B : Bytes} (h : (cDecode B).2 = 0) : cCheck (cDecode B).1 = 0 ∧ B = cEnc (cDecode B).1 := by
  unfold cDecode at h ⊢
  split at h
  · rename_i hh
    rw [if_pos hh]
    obtain ⟨h1, h2, h3, h4, h5⟩ := hh
    refine ⟨h5, ?_⟩
    have e1 := s_back h1
    have e2 := s_back h2
    generalize hr : bRead (B.drop (sN B 1048576 + sN (B.drop (sN B 1048576)) 1048576)) = p at *
    obtain ⟨l, n, f⟩ := p
    dsimp only at h3 h4
    subst h3
    obtain ⟨k1, k2, k3, k4⟩ := bRead_back hr
    have hl : (B.drop (sN B 1048576 + sN (B.drop (sN B 1048576)) 1048576)).length ≤ n.toNat := by simp only [List.length_drop]; omega
    rw [List.drop_of_length_le hl, List.append_nil, ← List.drop_drop] at k4
    unfold cEnc cPart
    rw [hr]
    simp only [Int.toNat_natCast]
    rw [← k4, ← e2, ← e1]
  · cases h
theorem cDecode_bad {B : Bytes} (h : ¬ (cDecode B).2 = 0) : cDecode B = (zC, 5) := by
  unfold cDecode at h ⊢
  split at h
  · exact absurd rfl h
  · rename_i hh; rw [if_neg hh]
theorem nextRef_there {B : Bytes} {a : Nat} {l : List DOp} {r : Bytes} (h : B.drop a = batchEnc l ++ r) (ha : a ≤ B.length) (hc : batchCheck l = 0) : nextRef B ((a : Int), false) = (l, (((a + (batchEnc l).length : Nat) : Int), false)) := by
  have hl := batch_len hc
  rw [batchEnc, List.append_assoc] at h
  have n1 := num_there (m := 8) h (by omega) (by omega)
  have n2 := pOps_there (drop_past h) (drop_le h ha) (fun o ho => batchCheck_mem hc ho) (Nat.zero_le _)
  have n3 := (pOps_same (B := B) l.length [] (((a + (venc l.length).length : Nat) : Int), false)).2 (by rw [n2])
  unfold nextRef
  rw [n1]
  dsimp only
  rw [Int.toNat_natCast, ← n3, n2]
  dsimp only
  rw [if_neg (by rw [hc]; decide)]
  simp only [batchEnc, List.length_append, Nat.add_assoc]
theorem nextRef_back {B : Bytes} {s e : RS} {l : List DOp} (hs : rOk B s) (h : nextRef B s = (l, e)) (he : e.2 = false) : s.2 = false ∧ rOk B e ∧ batchCheck l = 0 ∧ B.drop s.1.toNat = batchEnc l ++ B.drop e.1.toNat := by
  have hk := rNum_ok (m := 8) hs (by omega)
  unfold nextRef at h
  generalize hn : rNum B 8 s = p at *
  obtain ⟨k, s1⟩ := p
  dsimp only at h hk
  have hsame := pOps_same (B := B) k.toNat [] s1
  generalize hr : pOps2 B k.toNat [] s1 = q at *
  obtain ⟨l1, e1⟩ := q
  dsimp only at h hsame
  by_cases hb : e1.2 = true ∨ ¬ batchCheck l1 = 0
  · rw [if_pos hb] at h
    cases h; cases he
  · rw [if_neg hb] at h
    cases h
    have hc : batchCheck l = 0 := Decidable.byContradiction fun hq => hb (.inr hq)
    obtain ⟨a1, a2, a3, a4⟩ := pOps_back _ hk.1 (by have := hk.2.2.2.1 (by omega); simp; omega) (hsame.2 (by rw [hsame.1, he])) he
    obtain ⟨b1, b2, b3, b4, b5⟩ := num_back hs (by omega) hn a1
    exact ⟨b1, a2, hc, by rw [batchEnc, a4, List.append_assoc, ← a3, ← b5]⟩
theorem rDecode_there {c : DCommit} (h : cCheck c = 0) : rDecode (cEnc c) = (c, 0) := by
  obtain ⟨h1, h2, h3, h4, h5⟩ := cCheck_zero h
  have e1 : (cEnc c).drop 0 = venc c.1.toNat ++ (venc c.2.1.toNat ++ batchEnc c.2.2) := rfl
  have n1 := num_there (m := 1048576) e1 (by omega) (by omega)
  have e2 := drop_past e1
  have n2 := num_there (m := 1048576) e2 (by omega) (by omega)
  have e3 := drop_past e2
  have n3 := nextRef_there (r := []) (by rw [e3, List.append_nil]) (drop_le e2 (drop_le e1 (Nat.zero_le _))) h5
  unfold rDecode
  rw [show ((0 : Int), false) = (((0 : Nat) : Int), false) from rfl, n1]
  dsimp only
  rw [n2]
  dsimp only
  rw [n3]
  dsimp only
  have ec : (((c.1.toNat : Nat) : Int), ((c.2.1.toNat : Nat) : Int), c.2.2) = c := Prod.ext (by simp only; omega) (Prod.ext (by simp only; omega) rfl)
  rw [ec, if_pos ⟨rfl, by simp only [cEnc, List.length_append]; omega, h⟩]
theorem rDecode_back {B : Bytes} (h : (rDecode B).2 = 0) : cCheck (rDecode B).1 = 0 ∧ B = cEnc (rDecode B).1 := by
  have h0 : rOk B (0, false) := ⟨Int.le_refl _, by simp⟩
  have k1 := rNum_ok (m := 1048576) h0 (by omega)
  unfold rDecode at h ⊢
  dsimp only at h ⊢
  generalize ha : rNum B 1048576 (0, false) = a at *
  obtain ⟨x, s1⟩ := a
  dsimp only at h k1 ⊢
  have k2 := rNum_ok (m := 1048576) k1.1 (by omega)
  generalize hb : rNum B 1048576 s1 = b at *
  obtain ⟨y, s2⟩ := b
  dsimp only at h k2 ⊢
  generalize hl : nextRef B s2 = l at *
  obtain ⟨l, e⟩ := l
  dsimp only at h ⊢
  split at h
  · rename_i hh
    rw [if_pos hh]
    obtain ⟨h1, h2, h3⟩ := hh
    refine ⟨h3, ?_⟩
    obtain ⟨a1, a2, a3, a4⟩ := nextRef_back k2.1 hl h1
    obtain ⟨b1, b2, b3, b4, b5⟩ := num_back k1.1 (by omega) hb a1
    obtain ⟨c1, c2, c3, c4, c5⟩ := num_back h0 (by omega) ha b1
    rw [List.drop_of_length_le (by omega : B.length ≤ e.1.toNat), List.append_nil] at a4
    rw [a4] at b5
    rw [b5] at c5
    exact c5
  · cases h
theorem rDecode_bad {B : Bytes} (h : ¬ (rDecode B).2 = 0) : rDecode B = (zC, 5) := by
  unfold rDecode at h ⊢
  dsimp only at h ⊢
  split at h
  · exact absurd rfl h
  · rename_i hh; rw [if_neg hh]
theorem decode_same (B : Bytes) : rDecode B = cDecode B := by
  by_cases h : (cDecode B).2 = 0
  · obtain ⟨h1, h2⟩ := cDecode_back h
    have := rDecode_there h1
    rw [← h2] at this
    rw [this]
    exact Prod.ext rfl h.symm
  · by_cases h' : (rDecode B).2 = 0
    · obtain ⟨h1, h2⟩ := rDecode_back h'
      have := cDecode_there h1
      rw [← h2] at this
      rw [this] at h
      exact absurd rfl h
    · rw [cDecode_bad h, rDecode_bad h']
theorem cEncode_bad {c : DCommit} (h : ¬ cCheck c = 0) : cEncode c = ([], cCheck c) := if_neg h
theorem cEncode_good {c : DCommit} (h : ¬ ¬ cCheck c = 0) : cEncode c = bAppend (venc c.1.toNat ++ venc c.2.1.toNat) c.2.2 := by
  have h' := Decidable.not_not.1 h
  unfold cEncode bAppend cEnc
  rw [if_pos h', if_pos (cCheck_zero h').2.2.2.2, List.append_assoc]
theorem cEncode_len (c : DCommit) : (cEncode c).1.length ≤ 700 := by
  by_cases h : cCheck c = 0
  · obtain ⟨h1, h2, h3, h4, h5⟩ := cCheck_zero h
    rw [cEncode_good (fun hn => hn h)]
    have := bAppend_len (venc c.1.toNat ++ venc c.2.1.toNat) c.2.2
    have := venc_len (x := c.1.toNat) (by omega)
    have := venc_len (x := c.2.1.toNat) (by omega)
    simp only [List.length_append] at *; omega
  · rw [cEncode_bad h]; simp
theorem cDecode_fits (B : Bytes) : (cDecode B).1.2.2.length ≤ 8 ∧ ∀ o ∈ (cDecode B).1.2.2, o.2.1.length ≤ 16 := by
  unfold cDecode
  split
  · exact ⟨(bRead_fits _).1, bRead_keys _⟩
  · exact ⟨by decide, fun o h => by cases h⟩
theorem cDecode_e1 {B : Bytes} (h : ¬ sE B 1048576 = 0) : cDecode B = (zC, 5) := if_neg fun hh => h hh.1
theorem cDecode_e2 {B : Bytes} (h : ¬ sE (B.drop (sN B 1048576)) 1048576 = 0) : cDecode B = (zC, 5) := if_neg fun hh => h hh.2.1
theorem cDecode_e3 {B : Bytes} (h : ¬ (bRead (B.drop (sN B 1048576 + sN (B.drop (sN B 1048576)) 1048576))).2.2 = 0) : cDecode B = (zC, 5) := if_neg fun hh => h hh.2.2.1
theorem cDecode_e4 {B : Bytes} (h : ¬ ((sN B 1048576 : Int) + (sN (B.drop (sN B 1048576)) 1048576 : Int) + (bRead (B.drop (sN B 1048576 + sN (B.drop (sN B 1048576)) 1048576))).2.1 = B.length)) : cDecode B = (zC, 5) := if_neg fun hh => h hh.2.2.2.1
theorem cDecode_e5 {B : Bytes} (h : ¬ cCheck (cPart B) = 0) : cDecode B = (zC, 5) := if_neg fun hh => h hh.2.2.2.2
theorem cDecode_ok {B : Bytes} (h1 : ¬ ¬ sE B 1048576 = 0) (h2 : ¬ ¬ sE (B.drop (sN B 1048576)) 1048576 = 0) (h3 : ¬ ¬ (bRead (B.drop (sN B 1048576 + sN (B.drop (sN B 1048576)) 1048576))).2.2 = 0)
    (h4 : ¬ ¬ ((sN B 1048576 : Int) + (sN (B.drop (sN B 1048576)) 1048576 : Int) + (bRead (B.drop (sN B 1048576 + sN (B.drop (sN B 1048576)) 1048576))).2.1 = B.length)) (h5 : ¬ ¬ cCheck (cPart B) = 0) : cDecode B = (cPart B, 0) :=
  if_pos ⟨Decidable.not_not.1 h1, Decidable.not_not.1 h2, Decidable.not_not.1 h3, Decidable.not_not.1 h4, Decidable.not_not.1 h5⟩
end
section
set_option linter.unusedVariables false
theorem none_iff {e n i : Int} {l : List DCommit} : ((cFollowsAt e n i l).1 = 0 ∧ (cFollowsAt e n i l).2 = 0) ↔ (cFollowsAt e n i l).1 = 0 := ⟨fun h => h.1, fun h => by rw [follows_zero h]; exact ⟨rfl, rfl⟩⟩
theorem rDecode_no1 {B : Bytes} (h : ¬ ((nextRef B (rNum B 1048576 (rNum B 1048576 (0, false)).2).2).2.2 = false ∧ (nextRef B (rNum B 1048576 (rNum B 1048576 (0, false)).2).2).2.1 = (B.length : Int))) : cDecode B = (zC, 5) := by
  rw [← decode_same]; unfold rDecode; exact if_neg fun hh => h ⟨hh.1, hh.2.1⟩
theorem rDecode_no2 {B : Bytes} (h : ¬ cCheck ((rNum B 1048576 (0, false)).1, (rNum B 1048576 (rNum B 1048576 (0, false)).2).1, (nextRef B (rNum B 1048576 (rNum B 1048576 (0, false)).2).2).1) = 0) : cDecode B = (zC, 5) := by
  rw [← decode_same]; unfold rDecode; exact if_neg fun hh => h hh.2.2
theorem rDecode_yes {B : Bytes} (h : ¬ ¬ ((nextRef B (rNum B 1048576 (rNum B 1048576 (0, false)).2).2).2.2 = false ∧ (nextRef B (rNum B 1048576 (rNum B 1048576 (0, false)).2).2).2.1 = (B.length : Int)))
    (h2 : ¬ ¬ cCheck ((rNum B 1048576 (0, false)).1, (rNum B 1048576 (rNum B 1048576 (0, false)).2).1, (nextRef B (rNum B 1048576 (rNum B 1048576 (0, false)).2).2).1) = 0) :
    cDecode B = (((rNum B 1048576 (0, false)).1, (rNum B 1048576 (rNum B 1048576 (0, false)).2).1, (nextRef B (rNum B 1048576 (rNum B 1048576 (0, false)).2).2).1), 0) := by
  rw [← decode_same]; unfold rDecode; exact if_pos ⟨(Decidable.not_not.1 h).1, (Decidable.not_not.1 h).2, Decidable.not_not.1 h2⟩
end
section
set_option linter.unusedVariables false
theorem Rd.relen {e : Ty} {m : Mem} {A : Option Addr} {l k c : Nat} {xs : List e.Den} (h : Rd (.sl e) m [.slice A l c] xs) (hk : k = xs.length) : Rd (.sl e) m [.slice A k c] xs := by
  obtain ⟨A', c', h1, h2⟩ := h
  simp only [List.cons.injEq, Value.slice.injEq, and_true] at h1
  obtain ⟨rfl, _, rfl⟩ := h1
  exact ⟨_, _, by rw [hk], h2⟩
theorem OwAll.map {α β : Type} {R : Mem → List Value → α → Prop} {S : Mem → List Value → β → Prop} (f : α → β) (hf : ∀ m c x, R m c x → S m c (f x)) : ∀ {xs : List α} {m : Mem} {cs : List Value}, OwAll R m cs xs → OwAll S m cs (xs.map f)
  | [], _, _, h => h
  | _ :: _, _, _, ⟨c1, c2, m1, m2, h1, h2, h3, h4, h5, h6⟩ => ⟨c1, c2, m1, m2, h1, h2, h3, h4, hf _ _ _ h5, h6.map f hf⟩
theorem VO.apart {P : Program} {n : Nat} {w0 : World} {σ : Env} {Ω : Ctx} {ops : Array Oper} {K : Env → Ctx → Prop} {r : List Oper} (ids : List Nat) {l : List Mem} (hg : cgets Ω ids = some l) (h : l.Pairwise mdj → VO P n w0 ops r σ Ω K) : VO P n w0 ops r σ Ω K :=
  fun Q hQ a W he hi => h (hi.gets hg).1 Q hQ a W he hi
theorem VD.apart {P : Program} {n : Nat} {w0 : World} {σ : Env} {Ω ΩS : Ctx} {ops : Array Oper} {K : Env → Ctx → Prop} {t : Nat} {ss : List (Nat × Bool)} (ids : List Nat) {l : List Mem} (hg : cgets Ω ids = some l) (h : l.Pairwise mdj → VD P n w0 ops ΩS t ss σ Ω K) : VD P n w0 ops ΩS t ss σ Ω K :=
  fun Q hn hQ listed a W he hi => h (hi.gets hg).1 Q hn hQ listed a W he hi
section
variable {P : Program} {n : Nat} {w0 : World} {σ : Env} {Ω : Ctx} {ops : Array Oper} {K : Env → Ctx → Prop}
theorem execOp_val {ρ : Operand → Value} {dst : Option Tmp} {x : Operand} {f : FuncId} {caps : Array Value} {xs : Array Operand} {ats : Array TypeId} {ty : TypeId} {pos : String} {after : Array Edge} {guard : Option (Nat × Bool)} (hx : ρ x = .func (.func f) #[] caps) :
    execOp ρ { dst, op := .call { callee := .value x, args := xs, argTypes := ats }, type := ty, pos, after, guard } = callFunc f (#[] ++ xs.map ρ ++ caps) := by
  show (do let d ← Deferred.ofValue (ρ x) (xs.map ρ); invoke d.target d.args) = _
  rw [hx]; rfl
theorem Yld.mkf {d : Nat} {f : FuncId} {xs : List Operand} {caps : List Value} {ty : TypeId} {pos : String} {af : Array Edge} {gd : Option (Nat × Bool)} (ha : evs σ xs = some caps) : Yld P n w0 σ Ω ⟨some d, .makeFunc (.func f) #[] xs.toArray, ty, pos, af, gd⟩ (.func (.func f) #[] caps.toArray) := fun a W he _ => by
  simp [execOp, Instr.makeFunc, he.evals ha]
theorem Stp.callV {x : Operand} {f : FuncId} {caps : List Value} {xs : List Operand} {ats : Array TypeId} {ty : TypeId} {pos : String} {af : Array Edge} {dst : Option Tmp} {gd : Option (Nat × Bool)} {vs : List Value} {Post : Value → Mem → Prop}
    (i : Nat) {m : Mem} (hx : ev σ x = some (.func (.func f) #[] caps.toArray)) (hf : fnOk P f = true) (ha : evs σ xs = some vs) (hm : cget Ω i = some m) (hc : ∀ W, Inv w0 Ω W → CallR P f (vs ++ caps) W m Post) :
    Stp P n w0 σ Ω ⟨dst, .call { callee := .value x, args := xs.toArray, argTypes := ats }, ty, pos, af, gd⟩ (fun v Ω' => ∃ m', Post v m' ∧ Ω' = cset Ω i m') := fun a W he hi K Q hK => by
  unfold Oper.wp
  rw [execOp_val (he.eval hx)]
  rw [run_call_of_ok hf]
  have : #[] ++ Array.map a.eval xs.toArray ++ caps.toArray = (vs ++ caps).toArray := by
    rw [← he.evals ha]; simp
  rw [this, Oper.upon_enter]
  refine Calls.mono (hc W hi) fun e W' ⟨v, m', h1, h2, h3⟩ => ?_
  subst h1
  exact hK v _ W' ⟨m', h2, rfl⟩ (hi.upd hm h3)
theorem VO.callV {r : List Oper} {d : Nat} {x : Operand} {f : FuncId} {caps : List Value} {xs : List Operand} {ats : Array TypeId} {ty : TypeId} {pos : String} {af : Array Edge} {vs : List Value} {Post : Value → Mem → Prop}
    (i : Nat) {m : Mem} (hd : Nat.blt d n = true) (hx : ev σ x = some (.func (.func f) #[] caps.toArray)) (hf : fnOk P f = true) (ha : evs σ xs = some vs) (hm : cget Ω i = some m) (hc : ∀ W, Inv w0 Ω W → CallR P f (vs ++ caps) W m Post)
    (h : ∀ v m', Post v m' → VO P n w0 ops r ((d, v) :: σ) (cset Ω i m') K) :
    VO P n w0 ops (⟨some d, .call { callee := .value x, args := xs.toArray, argTypes := ats }, ty, pos, af, none⟩ :: r) σ Ω K :=
  VO.s hd (Stp.callV i hx hf ha hm hc) fun v _ ⟨m', hp, hΩ⟩ => hΩ ▸ h v m' hp
end
theorem VD.gbsl {P : Program} {n : Nat} {w0 : World} {σ : Env} {Ω ΩS : Ctx} {ops : Array Oper} {t : Nat} {K : Env → Ctx → Prop} {ty : TypeId} {pos : String} {af : Array Edge} {i : Nat} {rr : List (Nat × Bool)} {dd : Nat} {t' e : TypeId} {s b len : Nat} {l : List (Nat × Operand)} {ps : List (Nat × Value)} {z cs : List Value} {jj : Nat} {b' : Bool} (j : Nat) (hd : Nat.blt dd n = true) (ho : ops[i]? = some ⟨some dd, .buildSlice t' len l.toArray, ty, pos, af, some (jj, b')⟩) (hg : gyes σ ops jj b')
    (hl : evp σ l = some ps) (ht : tsl P t' = some (e, s, b)) (hz : tz P e = some z)
    (hsmall : Nat.ble (len * s) 16777216 = true) (hb : bld (fun i => some (i * s, s)) ((List.range (len * s)).map fun j => z.toArray[j % z.toArray.size]!) ps = some cs) (hS : ∀ W, Inv w0 Ω W → Inv w0 ΩS W)
    (h : ∀ g, VD P n w0 ops ΩS t rr ((dd, .slice (some ⟨g, 0, none⟩) len len) :: σ) ((j, mone g (.cells cs.toArray e (0, 0))) :: Ω) K) : VD P n w0 ops ΩS t ((i, false) :: rr) σ Ω K :=
  VD.s (fun v => (dd, v) :: σ) ho (fun v _ he => he.put hd v) (.inr ⟨_, _, rfl, hg⟩) (Stp.bsl j hl ht hz hsmall hb) (fun _ _ ⟨_, _, hΩ⟩ W hW => hS W (by subst hΩ; exact hW.tl)) (fun _ _ ⟨g, hv, hΩ⟩ => hv ▸ hΩ ▸ h g)
abbrev Hd := Option Addr × Nat × Nat
def hv (h : Hd) : Value := .slice h.1 h.2.1 h.2.2
/-- two numbers and a list; two numbers and a list's header. -/
abbrev tC (e : Ty) : Ty := .pair (.int .i64) (.pair (.int .i64) (.sl e))
abbrev tH : Ty := .pair (.int .i64) (.pair (.int .i64) .hdr)
abbrev DH := Int × Int × Hd
/-- this one, but for where the ops are. -/
def Pc (e : Ty) (m : Mem) (h : DH) (x : (tC e).Den) : Prop := h.1 = x.1 ∧ h.2.1 = x.2.1 ∧ Rd (.sl e) m [hv h.2.2] x.2.2
inductive F2 {α β : Type} (R : α → β → Prop) : List α → List β → Prop
  | nil : F2 R [] []
  | cons {a : α} {b : β} {l : List α} {r : List β} (h : R a b) (t : F2 R l r) : F2 R (a :: l) (b :: r)
theorem F2.mono {α β : Type} {R S : α → β → Prop} {l : List α} {r : List β} (h : F2 R l r) (hs : ∀ a b, R a b → S a b) : F2 S l r := by
  induction h with
  | nil => exact .nil
  | cons h _ ih => exact .cons (hs _ _ h) ih
theorem F2.len {α β : Type} {R : α → β → Prop} {l : List α} {r : List β} (h : F2 R l r) : l.length = r.length := by
  induction h with
  | nil => rfl
  | cons _ _ ih => simp [ih]
theorem F2.get {α β : Type} {R : α → β → Prop} {l : List α} {r : List β} (h : F2 R l r) {i : Nat} {a : α} (ha : l[i]? = some a) : ∃ b, r[i]? = some b ∧ R a b := by
  induction h generalizing i with
  | nil => simp at ha
  | cons h _ ih =>
    cases i with
    | zero => simp at ha; subst ha; exact ⟨_, rfl, h⟩
    | succ i => simp at ha; simpa using ih ha
variable {e : Ty}
theorem Pc.mono {m m' : Mem} {h : DH} {x : (tC e).Den} (hp : Pc e m h x) (hm : mle m m') : Pc e m' h x := ⟨hp.1, hp.2.1, hp.2.2.mono hm⟩
theorem Ow.peel1 {m : Mem} {cs : List Value} {x : (tC e).Den} (h : Ow (tC e) m cs x) : ∃ h' : DH, Ow tH mnil cs h' ∧ Pc e m h' x ∧ Ow (.sl e) m [hv h'.2.2] x.2.2 := by
  obtain ⟨c1, c2, m1, m2, rfl, _, _, hm2, ⟨rfl, k1⟩, c3, c4, m3, m4, rfl, _, _, hm4, ⟨rfl, k2⟩, k3⟩ := h
  obtain ⟨A, c, rfl, _, _⟩ := Ow.slice1 k3
  have k4 := k3.up (hm4.trans hm2)
  exact ⟨(x.1, x.2.1, A, x.2.2.length, c), Ow.of rfl (m := mnil) ⟨_, _, rfl, ⟨rfl, k1⟩, _, _, rfl, ⟨rfl, k2⟩, rfl⟩, ⟨rfl, rfl, k4.rd (mle_refl _)⟩, k4⟩
theorem OwAll.peel : ∀ {xs : List (tC e).Den} {m : Mem} {cs : List Value}, OwAll (Ow (tC e)) m cs xs → ∃ hs : List DH, OwAll (Ow tH) mnil cs hs ∧ F2 (Pc e m) hs xs ∧ OwAll (Ow (.sl e)) m (hs.map fun h => hv h.2.2) (xs.map fun x => x.2.2)
  | [], _, _, h => ⟨[], h, .nil, rfl⟩
  | x :: r, m, _, ⟨c1, c2, m1, m2, h1, h2, h3, h4, h5, h6⟩ => by
    obtain ⟨h', k1, k2, k3⟩ := h5.peel1
    obtain ⟨hs, l1, l2, l3⟩ := OwAll.peel h6
    exact ⟨h' :: hs, ⟨c1, c2, mnil, mnil, h1, mdj_nil _, mle_nil _, mle_nil _, k1, l1⟩, .cons (k2.mono h3) (l2.mono fun _ _ h => h.mono h4), ⟨[hv h'.2.2], _, m1, m2, rfl, h2, h3, h4, k3, l3⟩⟩
theorem Ow.peelL {m : Mem} {cs : List Value} {xs : List (tC e).Den} (h : Ow (.sl (tC e)) m cs xs) : ∃ (hs : List DH) (ma mo : Mem), mdj ma mo ∧ mle ma m ∧ mle mo m ∧ Ow (.sl tH) ma cs hs ∧ F2 (Pc e mo) hs xs ∧ OwAll (Ow (.sl e)) mo (hs.map fun h => hv h.2.2) (xs.map fun x => x.2.2) := by
  obtain ⟨v, m0, m1, rc, rfl, h2, h3, h4, h5, h6⟩ := h
  obtain ⟨hs, l1, l2, l3⟩ := OwAll.peel h6
  refine ⟨hs, m0, m1, h2, h3, h4, ⟨v, m0, mnil, rc, rfl, mdj_nil _, mle_refl _, mle_nil _, ?_, l1⟩, l2, l3⟩
  rw [l2.len]; exact h5
theorem OwAll.peelL : ∀ {xss : List (List (tC e).Den)} {m : Mem} {cs : List Value}, OwAll (Ow (.sl (tC e))) m cs xss → ∃ (hss : List (List DH)) (ma mo : Mem), mdj ma mo ∧ mle ma m ∧ mle mo m ∧ OwAll (Ow (.sl tH)) ma cs hss ∧ F2 (F2 (Pc e mo)) hss xss ∧
    OwAll (Ow (.sl e)) mo (hss.flatten.map fun h => hv h.2.2) (xss.flatten.map fun x => x.2.2)
  | [], _, _, h => ⟨[], mnil, mnil, mdj_nil _, mle_nil _, mle_nil _, h, .nil, rfl⟩
  | x :: r, m, _, ⟨c1, c2, m1, m2, h1, h2, h3, h4, h5, h6⟩ => by
    obtain ⟨hs, a1, o1, k1, k2, k3, k4, k5, k6⟩ := h5.peelL
    obtain ⟨hss, a2, o2, l1, l2, l3, l4, l5, l6⟩ := OwAll.peelL h6
    have d1 : mdj a1 a2 := h2.mono k2 l2
    have d2 : mdj o1 o2 := h2.mono k3 l3
    refine ⟨hs :: hss, mun a1 a2, mun o1 o2, ?_, mun_le (k2.trans h3) (l2.trans h4), mun_le (k3.trans h3) (l3.trans h4), ⟨c1, c2, a1, a2, h1, d1, mle_un_left _ _, mle_un_right d1, k4, l4⟩,
      .cons (k5.mono fun _ _ h => h.mono (mle_un_left _ _)) (l5.mono fun _ _ h => h.mono fun _ _ h => h.mono (mle_un_right d2)), ?_⟩
    · exact mdj_un (mdj_un k1.symm (h2.mono k2 l3).symm).symm (mdj_un (h2.mono k3 l2) l1.symm).symm
    · simp only [List.flatten_cons, List.map_append]
      exact OwAll.app d2 (mle_un_left _ _) (mle_un_right d2) k6 l6
theorem Ow.peelLL {m : Mem} {cs : List Value} {xss : List (List (tC e).Den)} (h : Ow (.sl (.sl (tC e))) m cs xss) : ∃ (hss : List (List DH)) (ml mo : Mem), Seps m [ml, mo] ∧ Ow (.sl (.sl tH)) ml cs hss ∧ F2 (F2 (Pc e mo)) hss xss ∧
    OwAll (Ow (.sl e)) mo (hss.flatten.map fun h => hv h.2.2) (xss.flatten.map fun x => x.2.2) := by
  obtain ⟨v, m0, m1, rc, rfl, h2, h3, h4, h5, h6⟩ := h
  obtain ⟨hss, a, o, k1, k2, k3, k4, k5, k6⟩ := OwAll.peelL h6
  have d := h2.mono (mle_refl _) k2
  have d2 := h2.mono (mle_refl _) k3
  refine ⟨hss, mun m0 a, o, .two (mdj_un d2 k1) (mun_le h3 (k2.trans h4)) (k3.trans h4), ⟨v, m0, a, rc, rfl, d, mle_un_left _ _, mle_un_right d, ?_, k4⟩, k5, k6⟩
  rw [k5.len]; exact h5
theorem hdrs_are : ∀ {hs : List Hd} {m : Mem} {rc : List Value}, OwAll (Ow .hdr) m rc hs → rc = hs.map hv
  | [], _, _, h => h
  | _ :: _, _, _, ⟨c1, c2, m1, m2, h1, _, _, _, h5, h6⟩ => by
    rw [h1, show c1 = _ from h5, hdrs_are h6]; rfl
theorem OwAll.len {α : Type} {R : Mem → List Value → α → Prop} {k : Nat} (hk : ∀ m c x, R m c x → c.length = k) : ∀ {xs : List α} {m : Mem} {cs : List Value}, OwAll R m cs xs → cs.length = xs.length * k
  | [], _, _, h => by rw [show _ = [] from h]; simp
  | _ :: r, _, _, ⟨c1, c2, m1, m2, h1, _, _, _, h5, h6⟩ => by
    rw [h1, List.length_append, hk _ _ _ h5, OwAll.len hk h6, List.length_cons, Nat.add_mul]; omega
/-- The headers of one's own, and what they lead to. -/
theorem Ow.mkOps {M mp mo : Mem} {v : Value} {hs : List Hd} {os : List (List e.Den)} (hS : Seps M [mp, mo]) (h : Ow (.sl .hdr) mp [v] hs) (ho : OwAll (Ow (.sl e)) mo (hs.map hv) os) : Ow (.sl (.sl e)) M [v] os := by
  obtain ⟨v', m0, m1, rc, h1, h2, h3, h4, h5, h6⟩ := h
  obtain rfl := hdrs_are h6
  have hl : hs.length = os.length := by
    have := ho.len (k := 1) (fun _ _ _ h => h.len)
    simpa using this
  have hd : mdj mp mo := by have := hS.2; simp at this; exact this
  refine ⟨v', m0, mo, _, h1, hd.mono h3 (mle_refl _), h3.trans (hS.1 _ (.head _)), hS.1 _ (.tail _ (.head _)), ?_, ho⟩
  rw [← hl]; exact h5
theorem row_all {m : Mem} : ∀ {hs : List DH} {xs : List (tC e).Den} {cs : List Value}, F2 (Pc e m) hs xs → All2c (Rd tH m) cs hs → All2c (Rd (tC e) m) cs xs
  | _, _, _, .nil, h => h
  | _, _, _, .cons (b := b) hp hr, ⟨c1, c2, h1, ⟨a1, a2, e1, h2, b1, b2, e2, h3, h4⟩, h5⟩ => by
    refine ⟨c1, c2, h1, ⟨a1, a2, e1, ?_, b1, b2, e2, ?_, ?_⟩, row_all hr h5⟩
    · rw [← hp.1]; exact h2
    · rw [← hp.2.1]; exact h3
    · have h4' : b2 = [hv _] := h4
      rw [h4']; exact hp.2.2
theorem row_rd {m : Mem} {v : Value} {hs : List DH} {xs : List (tC e).Den} (h : Rd (.sl tH) m [v] hs) (hp : F2 (Pc e m) hs xs) : Rd (.sl (tC e)) m [v] xs := by
  obtain ⟨A, c, h1, h2, h3, h4⟩ := h
  have hl := hp.len
  refine ⟨A, c, by rw [← hl]; exact h1, by rw [← hl]; exact h2, h3, ?_⟩
  rw [← hl]
  exact h4.imp id fun ⟨g, off, all, k1, k2, k3⟩ => ⟨g, off, all, k1, k2, row_all hp k3⟩
end
section
set_option linter.unusedVariables false
set_option linter.unusedSimpArgs false
set_option maxRecDepth 4000
theorem fnOk54 : fnOk Try.prog 54 = true := by kernel_rfl
theorem fnOk64 : fnOk Try.prog 64 = true := by kernel_rfl
theorem fnOk66 : fnOk Try.prog 66 = true := by kernel_rfl
theorem fnOk97 : fnOk Try.prog 97 = true := by kernel_rfl
theorem fnOk99 : fnOk Try.prog 99 = true := by kernel_rfl
theorem tz79 : tz Try.prog 79 = some [.slice none 0 0, .int .i64 0, .bool false] := by kernel_rfl
theorem fin0_cEncode_ok_ {P : Prop} (h : P := by first | omega | (simp only [List.length_append, List.length_nil, List.length_cons, List.length_take, List.length_drop] at *; omega) | (have h_ := cCheck_zero (Decidable.not_not.1 ‹¬ ¬ cCheck d0 = 0›); omega) | (have h_ := cCheck_zero (Decidable.not_not.1 ‹¬ ¬ cCheck d0 = 0›); simp only [List.length_append, List.length_nil, List.length_cons] at *; omega)) : P := h
theorem cEncode_ok_ (W : World) {v0 : List Value} {d0 : DCommit} (h0 : Rd TCommit (wm W) v0 d0) : CallR Try.prog 33 [.agg v0.toArray] W (mnil) (fun v m' => ∃ (s0 : Value), v = .tuple #[s0, .int .i64 ((cEncode d0).2)] ∧ Ow (.sl .byte) m' [s0] ((cEncode d0).1)) := by
  obtain ⟨p0_A2, p0_c2, rfl, p0_0, p0_1, p0_2⟩ := open_Commit (x0 := d0.1) (x1 := d0.2.1) (x2 := d0.2.2) h0
  simp only [inK] at p0_0
  simp only [inK] at p0_1
  have p0_r2 := Rd.room p0_2
  refine CallR.ofA (n := 23) Try.func33 rfl rfl rfl ?_
  refine VC.rs ?_
  refine VO.box (cs := [Value.int .i64 (d0.1), Value.int .i64 (d0.2.1), Value.slice p0_A2 (d0.2.2.length) (p0_c2)]) 102 rfl rfl rfl (fun g1 => ?_)
  refine VO.as ?_
  refine VO.as ?_
  refine VO.k4 0 1 2 3 ?_
  refine VC.seq ?_
  refine VC.rs ?_
  refine VO.y rfl (.ldA 102 rfl tk43 rfl (cellsAt_one rfl rfl)) ?_
  refine VO.callN 103 rfl fnOk63 rfl (fun W hW => cCheck_ok_ W (Rd.mono h0 (hW.at (i := 0) rfl))) (fun v3 m3 hv3 => ?_)
  subst hv3
  have hfa4 := cCheck_range d0
  refine VO.as ?_
  refine VO.k5 0 1 2 3 4 ?_
  refine VC.rs ?_
  refine VO.mv ?_
  refine VO.y rfl (.neq rfl rfl) ?_
  refine VO.keep [102, 0] [(102, mone g1 (.cells [Value.int .i64 (d0.1), Value.int .i64 (d0.2.1), Value.slice p0_A2 (d0.2.2.length) (p0_c2)].toArray 43 (0, 0))), (0, wm W)] (by kernel_rfl) ?_
  refine VO.k6 0 1 2 3 4 8 ?_
  refine VC.cond rfl (fun hc5 => ?_) (fun hc5 => ?_)
  · -- T
    refine VC.rs ?_
    refine VO.mv ?_
    refine VO.as ?_
    refine VO.as ?_
    refine VO.k6 0 1 2 3 4 8 ?_
    refine VC.ret ?_
    refine outR ?_
    refine ⟨_, _, res_run (rs := [.tmp 2, .tmp 3]) rfl (.tmp rfl (.tmp rfl .nil)), fun W_ hI => out_of (l := []) hI [] rfl rfl (mle_refl _) (fun hS_ => ?_)⟩
    dsimp only [packV]
    have he0 : ((cEncode d0).1 : Ty.Den (.sl .byte)) = [] := by first | rfl | (first | (rw [cEncode_bad (by assumption)]; done) | (rw [cEncode_good (by assumption)]; done))
    refine ⟨Value.slice none (0) (0), ?_, ?_⟩
    rotate_left
    · rw [he0]; exact (Ow.nil _ _)
    all_goals (first | rfl | (first | (rw [cEncode_bad (by assumption)] <;> rfl) | (rw [cEncode_good (by assumption)] <;> rfl)))
  · -- F
    refine VC.skip ?_
    refine outN ?_
    refine VC.seq ?_
    refine VC.regD _ 13 [(0, true), (1, true), (2, true), (4, true), (5, true), (6, true), (8, true), (9, true), (3, false), (7, false), (10, false), (11, true), (12, true)] follows (by kernel_rfl) (fun _ h => h.sub [102, 0]) ?_
    refine VD.y rfl rfl (.inl rfl) (.fa rfl tst43 rfl) ?_
    refine VD.y rfl rfl (.inl rfl) (.ld1 102 rfl tk3 rfl (cellsAt_one rfl rfl)) ?_
    refine VD.y rfl rfl (.inl rfl) (.cvI (c := ((d0.1).toNat : Int)) rfl ⟨_, Try.underlying3⟩ Try.underlying62 (by rw [IntWalk.u64_in _ (by exact fin0_cEncode_ok_)]; first | omega | (exact fin0_cEncode_ok_))) ?_
    refine VD.y rfl rfl (.inl rfl) (.fa rfl tst43 rfl) ?_
    refine VD.y rfl rfl (.inl rfl) (.ld1 102 rfl tk3 rfl (cellsAt_one rfl rfl)) ?_
    refine VD.y rfl rfl (.inl rfl) (.cvI (c := ((d0.2.1).toNat : Int)) rfl ⟨_, Try.underlying3⟩ Try.underlying62 (by rw [IntWalk.u64_in _ (by exact fin0_cEncode_ok_)]; first | omega | (exact fin0_cEncode_ok_))) ?_
    refine VD.y rfl rfl (.inl rfl) (.fa rfl tst43 rfl) ?_
    refine VD.y rfl rfl (.inl rfl) (.ld1 102 rfl tk41 rfl (cellsAt_one rfl rfl)) ?_
    refine VD.callN 106 rfl rfl (.inl rfl) fnOk32 rfl (fun _ h => h.sub [102, 0]) (fun W hW => vAppend_ok W (Rd.nil _ _ none 0 (Nat.zero_le _)) ((d0.1).toNat) (by exact fin0_cEncode_ok_) (by exact fin0_cEncode_ok_)) (fun v6 m6 hv6 => ?_)
    obtain ⟨s6_0, rfl, f6_0⟩ := hv6
    have hfa7 := venc_len (x := ((d0.1).toNat)) (by first | omega | exact or64 (by assumption) _)
    simp only [List.nil_append] at f6_0
    obtain ⟨A6_0, c6_0, eq6_0, l6_0, k6_0⟩ := f6_0.slice
    subst eq6_0
    simp only [maxLen] at k6_0
    refine VD.callN 108 rfl rfl (.inl rfl) fnOk32 rfl (fun _ h => h.sub [102, 0]) (fun W hW => vAppend_ok W (OwnL.rd (Ow.ownl f6_0 rfl mnil) (hW.at (i := 106) rfl) (mle_nil _)) ((d0.2.1).toNat) (by exact fin0_cEncode_ok_) (by exact fin0_cEncode_ok_)) (fun v8 m8 hv8 => ?_)
    obtain ⟨s8_0, rfl, f8_0⟩ := hv8
    have hfa9 := venc_len (x := ((d0.2.1).toNat)) (by first | omega | exact or64 (by assumption) _)
    obtain ⟨A8_0, c8_0, eq8_0, l8_0, k8_0⟩ := f8_0.slice
    subst eq8_0
    simp only [maxLen] at k8_0
    refine VD.callN 110 rfl rfl (.inl rfl) fnOk64 rfl (fun _ h => h.sub [102, 0]) (fun W hW => bAppend_ok W (OwnL.rd (Ow.ownl f8_0 rfl mnil) (hW.at (i := 108) rfl) (mle_nil _)) (Rd.mono p0_2 (hW.at (i := 0) rfl)) (by exact fin0_cEncode_ok_)) (fun v10 m10 hv10 => ?_)
    obtain ⟨s10_0, rfl, f10_0⟩ := hv10
    have hfa11 := bAppend_len ((venc ((d0.1).toNat)) ++ venc ((d0.2.1).toNat)) d0.2.2
    obtain ⟨A10_0, c10_0, eq10_0, l10_0, k10_0⟩ := f10_0.slice
    subst eq10_0
    simp only [maxLen] at k10_0
    refine VD.y rfl rfl (.inl rfl) (.ext rfl rfl) ?_
    refine VD.y rfl rfl (.inl rfl) (.ext rfl rfl) ?_
    refine VD.nil rfl ?_ rfl
    refine VO.as ?_
    refine VO.as ?_
    refine VO.k6 0 1 2 3 4 8 ?_
    refine outN ?_
    refine VC.ret ?_
    refine ⟨_, _, res_run (rs := [.tmp 2, .tmp 3]) rfl (.tmp rfl (.tmp rfl .nil)), fun W_ hI => out_of (l := [m10]) hI [110] rfl rfl (mle_refl _) (fun hS_ => ?_)⟩
    dsimp only [packV]
    have he0 : ((cEncode d0).1 : Ty.Den (.sl .byte)) = (bAppend ((venc ((d0.1).toNat)) ++ venc ((d0.2.1).toNat)) d0.2.2).1 := by first | rfl | (first | (rw [cEncode_bad (by assumption)]; done) | (rw [cEncode_good (by assumption)]; done))
    refine ⟨Value.slice A10_0 (((bAppend ((venc ((d0.1).toNat)) ++ venc ((d0.2.1).toNat)) d0.2.2).1).length) (c10_0), ?_, ?_⟩
    rotate_left
    · rw [he0]; exact (Ow.up (OwnL.ow (Ow.ownl f10_0 rfl mnil) rfl) (hS_.1 _ (.head _)))
    all_goals (first | rfl | (first | (rw [cEncode_bad (by assumption)] <;> rfl) | (rw [cEncode_good (by assumption)] <;> rfl)))
theorem c4Check_ok (W : World) {v0 : List Value} {d0 : DCommit} (h0 : Rd TCommit (wm W) v0 d0) : CallR Try.prog 66 [.agg v0.toArray] W (mnil) (fun v m' => v = .int .i64 (cCheck d0)) := by
  obtain ⟨p0_A2, p0_c2, rfl, p0_0, p0_1, p0_2⟩ := open_Commit (x0 := d0.1) (x1 := d0.2.1) (x2 := d0.2.2) h0
  simp only [inK] at p0_0
  simp only [inK] at p0_1
  have p0_r2 := Rd.room p0_2
  refine CallR.ofA (n := 24) Try.func66 rfl rfl rfl ?_
  refine VC.rs ?_
  refine VO.box (cs := [Value.int .i64 (d0.1), Value.int .i64 (d0.2.1), Value.slice p0_A2 (d0.2.2.length) (p0_c2)]) 102 rfl rfl rfl (fun g1 => ?_)
  refine VO.as ?_
  refine VO.k3 0 1 2 ?_
  refine VC.seq ?_
  refine VC.rs ?_
  refine VO.y rfl (.fa rfl tst43 rfl) ?_
  refine VO.y rfl (.ld1 102 rfl tk3 rfl (cellsAt_one rfl rfl)) ?_
  refine VO.y rfl (.lss rfl rfl) ?_
  refine VO.mv ?_
  refine VO.dec (t := 6) rfl (fun hc3 => ?_) (fun hc3 => ?_)
  · -- T
    refine VO.gN ?_
    refine VO.gN ?_
    refine VO.gN ?_
    refine VO.y rfl (.pT rfl rfl) ?_
    refine VO.mv ?_
    refine VO.gN ?_
    refine VO.gN ?_
    refine VO.gN ?_
    refine VO.y rfl (.pT rfl rfl) ?_
    refine VO.mv ?_
    refine VO.gN ?_
    refine VO.gN ?_
    refine VO.gN ?_
    refine VO.y rfl (.pT rfl rfl) ?_
    refine VO.k4 0 1 2 20 ?_
    refine VC.condT rfl ?_
    refine VC.rs ?_
    refine VO.as ?_
    refine VO.keep [102, 0] [(102, mone g1 (.cells [Value.int .i64 (d0.1), Value.int .i64 (d0.2.1), Value.slice p0_A2 (d0.2.2.length) (p0_c2)].toArray 43 (0, 0))), (0, wm W)] (by kernel_rfl) ?_
    refine VO.k4 0 1 2 20 ?_
    refine VC.ret ?_
    refine outR ?_
    refine ⟨_, _, res_run (rs := [.tmp 2]) rfl (.tmp rfl .nil), fun W_ hI => out_of (l := []) hI [] rfl rfl (mle_refl _) (fun hS_ => ?_)⟩
    dsimp only [packV]
    all_goals (first | rfl | (unfold cCheck; congr 1; split <;> (try split) <;> first | rfl | omega))
  · -- F
    refine VO.gy rfl ⟨_, rfl, rfl⟩ (.fa rfl tst43 rfl) ?_
    refine VO.gy rfl ⟨_, rfl, rfl⟩ (.ld1 102 rfl tk3 rfl (cellsAt_one rfl rfl)) ?_
    refine VO.gy rfl ⟨_, rfl, rfl⟩ (.gtr rfl rfl) ?_
    refine VO.y rfl (.pF rfl rfl) ?_
    refine VO.mv ?_
    refine VO.dec (t := 11) rfl (fun hc4 => ?_) (fun hc4 => ?_)
    · -- FT
      refine VO.gN ?_
      refine VO.gN ?_
      refine VO.gN ?_
      refine VO.y rfl (.pT rfl rfl) ?_
      refine VO.mv ?_
      refine VO.gN ?_
      refine VO.gN ?_
      refine VO.gN ?_
      refine VO.y rfl (.pT rfl rfl) ?_
      refine VO.k4 0 1 2 20 ?_
      refine VC.condT rfl ?_
      refine VC.rs ?_
      refine VO.as ?_
      refine VO.keep [102, 0] [(102, mone g1 (.cells [Value.int .i64 (d0.1), Value.int .i64 (d0.2.1), Value.slice p0_A2 (d0.2.2.length) (p0_c2)].toArray 43 (0, 0))), (0, wm W)] (by kernel_rfl) ?_
      refine VO.k4 0 1 2 20 ?_
      refine VC.ret ?_
      refine outR ?_
      refine ⟨_, _, res_run (rs := [.tmp 2]) rfl (.tmp rfl .nil), fun W_ hI => out_of (l := []) hI [] rfl rfl (mle_refl _) (fun hS_ => ?_)⟩
      dsimp only [packV]
      all_goals (first | rfl | (unfold cCheck; congr 1; split <;> (try split) <;> first | rfl | omega))
    · -- FF
      refine VO.gy rfl ⟨_, rfl, rfl⟩ (.fa rfl tst43 rfl) ?_
      refine VO.gy rfl ⟨_, rfl, rfl⟩ (.ld1 102 rfl tk3 rfl (cellsAt_one rfl rfl)) ?_
      refine VO.gy rfl ⟨_, rfl, rfl⟩ (.lss rfl rfl) ?_
      refine VO.y rfl (.pF rfl rfl) ?_
      refine VO.mv ?_
      refine VO.dec (t := 16) rfl (fun hc5 => ?_) (fun hc5 => ?_)
      · -- FFT
        refine VO.gN ?_
        refine VO.gN ?_
        refine VO.gN ?_
        refine VO.y rfl (.pT rfl rfl) ?_
        refine VO.k4 0 1 2 20 ?_
        refine VC.condT rfl ?_
        refine VC.rs ?_
        refine VO.as ?_
        refine VO.keep [102, 0] [(102, mone g1 (.cells [Value.int .i64 (d0.1), Value.int .i64 (d0.2.1), Value.slice p0_A2 (d0.2.2.length) (p0_c2)].toArray 43 (0, 0))), (0, wm W)] (by kernel_rfl) ?_
        refine VO.k4 0 1 2 20 ?_
        refine VC.ret ?_
        refine outR ?_
        refine ⟨_, _, res_run (rs := [.tmp 2]) rfl (.tmp rfl .nil), fun W_ hI => out_of (l := []) hI [] rfl rfl (mle_refl _) (fun hS_ => ?_)⟩
        dsimp only [packV]
        all_goals (first | rfl | (unfold cCheck; congr 1; split <;> (try split) <;> first | rfl | omega))
      · -- FFF
        refine VO.gy rfl ⟨_, rfl, rfl⟩ (.fa rfl tst43 rfl) ?_
        refine VO.gy rfl ⟨_, rfl, rfl⟩ (.ld1 102 rfl tk3 rfl (cellsAt_one rfl rfl)) ?_
        refine VO.gy rfl ⟨_, rfl, rfl⟩ (.gtr rfl rfl) ?_
        refine VO.y rfl (.pF rfl rfl) ?_
        refine VO.k4 0 1 2 20 ?_
        refine VC.cond rfl (fun hc6 => ?_) (fun hc6 => ?_)
        · -- FFFT
          refine VC.rs ?_
          refine VO.as ?_
          refine VO.keep [102, 0] [(102, mone g1 (.cells [Value.int .i64 (d0.1), Value.int .i64 (d0.2.1), Value.slice p0_A2 (d0.2.2.length) (p0_c2)].toArray 43 (0, 0))), (0, wm W)] (by kernel_rfl) ?_
          refine VO.k4 0 1 2 20 ?_
          refine VC.ret ?_
          refine outR ?_
          refine ⟨_, _, res_run (rs := [.tmp 2]) rfl (.tmp rfl .nil), fun W_ hI => out_of (l := []) hI [] rfl rfl (mle_refl _) (fun hS_ => ?_)⟩
          dsimp only [packV]
          all_goals (first | rfl | (unfold cCheck; congr 1; split <;> (try split) <;> first | rfl | omega))
        · -- FFFF
          refine VC.skip ?_
          refine outN ?_
          refine VC.rs ?_
          refine VO.y rfl (.fa rfl tst43 rfl) ?_
          refine VO.y rfl (.ld1 102 rfl tk41 rfl (cellsAt_one rfl rfl)) ?_
          refine VO.callN 107 rfl fnOk91 rfl (fun W hW => rbCheck_ok W (Rd.mono p0_2 (hW.at (i := 0) rfl))) (fun v7 m7 hv7 => ?_)
          subst hv7
          have hfa8 := batchCheck_range d0.2.2
          refine VO.as ?_
          refine VO.keep [102, 0] [(102, mone g1 (.cells [Value.int .i64 (d0.1), Value.int .i64 (d0.2.1), Value.slice p0_A2 (d0.2.2.length) (p0_c2)].toArray 43 (0, 0))), (0, wm W)] (by kernel_rfl) ?_
          refine VO.k4 0 1 2 20 ?_
          refine VC.ret ?_
          refine ⟨_, _, res_run (rs := [.tmp 2]) rfl (.tmp rfl .nil), fun W_ hI => out_of (l := []) hI [] rfl rfl (mle_refl _) (fun hS_ => ?_)⟩
          dsimp only [packV]
          all_goals (first | rfl | (unfold cCheck; congr 1; split <;> (try split) <;> first | rfl | omega))
theorem fin0_cDecode_ok_ {P : Prop} (h : P := by first | (rw [cDecode_e1 (by assumption)] <;> rfl) | (rw [cDecode_e2 (by assumption)] <;> rfl) | (rw [cDecode_e3 (by assumption)] <;> rfl) | (rw [cDecode_e4 (by assumption)] <;> rfl) | (rw [cDecode_e5 (by assumption)] <;> rfl) | (rw [cDecode_ok (by assumption) (by assumption) (by assumption) (by assumption) (by assumption)] <;> rfl)) : P := h
theorem cDecode_ok_ (W : World) {v0 : Value} {d0 : List UInt8} (h0 : Rd (.sl .byte) (wm W) [v0] d0) : CallR Try.prog 79 [v0] W (mnil) (fun v m' => ∃ (s0 : List Value), v = .tuple #[.agg s0.toArray, .int .i64 ((cDecode d0).2)] ∧ Ow TCommit m' s0 ((cDecode d0).1)) := by
  obtain ⟨A0, c0, rfl, l0, k0⟩ := h0.slice
  simp only [maxLen] at k0
  refine CallR.ofA (n := 65) Try.func79 rfl rfl rfl ?_
  refine VC.rs ?_
  refine VO.alloc 102 rfl tz43 (fun g1 => ?_)
  refine VO.as ?_
  refine VO.k3 0 2 3 ?_
  refine VC.rs ?_
  refine VO.mv ?_
  refine VO.callN 103 rfl fnOk78 rfl (fun W hW => vSmall_ok W (Rd.mono h0 (hW.at (i := 0) rfl)) 1048576 bdk) (fun v3 m3 hv3 => ?_)
  subst hv3
  have hfa4 := s_bounds d0 1048576 (by omega)
  refine VO.mv ?_
  refine VO.y rfl (.ext rfl rfl) ?_
  refine VO.y rfl (.ext rfl rfl) ?_
  refine VO.y rfl (.ext rfl rfl) ?_
  refine VO.as ?_
  refine VO.as ?_
  refine VO.as ?_
  refine VO.k6 0 2 3 4 5 6 ?_
  refine VC.seq ?_
  refine VC.rs ?_
  refine VO.mv ?_
  refine VO.y rfl (.neq rfl rfl) ?_
  refine VO.keep [102, 0] [(102, mone g1 (.cells [Value.int .i64 (0), Value.int .i64 (0), Value.slice none (0) (0)].toArray 43 (0, 0))), (0, wm W)] (by kernel_rfl) ?_
  refine VO.k7 0 2 3 4 5 6 19 ?_
  refine VC.cond rfl (fun hc5 => ?_) (fun hc5 => ?_)
  · -- T
    refine VC.rs ?_
    refine VO.y rfl (.bst (cs := [Value.int .i64 (0), Value.int .i64 (0), Value.slice none (0) (0)]) rfl tst43 tz43 rfl) ?_
    refine VO.store (k := 3) (c' := [Value.int .i64 (0), Value.int .i64 (0), Value.slice none (0) (0)]) 102 rfl rfl (.inl tk43) rfl rfl rfl rfl rfl ?_
    refine VO.as ?_
    refine VO.k7 0 2 3 4 5 6 19 ?_
    refine VC.ret ?_
    refine outR ?_
    refine ⟨_, _, res_run (rs := [.cell 2 43, .tmp 3]) rfl (.agg 102 rfl tk43 rfl ⟨_, _, _, mone_self _ _, Nat.le_of_ble_eq_true rfl, rfl⟩ (.tmp rfl .nil)), fun W_ hI => out_of (l := []) hI [] rfl rfl (mle_refl _) (fun hS_ => ?_)⟩
    dsimp only [packV]
    have he0 : ((cDecode d0).1 : Ty.Den TCommit) = (0, 0, []) := by first | rfl | (exact fin0_cDecode_ok_)
    refine ⟨[Value.int .i64 (0), Value.int .i64 (0), Value.slice none (0) (0)], ?_, ?_⟩
    rotate_left
    · rw [he0]; exact (mkO_Commit 0 0 [] (Seps.nilAt 0 hS_) bdk bdk (Ow.nil _ _))
    all_goals (first | rfl | (exact fin0_cDecode_ok_))
  · -- F
    refine VC.skip ?_
    refine outN ?_
    refine VC.rs ?_
    refine VO.mv ?_
    refine VO.mv ?_
    obtain ⟨A6, hA6, hs6⟩ := h0.drop 1 (sN d0 1048576) rfl bd
    refine VO.y rfl (.slLI (sN d0 1048576) A6 rfl rfl tsl30 rfl hA6 bd) ?_
    refine VO.callN 107 rfl fnOk78 rfl (fun W hW => vSmall_ok W (Rd.mono hs6 (hW.at (i := 0) rfl)) 1048576 bdk) (fun v7 m7 hv7 => ?_)
    subst hv7
    have hfa8 := s_bounds (d0.drop (sN d0 1048576)) 1048576 (by omega)
    refine VO.mv ?_
    refine VO.y rfl (.ext rfl rfl) ?_
    refine VO.y rfl (.ext rfl rfl) ?_
    refine VO.y rfl (.ext rfl rfl) ?_
    refine VO.as ?_
    refine VO.as ?_
    refine VO.as ?_
    refine VO.k9 0 2 3 4 5 6 7 8 19 ?_
    refine VC.seq ?_
    refine VC.rs ?_
    refine VO.mv ?_
    refine VO.y rfl (.neq rfl rfl) ?_
    refine VO.k10 0 2 3 4 5 6 7 8 19 30 ?_
    refine VC.cond rfl (fun hc9 => ?_) (fun hc9 => ?_)
    · -- FT
      refine VC.rs ?_
      refine VO.y rfl (.bst (cs := [Value.int .i64 (0), Value.int .i64 (0), Value.slice none (0) (0)]) rfl tst43 tz43 rfl) ?_
      refine VO.store (k := 3) (c' := [Value.int .i64 (0), Value.int .i64 (0), Value.slice none (0) (0)]) 102 rfl rfl (.inl tk43) rfl rfl rfl rfl rfl ?_
      refine VO.as ?_
      refine VO.keep [102, 0] [(102, mone g1 (.cells [Value.int .i64 (0), Value.int .i64 (0), Value.slice none (0) (0)].toArray 43 (0, 0))), (0, wm W)] (by kernel_rfl) ?_
      refine VO.k10 0 2 3 4 5 6 7 8 19 30 ?_
      refine VC.ret ?_
      refine outR ?_
      refine ⟨_, _, res_run (rs := [.cell 2 43, .tmp 3]) rfl (.agg 102 rfl tk43 rfl ⟨_, _, _, mone_self _ _, Nat.le_of_ble_eq_true rfl, rfl⟩ (.tmp rfl .nil)), fun W_ hI => out_of (l := []) hI [] rfl rfl (mle_refl _) (fun hS_ => ?_)⟩
      dsimp only [packV]
      have he0 : ((cDecode d0).1 : Ty.Den TCommit) = (0, 0, []) := by first | rfl | (exact fin0_cDecode_ok_)
      refine ⟨[Value.int .i64 (0), Value.int .i64 (0), Value.slice none (0) (0)], ?_, ?_⟩
      rotate_left
      · rw [he0]; exact (mkO_Commit 0 0 [] (Seps.nilAt 0 hS_) bdk bdk (Ow.nil _ _))
      all_goals (first | rfl | (exact fin0_cDecode_ok_))
    · -- FF
      refine VC.skip ?_
      refine outN ?_
      refine VC.rs ?_
      refine VO.mv ?_
      refine VO.mv ?_
      refine VO.mv ?_
      refine VO.y rfl (.add (c := ((sN d0 1048576 + (sN (d0.drop (sN d0 1048576)) 1048576) : Nat) : Int)) rfl rfl (by omega) ⟨bd, bd⟩) ?_
      obtain ⟨A10, hA10, hs10⟩ := h0.drop 1 (sN d0 1048576 + (sN (d0.drop (sN d0 1048576)) 1048576)) rfl bd
      refine VO.y rfl (.slLI (sN d0 1048576 + (sN (d0.drop (sN d0 1048576)) 1048576)) A10 rfl rfl tsl30 rfl hA10 bd) ?_
      refine VO.callN 111 rfl fnOk97 rfl (fun W hW => bRead_ok W (Rd.mono hs10 (hW.at (i := 0) rfl))) (fun v11 m11 hv11 => ?_)
      obtain ⟨s11_0, rfl, f11_0⟩ := hv11
      have hfa12 := bRead_fits (d0.drop (sN d0 1048576 + (sN (d0.drop (sN d0 1048576)) 1048576)))
      obtain ⟨A11_0, c11_0, eq11_0, l11_0, k11_0⟩ := f11_0.slice
      subst eq11_0
      simp only [maxLen] at k11_0
      refine VO.mv ?_
      refine VO.y rfl (.ext rfl rfl) ?_
      refine VO.y rfl (.ext rfl rfl) ?_
      refine VO.y rfl (.ext rfl rfl) ?_
      refine VO.as ?_
      refine VO.as ?_
      refine VO.as ?_
      refine VO.keep [111, 102, 0] [(111, m11), (102, mone g1 (.cells [Value.int .i64 (0), Value.int .i64 (0), Value.slice none (0) (0)].toArray 43 (0, 0))), (0, wm W)] (by kernel_rfl) ?_
      refine VO.k12 0 2 3 4 5 6 7 8 9 10 19 30 ?_
      refine VC.rs ?_
      refine VO.mv ?_
      refine VO.mv ?_
      refine VO.mv ?_
      refine VO.y rfl (.bst (cs := [Value.int .i64 (((sX d0 1048576 : Nat) : Int)), Value.int .i64 (((sX (d0.drop (sN d0 1048576)) 1048576 : Nat) : Int)), Value.slice A11_0 (((bRead (d0.drop (sN d0 1048576 + (sN (d0.drop (sN d0 1048576)) 1048576)))).1).length) (c11_0)]) rfl tst43 tz43 rfl) ?_
      refine VO.alloc 114 rfl tz43 (fun g13 => ?_)
      refine VO.store (k := 3) (c' := [Value.int .i64 (((sX d0 1048576 : Nat) : Int)), Value.int .i64 (((sX (d0.drop (sN d0 1048576)) 1048576 : Nat) : Int)), Value.slice A11_0 (((bRead (d0.drop (sN d0 1048576 + (sN (d0.drop (sN d0 1048576)) 1048576)))).1).length) (c11_0)]) 114 rfl rfl (.inl tk43) rfl rfl rfl rfl rfl ?_
      refine VO.k13 0 2 3 4 5 6 7 8 9 10 11 19 30 ?_
      refine VC.seq ?_
      refine VC.rs ?_
      refine VO.mv ?_
      refine VO.y rfl (.neq rfl rfl) ?_
      refine VO.mv ?_
      refine VO.dec (t := 48) rfl (fun hc15 => ?_) (fun hc15 => ?_)
      · -- FFT
        refine VO.gN ?_
        refine VO.gN ?_
        refine VO.gN ?_
        refine VO.gN ?_
        refine VO.gN ?_
        refine VO.gN ?_
        refine VO.gN ?_
        refine VO.gN ?_
        refine VO.y rfl (.pT rfl rfl) ?_
        refine VO.mv ?_
        refine VO.gN ?_
        refine VO.gN ?_
        refine VO.gN ?_
        refine VO.y rfl (.pT rfl rfl) ?_
        refine VO.k14 0 2 3 4 5 6 7 8 9 10 11 19 30 62 ?_
        refine VC.condT rfl ?_
        refine VC.rs ?_
        refine VO.y rfl (.bst (cs := [Value.int .i64 (0), Value.int .i64 (0), Value.slice none (0) (0)]) rfl tst43 tz43 rfl) ?_
        refine VO.store (k := 3) (c' := [Value.int .i64 (0), Value.int .i64 (0), Value.slice none (0) (0)]) 102 rfl rfl (.inl tk43) rfl rfl rfl rfl rfl ?_
        refine VO.as ?_
        refine VO.keep [114, 111, 102, 0] [(114, mone g13 (.cells [Value.int .i64 (((sX d0 1048576 : Nat) : Int)), Value.int .i64 (((sX (d0.drop (sN d0 1048576)) 1048576 : Nat) : Int)), Value.slice A11_0 (((bRead (d0.drop (sN d0 1048576 + (sN (d0.drop (sN d0 1048576)) 1048576)))).1).length) (c11_0)].toArray 43 (0, 0))), (111, m11), (102, mone g1 (.cells [Value.int .i64 (0), Value.int .i64 (0), Value.slice none (0) (0)].toArray 43 (0, 0))), (0, wm W)] (by kernel_rfl) ?_
        refine VO.k14 0 2 3 4 5 6 7 8 9 10 11 19 30 62 ?_
        refine VC.ret ?_
        refine outR ?_
        refine ⟨_, _, res_run (rs := [.cell 2 43, .tmp 3]) rfl (.agg 102 rfl tk43 rfl ⟨_, _, _, mone_self _ _, Nat.le_of_ble_eq_true rfl, rfl⟩ (.tmp rfl .nil)), fun W_ hI => out_of (l := []) hI [] rfl rfl (mle_refl _) (fun hS_ => ?_)⟩
        dsimp only [packV]
        have he0 : ((cDecode d0).1 : Ty.Den TCommit) = (0, 0, []) := by first | rfl | (exact fin0_cDecode_ok_)
        refine ⟨[Value.int .i64 (0), Value.int .i64 (0), Value.slice none (0) (0)], ?_, ?_⟩
        rotate_left
        · rw [he0]; exact (mkO_Commit 0 0 [] (Seps.nilAt 0 hS_) bdk bdk (Ow.nil _ _))
        all_goals (first | rfl | (exact fin0_cDecode_ok_))
      · -- FFF
        refine VO.gy rfl ⟨_, rfl, rfl⟩ (.mv rfl) ?_
        refine VO.gy rfl ⟨_, rfl, rfl⟩ (.mv rfl) ?_
        refine VO.gy rfl ⟨_, rfl, rfl⟩ (.add (c := ((sN d0 1048576 + (sN (d0.drop (sN d0 1048576)) 1048576) : Nat) : Int)) rfl rfl (by omega) ⟨bd, bd⟩) ?_
        refine VO.gy rfl ⟨_, rfl, rfl⟩ (.mv rfl) ?_
        refine VO.gy rfl ⟨_, rfl, rfl⟩ (.add rfl rfl rfl ⟨bd, bd⟩) ?_
        refine VO.gy rfl ⟨_, rfl, rfl⟩ (.mv rfl) ?_
        refine VO.gy rfl ⟨_, rfl, rfl⟩ (.lenS rfl tsl30) ?_
        refine VO.gy rfl ⟨_, rfl, rfl⟩ (.neq rfl rfl) ?_
        refine VO.y rfl (.pF rfl rfl) ?_
        refine VO.mv ?_
        refine VO.dec (t := 58) rfl (fun hc16 => ?_) (fun hc16 => ?_)
        · -- FFFT
          refine VO.gN ?_
          refine VO.gN ?_
          refine VO.gN ?_
          refine VO.y rfl (.pT rfl rfl) ?_
          refine VO.k14 0 2 3 4 5 6 7 8 9 10 11 19 30 62 ?_
          refine VC.condT rfl ?_
          refine VC.rs ?_
          refine VO.y rfl (.bst (cs := [Value.int .i64 (0), Value.int .i64 (0), Value.slice none (0) (0)]) rfl tst43 tz43 rfl) ?_
          refine VO.store (k := 3) (c' := [Value.int .i64 (0), Value.int .i64 (0), Value.slice none (0) (0)]) 102 rfl rfl (.inl tk43) rfl rfl rfl rfl rfl ?_
          refine VO.as ?_
          refine VO.keep [114, 111, 102, 0] [(114, mone g13 (.cells [Value.int .i64 (((sX d0 1048576 : Nat) : Int)), Value.int .i64 (((sX (d0.drop (sN d0 1048576)) 1048576 : Nat) : Int)), Value.slice A11_0 (((bRead (d0.drop (sN d0 1048576 + (sN (d0.drop (sN d0 1048576)) 1048576)))).1).length) (c11_0)].toArray 43 (0, 0))), (111, m11), (102, mone g1 (.cells [Value.int .i64 (0), Value.int .i64 (0), Value.slice none (0) (0)].toArray 43 (0, 0))), (0, wm W)] (by kernel_rfl) ?_
          refine VO.k14 0 2 3 4 5 6 7 8 9 10 11 19 30 62 ?_
          refine VC.ret ?_
          refine outR ?_
          refine ⟨_, _, res_run (rs := [.cell 2 43, .tmp 3]) rfl (.agg 102 rfl tk43 rfl ⟨_, _, _, mone_self _ _, Nat.le_of_ble_eq_true rfl, rfl⟩ (.tmp rfl .nil)), fun W_ hI => out_of (l := []) hI [] rfl rfl (mle_refl _) (fun hS_ => ?_)⟩
          dsimp only [packV]
          have he0 : ((cDecode d0).1 : Ty.Den TCommit) = (0, 0, []) := by first | rfl | (exact fin0_cDecode_ok_)
          refine ⟨[Value.int .i64 (0), Value.int .i64 (0), Value.slice none (0) (0)], ?_, ?_⟩
          rotate_left
          · rw [he0]; exact (mkO_Commit 0 0 [] (Seps.nilAt 0 hS_) bdk bdk (Ow.nil _ _))
          all_goals (first | rfl | (exact fin0_cDecode_ok_))
        · -- FFFF
          refine VO.gy rfl ⟨_, rfl, rfl⟩ (.ldA 114 rfl tk43 rfl (cellsAt_one rfl rfl)) ?_
          refine VO.gcallN 117 rfl ⟨_, rfl, rfl⟩ fnOk63 rfl (fun W hW => cCheck_ok_ W (mk_Commit (m := wm W) ((sX d0 1048576 : Nat) : Int) ((sX (d0.drop (sN d0 1048576)) 1048576 : Nat) : Int) ((bRead (d0.drop (sN d0 1048576 + (sN (d0.drop (sN d0 1048576)) 1048576)))).1) bdk bdk (OwnL.rd (Ow.ownl f11_0 rfl mnil) (hW.at (i := 111) rfl) (mle_nil _)))) (fun v17 m17 hv17 => ?_)
          try dsimp only at hv17
          subst hv17
          have hfa18 := cCheck_range (((sX d0 1048576 : Nat) : Int), ((sX (d0.drop (sN d0 1048576)) 1048576 : Nat) : Int), (bRead (d0.drop (sN d0 1048576 + (sN (d0.drop (sN d0 1048576)) 1048576)))).1)
          refine VO.gy rfl ⟨_, rfl, rfl⟩ (.neq rfl rfl) ?_
          refine VO.y rfl (.pF rfl rfl) ?_
          refine VO.k14 0 2 3 4 5 6 7 8 9 10 11 19 30 62 ?_
          refine VC.cond rfl (fun hc19 => ?_) (fun hc19 => ?_)
          · -- FFFFT
            refine VC.rs ?_
            refine VO.y rfl (.bst (cs := [Value.int .i64 (0), Value.int .i64 (0), Value.slice none (0) (0)]) rfl tst43 tz43 rfl) ?_
            refine VO.store (k := 3) (c' := [Value.int .i64 (0), Value.int .i64 (0), Value.slice none (0) (0)]) 102 rfl rfl (.inl tk43) rfl rfl rfl rfl rfl ?_
            refine VO.as ?_
            refine VO.keep [114, 111, 102, 0] [(114, mone g13 (.cells [Value.int .i64 (((sX d0 1048576 : Nat) : Int)), Value.int .i64 (((sX (d0.drop (sN d0 1048576)) 1048576 : Nat) : Int)), Value.slice A11_0 (((bRead (d0.drop (sN d0 1048576 + (sN (d0.drop (sN d0 1048576)) 1048576)))).1).length) (c11_0)].toArray 43 (0, 0))), (111, m11), (102, mone g1 (.cells [Value.int .i64 (0), Value.int .i64 (0), Value.slice none (0) (0)].toArray 43 (0, 0))), (0, wm W)] (by kernel_rfl) ?_
            refine VO.k14 0 2 3 4 5 6 7 8 9 10 11 19 30 62 ?_
            refine VC.ret ?_
            refine outR ?_
            refine ⟨_, _, res_run (rs := [.cell 2 43, .tmp 3]) rfl (.agg 102 rfl tk43 rfl ⟨_, _, _, mone_self _ _, Nat.le_of_ble_eq_true rfl, rfl⟩ (.tmp rfl .nil)), fun W_ hI => out_of (l := []) hI [] rfl rfl (mle_refl _) (fun hS_ => ?_)⟩
            dsimp only [packV]
            have he0 : ((cDecode d0).1 : Ty.Den TCommit) = (0, 0, []) := by first | rfl | (exact fin0_cDecode_ok_)
            refine ⟨[Value.int .i64 (0), Value.int .i64 (0), Value.slice none (0) (0)], ?_, ?_⟩
            rotate_left
            · rw [he0]; exact (mkO_Commit 0 0 [] (Seps.nilAt 0 hS_) bdk bdk (Ow.nil _ _))
            all_goals (first | rfl | (exact fin0_cDecode_ok_))
          · -- FFFFF
            refine VC.skip ?_
            refine outN ?_
            refine VC.rs ?_
            refine VO.y rfl (.ldA 114 rfl tk43 rfl (cellsAt_one rfl rfl)) ?_
            refine VO.store (k := 3) (c' := [Value.int .i64 (((sX d0 1048576 : Nat) : Int)), Value.int .i64 (((sX (d0.drop (sN d0 1048576)) 1048576 : Nat) : Int)), Value.slice A11_0 (((bRead (d0.drop (sN d0 1048576 + (sN (d0.drop (sN d0 1048576)) 1048576)))).1).length) (c11_0)]) 102 rfl rfl (.inl tk43) rfl rfl rfl rfl rfl ?_
            refine VO.as ?_
            refine VO.keep [114, 111, 102, 0] [(114, mone g13 (.cells [Value.int .i64 (((sX d0 1048576 : Nat) : Int)), Value.int .i64 (((sX (d0.drop (sN d0 1048576)) 1048576 : Nat) : Int)), Value.slice A11_0 (((bRead (d0.drop (sN d0 1048576 + (sN (d0.drop (sN d0 1048576)) 1048576)))).1).length) (c11_0)].toArray 43 (0, 0))), (111, m11), (102, mone g1 (.cells [Value.int .i64 (((sX d0 1048576 : Nat) : Int)), Value.int .i64 (((sX (d0.drop (sN d0 1048576)) 1048576 : Nat) : Int)), Value.slice A11_0 (((bRead (d0.drop (sN d0 1048576 + (sN (d0.drop (sN d0 1048576)) 1048576)))).1).length) (c11_0)].toArray 43 (0, 0))), (0, wm W)] (by kernel_rfl) ?_
            refine VO.k14 0 2 3 4 5 6 7 8 9 10 11 19 30 62 ?_
            refine VC.ret ?_
            refine ⟨_, _, res_run (rs := [.cell 2 43, .tmp 3]) rfl (.agg 102 rfl tk43 rfl ⟨_, _, _, mone_self _ _, Nat.le_of_ble_eq_true rfl, rfl⟩ (.tmp rfl .nil)), fun W_ hI => out_of (l := [m11]) hI [111] rfl rfl (mle_refl _) (fun hS_ => ?_)⟩
            dsimp only [packV]
            have he0 : ((cDecode d0).1 : Ty.Den TCommit) = (((sX d0 1048576 : Nat) : Int), ((sX (d0.drop (sN d0 1048576)) 1048576 : Nat) : Int), (bRead (d0.drop (sN d0 1048576 + (sN (d0.drop (sN d0 1048576)) 1048576)))).1) := by first | rfl | (exact fin0_cDecode_ok_)
            refine ⟨[Value.int .i64 (((sX d0 1048576 : Nat) : Int)), Value.int .i64 (((sX (d0.drop (sN d0 1048576)) 1048576 : Nat) : Int)), Value.slice A11_0 (((bRead (d0.drop (sN d0 1048576 + (sN (d0.drop (sN d0 1048576)) 1048576)))).1).length) (c11_0)], ?_, ?_⟩
            rotate_left
            · rw [he0]; exact (mkO_Commit ((sX d0 1048576 : Nat) : Int) ((sX (d0.drop (sN d0 1048576)) 1048576 : Nat) : Int) ((bRead (d0.drop (sN d0 1048576 + (sN (d0.drop (sN d0 1048576)) 1048576)))).1) hS_ bdk bdk (OwnL.ow (Ow.ownl f11_0 rfl mnil) rfl))
            all_goals (first | rfl | (exact fin0_cDecode_ok_))
theorem rDone_ok (W : World) {g0 : Nat} {E0 : TypeId} {d0 : Dref01Reader} {b0_0 : Value} (hm : mle (mone g0 (.cells [(b0_0 : Value), .int .i64 d0.2.1, .bool d0.2.2].toArray E0 (0, 0))) (wm W)) (h0_0 : Rd (.sl .byte) (mout (wm W) (mone g0 (.cells [(b0_0 : Value), .int .i64 d0.2.1, .bool d0.2.2].toArray E0 (0, 0)))) [b0_0] d0.1) (h0_1 : inK .i64 d0.2.1) : CallR Try.prog 54 [.pointer (some ⟨g0, 0, none⟩)] W (mone g0 (.cells [(b0_0 : Value), .int .i64 d0.2.1, .bool d0.2.2].toArray E0 (0, 0))) (fun v m' => v = .bool (decide (d0.2.2 = false ∧ d0.2.1 = d0.1.length)) ∧ m' = mone g0 (.cells [(b0_0 : Value), .int .i64 d0.2.1, .bool d0.2.2].toArray E0 (0, 0)) ∧ inK .i64 d0.2.1) := by
  obtain ⟨A0_0, c0_0, rfl, l0_0, k0_0⟩ := h0_0.slice
  simp only [maxLen] at k0_0
  have h0_1' := h0_1; simp only [inK] at h0_1'
  refine CallR.ofB (n := 20) hm Try.func54 rfl rfl rfl ?_
  refine VC.rs ?_
  refine VO.as ?_
  refine VO.k2 0 2 ?_
  refine VC.seq ?_
  refine VC.regD _ 15 [(0, true), (1, true), (2, true), (3, true), (4, true), (5, true), (6, true), (7, true), (8, true), (9, true), (10, true), (11, true), (12, true), (13, true), (14, true)] follows (by kernel_rfl) (fun _ h => h.sub [0, 1]) ?_
  refine VD.y rfl rfl (.inl rfl) (.mv rfl) ?_
  refine VD.y rfl rfl (.inl rfl) (.nilp rfl) ?_
  refine VD.y rfl rfl (.inl rfl) (.fa rfl tst79 rfl) ?_
  refine VD.y rfl rfl (.inl rfl) (.ld1 1 rfl tk4 rfl (cellsAt_one rfl rfl)) ?_
  refine VD.y rfl rfl (.inl rfl) (.not rfl) ?_
  refine VD.y rfl rfl (.inl rfl) (.mv rfl) ?_
  refine VD.decBN (s := 8) rfl (fun hc1 => ?_) (fun hc1 => ?_)
  · -- T
    refine VD.y rfl rfl (.inr ⟨_, _, rfl, _, rfl, rfl⟩) (.mv rfl) ?_
    refine VD.y rfl rfl (.inr ⟨_, _, rfl, _, rfl, rfl⟩) (.nilp rfl) ?_
    refine VD.y rfl rfl (.inr ⟨_, _, rfl, _, rfl, rfl⟩) (.fa rfl tst79 rfl) ?_
    refine VD.y rfl rfl (.inr ⟨_, _, rfl, _, rfl, rfl⟩) (.ld1 1 rfl tk3 rfl (cellsAt_one rfl rfl)) ?_
    refine VD.y rfl rfl (.inr ⟨_, _, rfl, _, rfl, rfl⟩) (.mv rfl) ?_
    refine VD.y rfl rfl (.inr ⟨_, _, rfl, _, rfl, rfl⟩) (.nilp rfl) ?_
    refine VD.y rfl rfl (.inr ⟨_, _, rfl, _, rfl, rfl⟩) (.fa rfl tst79 rfl) ?_
    refine VD.y rfl rfl (.inr ⟨_, _, rfl, _, rfl, rfl⟩) (.ld1 1 rfl tk30 rfl (cellsAt_one rfl rfl)) ?_
    refine VD.y rfl rfl (.inr ⟨_, _, rfl, _, rfl, rfl⟩) (.lenS rfl tsl30) ?_
    refine VD.nil rfl ?_ rfl
    refine VO.gy rfl ⟨_, rfl, rfl⟩ (.eql rfl rfl) ?_
    refine VO.y rfl (.pT rfl rfl) ?_
    refine VO.as ?_
    refine VO.k2 0 2 ?_
    refine outN ?_
    refine VC.ret ?_
    refine ⟨_, _, res_run (rs := [.tmp 2]) rfl (.tmp rfl .nil), fun W_ hI => out_of (l := [mone g0 (.cells [Value.slice A0_0 (d0.1.length) (c0_0), Value.int .i64 (d0.2.1), Value.bool d0.2.2].toArray E0 (0, 0))]) hI [1] rfl rfl (mle_refl _) (fun hS_ => ?_)⟩
    dsimp only [packV]
    refine ⟨?_, ?_, ?_⟩
    rotate_left
    · rw [muns_one]
    · exact (show inK .i64 _ by simp only [inK]; (first | omega | (simp only [List.length_append, List.length_nil, List.length_cons, List.length_take, List.length_drop] at *; omega)))
    all_goals (first | rfl | (simp [*]; done))
  · -- F
    refine VD.gn rfl rfl (.inl ⟨_, rfl, rfl⟩) ?_
    refine VD.gn rfl rfl (.inl ⟨_, rfl, rfl⟩) ?_
    refine VD.gn rfl rfl (.inl ⟨_, rfl, rfl⟩) ?_
    refine VD.gn rfl rfl (.inl ⟨_, rfl, rfl⟩) ?_
    refine VD.gn rfl rfl (.inl ⟨_, rfl, rfl⟩) ?_
    refine VD.gn rfl rfl (.inl ⟨_, rfl, rfl⟩) ?_
    refine VD.gn rfl rfl (.inl ⟨_, rfl, rfl⟩) ?_
    refine VD.gn rfl rfl (.inl ⟨_, rfl, rfl⟩) ?_
    refine VD.gn rfl rfl (.inl ⟨_, rfl, rfl⟩) ?_
    refine VD.nil rfl ?_ rfl
    refine VO.gN ?_
    refine VO.y rfl (.pF rfl rfl) ?_
    refine VO.as ?_
    refine VO.k2 0 2 ?_
    refine outN ?_
    refine VC.ret ?_
    refine ⟨_, _, res_run (rs := [.tmp 2]) rfl (.tmp rfl .nil), fun W_ hI => out_of (l := [mone g0 (.cells [Value.slice A0_0 (d0.1.length) (c0_0), Value.int .i64 (d0.2.1), Value.bool d0.2.2].toArray E0 (0, 0))]) hI [1] rfl rfl (mle_refl _) (fun hS_ => ?_)⟩
    dsimp only [packV]
    refine ⟨?_, ?_, ?_⟩
    rotate_left
    · rw [muns_one]
    · exact (show inK .i64 _ by simp only [inK]; (first | omega | (simp only [List.length_append, List.length_nil, List.length_cons, List.length_take, List.length_drop] at *; omega)))
    all_goals (first | rfl | (simp [*]; done))
theorem c4Decode_ok (W : World) {v0 : Value} {d0 : List UInt8} (h0 : Rd (.sl .byte) (wm W) [v0] d0) : CallR Try.prog 81 [v0] W (mnil) (fun v m' => ∃ (s0 : List Value), v = .tuple #[.agg s0.toArray, .int .i64 ((cDecode d0).2)] ∧ Ow TCommit m' s0 ((cDecode d0).1)) := by
  obtain ⟨A0, c0, rfl, l0, k0⟩ := h0.slice
  simp only [maxLen] at k0
  refine CallR.ofA (n := 27) Try.func81 rfl rfl rfl ?_
  refine VC.rs ?_
  refine VO.alloc 102 rfl tz43 (fun g1 => ?_)
  refine VO.as ?_
  refine VO.k3 0 2 3 ?_
  refine VC.rs ?_
  refine VO.mv ?_
  refine VO.y rfl (.bst (cs := [Value.slice A0 (d0.length) (c0), Value.int .i64 (0), Value.bool false]) rfl tst79 tz79 rfl) ?_
  refine VO.box (cs := [Value.slice A0 (d0.length) (c0), Value.int .i64 (0), Value.bool false]) 104 rfl rfl rfl (fun g3 => ?_)
  refine VO.as ?_
  refine VO.k4 0 2 3 4 ?_
  refine VC.rs ?_
  refine VO.mv ?_
  refine VO.call 104 rfl fnOk52 rfl rfl (fun W hW => rSmall_ok W (d0 := (d0, 0, false)) (hW.at (i := 104) rfl) (Rd.mono h0 (hW.out (i := 104) (j := 0) rfl rfl)) bdk 1048576 bdk (by first | assumption | exact ⟨by omega, by omega⟩ | exact ⟨by (simp; done), by (simp; done)⟩)) (fun v5 m5 hv5 => ?_)
  try dsimp only at hv5
  obtain ⟨rfl, rfl, w5_0_1⟩ := hv5
  have hfa6 := (rNum_ok (B := d0) (m := 1048576) (s := (0, false)) (by first | assumption | exact ⟨by omega, by omega⟩ | exact ⟨by (simp; done), by (simp; done)⟩) (by omega)).1
  have hfa7 := (rNum_ok (B := d0) (m := 1048576) (s := (0, false)) (by first | assumption | exact ⟨by omega, by omega⟩ | exact ⟨by (simp; done), by (simp; done)⟩) (by omega)).1.1
  have hfa8 := (rNum_ok (B := d0) (m := 1048576) (s := (0, false)) (by first | assumption | exact ⟨by omega, by omega⟩ | exact ⟨by (simp; done), by (simp; done)⟩) (by omega)).1.2
  have hfa9 := (rNum_ok (B := d0) (m := 1048576) (s := (0, false)) (by first | assumption | exact ⟨by omega, by omega⟩ | exact ⟨by (simp; done), by (simp; done)⟩) (by omega)).2
  simp only [inK] at w5_0_1
  refine VO.mv ?_
  refine VO.call 104 rfl fnOk52 rfl rfl (fun W hW => rSmall_ok W (d0 := (d0, (rNum d0 1048576 (0, false)).2)) (hW.at (i := 104) rfl) (Rd.mono h0 (hW.out (i := 104) (j := 0) rfl rfl)) bdk 1048576 bdk (by first | assumption | exact ⟨by omega, by omega⟩ | exact ⟨by (simp; done), by (simp; done)⟩)) (fun v10 m10 hv10 => ?_)
  try dsimp only at hv10
  obtain ⟨rfl, rfl, w10_0_1⟩ := hv10
  have hfa11 := (rNum_ok (B := d0) (m := 1048576) (s := ((rNum d0 1048576 (0, false)).2)) (by first | assumption | exact ⟨by omega, by omega⟩ | exact ⟨by (simp; done), by (simp; done)⟩) (by omega)).1
  have hfa12 := (rNum_ok (B := d0) (m := 1048576) (s := ((rNum d0 1048576 (0, false)).2)) (by first | assumption | exact ⟨by omega, by omega⟩ | exact ⟨by (simp; done), by (simp; done)⟩) (by omega)).1.1
  have hfa13 := (rNum_ok (B := d0) (m := 1048576) (s := ((rNum d0 1048576 (0, false)).2)) (by first | assumption | exact ⟨by omega, by omega⟩ | exact ⟨by (simp; done), by (simp; done)⟩) (by omega)).1.2
  have hfa14 := (rNum_ok (B := d0) (m := 1048576) (s := ((rNum d0 1048576 (0, false)).2)) (by first | assumption | exact ⟨by omega, by omega⟩ | exact ⟨by (simp; done), by (simp; done)⟩) (by omega)).2
  simp only [inK] at w10_0_1
  refine VO.y rfl (.bst (cs := [Value.int .i64 ((rNum d0 1048576 (0, false)).1), Value.int .i64 ((rNum d0 1048576 ((rNum d0 1048576 (0, false)).2)).1), Value.slice none (0) (0)]) rfl tst43 tz43 rfl) ?_
  refine VO.alloc 116 rfl tz43 (fun g15 => ?_)
  refine VO.store (k := 3) (c' := [Value.int .i64 ((rNum d0 1048576 (0, false)).1), Value.int .i64 ((rNum d0 1048576 ((rNum d0 1048576 (0, false)).2)).1), Value.slice none (0) (0)]) 116 rfl rfl (.inl tk43) rfl rfl rfl rfl rfl ?_
  refine VO.keep [116, 104, 102, 0] [(116, mone g15 (.cells [Value.int .i64 ((rNum d0 1048576 (0, false)).1), Value.int .i64 ((rNum d0 1048576 ((rNum d0 1048576 (0, false)).2)).1), Value.slice none (0) (0)].toArray 43 (0, 0))), (104, mone g3 (.cells [Value.slice A0 (d0.length) (c0), Value.int .i64 ((rNum d0 1048576 ((rNum d0 1048576 (0, false)).2)).2.1), Value.bool ((rNum d0 1048576 ((rNum d0 1048576 (0, false)).2)).2.2)].toArray 79 (0, 0))), (102, mone g1 (.cells [Value.int .i64 (0), Value.int .i64 (0), Value.slice none (0) (0)].toArray 43 (0, 0))), (0, wm W)] (by kernel_rfl) ?_
  refine VO.k5 0 2 3 4 5 ?_
  refine VC.rs ?_
  refine VO.mv ?_
  refine VO.call 104 rfl fnOk99 rfl rfl (fun W hW => rNext_ok W (d0 := (d0, (rNum d0 1048576 ((rNum d0 1048576 (0, false)).2)).2)) (hW.at (i := 104) rfl) (Rd.mono h0 (hW.out (i := 104) (j := 0) rfl rfl)) bdk (by first | assumption | exact ⟨by omega, by omega⟩ | exact ⟨by (simp; done), by (simp; done)⟩)) (fun v17 m17 hv17 => ?_)
  try dsimp only at hv17
  obtain ⟨s17_0, p17_0, rfl, hS17, f17_0, w17_0_1⟩ := hv17
  refine VO.inv _ (fun _ h => h.parts (i := 104) rfl hS17 [118, 119]) ?_
  have hfa20 := (nextRef_ok (B := d0) (s := ((rNum d0 1048576 ((rNum d0 1048576 (0, false)).2)).2)) (by first | assumption | exact ⟨by omega, by omega⟩ | exact ⟨by (simp; done), by (simp; done)⟩))
  have hfa21 := (nextRef_ok (B := d0) (s := ((rNum d0 1048576 ((rNum d0 1048576 (0, false)).2)).2)) (by first | assumption | exact ⟨by omega, by omega⟩ | exact ⟨by (simp; done), by (simp; done)⟩)).1
  have hfa22 := (nextRef_ok (B := d0) (s := ((rNum d0 1048576 ((rNum d0 1048576 (0, false)).2)).2)) (by first | assumption | exact ⟨by omega, by omega⟩ | exact ⟨by (simp; done), by (simp; done)⟩)).2
  simp only [inK] at w17_0_1
  obtain ⟨A17_0, c17_0, eq17_0, l17_0, k17_0⟩ := f17_0.slice
  subst eq17_0
  simp only [maxLen] at k17_0
  refine VO.y rfl (.fa rfl tst43 rfl) ?_
  refine VO.store (k := 1) (c' := [Value.int .i64 ((rNum d0 1048576 (0, false)).1), Value.int .i64 ((rNum d0 1048576 ((rNum d0 1048576 (0, false)).2)).1), Value.slice A17_0 (((nextRef d0 ((rNum d0 1048576 ((rNum d0 1048576 (0, false)).2)).2)).1).length) (c17_0)]) 116 rfl rfl (.inr ⟨tk41, rfl⟩) rfl rfl rfl rfl rfl ?_
  refine VO.k5 0 2 3 4 5 ?_
  refine VC.seq ?_
  refine VC.rs ?_
  refine VO.mv ?_
  refine VO.call 119 rfl fnOk54 rfl rfl (fun W hW => rDone_ok W (d0 := (d0, (nextRef d0 ((rNum d0 1048576 ((rNum d0 1048576 (0, false)).2)).2)).2)) (hW.at (i := 119) rfl) (Rd.mono h0 (hW.out (i := 119) (j := 0) rfl rfl)) bdk) (fun v23 m23 hv23 => ?_)
  try dsimp only at hv23
  obtain ⟨rfl, rfl, w23_0_1⟩ := hv23
  simp only [inK] at w23_0_1
  refine VO.y rfl (.notD rfl) ?_
  refine VO.mv ?_
  refine VO.dec (t := 20) rfl (fun hc24 => ?_) (fun hc24 => ?_)
  · -- T
    refine VO.gN ?_
    refine VO.gN ?_
    refine VO.gN ?_
    refine VO.y rfl (.pT rfl rfl) ?_
    refine VO.k6 0 2 3 4 5 24 ?_
    refine VC.condT rfl ?_
    refine VC.rs ?_
    refine VO.y rfl (.bst (cs := [Value.int .i64 (0), Value.int .i64 (0), Value.slice none (0) (0)]) rfl tst43 tz43 rfl) ?_
    refine VO.store (k := 3) (c' := [Value.int .i64 (0), Value.int .i64 (0), Value.slice none (0) (0)]) 102 rfl rfl (.inl tk43) rfl rfl rfl rfl rfl ?_
    refine VO.as ?_
    refine VO.keep [119, 118, 116, 102, 0] [(119, mone g3 (.cells [Value.slice A0 (d0.length) (c0), Value.int .i64 (((nextRef d0 ((rNum d0 1048576 ((rNum d0 1048576 (0, false)).2)).2)).2.1)), Value.bool ((nextRef d0 ((rNum d0 1048576 ((rNum d0 1048576 (0, false)).2)).2)).2.2)].toArray 79 (0, 0))), (118, p17_0), (116, mone g15 (.cells [Value.int .i64 ((rNum d0 1048576 (0, false)).1), Value.int .i64 ((rNum d0 1048576 ((rNum d0 1048576 (0, false)).2)).1), Value.slice A17_0 (((nextRef d0 ((rNum d0 1048576 ((rNum d0 1048576 (0, false)).2)).2)).1).length) (c17_0)].toArray 43 (0, 0))), (102, mone g1 (.cells [Value.int .i64 (0), Value.int .i64 (0), Value.slice none (0) (0)].toArray 43 (0, 0))), (0, wm W)] (by kernel_rfl) ?_
    refine VO.k6 0 2 3 4 5 24 ?_
    refine VC.ret ?_
    refine outR ?_
    refine ⟨_, _, res_run (rs := [.cell 2 43, .tmp 3]) rfl (.agg 102 rfl tk43 rfl ⟨_, _, _, mone_self _ _, Nat.le_of_ble_eq_true rfl, rfl⟩ (.tmp rfl .nil)), fun W_ hI => out_of (l := []) hI [] rfl rfl (mle_refl _) (fun hS_ => ?_)⟩
    dsimp only [packV]
    have he0 : ((cDecode d0).1 : Ty.Den TCommit) = (0, 0, []) := by first | rfl | (first | (rw [rDecode_no1 (by assumption)] <;> rfl) | (rw [rDecode_no2 (by assumption)] <;> rfl) | (rw [rDecode_yes (by assumption) (by assumption)] <;> rfl))
    refine ⟨[Value.int .i64 (0), Value.int .i64 (0), Value.slice none (0) (0)], ?_, ?_⟩
    rotate_left
    · rw [he0]; exact (mkO_Commit 0 0 [] (Seps.nilAt 0 hS_) bdk bdk (Ow.nil _ _))
    all_goals (first | rfl | (first | (rw [rDecode_no1 (by assumption)] <;> rfl) | (rw [rDecode_no2 (by assumption)] <;> rfl) | (rw [rDecode_yes (by assumption) (by assumption)] <;> rfl)))
  · -- F
    refine VO.gy rfl ⟨_, rfl, rfl⟩ (.ldA 116 rfl tk43 rfl (cellsAt_one rfl rfl)) ?_
    refine VO.gcallN 125 rfl ⟨_, rfl, rfl⟩ fnOk66 rfl (fun W hW => c4Check_ok W (mk_Commit (m := wm W) ((rNum d0 1048576 (0, false)).1) ((rNum d0 1048576 ((rNum d0 1048576 (0, false)).2)).1) ((nextRef d0 ((rNum d0 1048576 ((rNum d0 1048576 (0, false)).2)).2)).1) bdk bdk (OwnL.rd (Ow.ownl f17_0 rfl mnil) (hW.at (i := 118) rfl) (mle_nil _)))) (fun v25 m25 hv25 => ?_)
    try dsimp only at hv25
    subst hv25
    have hfa26 := cCheck_range ((rNum d0 1048576 (0, false)).1, (rNum d0 1048576 ((rNum d0 1048576 (0, false)).2)).1, (nextRef d0 ((rNum d0 1048576 ((rNum d0 1048576 (0, false)).2)).2)).1)
    refine VO.gy rfl ⟨_, rfl, rfl⟩ (.neq rfl rfl) ?_
    refine VO.y rfl (.pF rfl rfl) ?_
    refine VO.k6 0 2 3 4 5 24 ?_
    refine VC.cond rfl (fun hc27 => ?_) (fun hc27 => ?_)
    · -- FT
      refine VC.rs ?_
      refine VO.y rfl (.bst (cs := [Value.int .i64 (0), Value.int .i64 (0), Value.slice none (0) (0)]) rfl tst43 tz43 rfl) ?_
      refine VO.store (k := 3) (c' := [Value.int .i64 (0), Value.int .i64 (0), Value.slice none (0) (0)]) 102 rfl rfl (.inl tk43) rfl rfl rfl rfl rfl ?_
      refine VO.as ?_
      refine VO.keep [119, 118, 116, 102, 0] [(119, mone g3 (.cells [Value.slice A0 (d0.length) (c0), Value.int .i64 (((nextRef d0 ((rNum d0 1048576 ((rNum d0 1048576 (0, false)).2)).2)).2.1)), Value.bool ((nextRef d0 ((rNum d0 1048576 ((rNum d0 1048576 (0, false)).2)).2)).2.2)].toArray 79 (0, 0))), (118, p17_0), (116, mone g15 (.cells [Value.int .i64 ((rNum d0 1048576 (0, false)).1), Value.int .i64 ((rNum d0 1048576 ((rNum d0 1048576 (0, false)).2)).1), Value.slice A17_0 (((nextRef d0 ((rNum d0 1048576 ((rNum d0 1048576 (0, false)).2)).2)).1).length) (c17_0)].toArray 43 (0, 0))), (102, mone g1 (.cells [Value.int .i64 (0), Value.int .i64 (0), Value.slice none (0) (0)].toArray 43 (0, 0))), (0, wm W)] (by kernel_rfl) ?_
      refine VO.k6 0 2 3 4 5 24 ?_
      refine VC.ret ?_
      refine outR ?_
      refine ⟨_, _, res_run (rs := [.cell 2 43, .tmp 3]) rfl (.agg 102 rfl tk43 rfl ⟨_, _, _, mone_self _ _, Nat.le_of_ble_eq_true rfl, rfl⟩ (.tmp rfl .nil)), fun W_ hI => out_of (l := []) hI [] rfl rfl (mle_refl _) (fun hS_ => ?_)⟩
      dsimp only [packV]
      have he0 : ((cDecode d0).1 : Ty.Den TCommit) = (0, 0, []) := by first | rfl | (first | (rw [rDecode_no1 (by assumption)] <;> rfl) | (rw [rDecode_no2 (by assumption)] <;> rfl) | (rw [rDecode_yes (by assumption) (by assumption)] <;> rfl))
      refine ⟨[Value.int .i64 (0), Value.int .i64 (0), Value.slice none (0) (0)], ?_, ?_⟩
      rotate_left
      · rw [he0]; exact (mkO_Commit 0 0 [] (Seps.nilAt 0 hS_) bdk bdk (Ow.nil _ _))
      all_goals (first | rfl | (first | (rw [rDecode_no1 (by assumption)] <;> rfl) | (rw [rDecode_no2 (by assumption)] <;> rfl) | (rw [rDecode_yes (by assumption) (by assumption)] <;> rfl)))
    · -- FF
      refine VC.skip ?_
      refine outN ?_
      refine VC.rs ?_
      refine VO.y rfl (.ldA 116 rfl tk43 rfl (cellsAt_one rfl rfl)) ?_
      refine VO.store (k := 3) (c' := [Value.int .i64 ((rNum d0 1048576 (0, false)).1), Value.int .i64 ((rNum d0 1048576 ((rNum d0 1048576 (0, false)).2)).1), Value.slice A17_0 (((nextRef d0 ((rNum d0 1048576 ((rNum d0 1048576 (0, false)).2)).2)).1).length) (c17_0)]) 102 rfl rfl (.inl tk43) rfl rfl rfl rfl rfl ?_
      refine VO.as ?_
      refine VO.keep [119, 118, 116, 102, 0] [(119, mone g3 (.cells [Value.slice A0 (d0.length) (c0), Value.int .i64 (((nextRef d0 ((rNum d0 1048576 ((rNum d0 1048576 (0, false)).2)).2)).2.1)), Value.bool ((nextRef d0 ((rNum d0 1048576 ((rNum d0 1048576 (0, false)).2)).2)).2.2)].toArray 79 (0, 0))), (118, p17_0), (116, mone g15 (.cells [Value.int .i64 ((rNum d0 1048576 (0, false)).1), Value.int .i64 ((rNum d0 1048576 ((rNum d0 1048576 (0, false)).2)).1), Value.slice A17_0 (((nextRef d0 ((rNum d0 1048576 ((rNum d0 1048576 (0, false)).2)).2)).1).length) (c17_0)].toArray 43 (0, 0))), (102, mone g1 (.cells [Value.int .i64 ((rNum d0 1048576 (0, false)).1), Value.int .i64 ((rNum d0 1048576 ((rNum d0 1048576 (0, false)).2)).1), Value.slice A17_0 (((nextRef d0 ((rNum d0 1048576 ((rNum d0 1048576 (0, false)).2)).2)).1).length) (c17_0)].toArray 43 (0, 0))), (0, wm W)] (by kernel_rfl) ?_
      refine VO.k6 0 2 3 4 5 24 ?_
      refine VC.ret ?_
      refine ⟨_, _, res_run (rs := [.cell 2 43, .tmp 3]) rfl (.agg 102 rfl tk43 rfl ⟨_, _, _, mone_self _ _, Nat.le_of_ble_eq_true rfl, rfl⟩ (.tmp rfl .nil)), fun W_ hI => out_of (l := [p17_0]) hI [118] rfl rfl (mle_refl _) (fun hS_ => ?_)⟩
      dsimp only [packV]
      have he0 : ((cDecode d0).1 : Ty.Den TCommit) = ((rNum d0 1048576 (0, false)).1, (rNum d0 1048576 ((rNum d0 1048576 (0, false)).2)).1, (nextRef d0 ((rNum d0 1048576 ((rNum d0 1048576 (0, false)).2)).2)).1) := by first | rfl | (first | (rw [rDecode_no1 (by assumption)] <;> rfl) | (rw [rDecode_no2 (by assumption)] <;> rfl) | (rw [rDecode_yes (by assumption) (by assumption)] <;> rfl))
      refine ⟨[Value.int .i64 ((rNum d0 1048576 (0, false)).1), Value.int .i64 ((rNum d0 1048576 ((rNum d0 1048576 (0, false)).2)).1), Value.slice A17_0 (((nextRef d0 ((rNum d0 1048576 ((rNum d0 1048576 (0, false)).2)).2)).1).length) (c17_0)], ?_, ?_⟩
      rotate_left
      · rw [he0]; exact (mkO_Commit ((rNum d0 1048576 (0, false)).1) ((rNum d0 1048576 ((rNum d0 1048576 (0, false)).2)).1) ((nextRef d0 ((rNum d0 1048576 ((rNum d0 1048576 (0, false)).2)).2)).1) hS_ bdk bdk (OwnL.ow (Ow.ownl f17_0 rfl mnil) rfl))
      all_goals (first | rfl | (first | (rw [rDecode_no1 (by assumption)] <;> rfl) | (rw [rDecode_no2 (by assumption)] <;> rfl) | (rw [rDecode_yes (by assumption) (by assumption)] <;> rfl)))
end
section
set_option linter.unusedVariables false
abbrev THC : Ty := .pair (.int .i64) (.pair (.int .i64) .hdr)
abbrev DHC := Int × Int × Hd
instance decHC : DecidableEq DHC := (@instDecidableEqProd _ _ inferInstance (@instDecidableEqProd _ _ inferInstance inferInstance))
theorem open_HC {m : Mem} {cs : List Value} {x0 : Int} {x1 : Int} {x2 : Hd} (h : Rd THC m cs (x0, x1, x2)) : cs = [(.int .i64 x0 : Value), .int .i64 x1, .slice x2.1 x2.2.1 x2.2.2] ∧ inK .i64 x0 ∧ inK .i64 x1 := by
  obtain ⟨p1, q1, rfl, u1, w1⟩ := Rd.pair h
  obtain ⟨rfl, z2⟩ := (show _ = _ ∧ _ from u1)
  obtain ⟨p3, q3, rfl, u3, w3⟩ := Rd.pair w1
  obtain ⟨rfl, z4⟩ := (show _ = _ ∧ _ from u3)
  obtain rfl := (show _ = _ from w3)
  exact ⟨rfl, z2, z4⟩
theorem mk_HC {m : Mem} (x0 : Int) (x1 : Int) (x2 : Hd) (h0 : inK .i64 x0) (h1 : inK .i64 x1) : Rd THC m [.int .i64 x0, .int .i64 x1, .slice x2.1 x2.2.1 x2.2.2] (x0, x1, x2) := (Rd.mkPair (c1 := [_]) (show Rd (.int .i64) m [_] _ from ⟨rfl, h0⟩) (Rd.mkPair (c1 := [_]) (show Rd (.int .i64) m [_] _ from ⟨rfl, h1⟩) (show Rd .hdr m [_] _ from rfl)))
end
section
set_option linter.unusedVariables false
set_option linter.unusedSimpArgs false
set_option maxRecDepth 4000
theorem fin0_c4Follows_ok {P : Prop} (h : P := by first | omega | (simp only [List.length_append, List.length_nil, List.length_cons, List.length_take, List.length_drop] at *; omega) | (have := cCheck_ok (by first | assumption | exact Decidable.not_not.1 (by assumption) : cCheck _ = 0); omega)) : P := h
theorem c4Follows_ok (W : World) (d0 : Int) (h0 : inK .i64 d0) (d1 : Int) (h1 : inK .i64 d1) {v2 : Value} {d2 : List DCommit} (h2 : Rd (.sl TCommit) (wm W) [v2] d2) : CallR Try.prog 73 [.int .i64 d0, .int .i64 d1, v2] W (mnil) (fun v m' => ∃ (s0 : List Value), v = .agg s0.toArray ∧ Ow TFault m' s0 (cFollows d0 d1 d2)) := by
  have h0' := h0; simp only [inK] at h0'
  have h1' := h1; simp only [inK] at h1'
  obtain ⟨A2, c2, rfl, l2, k2⟩ := h2.slice
  simp only [maxLen] at k2
  refine CallR.ofA (n := 55) Try.func73 rfl rfl rfl ?_
  refine VC.rs ?_
  refine VO.alloc 102 rfl tz92 (fun g1 => ?_)
  refine VO.k4 0 1 2 6 ?_
  refine VC.seq ?_
  refine VC.rs ?_
  refine VO.as ?_
  refine VO.k5 0 1 2 6 7 ?_
  refine VC.block ?_
  refine VC.loop (G := Nat × Int × Int) (fun g => [(0, Value.int .i64 ((g.2.1))), (1, Value.int .i64 ((g.2.2))), (7, Value.int .i64 ((((g.1) : Nat) : Int))), (2, Value.slice A2 (d2.length) (c2)), (6, Value.pointer (some ⟨g1, 0, none⟩))]) (fun g => [(102, mone g1 (.cells [Value.int .i64 (0), Value.int .i64 (0)].toArray 92 (0, 0))), (0, wm W)]) (fun g => ((g.1) ≤ d2.length) ∧ (cFollows d0 d1 d2 = cFollowsAt (g.2.1) (g.2.2) (g.1) (d2.drop (g.1)))) (fun g => d2.length - (g.1)) (0, d0, d1) (⟨by omega, by rfl⟩) ⟨⟨rfl, rfl, rfl, rfl, rfl, trivial⟩, fun _ h => h.sub [102, 0]⟩ ?_
  rintro ⟨k, e, nn⟩ ⟨hk, hf⟩
  replace hk : k ≤ d2.length := hk
  replace hf : cFollows d0 d1 d2 = cFollowsAt e nn k (d2.drop k) := hf
  show VC _ _ _ _ _ [(0, Value.int .i64 (e)), (1, Value.int .i64 (nn)), (7, Value.int .i64 (((k : Nat) : Int))), (2, Value.slice A2 (d2.length) (c2)), (6, Value.pointer (some ⟨g1, 0, none⟩))] [(102, mone g1 (.cells [Value.int .i64 (0), Value.int .i64 (0)].toArray 92 (0, 0))), (0, wm W)]
  refine VC.seq ?_
  refine VC.rs ?_
  refine VO.mv ?_
  refine VO.mv ?_
  refine VO.y rfl (.lenS rfl tsl24) ?_
  refine VO.y rfl (.lss rfl rfl) ?_
  refine VO.keep [102, 0] [(102, mone g1 (.cells [Value.int .i64 (0), Value.int .i64 (0)].toArray 92 (0, 0))), (0, wm W)] (by kernel_rfl) ?_
  refine VO.k6 0 1 2 6 7 12 ?_
  refine VC.cond rfl (fun hc3 => ?_) (fun hc3 => ?_)
  · -- T
    refine VC.skip ?_
    refine outN ?_
    refine VC.seq ?_
    refine VC.block ?_
    refine VC.rs ?_
    refine VO.mv ?_
    refine VO.mv ?_
    obtain ⟨x4, hx4⟩ : ∃ z_, (d2)[k]? = some z_ := ⟨_, List.getElem?_eq_getElem (by exact fin0_c4Follows_ok)⟩
    obtain ⟨gg4, oo4, ec4, ea4, hce4, hre4⟩ := h2.elem hx4
    cases ea4
    obtain ⟨q4_A2, q4_c2, rfl, q4_0, q4_1, q4_2⟩ := open_Commit (x0 := x4.1) (x1 := x4.2.1) (x2 := x4.2.2) hre4
    simp only [inK] at q4_0
    simp only [inK] at q4_1
    have q4_r2 := Rd.room q4_2
    refine VO.y rfl (.ixI k rfl rfl tsl24 rfl (by exact fin0_c4Follows_ok)) ?_
    refine VO.y rfl (.ldA 0 rfl tk43 rfl hce4) ?_
    refine VO.callN 105 rfl fnOk66 rfl (fun W hW => c4Check_ok W (Rd.mono hre4 (hW.at (i := 0) rfl))) (fun v5 m5 hv5 => ?_)
    subst hv5
    have hfa6 := cCheck_range x4
    refine VO.as ?_
    refine VO.k7 0 1 2 6 7 8 12 ?_
    refine VC.seq ?_
    refine VC.rs ?_
    refine VO.mv ?_
    refine VO.y rfl (.neq rfl rfl) ?_
    refine VO.k8 0 1 2 6 7 8 12 21 ?_
    refine VC.cond rfl (fun hc7 => ?_) (fun hc7 => ?_)
    · -- TT
      refine VC.rs ?_
      refine VO.mv ?_
      refine VO.mv ?_
      refine VO.y rfl (.bst (cs := [Value.int .i64 (cCheck x4), Value.int .i64 (((k : Nat) : Int))]) rfl tst92 tz92 rfl) ?_
      refine VO.store (k := 2) (c' := [Value.int .i64 (cCheck x4), Value.int .i64 (((k : Nat) : Int))]) 102 rfl rfl (.inl tk92) rfl rfl rfl rfl rfl ?_
      refine VO.keep [102, 0] [(102, mone g1 (.cells [Value.int .i64 (cCheck x4), Value.int .i64 (((k : Nat) : Int))].toArray 92 (0, 0))), (0, wm W)] (by kernel_rfl) ?_
      refine VO.k8 0 1 2 6 7 8 12 21 ?_
      refine VC.ret ?_
      refine outR ?_
      refine outBR ?_
      refine outR ?_
      refine outR ?_
      refine outBR ?_
      refine outR ?_
      refine ⟨_, _, res_run (rs := [.cell 6 92]) rfl (.agg 102 rfl tk92 rfl ⟨_, _, _, mone_self _ _, Nat.le_of_ble_eq_true rfl, rfl⟩ .nil), fun W_ hI => out_of (l := []) hI [] rfl rfl (mle_refl _) (fun hS_ => ?_)⟩
      dsimp only [packV]
      have he0 : (cFollows d0 d1 d2 : Ty.Den TFault) = (cCheck x4, ((k : Nat) : Int)) := by first | rfl | (first | (rw [hf, List.drop_of_length_le (by omega)]; rfl) | (rw [hf, follows_bad ‹d2[k]? = some _› (by first | assumption | omega)]) | (rw [hf, follows_order ‹d2[k]? = some _› (by first | assumption | omega) (by omega)]) | (exfalso; omega))
      refine ⟨[Value.int .i64 (cCheck x4), Value.int .i64 (((k : Nat) : Int))], ?_, ?_⟩
      rotate_left
      · rw [he0]; exact (Ow.of (m := mnil) rfl (mk_Fault (m := _) (cCheck x4) ((k : Nat) : Int) (by simp only [inK]; (exact fin0_c4Follows_ok)) (by simp only [inK]; (exact fin0_c4Follows_ok))))
      all_goals (first | rfl | (rfl))
    · -- TF
      refine VC.skip ?_
      refine outN ?_
      refine VC.seq ?_
      refine VC.rs ?_
      refine VO.mv ?_
      refine VO.mv ?_
      refine VO.y rfl (.ixI k rfl rfl tsl24 rfl (by exact fin0_c4Follows_ok)) ?_
      refine VO.y rfl (.fa rfl tst43 rfl) ?_
      refine VO.y rfl (.ld1 0 rfl tk3 rfl (hce4.at1 (j := 1) rfl)) ?_
      refine VO.y rfl (.sub rfl rfl rfl ⟨by exact fin0_c4Follows_ok, by exact fin0_c4Follows_ok⟩) ?_
      refine VO.mv ?_
      refine VO.y rfl (.neq rfl rfl) ?_
      refine VO.mv ?_
      refine VO.dec (t := 33) rfl (fun hc9 => ?_) (fun hc9 => ?_)
      · -- TFT
        refine VO.gN ?_
        refine VO.gN ?_
        refine VO.gN ?_
        refine VO.gN ?_
        refine VO.gN ?_
        refine VO.gN ?_
        refine VO.gN ?_
        refine VO.y rfl (.pT rfl rfl) ?_
        refine VO.keep [102, 0] [(102, mone g1 (.cells [Value.int .i64 (0), Value.int .i64 (0)].toArray 92 (0, 0))), (0, wm W)] (by kernel_rfl) ?_
        refine VO.k9 0 1 2 6 7 8 12 21 41 ?_
        refine VC.condT rfl ?_
        refine VC.rs ?_
        refine VO.mv ?_
        refine VO.y rfl (.bst (cs := [Value.int .i64 (15), Value.int .i64 (((k : Nat) : Int))]) rfl tst92 tz92 rfl) ?_
        refine VO.store (k := 2) (c' := [Value.int .i64 (15), Value.int .i64 (((k : Nat) : Int))]) 102 rfl rfl (.inl tk92) rfl rfl rfl rfl rfl ?_
        refine VO.k9 0 1 2 6 7 8 12 21 41 ?_
        refine VC.ret ?_
        refine outR ?_
        refine outBR ?_
        refine outR ?_
        refine outR ?_
        refine outBR ?_
        refine outR ?_
        refine ⟨_, _, res_run (rs := [.cell 6 92]) rfl (.agg 102 rfl tk92 rfl ⟨_, _, _, mone_self _ _, Nat.le_of_ble_eq_true rfl, rfl⟩ .nil), fun W_ hI => out_of (l := []) hI [] rfl rfl (mle_refl _) (fun hS_ => ?_)⟩
        dsimp only [packV]
        have he0 : (cFollows d0 d1 d2 : Ty.Den TFault) = (15, ((k : Nat) : Int)) := by first | rfl | (first | (rw [hf, List.drop_of_length_le (by omega)]; rfl) | (rw [hf, follows_bad ‹d2[k]? = some _› (by first | assumption | omega)]) | (rw [hf, follows_order ‹d2[k]? = some _› (by first | assumption | omega) (by omega)]) | (exfalso; omega))
        refine ⟨[Value.int .i64 (15), Value.int .i64 (((k : Nat) : Int))], ?_, ?_⟩
        rotate_left
        · rw [he0]; exact (Ow.of (m := mnil) rfl (mk_Fault (m := _) 15 ((k : Nat) : Int) (by simp only [inK]; (exact fin0_c4Follows_ok)) (by simp only [inK]; (exact fin0_c4Follows_ok))))
        all_goals (first | rfl | (rfl))
      · -- TFF
        refine VO.gy rfl ⟨_, rfl, rfl⟩ (.mv rfl) ?_
        refine VO.gy rfl ⟨_, rfl, rfl⟩ (.mv rfl) ?_
        refine VO.gy rfl ⟨_, rfl, rfl⟩ (.ixI k rfl rfl tsl24 rfl (by exact fin0_c4Follows_ok)) ?_
        refine VO.gy rfl ⟨_, rfl, rfl⟩ (.fa rfl tst43 rfl) ?_
        refine VO.gy rfl ⟨_, rfl, rfl⟩ (.ld1 0 rfl tk3 rfl (hce4.at1 (j := 0) rfl)) ?_
        refine VO.gy rfl ⟨_, rfl, rfl⟩ (.mv rfl) ?_
        refine VO.gy rfl ⟨_, rfl, rfl⟩ (.lss rfl rfl) ?_
        refine VO.y rfl (.pF rfl rfl) ?_
        refine VO.keep [102, 0] [(102, mone g1 (.cells [Value.int .i64 (0), Value.int .i64 (0)].toArray 92 (0, 0))), (0, wm W)] (by kernel_rfl) ?_
        refine VO.k9 0 1 2 6 7 8 12 21 41 ?_
        refine VC.cond rfl (fun hc11 => ?_) (fun hc11 => ?_)
        · -- TFFT
          refine VC.rs ?_
          refine VO.mv ?_
          refine VO.y rfl (.bst (cs := [Value.int .i64 (15), Value.int .i64 (((k : Nat) : Int))]) rfl tst92 tz92 rfl) ?_
          refine VO.store (k := 2) (c' := [Value.int .i64 (15), Value.int .i64 (((k : Nat) : Int))]) 102 rfl rfl (.inl tk92) rfl rfl rfl rfl rfl ?_
          refine VO.k9 0 1 2 6 7 8 12 21 41 ?_
          refine VC.ret ?_
          refine outR ?_
          refine outBR ?_
          refine outR ?_
          refine outR ?_
          refine outBR ?_
          refine outR ?_
          refine ⟨_, _, res_run (rs := [.cell 6 92]) rfl (.agg 102 rfl tk92 rfl ⟨_, _, _, mone_self _ _, Nat.le_of_ble_eq_true rfl, rfl⟩ .nil), fun W_ hI => out_of (l := []) hI [] rfl rfl (mle_refl _) (fun hS_ => ?_)⟩
          dsimp only [packV]
          have he0 : (cFollows d0 d1 d2 : Ty.Den TFault) = (15, ((k : Nat) : Int)) := by first | rfl | (first | (rw [hf, List.drop_of_length_le (by omega)]; rfl) | (rw [hf, follows_bad ‹d2[k]? = some _› (by first | assumption | omega)]) | (rw [hf, follows_order ‹d2[k]? = some _› (by first | assumption | omega) (by omega)]) | (exfalso; omega))
          refine ⟨[Value.int .i64 (15), Value.int .i64 (((k : Nat) : Int))], ?_, ?_⟩
          rotate_left
          · rw [he0]; exact (Ow.of (m := mnil) rfl (mk_Fault (m := _) 15 ((k : Nat) : Int) (by simp only [inK]; (exact fin0_c4Follows_ok)) (by simp only [inK]; (exact fin0_c4Follows_ok))))
          all_goals (first | rfl | (rfl))
        · -- TFFF
          refine VC.skip ?_
          refine outN ?_
          refine VC.regD _ 11 [(0, true), (1, true), (2, true), (3, true), (4, true), (5, true), (6, true), (7, true), (8, true), (9, true), (10, true)] follows (by kernel_rfl) (fun _ h => h.sub [102, 0]) ?_
          refine VD.y rfl rfl (.inl rfl) (.mv rfl) ?_
          refine VD.y rfl rfl (.inl rfl) (.mv rfl) ?_
          refine VD.y rfl rfl (.inl rfl) (.ixI k rfl rfl tsl24 rfl (by exact fin0_c4Follows_ok)) ?_
          refine VD.y rfl rfl (.inl rfl) (.fa rfl tst43 rfl) ?_
          refine VD.y rfl rfl (.inl rfl) (.ld1 0 rfl tk3 rfl (hce4.at1 (j := 0) rfl)) ?_
          refine VD.y rfl rfl (.inl rfl) (.mv rfl) ?_
          refine VD.y rfl rfl (.inl rfl) (.mv rfl) ?_
          refine VD.y rfl rfl (.inl rfl) (.ixI k rfl rfl tsl24 rfl (by exact fin0_c4Follows_ok)) ?_
          refine VD.y rfl rfl (.inl rfl) (.fa rfl tst43 rfl) ?_
          refine VD.y rfl rfl (.inl rfl) (.ld1 0 rfl tk3 rfl (hce4.at1 (j := 1) rfl)) ?_
          refine VD.y rfl rfl (.inl rfl) (.as rfl) ?_
          refine VD.nil rfl ?_ rfl
          refine VO.as ?_
          refine VO.k9 0 1 2 6 7 8 12 21 41 ?_
          refine outBN ?_
          refine outN ?_
          refine VC.reg ?_
          refine VO.mv ?_
          refine VO.y rfl (.add (c := ((k + 1 : Nat) : Int)) rfl rfl (by omega) ⟨by exact fin0_c4Follows_ok, by exact fin0_c4Follows_ok⟩) ?_
          refine VO.as ?_
          refine VO.k9 0 1 2 6 7 8 12 21 41 ?_
          exact outN ⟨⟨k + 1, x4.1, x4.2.1⟩, ⟨by omega, by first | (exfalso; omega) | (rw [hf, follows_step ‹d2[k]? = some _› (by first | assumption | omega) (by omega) (by omega)]; rfl)⟩, by exact fin0_c4Follows_ok, ⟨⟨rfl, rfl, rfl, rfl, rfl, trivial⟩, fun _ h => Inv.sub h [102, 0]⟩⟩
  · -- F
    refine VC.exit ?_
    refine outE ?_
    refine outE ?_
    refine outBB ?_
    refine outN ?_
    refine VC.rs ?_
    refine VO.y rfl (.bst (cs := [Value.int .i64 (0), Value.int .i64 (0)]) rfl tst92 tz92 rfl) ?_
    refine VO.store (k := 2) (c' := [Value.int .i64 (0), Value.int .i64 (0)]) 102 rfl rfl (.inl tk92) rfl rfl rfl rfl rfl ?_
    refine VO.k6 0 1 2 6 7 12 ?_
    refine VC.ret ?_
    refine ⟨_, _, res_run (rs := [.cell 6 92]) rfl (.agg 102 rfl tk92 rfl ⟨_, _, _, mone_self _ _, Nat.le_of_ble_eq_true rfl, rfl⟩ .nil), fun W_ hI => out_of (l := []) hI [] rfl rfl (mle_refl _) (fun hS_ => ?_)⟩
    dsimp only [packV]
    have he0 : (cFollows d0 d1 d2 : Ty.Den TFault) = (0, 0) := by first | rfl | (first | (rw [hf, List.drop_of_length_le (by omega)]; rfl) | (rw [hf, follows_bad ‹d2[k]? = some _› (by first | assumption | omega)]) | (rw [hf, follows_order ‹d2[k]? = some _› (by first | assumption | omega) (by omega)]) | (exfalso; omega))
    refine ⟨[Value.int .i64 (0), Value.int .i64 (0)], ?_, ?_⟩
    rotate_left
    · rw [he0]; exact (Ow.of (m := mnil) rfl (mk_Fault (m := _) 0 0 (by simp only [inK]; (exact fin0_c4Follows_ok)) (by simp only [inK]; (exact fin0_c4Follows_ok))))
    all_goals (first | rfl | (rfl))
end
section
set_option linter.unusedVariables false
def overH (h : DH) : DH := (-h.1 - 1, h.2.1, h.2.2)
def hdO (h : DH) : Hd := h.2.2
variable {mo : Mem} {hss l : List (List DH)} {d was : List (List DCommit)} {p k : Nat} {x : List DH} {y : List DCommit} {a : DH} {b : DCommit}
theorem hdr_row (hF : F2 (F2 (Pc TOp mo)) hss d) (hl : l = hss.map (List.map overH)) (hw : was = d) (hx : l[p]? = some x) (hy : was[p]? = some y) : ∃ h, x = h.map overH ∧ F2 (Pc TOp mo) h y := by
  rw [hl, List.getElem?_map] at hx
  obtain ⟨h, hh, rfl⟩ := Option.map_eq_some_iff.1 hx
  obtain ⟨y', hy', hp⟩ := hF.get hh
  rw [hw, hy'] at hy
  obtain rfl := Option.some.inj hy
  exact ⟨h, rfl, hp⟩
theorem hdr_len (hF : F2 (F2 (Pc TOp mo)) hss d) (hl : l = hss.map (List.map overH)) (hw : was = d) (hx : l[p]? = some x) (hy : was[p]? = some y) : x.length = y.length := by
  obtain ⟨h, rfl, hp⟩ := hdr_row hF hl hw hx hy
  rw [List.length_map, hp.len]
theorem hdr_at (hF : F2 (F2 (Pc TOp mo)) hss d) (hl : l = hss.map (List.map overH)) (hw : was = d) (hx : l[p]? = some x) (hy : was[p]? = some y) (ha : x[k]? = some a) (hb : y[k]? = some b) : a.1 = -b.1 - 1 := by
  obtain ⟨h, rfl, hp⟩ := hdr_row hF hl hw hx hy
  rw [List.getElem?_map] at ha
  obtain ⟨h0, hh, rfl⟩ := Option.map_eq_some_iff.1 ha
  obtain ⟨b', hb', hq⟩ := hp.get hh
  rw [hb'] at hb
  obtain rfl := Option.some.inj hb
  show -h0.1 - 1 = _
  rw [hq.1]
theorem flat_next {α β : Type} {f : α → β} {o : List β} {hs : List (List α)} {i : Nat} {r : List α} (h : o = (hs.take i).flatten.map f) (hr : hs[i]? = some r) : o ++ r.map f = (hs.take (i + 1)).flatten.map f := by
  rw [take_one hr, List.flatten_append, List.map_append, h]; simp
theorem flat_room {α β : Type} {f : α → β} {o : List β} {hs : List (List α)} {i : Nat} {r : List α} (h : o = (hs.take i).flatten.map f) (hr : hs[i]? = some r) : o.length + r.length ≤ hs.flatten.length := by
  have h1 := congrArg List.length (flat_next h hr)
  have h3 := congrArg (fun l => l.flatten.length) (List.take_append_drop (i + 1) hs)
  simp only [List.flatten_append, List.length_append] at h3
  simp only [List.length_append, List.length_map] at h1
  omega
theorem flat_len {α β : Type} {R : α → β → Prop} {hs : List (List α)} {d : List (List β)} (h : F2 (F2 R) hs d) : hs.flatten.length = d.flatten.length := by
  induction h with
  | nil => rfl
  | cons h _ ih => simp only [List.flatten_cons, List.length_append, h.len, ih]
theorem ops_room {n j : Nat} {d : List (List DCommit)} (h : ∀ x ∈ d, ∀ c ∈ x, c.2.2.length ≤ n ∧ ∀ o ∈ c.2.2, o.2.1.length ≤ j) : ∀ x ∈ d.flatten.map (fun x => x.2.2), x.length ≤ n ∧ ∀ o ∈ x, o.2.1.length ≤ j := fun x hx => by
  obtain ⟨c, hc, rfl⟩ := List.mem_map.1 hx
  obtain ⟨r, hr, hcr⟩ := List.mem_flatten.1 hc
  exact h r hr c hcr
end
section
set_option linter.unusedVariables false
set_option linter.unusedSimpArgs false
set_option maxRecDepth 4000
theorem fnOk57 : fnOk Try.prog 57 = true := by kernel_rfl
theorem fnOk58 : fnOk Try.prog 58 = true := by kernel_rfl
theorem fnOk59 : fnOk Try.prog 59 = true := by kernel_rfl
theorem fnOk60 : fnOk Try.prog 60 = true := by kernel_rfl
theorem tsl49 : tsl Try.prog 49 = some (24, 1, 24) := by kernel_rfl
theorem tz24 : tz Try.prog 24 = some [.slice none 0 0] := by kernel_rfl
theorem OpsOf_ok (W : World) {v0 : Value} {d0 : List DHC} (h0 : Rd (.sl THC) (wm W) [v0] d0) (e0 : d0.length ≤ 3518437200000) : CallR Try.prog 58 [v0] W (mnil) (fun v m' => ∃ (s0 : Value), v = s0 ∧ Ow (.sl .hdr) m' [s0] (d0.map hdO)) := by
  obtain ⟨A0, c0, rfl, l0, k0⟩ := h0.slice
  simp only [maxLen] at k0
  refine CallR.ofA (n := 20) Try.func58 rfl rfl rfl ?_
  refine VC.rs ?_
  refine VO.as ?_
  refine VO.k2 0 2 ?_
  refine VC.rs ?_
  refine VO.as ?_
  refine VO.k3 0 2 3 ?_
  refine VC.seq ?_
  refine VC.rs ?_
  refine VO.as ?_
  refine VO.keep [0] [(0, wm W)] (by kernel_rfl) ?_
  refine VO.k4 0 2 3 4 ?_
  refine VC.block ?_
  refine VC.inv ((101, mnil) :: _) (fun _ h => h.nilc 101) ?_
  refine VC.loop (G := Nat × (List Hd) × (Option Addr) × Nat × Mem) (fun g => [(3, Value.slice (g.2.2.1) ((g.2.1).length) ((g.2.2.2.1))), (4, Value.int .i64 ((((g.1) : Nat) : Int))), (0, Value.slice A0 (d0.length) (c0)), (2, Value.slice none (0) (0))]) (fun g => [(101, (g.2.2.2.2)), (0, wm W)]) (fun g => ((g.1) ≤ d0.length) ∧ ((g.2.1) = (d0.take (g.1)).map hdO) ∧ (OwnL .hdr (g.2.2.2.2) mnil (.slice (g.2.2.1) (g.2.1).length (g.2.2.2.1)) (g.2.1))) (fun g => d0.length - (g.1)) (0, [], none, 0, mnil) (⟨by omega, by rfl, (OwnL.nil .hdr mnil mnil)⟩) ⟨⟨rfl, rfl, rfl, rfl, trivial⟩, fun _ h => h.sub [101, 0]⟩ ?_
  rintro ⟨k, out, out_A, out_c, out_m⟩ ⟨hk, ho, h_out⟩
  replace hk : k ≤ d0.length := hk
  replace ho : out = (d0.take k).map hdO := ho
  replace h_out : OwnL .hdr out_m mnil (.slice out_A out.length out_c) out := h_out
  show VC _ _ _ _ _ [(3, Value.slice out_A (out.length) (out_c)), (4, Value.int .i64 (((k : Nat) : Int))), (0, Value.slice A0 (d0.length) (c0)), (2, Value.slice none (0) (0))] [(101, out_m), (0, wm W)]
  have l_out : out.length ≤ out_c := by obtain ⟨_, _, he, hl, _⟩ := h_out.slice; simp only [Value.slice.injEq] at he; omega
  have k_out : out_c ≤ 9223372036854775807 := by obtain ⟨_, _, he, _, hl⟩ := h_out.slice; simp only [Value.slice.injEq, maxLen] at he hl; omega
  have hlo : out.length ≤ k := by rw [ho]; simp; omega
  refine VC.seq ?_
  refine VC.rs ?_
  refine VO.mv ?_
  refine VO.mv ?_
  refine VO.y rfl (.lenS rfl tsl24) ?_
  refine VO.y rfl (.lss rfl rfl) ?_
  refine VO.k5 0 2 3 4 8 ?_
  refine VC.cond rfl (fun hc2 => ?_) (fun hc2 => ?_)
  · -- T
    refine VC.skip ?_
    refine outN ?_
    refine VC.seq ?_
    refine VC.block ?_
    refine VC.reg ?_
    refine VO.mv ?_
    refine VO.mv ?_
    refine VO.mv ?_
    obtain ⟨x3, hx3⟩ : ∃ z_, (d0)[k]? = some z_ := ⟨_, List.getElem?_eq_getElem bd⟩
    obtain ⟨gg3, oo3, ec3, ea3, hce3, hre3⟩ := h0.elem hx3
    cases ea3
    obtain ⟨rfl, q3_0, q3_1⟩ := open_HC (x0 := x3.1) (x1 := x3.2.1) (x2 := x3.2.2) hre3
    simp only [inK] at q3_0
    simp only [inK] at q3_1
    refine VO.y rfl (.ixI k rfl rfl tsl24 rfl bd) ?_
    refine VO.y rfl (.fa rfl tst43 rfl) ?_
    refine VO.y rfl (.ld1 0 rfl tk41 rfl (hce3.at1 (j := 2) rfl)) ?_
    refine VO.bsl (cs := [Value.slice x3.2.2.1 (x3.2.2.2.1) (x3.2.2.2.2)]) 105 rfl rfl tsl81 tz41 rfl rfl (fun g4 => ?_)
    obtain ⟨mo6, cs6, hM6, hA6, hC6⟩ := h_out
    refine VO.app 101 rfl rfl rfl tsl81 tz41 rfl rfl hM6 hA6 (.row 105 _ _ _ 1 1 _ _ Try.underlying81 rfl (cellsAt_one rfl rfl)) (by simp [Value.oneCell']) bdm bd (by decide) (fun v6 m6 hN6 => ?_)
    have ho6 : OwnL .hdr m6 mnil v6 (out ++ [x3.2.2]) := OwnL.one hC6 hN6 (show Rd .hdr _ [_] _ from rfl)
    obtain ⟨A6, c6, rfl, l6, k6⟩ := ho6.slice
    simp only [maxLen] at k6
    refine VO.as ?_
    refine VO.k5 0 2 3 4 8 ?_
    refine outBN ?_
    refine outN ?_
    refine VC.reg ?_
    refine VO.mv ?_
    refine VO.y rfl (.add (c := ((k + 1 : Nat) : Int)) rfl rfl (by omega) ⟨bd, bd⟩) ?_
    refine VO.as ?_
    refine VO.keep [101, 0] [(101, m6), (0, wm W)] (by kernel_rfl) ?_
    refine VO.k5 0 2 3 4 8 ?_
    exact outN ⟨⟨k + 1, out ++ [x3.2.2], A6, c6, m6⟩, ⟨by omega, by (rw [ho, take_one ‹d0[k]? = some _›, List.map_append]; rfl), ho6⟩, bd, ⟨⟨rfl, rfl, rfl, rfl, trivial⟩, fun _ h => Inv.sub h [101, 0]⟩⟩
  · -- F
    refine VC.exit ?_
    refine outE ?_
    refine outE ?_
    refine outBB ?_
    refine outN ?_
    refine VC.rs ?_
    refine VO.mv ?_
    refine VO.as ?_
    refine VO.k5 0 2 3 4 8 ?_
    refine VC.ret ?_
    refine ⟨_, _, res_run (rs := [.tmp 2]) rfl (.tmp rfl .nil), fun W_ hI => out_of (l := [out_m]) hI [101] rfl rfl (mle_refl _) (fun hS_ => ?_)⟩
    dsimp only [packV]
    have he0 : (d0.map hdO : Ty.Den (.sl .hdr)) = out := by first | rfl | (rw [ho, List.take_of_length_le (by omega)])
    refine ⟨Value.slice out_A (out.length) (out_c), ?_, ?_⟩
    rotate_left
    · rw [he0]; exact (Ow.up (OwnL.ow h_out rfl) (hS_.1 _ (.head _)))
    all_goals (first | rfl | (simp [*]; done))
theorem overCommits_ok (W : World) {m0 : Mem} (hm : mle (m0) (wm W)) {v0 : Value} {d0 : List DHC} (h0 : Ow (.sl THC) m0 [v0] d0) : CallR Try.prog 59 [v0] W (m0) (fun v m' => v = .tuple #[] ∧ Ow (.sl THC) m' [v0] (d0.map overH)) := by
  obtain ⟨A0, c0, e0_, l0, k0⟩ := h0.slice
  subst e0_
  simp only [maxLen] at k0
  refine CallR.ofB (n := 30) hm Try.func59 rfl rfl rfl ?_
  refine VC.rs ?_
  refine VO.mv ?_
  refine VO.y rfl (.capS rfl tsl24) ?_
  refine VO.as ?_
  refine VO.k2 0 2 ?_
  refine VC.seq ?_
  refine VC.rs ?_
  refine VO.as ?_
  refine VO.k3 0 2 3 ?_
  refine VC.block ?_
  refine VC.loop (G := Nat × (List DHC) × Mem) (fun g => [(0, Value.slice A0 (d0.length) (c0)), (3, Value.int .i64 ((((g.1) : Nat) : Int))), (0, Value.slice A0 (d0.length) (c0)), (2, Value.int .i64 (((c0 : Nat) : Int)))]) (fun g => [(0, mout (wm W) (m0)), (1, (g.2.2))]) (fun g => ((g.1) ≤ d0.length) ∧ ((g.2.1) = (d0.take (g.1)).map overH ++ d0.drop (g.1)) ∧ (OwnL THC (g.2.2) mnil (.slice A0 (d0.length) (c0)) (g.2.1))) (fun g => d0.length - (g.1)) (0, d0, m0) (⟨by omega, by simp, (Ow.ownl h0 rfl mnil)⟩) ⟨⟨rfl, rfl, rfl, rfl, trivial⟩, fun _ h => h.sub [0, 1]⟩ ?_
  rintro ⟨k, l, l_m⟩ ⟨hk, hl, h_l⟩
  replace hk : k ≤ d0.length := hk
  replace hl : l = (d0.take k).map overH ++ d0.drop k := hl
  replace h_l : OwnL THC l_m mnil (.slice A0 (d0.length) (c0)) l := h_l
  show VC _ _ _ _ _ [(0, Value.slice A0 (d0.length) (c0)), (3, Value.int .i64 (((k : Nat) : Int))), (0, Value.slice A0 (d0.length) (c0)), (2, Value.int .i64 (((c0 : Nat) : Int)))] [(0, mout (wm W) (m0)), (1, l_m)]
  have ll_l := slice_len (OwnL.ow h_l rfl)
  refine VC.seq ?_
  refine VC.rs ?_
  refine VO.mv ?_
  refine VO.mv ?_
  refine VO.y rfl (.lenS rfl tsl24) ?_
  refine VO.y rfl (.lss rfl rfl) ?_
  refine VO.keep [0, 1] [(0, mout (wm W) (m0)), (1, l_m)] (by kernel_rfl) ?_
  refine VO.k4 0 2 3 9 ?_
  refine VC.cond rfl (fun hc1 => ?_) (fun hc1 => ?_)
  · -- T
    refine VC.skip ?_
    refine outN ?_
    refine VC.seq ?_
    refine VC.block ?_
    refine VC.reg ?_
    refine VO.mv ?_
    refine VO.mv ?_
    refine VO.mv ?_
    refine VO.mv ?_
    obtain ⟨x2, hx2⟩ : ∃ z_, (l)[k]? = some z_ := ⟨_, List.getElem?_eq_getElem bd⟩
    obtain ⟨gg2, oo2, ec2, ea2, hce2, hre2⟩ := h_l.elem hx2
    cases ea2
    obtain ⟨rfl, q2_0, q2_1⟩ := open_HC (x0 := x2.1) (x1 := x2.2.1) (x2 := x2.2.2) hre2
    simp only [inK] at q2_0
    simp only [inK] at q2_1
    refine VO.y rfl (.ixI k rfl rfl tsl24 rfl bd) ?_
    refine VO.y rfl (.fa rfl tst43 rfl) ?_
    refine VO.y rfl (.ld1 1 rfl tk3 rfl (hce2.at1 (j := 0) rfl)) ?_
    refine VO.y rfl (.cpl rfl ⟨bd, bd⟩) ?_
    refine VO.y rfl (.ixI k rfl rfl tsl24 rfl bd) ?_
    refine VO.y rfl (.fa rfl tst43 rfl) ?_
    refine VO.upd (e := THC) (k := 1) (i := k) (x' := (-x2.1 - 1, x2.2)) 1 0 rfl rfl (.inr ⟨tk3, rfl⟩) rfl rfl rfl (OwnL.ow h_l rfl) rfl hx2 rfl (fun mi ec he => by obtain ⟨rfl, z0, z1⟩ := open_HC (x0 := x2.1) (x1 := x2.2.1) (x2 := x2.2.2) (he.rd (mle_refl _)); exact Ow.of (m := mnil) rfl (mk_HC (-x2.1 - 1) x2.2.1 x2.2.2 bdk z1)) (fun mu4 hu4 => ?_)
    have hl4 := slice_len hu4
    refine VO.k4 0 2 3 9 ?_
    refine outBN ?_
    refine outN ?_
    refine VC.reg ?_
    refine VO.mv ?_
    refine VO.y rfl (.add (c := ((k + 1 : Nat) : Int)) rfl rfl (by omega) ⟨bd, bd⟩) ?_
    refine VO.as ?_
    refine VO.k4 0 2 3 9 ?_
    exact outN ⟨⟨k + 1, (l).set k (-x2.1 - 1, x2.2), mu4⟩, ⟨by omega, by exact (over_set (f := overH) hl ‹l[k]? = some _›).2, (Ow.ownl hu4 rfl mnil)⟩, bd, ⟨⟨rfl, rfl, rfl, rfl, trivial⟩, fun _ h => Inv.sub h [0, 1]⟩⟩
  · -- F
    refine VC.exit ?_
    refine outE ?_
    refine outE ?_
    refine outBB ?_
    refine outN ?_
    refine VC.block ?_
    refine VC.loop (G := (List DHC) × Mem × Nat) (fun g => [(0, Value.slice A0 ((g.2.2)) (c0)), (2, Value.int .i64 (((c0 : Nat) : Int))), (3, Value.int .i64 (((k : Nat) : Int))), (9, Value.bool (decide (((k : Nat) : Int) < ((d0.length : Nat) : Int))))]) (fun g => [(0, mout (wm W) (m0)), (1, (g.2.1))]) (fun g => (∃ j, (g.1) = d0.map overH ++ List.replicate j (99, 0, (none, 0, 0))) ∧ ((g.2.2) ≤ c0) ∧ (OwnL THC (g.2.1) mnil (.slice A0 ((g.2.2)) (c0)) (g.1))) (fun g => c0 - (g.2.2)) (l, l_m, d0.length) (⟨by (exact ⟨0, by rw [hl, List.take_of_length_le (by omega), List.drop_of_length_le (by omega)]; simp⟩), by omega, h_l⟩) ⟨⟨rfl, rfl, rfl, rfl, trivial⟩, fun _ h => h.sub [0, 1]⟩ ?_
    rintro ⟨l2, l2_m, l2_n⟩ ⟨hl2, hc, h_l2⟩
    replace hl2 : ∃ j, l2 = d0.map overH ++ List.replicate j (99, 0, (none, 0, 0)) := hl2
    replace hc : l2_n ≤ c0 := hc
    replace h_l2 : OwnL THC l2_m mnil (.slice A0 (l2_n) (c0)) l2 := h_l2
    show VC _ _ _ _ _ [(0, Value.slice A0 (l2_n) (c0)), (2, Value.int .i64 (((c0 : Nat) : Int))), (3, Value.int .i64 (((k : Nat) : Int))), (9, Value.bool (decide (((k : Nat) : Int) < ((d0.length : Nat) : Int))))] [(0, mout (wm W) (m0)), (1, l2_m)]
    have ll_l2 := slice_len (OwnL.ow h_l2 rfl)
    refine VC.seq ?_
    refine VC.rs ?_
    refine VO.mv ?_
    refine VO.y rfl (.lenS rfl tsl24) ?_
    refine VO.mv ?_
    refine VO.y rfl (.lss rfl rfl) ?_
    refine VO.k5 0 2 3 9 25 ?_
    refine VC.cond rfl (fun hc5 => ?_) (fun hc5 => ?_)
    · -- FT
      refine VC.skip ?_
      refine outN ?_
      refine VC.block ?_
      refine VC.reg ?_
      refine VO.mv ?_
      refine VO.y rfl (.bst (cs := [Value.int .i64 (99), Value.int .i64 (0), Value.slice none (0) (0)]) rfl tst43 tz43 rfl) ?_
      refine VO.bsl (cs := [Value.int .i64 (99), Value.int .i64 (0), Value.slice none (0) (0)]) 107 rfl rfl tsl24 tz43 rfl rfl (fun g6 => ?_)
      refine VO.inv ((109, mnil) :: _) (fun _ h => h.nilc 109) ?_
      have hxl8 := slice_len (OwnL.ow h_l2 rfl)
      refine VO.appI (e := THC) (xs := l2) (cap := c0) (A := A0) (l := l2_n) 1 109 107 rfl rfl rfl tsl24 rfl rfl rfl (OwnL.ow h_l2 rfl) (Ow.of (m := mnil) rfl (mk_HC (m := _) 99 0 (none, 0, 0) bdk bdk)) Try.underlying24 (cellsAt_one rfl rfl) bd (fun m8 ho8 => ?_)
      refine VO.as ?_
      refine VO.k5 0 2 3 9 25 ?_
      refine outBN ?_
      exact outN ⟨⟨l2 ++ [(99, 0, (none, 0, 0))], m8, l2_n + 1⟩, ⟨by exact over_more hl2, by dsimp only; omega, (Ow.ownl ho8 rfl mnil)⟩, by (dsimp only; omega), ⟨⟨rfl, rfl, rfl, rfl, trivial⟩, fun _ h => Inv.sub h [0, 1]⟩⟩
    · -- FF
      refine VC.exit ?_
      refine outE ?_
      refine outE ?_
      refine outBB ?_
      have hcut0 := Ow.pre (j := d0.length) (OwnL.ow h_l2 rfl) bd
      refine ⟨_, _, res_run (rs := []) rfl .nil, fun W_ hI => out_of (l := [l2_m]) hI [1] rfl rfl (mle_refl _) (fun hS_ => ?_)⟩
      dsimp only [packV]
      have hm0_ : (d0.map overH : Ty.Den (.sl THC)) = (l2).take d0.length := by first | rfl | (obtain ⟨j, rfl⟩ := hl2; simp)
      refine ⟨?_, ?_⟩
      rotate_left
      · rw [hm0_]; exact (Ow.up hcut0 (hS_.1 _ (.head _)))
      all_goals (first | rfl | (simp [*]; done))
theorem fin0_ApartCommits_ok {P : Prop} (h : P := by first | omega | (simp only [List.length_append, List.length_nil, List.length_cons, List.length_take, List.length_drop] at *; omega) | (have h_ := flat_room ho ‹hss[_]? = some _›; have h2_ := flat_len hF; simp only [List.length_append, List.length_map] at *; omega) | (have h_ := hdr_len hF hl4 hw4 ‹l[_]? = some _› ‹was[_]? = some _›; omega)) : P := h
theorem ApartCommits_ok (W : World) {m0 : Mem} (hm : mle (m0) (wm W)) {v0 : Value} {d0 : List (List DCommit)} (h0 : Ow (.sl (.sl TCommit)) m0 [v0] d0) (e0 : d0.length ≤ 1000) (e1 : ∀ x ∈ d0, x.length ≤ 3518437200000) (e2 : d0.flatten.length ≤ 1000) (e3 : ∀ x ∈ d0, ∀ c ∈ x, c.2.2.length ≤ 3518437208800 ∧ ∀ o ∈ c.2.2, o.2.1.length ≤ 140737488400000) : CallR Try.prog 25 [v0] W (m0) (fun v m' => v = .bool true) := by
  obtain ⟨A0, c0, e0_, l0, k0⟩ := h0.slice
  subst e0_
  simp only [maxLen] at k0
  refine CallR.ofB (n := 89) hm Try.func25 rfl rfl rfl ?_
  obtain ⟨hss, ml, mo, hSp, hL, hF, hO⟩ := Ow.peelLL (e := TOp) h0
  have hlh := hF.len
  refine VC.inv _ (fun _ h => h.parts (i := 1) rfl hSp [1, 2]) ?_
  refine VC.rs ?_
  refine VO.as ?_
  refine VO.k2 0 2 ?_
  refine VC.rs ?_
  refine VO.mv ?_
  refine VO.y rfl (.lenS rfl tsl49) ?_
  refine VO.mks (e := (.sl TCommit)) (a := ((d0.length : Nat) : Int)) (k := d0.length) 101 rfl rfl rfl rfl tsl49 tz24 (y := []) (Ow.nil _ mnil) (by simp only [maxLen]; (exact fin0_ApartCommits_ok)) (by exact fin0_ApartCommits_ok) (by decide) (fun v1 m1 hk1 => ?_)
  obtain ⟨A1, c1, rfl, l1, k1⟩ := hk1.slice
  simp only [maxLen] at k1
  have ln1 : (List.replicate d0.length ([] : List DCommit)).length = d0.length := List.length_replicate
  refine VO.as ?_
  refine VO.k3 0 2 3 ?_
  refine VC.rs ?_
  refine VO.as ?_
  refine VO.keep [101, 1, 2, 0] [(101, m1), (1, ml), (2, mo), (0, mout (wm W) (m0))] (by kernel_rfl) ?_
  refine VO.k4 0 2 3 4 ?_
  refine VC.seq ?_
  refine VC.rs ?_
  refine VO.as ?_
  refine VO.k5 0 2 3 4 5 ?_
  refine VC.block ?_
  refine VC.inv ((102, mnil) :: _) (fun _ h => h.nilc 102) ?_
  refine VC.loop (G := Nat × (List (List DCommit)) × Mem × (List Hd) × (Option Addr) × Nat × Mem) (fun g => [(3, Value.slice A1 ((List.replicate d0.length ([] : List DCommit)).length) (c1)), (4, Value.slice (g.2.2.2.2.1) ((g.2.2.2.1).length) ((g.2.2.2.2.2.1))), (5, Value.int .i64 ((((g.1) : Nat) : Int))), (0, Value.slice A0 (d0.length) (c0)), (2, Value.bool false), (3, Value.slice A1 ((List.replicate d0.length ([] : List DCommit)).length) (c1))]) (fun g => [(102, (g.2.2.2.2.2.2)), (101, (g.2.2.1)), (1, ml), (2, mo), (0, mout (wm W) (m0))]) (fun g => ((g.1) ≤ d0.length) ∧ ((g.2.1) = d0.take (g.1) ++ List.replicate (d0.length - (g.1)) []) ∧ ((g.2.2.2.1) = (hss.take (g.1)).flatten.map hdO) ∧ (Ow (.sl (.sl TCommit)) (g.2.2.1) [.slice A1 ((List.replicate d0.length ([] : List DCommit)).length) (c1)] (g.2.1)) ∧ (OwnL .hdr (g.2.2.2.2.2.2) mnil (.slice (g.2.2.2.2.1) (g.2.2.2.1).length (g.2.2.2.2.2.1)) (g.2.2.2.1))) (fun g => d0.length - (g.1)) (0, List.replicate d0.length ([] : List DCommit), m1, [], none, 0, mnil) (⟨by omega, by simp, by rfl, hk1, (OwnL.nil .hdr mnil mnil)⟩) ⟨⟨rfl, rfl, rfl, rfl, rfl, rfl, trivial⟩, fun _ h => h.sub [102, 101, 1, 2, 0]⟩ ?_
  rintro ⟨i, was, was_m, ops, ops_A, ops_c, ops_m⟩ ⟨hi, hw, ho, h_was, h_ops⟩
  replace hi : i ≤ d0.length := hi
  replace hw : was = d0.take i ++ List.replicate (d0.length - i) [] := hw
  replace ho : ops = (hss.take i).flatten.map hdO := ho
  replace h_was : Ow (.sl (.sl TCommit)) was_m [.slice A1 ((List.replicate d0.length ([] : List DCommit)).length) (c1)] was := h_was
  replace h_ops : OwnL .hdr ops_m mnil (.slice ops_A ops.length ops_c) ops := h_ops
  show VC _ _ _ _ _ [(3, Value.slice A1 ((List.replicate d0.length ([] : List DCommit)).length) (c1)), (4, Value.slice ops_A (ops.length) (ops_c)), (5, Value.int .i64 (((i : Nat) : Int))), (0, Value.slice A0 (d0.length) (c0)), (2, Value.bool false), (3, Value.slice A1 ((List.replicate d0.length ([] : List DCommit)).length) (c1))] [(102, ops_m), (101, was_m), (1, ml), (2, mo), (0, mout (wm W) (m0))]
  have ll_was := slice_len h_was
  have l_ops : ops.length ≤ ops_c := by obtain ⟨_, _, he, hl, _⟩ := h_ops.slice; simp only [Value.slice.injEq] at he; omega
  have k_ops : ops_c ≤ 9223372036854775807 := by obtain ⟨_, _, he, _, hl⟩ := h_ops.slice; simp only [Value.slice.injEq, maxLen] at he hl; omega
  refine VC.seq ?_
  refine VC.rs ?_
  refine VO.mv ?_
  refine VO.mv ?_
  refine VO.y rfl (.lenS rfl tsl49) ?_
  refine VO.y rfl (.lss rfl rfl) ?_
  refine VO.k6 0 2 3 4 5 15 ?_
  refine VC.cond rfl (fun hc3 => ?_) (fun hc3 => ?_)
  · -- T
    refine VC.skip ?_
    refine outN ?_
    refine VC.seq ?_
    refine VC.block ?_
    refine VC.rs ?_
    refine VO.mv ?_
    refine VO.mv ?_
    refine VO.mv ?_
    refine VO.mv ?_
    obtain ⟨x4, hx4⟩ : ∃ z_, (hss)[i]? = some z_ := ⟨_, List.getElem?_eq_getElem (by exact fin0_ApartCommits_ok)⟩
    obtain ⟨gg4, oo4, ec4, ea4, hce4, hre4⟩ := (Ow.rd hL (mle_refl _)).elem hx4
    cases ea4
    have hr4 := hre4
    obtain ⟨A4_, c4_, rfl, _⟩ := hre4
    have rr4 := Rd.room hr4
    refine VO.y rfl (.ixI i rfl rfl tsl49 rfl (by exact fin0_ApartCommits_ok)) ?_
    refine VO.y rfl (.ld1 1 rfl tk24 rfl hce4) ?_
    obtain ⟨y4, hy4, hp4⟩ := hF.get (hx4)
    have hn4 := hp4.len
    have hm4 := e1 _ (List.mem_of_getElem? hy4)
    refine VO.callN 105 rfl fnOk57 rfl (fun W hW => CopyCommits_ok W (row_rd (e := TOp) (Rd.mono hr4 (hW.at (i := 1) rfl)) (hp4.mono fun _ _ h => Pc.mono h (hW.at (i := 2) rfl))) (by exact fin0_ApartCommits_ok) (by exact fun c hc => (e3 _ (List.mem_of_getElem? ‹d0[i]? = some _›) c hc).1)) (fun v5 m5 hv5 => ?_)
    obtain ⟨s5_0, rfl, f5_0⟩ := hv5
    obtain ⟨A5_0, c5_0, eq5_0, l5_0, k5_0⟩ := f5_0.slice
    subst eq5_0
    simp only [maxLen] at k5_0
    obtain ⟨x6, hx6⟩ : ∃ z_, (was)[i]? = some z_ := ⟨_, List.getElem?_eq_getElem (by exact fin0_ApartCommits_ok)⟩
    obtain ⟨gg6, oo6, ec6, ea6, hce6, hre6⟩ := (Ow.rd h_was (mle_refl _)).elem hx6
    cases ea6
    have hr6 := hre6
    obtain ⟨A6_, c6_, rfl, _⟩ := hre6
    have rr6 := Rd.room hr6
    refine VO.y rfl (.ixI i rfl rfl tsl49 rfl (by exact fin0_ApartCommits_ok)) ?_
    refine VO.setE (e := (.sl TCommit)) (k := 1) (i := i) 101 105 rfl rfl (.inr ⟨tk24, rfl⟩) rfl rfl rfl rfl h_was rfl hx6 (x' := y4) (Ow.up f5_0 ((Seps.one (mle_refl _)).1 _ (.head _))) (fun mu7 hu7 => ?_)
    have hl7 := slice_len hu7
    refine VO.keep [102, 101, 1, 2, 0] [(102, ops_m), (101, mu7), (1, ml), (2, mo), (0, mout (wm W) (m0))] (by kernel_rfl) ?_
    refine VO.k6 0 2 3 4 5 15 ?_
    refine VC.reg ?_
    refine VO.mv ?_
    refine VO.mv ?_
    refine VO.mv ?_
    refine VO.y rfl (.ixI i rfl rfl tsl49 rfl (by exact fin0_ApartCommits_ok)) ?_
    refine VO.y rfl (.ld1 1 rfl tk24 rfl hce4) ?_
    refine VO.callN 109 rfl fnOk58 rfl (fun W hW => OpsOf_ok W (Rd.mono hr4 (hW.at (i := 1) rfl)) (by exact fin0_ApartCommits_ok)) (fun v9 m9 hv9 => ?_)
    obtain ⟨s9_0, rfl, f9_0⟩ := hv9
    obtain ⟨A9_0, c9_0, eq9_0, l9_0, k9_0⟩ := f9_0.slice
    subst eq9_0
    simp only [maxLen] at k9_0
    obtain ⟨mo10, cs10, hM10, hA10, hC10⟩ := h_ops
    obtain ⟨all10, hS10, hR10⟩ := Rd.srcI (P := Try.prog) ((OwnL.rd (Ow.ownl f9_0 rfl mnil) (mle_refl _) (mle_nil _))) Try.underlying81
    refine VO.app 102 rfl rfl rfl tsl81 tz41 rfl rfl hM10 hA10 (hS10 _ 109 rfl) hR10.nice (by simp only [maxLen]; (exact fin0_ApartCommits_ok)) (by exact fin0_ApartCommits_ok) (by decide) (fun v10 m10 hN10 => ?_)
    have ho10 : OwnL .hdr m10 mnil v10 (ops ++ (x4.map hdO)) := OwnL.more hC10 hN10 (All2c.mono hR10 fun _ _ h => Rd.flat rfl h _)
    obtain ⟨A10, c10, rfl, l10, k10⟩ := ho10.slice
    simp only [maxLen] at k10
    refine VO.as ?_
    refine VO.k6 0 2 3 4 5 15 ?_
    refine outBN ?_
    refine outN ?_
    refine VC.reg ?_
    refine VO.mv ?_
    refine VO.y rfl (.add (c := ((i + 1 : Nat) : Int)) rfl rfl (by omega) ⟨by exact fin0_ApartCommits_ok, by exact fin0_ApartCommits_ok⟩) ?_
    refine VO.as ?_
    refine VO.k6 0 2 3 4 5 15 ?_
    exact outN ⟨⟨i + 1, (was).set i y4, mu7, ops ++ (x4.map hdO), A10, c10, m10⟩, ⟨by omega, by exact fill_next hw ‹d0[i]? = some _›, by exact flat_next ho ‹hss[i]? = some _›, hu7, ho10⟩, by exact fin0_ApartCommits_ok, ⟨⟨rfl, rfl, rfl, rfl, rfl, rfl, trivial⟩, fun _ h => Inv.sub h [102, 101, 1, 2, 0]⟩⟩
  · -- F
    refine VC.exit ?_
    refine outE ?_
    refine outE ?_
    refine outBB ?_
    refine outN ?_
    refine VC.seq ?_
    refine VC.rs ?_
    refine VO.as ?_
    refine VO.keep [102, 101, 1, 2, 0] [(102, ops_m), (101, was_m), (1, ml), (2, mo), (0, mout (wm W) (m0))] (by kernel_rfl) ?_
    refine VO.k7 0 2 3 4 5 6 15 ?_
    refine VC.block ?_
    refine VC.loop (G := Nat × (List (List DHC)) × Mem) (fun g => [(0, Value.slice A0 (d0.length) (c0)), (6, Value.int .i64 ((((g.1) : Nat) : Int))), (0, Value.slice A0 (d0.length) (c0)), (3, Value.slice A1 ((List.replicate d0.length ([] : List DCommit)).length) (c1)), (4, Value.slice ops_A (ops.length) (ops_c)), (5, Value.int .i64 (((i : Nat) : Int))), (15, Value.bool (decide (((i : Nat) : Int) < ((d0.length : Nat) : Int))))]) (fun g => [(102, ops_m), (101, was_m), (1, (g.2.2)), (2, mo), (0, mout (wm W) (m0))]) (fun g => (was = d0) ∧ ((g.1) ≤ d0.length) ∧ ((g.2.1) = (hss.take (g.1)).map (List.map overH) ++ hss.drop (g.1)) ∧ (Ow (.sl (.sl THC)) (g.2.2) [.slice A0 (d0.length) (c0)] (g.2.1))) (fun g => d0.length - (g.1)) (0, hss, ml) (⟨by exact fill_all hw (by omega), by omega, by simp, hL⟩) ⟨⟨rfl, rfl, rfl, rfl, rfl, rfl, rfl, trivial⟩, fun _ h => h.sub [102, 101, 1, 2, 0]⟩ ?_
    rintro ⟨j, l, l_m⟩ ⟨hw2, hj, hl, h_l⟩
    replace hw2 : was = d0 := hw2
    replace hj : j ≤ d0.length := hj
    replace hl : l = (hss.take j).map (List.map overH) ++ hss.drop j := hl
    replace h_l : Ow (.sl (.sl THC)) l_m [.slice A0 (d0.length) (c0)] l := h_l
    show VC _ _ _ _ _ [(0, Value.slice A0 (d0.length) (c0)), (6, Value.int .i64 (((j : Nat) : Int))), (0, Value.slice A0 (d0.length) (c0)), (3, Value.slice A1 ((List.replicate d0.length ([] : List DCommit)).length) (c1)), (4, Value.slice ops_A (ops.length) (ops_c)), (5, Value.int .i64 (((i : Nat) : Int))), (15, Value.bool (decide (((i : Nat) : Int) < ((d0.length : Nat) : Int))))] [(102, ops_m), (101, was_m), (1, l_m), (2, mo), (0, mout (wm W) (m0))]
    have ll_l := slice_len h_l
    refine VC.seq ?_
    refine VC.rs ?_
    refine VO.mv ?_
    refine VO.mv ?_
    refine VO.y rfl (.lenS rfl tsl49) ?_
    refine VO.y rfl (.lss rfl rfl) ?_
    refine VO.k7 0 3 4 5 6 15 36 ?_
    refine VC.cond rfl (fun hc11 => ?_) (fun hc11 => ?_)
    · -- FT
      refine VC.skip ?_
      refine outN ?_
      refine VC.seq ?_
      refine VC.block ?_
      refine VC.seq ?_
      refine VC.seq ?_
      refine VC.regD _ 8 [(0, true), (1, true), (2, true), (3, true), (4, true), (5, true), (6, true), (7, true)] follows (by kernel_rfl) (fun _ h => h.sub [102, 101, 1, 2, 0]) ?_
      refine VD.y rfl rfl (.inl rfl) (.mv rfl) ?_
      refine VD.y rfl rfl (.inl rfl) (.mv rfl) ?_
      obtain ⟨x12, hx12⟩ : ∃ z_, (l)[j]? = some z_ := ⟨_, List.getElem?_eq_getElem (by exact fin0_ApartCommits_ok)⟩
      obtain ⟨gg12, oo12, ec12, ea12, hce12, hre12⟩ := (Ow.rd h_l (mle_refl _)).elem hx12
      cases ea12
      have hr12 := hre12
      obtain ⟨A12_, c12_, rfl, _⟩ := hre12
      have rr12 := Rd.room hr12
      refine VD.y rfl rfl (.inl rfl) (.ixI j rfl rfl tsl49 rfl (by exact fin0_ApartCommits_ok)) ?_
      refine VD.y rfl rfl (.inl rfl) (.ld1 1 rfl tk24 rfl hce12) ?_
      obtain ⟨y12, hy12, hp12⟩ := hF.get ((over_set hl hx12).1)
      have hn12 := hp12.len
      have hm12 := e1 _ (List.mem_of_getElem? hy12)
      refine VD.y rfl rfl (.inl rfl) (.mv rfl) ?_
      refine VD.y rfl rfl (.inl rfl) (.mv rfl) ?_
      obtain ⟨x13, hx13⟩ : ∃ z_, (was)[j]? = some z_ := ⟨_, List.getElem?_eq_getElem (by exact fin0_ApartCommits_ok)⟩
      obtain ⟨gg13, oo13, ec13, ea13, hce13, hre13⟩ := (Ow.rd h_was (mle_refl _)).elem hx13
      cases ea13
      have hr13 := hre13
      obtain ⟨A13_, c13_, rfl, _⟩ := hre13
      have rr13 := Rd.room hr13
      refine VD.y rfl rfl (.inl rfl) (.ixI j rfl rfl tsl49 rfl (by exact fin0_ApartCommits_ok)) ?_
      refine VD.y rfl rfl (.inl rfl) (.ld1 101 rfl tk24 rfl hce13) ?_
      refine VD.nil rfl ?_ rfl
      refine VO.callN 114 rfl fnOk56 rfl (fun W hW => SameCommits_ok W (row_rd (e := TOp) (Rd.mono hr12 (hW.at (i := 1) rfl)) (hp12.mono fun _ _ h => Pc.mono h (hW.at (i := 2) rfl))) (Rd.mono hr13 (hW.at (i := 101) rfl))) (fun v14 m14 hv14 => ?_)
      subst hv14
      refine VO.y rfl (.notD rfl) ?_
      refine VO.k8 0 3 4 5 6 15 36 48 ?_
      refine outN ?_
      refine VC.cond rfl (fun hc15 => ?_) (fun hc15 => ?_)
      · -- FTT
        exact absurd (by have h_ := ‹was[j]? = some _›; rw [hw2] at h_; exact Option.some.inj (‹d0[j]? = some _›.symm.trans h_)) hc15
      · -- FTF
        refine VC.skip ?_
        refine outN ?_
        refine VC.reg ?_
        refine VO.mv ?_
        refine VO.mv ?_
        refine VO.y rfl (.ixI j rfl rfl tsl49 rfl (by exact fin0_ApartCommits_ok)) ?_
        refine VO.y rfl (.ld1 1 rfl tk24 rfl hce12) ?_
        obtain ⟨mr17, me17, hH17, hE17, hB17⟩ := Ow.hole h_l hx12 hce12
        refine VO.parts 1 [1, 118] rfl hH17 ?_
        refine VO.call 118 rfl fnOk59 rfl rfl (fun W hW => overCommits_ok W (hW.at (i := 118) rfl) hE17) (fun v17 m17 hv17 => ?_)
        obtain ⟨rfl, w17_0⟩ := hv17
        have wl17_0 := slice_len w17_0
        refine VO.gather (l := [mr17, m17]) 1 [1, 118] rfl (fun hg17 => ?_)
        have hL17 := Seps.back hg17 (fun hd_ => hB17 _ _ hd_ w17_0)
        have hl17 := slice_len hL17
        refine VO.keep [1, 102, 101, 2, 0] [(1, muns [mr17, m17]), (102, ops_m), (101, was_m), (2, mo), (0, mout (wm W) (m0))] (by kernel_rfl) ?_
        refine VO.k8 0 3 4 5 6 15 36 48 ?_
        refine outBN ?_
        refine outN ?_
        refine VC.reg ?_
        refine VO.mv ?_
        refine VO.y rfl (.add (c := ((j + 1 : Nat) : Int)) rfl rfl (by omega) ⟨by exact fin0_ApartCommits_ok, by exact fin0_ApartCommits_ok⟩) ?_
        refine VO.as ?_
        refine VO.k8 0 3 4 5 6 15 36 48 ?_
        exact outN ⟨⟨j + 1, (l).set j (x12.map overH), muns [mr17, m17]⟩, ⟨by exact hw2, by omega, by exact (over_set hl ‹l[j]? = some _›).2, hL17⟩, by exact fin0_ApartCommits_ok, ⟨⟨rfl, rfl, rfl, rfl, rfl, rfl, rfl, trivial⟩, fun _ h => Inv.sub h [102, 101, 1, 2, 0]⟩⟩
    · -- FF
      refine VC.exit ?_
      refine outE ?_
      refine outE ?_
      refine outBB ?_
      refine outN ?_
      refine VC.seq ?_
      refine VC.rs ?_
      refine VO.as ?_
      refine VO.k8 0 3 4 5 6 7 15 36 ?_
      refine VC.block ?_
      refine VC.loop (G := Nat) (fun p => [(7, Value.int .i64 (((p : Nat) : Int))), (0, Value.slice A0 (d0.length) (c0)), (3, Value.slice A1 ((List.replicate d0.length ([] : List DCommit)).length) (c1)), (4, Value.slice ops_A (ops.length) (ops_c)), (5, Value.int .i64 (((i : Nat) : Int))), (6, Value.int .i64 (((j : Nat) : Int))), (15, Value.bool (decide (((i : Nat) : Int) < ((d0.length : Nat) : Int)))), (36, Value.bool (decide (((j : Nat) : Int) < ((d0.length : Nat) : Int))))]) (fun p => [(102, ops_m), (101, was_m), (1, l_m), (2, mo), (0, mout (wm W) (m0))]) (fun p => (was = d0) ∧ (p ≤ d0.length) ∧ (l = hss.map (List.map overH))) (fun p => d0.length - p) 0 (⟨by exact hw2, by omega, by exact over_all hl (by omega)⟩) ⟨⟨rfl, rfl, rfl, rfl, rfl, rfl, rfl, rfl, trivial⟩, fun _ h => h.sub [102, 101, 1, 2, 0]⟩ ?_
      rintro p ⟨hw4, hp, hl4⟩
      refine VC.seq ?_
      refine VC.rs ?_
      refine VO.mv ?_
      refine VO.mv ?_
      refine VO.y rfl (.lenS rfl tsl49) ?_
      refine VO.y rfl (.lss rfl rfl) ?_
      refine VO.keep [102, 101, 1, 2, 0] [(102, ops_m), (101, was_m), (1, l_m), (2, mo), (0, mout (wm W) (m0))] (by kernel_rfl) ?_
      refine VO.k9 0 3 4 5 6 7 15 36 57 ?_
      refine VC.cond rfl (fun hc19 => ?_) (fun hc19 => ?_)
      · -- FFT
        refine VC.skip ?_
        refine outN ?_
        refine VC.seq ?_
        refine VC.block ?_
        refine VC.rs ?_
        refine VO.as ?_
        refine VO.k10 0 3 4 5 6 7 8 15 36 57 ?_
        refine VC.block ?_
        refine VC.loop (G := Nat) (fun k => [(8, Value.int .i64 (((k : Nat) : Int))), (0, Value.slice A0 (d0.length) (c0)), (3, Value.slice A1 ((List.replicate d0.length ([] : List DCommit)).length) (c1)), (4, Value.slice ops_A (ops.length) (ops_c)), (5, Value.int .i64 (((i : Nat) : Int))), (6, Value.int .i64 (((j : Nat) : Int))), (7, Value.int .i64 (((p : Nat) : Int))), (15, Value.bool (decide (((i : Nat) : Int) < ((d0.length : Nat) : Int)))), (36, Value.bool (decide (((j : Nat) : Int) < ((d0.length : Nat) : Int)))), (57, Value.bool (decide (((p : Nat) : Int) < ((d0.length : Nat) : Int))))]) (fun k => [(102, ops_m), (101, was_m), (1, l_m), (2, mo), (0, mout (wm W) (m0))]) (fun k => (k ≤ 9223372036854775807)) (fun k => 9223372036854775807 - k) 0 (by omega) ⟨⟨rfl, rfl, rfl, rfl, rfl, rfl, rfl, rfl, rfl, rfl, trivial⟩, fun _ h => h.sub [102, 101, 1, 2, 0]⟩ ?_
        rintro k hk
        refine VC.seq ?_
        refine VC.rs ?_
        refine VO.mv ?_
        refine VO.mv ?_
        refine VO.mv ?_
        obtain ⟨x20, hx20⟩ : ∃ z_, (l)[p]? = some z_ := ⟨_, List.getElem?_eq_getElem (by exact fin0_ApartCommits_ok)⟩
        obtain ⟨gg20, oo20, ec20, ea20, hce20, hre20⟩ := (Ow.rd h_l (mle_refl _)).elem hx20
        cases ea20
        have hr20 := hre20
        obtain ⟨A20_, c20_, rfl, _⟩ := hre20
        have rr20 := Rd.room hr20
        refine VO.y rfl (.ixI p rfl rfl tsl49 rfl (by exact fin0_ApartCommits_ok)) ?_
        refine VO.y rfl (.ld1 1 rfl tk24 rfl hce20) ?_
        refine VO.y rfl (.lenS rfl tsl24) ?_
        refine VO.y rfl (.lss rfl rfl) ?_
        refine VO.k11 0 3 4 5 6 7 8 15 36 57 66 ?_
        refine VC.cond rfl (fun hc21 => ?_) (fun hc21 => ?_)
        · -- FFTT
          refine VC.skip ?_
          refine outN ?_
          refine VC.seq ?_
          refine VC.block ?_
          refine VC.seq ?_
          refine VC.regD _ 17 [(0, true), (1, true), (2, true), (3, true), (4, true), (5, true), (6, true), (7, true), (8, true), (9, true), (10, true), (11, true), (12, true), (13, true), (14, true), (15, true), (16, true)] follows (by kernel_rfl) (fun _ h => h.sub [102, 101, 1, 2, 0]) ?_
          refine VD.y rfl rfl (.inl rfl) (.mv rfl) ?_
          refine VD.y rfl rfl (.inl rfl) (.mv rfl) ?_
          refine VD.y rfl rfl (.inl rfl) (.ixI p rfl rfl tsl49 rfl (by exact fin0_ApartCommits_ok)) ?_
          refine VD.y rfl rfl (.inl rfl) (.ld1 1 rfl tk24 rfl hce20) ?_
          refine VD.y rfl rfl (.inl rfl) (.mv rfl) ?_
          obtain ⟨x23, hx23⟩ : ∃ z_, (x20)[k]? = some z_ := ⟨_, List.getElem?_eq_getElem (by exact fin0_ApartCommits_ok)⟩
          obtain ⟨gg23, oo23, ec23, ea23, hce23, hre23⟩ := hr20.elem hx23
          cases ea23
          obtain ⟨rfl, q23_0, q23_1⟩ := open_HC (x0 := x23.1) (x1 := x23.2.1) (x2 := x23.2.2) hre23
          simp only [inK] at q23_0
          simp only [inK] at q23_1
          refine VD.y rfl rfl (.inl rfl) (.ixI k rfl rfl tsl24 rfl (by exact fin0_ApartCommits_ok)) ?_
          refine VD.y rfl rfl (.inl rfl) (.fa rfl tst43 rfl) ?_
          refine VD.y rfl rfl (.inl rfl) (.ld1 1 rfl tk3 rfl (hce23.at1 (j := 0) rfl)) ?_
          refine VD.y rfl rfl (.inl rfl) (.mv rfl) ?_
          refine VD.y rfl rfl (.inl rfl) (.mv rfl) ?_
          obtain ⟨x24, hx24⟩ : ∃ z_, (was)[p]? = some z_ := ⟨_, List.getElem?_eq_getElem (by exact fin0_ApartCommits_ok)⟩
          obtain ⟨gg24, oo24, ec24, ea24, hce24, hre24⟩ := (Ow.rd h_was (mle_refl _)).elem hx24
          cases ea24
          have hr24 := hre24
          obtain ⟨A24_, c24_, rfl, _⟩ := hre24
          have rr24 := Rd.room hr24
          refine VD.y rfl rfl (.inl rfl) (.ixI p rfl rfl tsl49 rfl (by exact fin0_ApartCommits_ok)) ?_
          refine VD.y rfl rfl (.inl rfl) (.ld1 101 rfl tk24 rfl hce24) ?_
          refine VD.y rfl rfl (.inl rfl) (.mv rfl) ?_
          obtain ⟨x25, hx25⟩ : ∃ z_, (x24)[k]? = some z_ := ⟨_, List.getElem?_eq_getElem (by exact fin0_ApartCommits_ok)⟩
          obtain ⟨gg25, oo25, ec25, ea25, hce25, hre25⟩ := hr24.elem hx25
          cases ea25
          obtain ⟨q25_A2, q25_c2, rfl, q25_0, q25_1, q25_2⟩ := open_Commit (x0 := x25.1) (x1 := x25.2.1) (x2 := x25.2.2) hre25
          simp only [inK] at q25_0
          simp only [inK] at q25_1
          have q25_r2 := Rd.room q25_2
          refine VD.y rfl rfl (.inl rfl) (.ixI k rfl rfl tsl24 rfl (by exact fin0_ApartCommits_ok)) ?_
          refine VD.y rfl rfl (.inl rfl) (.fa rfl tst43 rfl) ?_
          refine VD.y rfl rfl (.inl rfl) (.ld1 101 rfl tk3 rfl (hce25.at1 (j := 0) rfl)) ?_
          refine VD.y rfl rfl (.inl rfl) (.cpl rfl ⟨by exact fin0_ApartCommits_ok, by exact fin0_ApartCommits_ok⟩) ?_
          refine VD.nil rfl ?_ rfl
          refine VO.y rfl (.neq rfl rfl) ?_
          refine VO.keep [102, 101, 1, 2, 0] [(102, ops_m), (101, was_m), (1, l_m), (2, mo), (0, mout (wm W) (m0))] (by kernel_rfl) ?_
          refine VO.k12 0 3 4 5 6 7 8 15 36 57 66 86 ?_
          refine outN ?_
          refine VC.cond rfl (fun hc26 => ?_) (fun hc26 => ?_)
          · -- FFTTT
            exact absurd (hdr_at hF hl4 hw4 ‹l[p]? = some _› ‹was[p]? = some _› (by assumption) (by assumption)) hc26
          · -- FFTTF
            refine VC.skip ?_
            refine outBN ?_
            refine outN ?_
            refine VC.reg ?_
            refine VO.mv ?_
            refine VO.y rfl (.add (c := ((k + 1 : Nat) : Int)) rfl rfl (by omega) ⟨by exact fin0_ApartCommits_ok, by exact fin0_ApartCommits_ok⟩) ?_
            refine VO.as ?_
            refine VO.k12 0 3 4 5 6 7 8 15 36 57 66 86 ?_
            exact outN ⟨k + 1, by omega, by exact fin0_ApartCommits_ok, ⟨⟨rfl, rfl, rfl, rfl, rfl, rfl, rfl, rfl, rfl, rfl, trivial⟩, fun _ h => Inv.sub h [102, 101, 1, 2, 0]⟩⟩
        · -- FFTF
          refine VC.exit ?_
          refine outE ?_
          refine outE ?_
          refine outBB ?_
          refine outBN ?_
          refine outN ?_
          refine VC.reg ?_
          refine VO.mv ?_
          refine VO.y rfl (.add (c := ((p + 1 : Nat) : Int)) rfl rfl (by omega) ⟨by exact fin0_ApartCommits_ok, by exact fin0_ApartCommits_ok⟩) ?_
          refine VO.as ?_
          refine VO.keep [102, 101, 1, 2, 0] [(102, ops_m), (101, was_m), (1, l_m), (2, mo), (0, mout (wm W) (m0))] (by kernel_rfl) ?_
          refine VO.k11 0 3 4 5 6 7 8 15 36 57 66 ?_
          exact outN ⟨p + 1, ⟨by exact hw4, by omega, by exact hl4⟩, by exact fin0_ApartCommits_ok, ⟨⟨rfl, rfl, rfl, rfl, rfl, rfl, rfl, rfl, trivial⟩, fun _ h => Inv.sub h [102, 101, 1, 2, 0]⟩⟩
      · -- FFF
        refine VC.exit ?_
        refine outE ?_
        refine outE ?_
        refine outBB ?_
        refine outN ?_
        refine VC.rs ?_
        refine VO.mv ?_
        refine VO.gather (l := [ops_m, mo]) 128 [102, 2] rfl (fun hg27 => ?_)
        have hops : Ow (.sl (.sl TOp)) (muns [ops_m, mo]) [Value.slice ops_A (ops.length) (ops_c)] (d0.flatten.map fun x => x.2.2) := Ow.mkOps hg27 (OwnL.ow h_ops rfl) (by have e_ : ops = hss.flatten.map hdO := (by rw [ho, List.take_of_length_le (by omega)]); rw [e_, List.map_map]; exact hO)
        refine VO.call 128 rfl fnOk60 rfl rfl (fun W hW => ApartOps_ok W (hW.at (i := 128) rfl) hops (by rw [List.length_map]; exact e2) (by exact ops_room e3)) (fun v29 m29 hv29 => ?_)
        subst hv29
        refine VO.as ?_
        refine VO.k10 0 2 3 4 5 6 7 15 36 57 ?_
        refine VC.ret ?_
        refine ⟨_, _, res_run (rs := [.tmp 2]) rfl (.tmp rfl .nil), fun W_ hI => out_of (l := []) hI [] rfl rfl (mle_refl _) (fun hS_ => ?_)⟩
        dsimp only [packV]
        all_goals (first | rfl | (simp [*]; done))
end
section
set_option linter.unusedVariables false
def prevS (l : List DStart) (k : Nat) : DStart := if k = 0 then (0, 0) else match l[k - 1]? with
  | some y => y
  | none => (0, 0)
theorem prevS_of {l : List DStart} {k : Nat} {y : DStart} (hk : 0 < k) (hy : l[((k : Int) - 1).toNat]? = some y) : prevS l k = y := by
  unfold prevS
  rw [if_neg (by omega), show k - 1 = ((k : Int) - 1).toNat by omega, hy]
theorem prevS_next {l : List DStart} {k : Nat} {x : DStart} (hx : l[k]? = some x) : prevS l (k + 1) = x := prevS_of (by omega) (by rw [show (((k + 1 : Nat) : Int) - 1).toNat = k by omega]; exact hx)
theorem step8 {l : List DStart} {en : Int} {k : Nat} {x : DStart} (hx : l[k]? = some x) (h1 : ¬ x.1 < 1) (h2 : ¬ 1048576 < x.1) (h3 : ¬ en < x.2) (h4 : k = 0 → x.2 = 1)
    (h5 : 0 < k → ∃ y, l[((k : Int) - 1).toNat]? = some y ∧ y.1 < x.1 ∧ y.2 < x.2) : sGo en (prevS l k).1 (prevS l k).2 k (l.drop k) ↔ sGo en (prevS l (k + 1)).1 (prevS l (k + 1)).2 (k + 1) (l.drop (k + 1)) := by
  rw [prevS_next hx]
  by_cases hk : k = 0
  · have := h4 hk
    have e : prevS l k = (0, 0) := if_pos hk
    rw [e]
    exact sGo_step hx (by simp only; omega) (by omega) (by simp only; omega) (by omega) h4
  · obtain ⟨y, hy, h6, h7⟩ := h5 (by omega)
    rw [prevS_of (by omega) hy]
    exact sGo_step hx h6 (by omega) h7 (by omega) h4
theorem bad8 {l : List DStart} {en : Int} {k : Nat} {x : DStart} (hs : sGo en 0 0 0 l ↔ sGo en (prevS l k).1 (prevS l k).2 k (l.drop k)) (hp : 0 ≤ (prevS l k).1) (hx : l[k]? = some x)
    (h : x.1 < 1 ∨ 1048576 < x.1 ∨ en < x.2 ∨ (k = 0 ∧ ¬ x.2 = 1) ∨ ∃ y, 0 < k ∧ l[((k : Int) - 1).toNat]? = some y ∧ (x.1 ≤ y.1 ∨ x.2 ≤ y.2)) : sCheck l en = 5 := by
  refine sCheck_bad hs hx ?_
  rcases h with h | h | h | h | ⟨y, hk, hy, h | h⟩
  · exact .inl (by omega)
  · exact .inr (.inl h)
  · exact .inr (.inr (.inr (.inl h)))
  · exact .inr (.inr (.inr (.inr h)))
  · rw [prevS_of hk hy]; exact .inl h
  · rw [prevS_of hk hy]; exact .inr (.inr (.inl h))
end
end Go.Proofs.Ytcikgnbpcombpaa
