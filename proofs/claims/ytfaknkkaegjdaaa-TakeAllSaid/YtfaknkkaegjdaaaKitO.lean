/- Own library, part O: what is owned through and through; parts of a memory; slices with spare room; loops unrolled; joins. -/
import Derived.Test.YtfaknkkaegjdaaaKitK
import Derived.LoopN
set_option linter.unusedVariables false
namespace Go.Proofs.Ytfaknkkaegjdaaa

/-! ### Disjoint parts of a memory -/
def Seps (m : Mem) (l : List Mem) : Prop := (∀ x ∈ l, mle x m) ∧ l.Pairwise mdj
def muns : List Mem → Mem
  | [] => mnil
  | m :: r => mun m (muns r)
theorem Seps.nil (m : Mem) : Seps m [] := ⟨fun _ h => (by cases h), .nil⟩
theorem Seps.one {m a : Mem} (h : mle a m) : Seps m [a] := ⟨fun x hx => by simp at hx; exact hx ▸ h, by simp⟩
theorem Seps.two {m a b : Mem} (h : mdj a b) (h1 : mle a m) (h2 : mle b m) : Seps m [a, b] := ⟨fun x hx => by simp at hx; rcases hx with rfl | rfl <;> assumption, by simpa using h⟩
theorem Seps.up {m m' : Mem} {l : List Mem} (h : Seps m l) (hm : mle m m') : Seps m' l := ⟨fun x hx => (h.1 x hx).trans hm, h.2⟩
theorem Seps.cons {m a : Mem} {l : List Mem} (h : Seps m l) (ha : mle a m) (hd : ∀ x ∈ l, mdj a x) : Seps m (a :: l) :=
  ⟨fun x hx => by rcases List.mem_cons.1 hx with rfl | hx <;> first | exact ha | exact h.1 x hx, List.pairwise_cons.2 ⟨hd, h.2⟩⟩
/-- parts of two disjoint parts. -/
theorem Seps.app {m a b : Mem} {l r : List Mem} (hd : mdj a b) (ha : mle a m) (hb : mle b m) (hl : Seps a l) (hr : Seps b r) : Seps m (l ++ r) :=
  ⟨fun x hx => by rcases List.mem_append.1 hx with h | h <;> first | exact (hl.1 x h).trans ha | exact (hr.1 x h).trans hb, List.pairwise_append.2 ⟨hl.2, hr.2, fun x hx y hy => hd.mono (hl.1 x hx) (hr.1 y hy)⟩⟩
theorem muns_le {k : Mem} : ∀ {l : List Mem}, (∀ x ∈ l, mle x k) → mle (muns l) k
  | [], _ => mle_nil _
  | m :: r, h => mun_le (h m (.head _)) (muns_le fun x hx => h x (.tail _ hx))
theorem mdj_muns {k : Mem} : ∀ {l : List Mem}, (∀ x ∈ l, mdj x k) → mdj (muns l) k
  | [], _ => mdj_nil' _
  | m :: r, h => mdj_un (h m (.head _)) (mdj_muns fun x hx => h x (.tail _ hx))
theorem seps_muns : ∀ {l : List Mem}, l.Pairwise mdj → Seps (muns l) l
  | [], _ => Seps.nil _
  | m :: r, h => by
    obtain ⟨h1, h2⟩ := List.pairwise_cons.1 h
    have hd : mdj m (muns r) := (mdj_muns fun x hx => (h1 x hx).symm).symm
    exact ((seps_muns h2).up (mle_un_right hd)).cons (mle_un_left _ _) h1

section
variable {P : Program} {n : Nat} {w0 : World} {σ : Env} {Ω : Ctx} {ops : Array Oper} {K : Env → Ctx → Prop} {R : Exit → Env → Ctx → Prop}

/-- Chunk i gives way to disjoint parts of it. -/
theorem Inv.parts {W : World} (h : Inv w0 Ω W) {i : Nat} {m : Mem} (hi : cget Ω i = some m) {l : List Mem} (hl : Seps m l) (ids : List Nat) : Inv w0 (ids.zip l ++ cdel Ω i) W := by
  obtain ⟨h1, h2⟩ := cdel_dj hi h.dj
  have hz : ∀ p ∈ ids.zip l, p.2 ∈ l := fun p hp => (List.of_mem_zip (a := p.1) (b := p.2) hp).2
  have hp : ∀ (ids : List Nat) (l : List Mem), l.Pairwise mdj → (ids.zip l).Pairwise (fun p q => mdj p.2 q.2) := by
    intro ids
    induction ids with
    | nil => intro l _; simp
    | cons a ids ih =>
      intro l hl
      cases l with
      | nil => simp
      | cons m l =>
        obtain ⟨k1, k2⟩ := List.pairwise_cons.1 hl
        refine List.pairwise_cons.2 ⟨fun p hp => k1 _ ?_, ih l k2⟩
        exact (List.of_mem_zip (a := p.1) (b := p.2) hp).2
  refine ⟨h.os, h.tape, h.output, h.size, fun p hp => ?_, List.pairwise_append.2 ⟨hp ids l hl.2, h2, fun p hp q hq => (h1 q hq).mono (hl.1 _ (hz p hp)) (mle_refl _)⟩⟩
  rcases List.mem_append.1 hp with hp | hp
  · exact (hl.1 _ (hz p hp)).trans (h.at hi)
  · exact h.le p (cdel_mem hp)
def cgets : Ctx → List Nat → Option (List Mem)
  | _, [] => some []
  | Ω, i :: r => match cget Ω i, cgets (cdel Ω i) r with
    | some m, some l => some (m :: l)
    | _, _ => none
def cdels : Ctx → List Nat → Ctx
  | Ω, [] => Ω
  | Ω, i :: r => cdels (cdel Ω i) r
theorem Inv.gets : ∀ {ids : List Nat} {Ω : Ctx} {W : World} {l : List Mem}, Inv w0 Ω W → cgets Ω ids = some l → l.Pairwise mdj ∧ (∀ x ∈ l, mle x (wm W)) ∧ (∀ x ∈ l, ∀ p ∈ cdels Ω ids, mdj x p.2) ∧ Inv w0 (cdels Ω ids) W ∧ ∀ x ∈ l, ∃ i, (i, x) ∈ Ω
  | [], Ω, W, l, h, hg => by
    simp [cgets] at hg; subst hg
    exact ⟨.nil, fun _ h => (by cases h), fun _ h => (by cases h), h, fun _ h => (by cases h)⟩
  | i :: r, Ω, W, l, h, hg => by
    unfold cgets at hg
    split at hg
    · rename_i m l' h1 h2
      simp only [Option.some.injEq] at hg
      subst hg
      obtain ⟨d1, d2⟩ := cdel_dj h1 h.dj
      have hd : Inv w0 (cdel Ω i) W := ⟨h.os, h.tape, h.output, h.size, fun p hp => h.le p (cdel_mem hp), d2⟩
      obtain ⟨k1, k2, k3, k4, k5⟩ := Inv.gets hd h2
      have hsub : ∀ p ∈ cdels (cdel Ω i) r, p ∈ cdel Ω i := by
        have : ∀ (r : List Nat) (Ω : Ctx) (p : Nat × Mem), p ∈ cdels Ω r → p ∈ Ω := by
          intro r
          induction r with
          | nil => intro Ω p hp; exact hp
          | cons a r ih => intro Ω p hp; exact cdel_mem (ih _ _ hp)
        exact fun p hp => this r _ p hp
      refine ⟨List.pairwise_cons.2 ⟨fun x hx => ?_, k1⟩, fun x hx => ?_, fun x hx p hp => ?_, k4, fun x hx => ?_⟩
      · obtain ⟨j, hj⟩ := k5 x hx; exact d1 _ hj
      · rcases List.mem_cons.1 hx with rfl | hx
        · exact h.at h1
        · exact k2 x hx
      · rcases List.mem_cons.1 hx with rfl | hx
        · exact d1 _ (hsub p hp)
        · exact k3 x hx p hp
      · rcases List.mem_cons.1 hx with rfl | hx
        · exact ⟨i, cget_mem h1⟩
        · obtain ⟨j, hj⟩ := k5 x hx; exact ⟨j, cdel_mem hj⟩
    · cases hg
/-- Chunks become one chunk. -/
theorem Inv.gather {W : World} (h : Inv w0 Ω W) (k : Nat) {ids : List Nat} {l : List Mem} (hg : cgets Ω ids = some l) : Inv w0 ((k, muns l) :: cdels Ω ids) W ∧ Seps (muns l) l := by
  obtain ⟨h1, h2, h3, h4, _⟩ := h.gets hg
  refine ⟨⟨h4.os, h4.tape, h4.output, h4.size, fun p hp => ?_, List.pairwise_cons.2 ⟨fun p hp => mdj_muns fun x hx => h3 x hx p hp, h4.dj⟩⟩, seps_muns h1⟩
  rcases List.mem_cons.1 hp with rfl | hp
  · exact muns_le h2
  · exact h4.le p hp
theorem VO.gather {r : List Oper} (k : Nat) (ids : List Nat) {l : List Mem} (hg : cgets Ω ids = some l) (h : Seps (muns l) l → VO P n w0 ops r σ ((k, muns l) :: cdels Ω ids) K) : VO P n w0 ops r σ Ω K :=
  fun Q hQ a W he hi => h (hi.gather k hg).2 Q hQ a W he (hi.gather k hg).1
theorem VC.gather {c : Code} (k : Nat) (ids : List Nat) {l : List Mem} (hg : cgets Ω ids = some l) (h : Seps (muns l) l → VC P n w0 c R σ ((k, muns l) :: cdels Ω ids)) : VC P n w0 c R σ Ω :=
  fun Q hQ a W he hi => h (hi.gather k hg).2 Q hQ a W he (hi.gather k hg).1
theorem VO.parts {r : List Oper} (i : Nat) (ids : List Nat) {m : Mem} {l : List Mem} (hm : cget Ω i = some m) (hl : Seps m l) (h : VO P n w0 ops r σ (ids.zip l ++ cdel Ω i) K) : VO P n w0 ops r σ Ω K :=
  VO.inv _ (fun W hW => hW.parts hm hl ids) h
theorem VC.parts {c : Code} (i : Nat) (ids : List Nat) {m : Mem} {l : List Mem} (hm : cget Ω i = some m) (hl : Seps m l) (h : VC P n w0 c R σ (ids.zip l ++ cdel Ω i)) : VC P n w0 c R σ Ω :=
  VC.inv _ (fun W hW => hW.parts hm hl ids) h
/-- The way out: what is handed on, of these chunks. -/
theorem out_of {W : World} (hI : Inv w0 Ω W) (ids : List Nat) {l : List Mem} {b : Mem} (hg : cgets Ω ids = some l) (hb : cget (cdels Ω ids) 0 = some b) {b0 : Mem} (h0 : mle b0 b) {p : Prop} (hp : Seps (muns l) l → p) :
    p ∧ mle b0 (wm W) ∧ mle (muns l) (wm W) ∧ mdj (muns l) b0 := by
  obtain ⟨h1, h2, h3, h4, _⟩ := hI.gets hg
  exact ⟨hp (seps_muns h1), h0.trans (h4.at hb), muns_le h2, mdj_muns fun x hx => (h3 x hx _ (cget_mem hb)).mono (mle_refl _) h0⟩

theorem VD.inv {ΩS : Ctx} {t : Nat} {l : List (Nat × Bool)} (Ω' : Ctx) (hs : ∀ W, Inv w0 Ω W → Inv w0 Ω' W) (h : VD P n w0 ops ΩS t l σ Ω' K) : VD P n w0 ops ΩS t l σ Ω K :=
  fun Q hn hQ listed a W he hi => h Q hn hQ listed a W he (hs W hi)
theorem VD.gather {ΩS : Ctx} {t : Nat} {ss : List (Nat × Bool)} (k : Nat) (ids : List Nat) {l : List Mem} (hg : cgets Ω ids = some l) (h : Seps (muns l) l → VD P n w0 ops ΩS t ss σ ((k, muns l) :: cdels Ω ids) K) : VD P n w0 ops ΩS t ss σ Ω K :=
  fun Q hn hQ listed a W he hi => h (hi.gather k hg).2 Q hn hQ listed a W he (hi.gather k hg).1
theorem VD.call {ΩS : Ctx} {t : Nat} {i : Nat} {r : List (Nat × Bool)} {d : Nat} {f : FuncId} {xs : List Operand} {ats : Array TypeId} {ty : TypeId} {pos : String} {af : Array Edge} {gd : Option (Nat × Bool)} {vs : List Value} {Post : Value → Mem → Prop}
    (j : Nat) {m : Mem} (hd : Nat.blt d n = true) (ho : ops[i]? = some ⟨some d, .call { callee := .value (.func f), args := xs.toArray, argTypes := ats }, ty, pos, af, gd⟩) (hg : gd = none ∨ ∃ j b, gd = some (j, b) ∧ gyes σ ops j b) (hf : fnOk P f = true)
    (ha : evs σ xs = some vs) (hm : cget Ω j = some m) (hS : ∀ m' W, Inv w0 (cset Ω j m') W → Inv w0 ΩS W) (hc : ∀ W, Inv w0 Ω W → CallR P f vs W m Post) (h : ∀ v m', Post v m' → VD P n w0 ops ΩS t r ((d, v) :: σ) (cset Ω j m') K) : VD P n w0 ops ΩS t ((i, false) :: r) σ Ω K :=
  VD.s (fun v => (d, v) :: σ) ho (fun v _ he => he.put hd v) hg (Stp.call j hf ha hm hc) (fun _ _ ⟨m', _, hΩ⟩ W hW => hS m' W (by subst hΩ; exact hW)) (fun v _ ⟨m', hp, hΩ⟩ => hΩ ▸ h v m' hp)

/-! ### Loops of few rounds -/
def VRounds (P : Program) (n : Nat) (w0 : World) (c : Code) (R : Exit → Env → Ctx → Prop) : Nat → Env → Ctx → Prop
  | 0, _, _ => False
  | k + 1, σ, Ω => VC P n w0 c (thenR (fun σ' Ω' => VRounds P n w0 c R k σ' Ω') R) σ Ω
theorem VC.rounds {c : Code} (k : Nat) (h : VRounds P n w0 c R k σ Ω) : VC P n w0 (.loop c) R σ Ω := fun Q hQ a W he hi => by
  refine wp_loop_rounds k ?_
  induction k generalizing σ Ω a W with
  | zero => exact h.elim
  | succ k ih =>
    rw [rounds_succ]
    refine h _ (fun e σ' Ω' a W hr he hi => ?_) a W he hi
    cases e with
    | normal => exact ih hr a W he hi
    | exit id => exact hQ _ σ' Ω' a W hr he hi
    | goto l => exact hQ _ σ' Ω' a W hr he hi
    | ret => exact hQ _ σ' Ω' a W hr he hi
    | panic ch => exact hQ _ σ' Ω' a W hr he hi
    | outgrown => exact hQ _ σ' Ω' a W hr he hi
theorem VRounds.step {c : Code} {k : Nat} (h : VC P n w0 c (thenR (fun σ' Ω' => VRounds P n w0 c R k σ' Ω') R) σ Ω) : VRounds P n w0 c R (k + 1) σ Ω := h
end

/-! ### Owned through and through -/
def OwAll {α : Type} (R : Mem → List Value → α → Prop) : Mem → List Value → List α → Prop
  | _, cs, [] => cs = []
  | m, cs, x :: r => ∃ c1 c2 m1 m2, cs = c1 ++ c2 ∧ mdj m1 m2 ∧ mle m1 m ∧ mle m2 m ∧ R m1 c1 x ∧ OwAll R m2 c2 r

def Ow : (t : Ty) → Mem → List Value → t.Den → Prop
  | .int k, _, cs, (n : Int) => cs = [.int k n] ∧ inK k n
  | .byte, _, cs, (b : UInt8) => cs = [byV b]
  | .bool, _, cs, (b : Bool) => cs = [.bool b]
  | .str, _, cs, (s : List UInt8) => cs = [str s] ∧ s.length ≤ maxLen
  | .pair a b, m, cs, (x, y) => ∃ c1 c2 m1 m2, cs = c1 ++ c2 ∧ mdj m1 m2 ∧ mle m1 m ∧ mle m2 m ∧ Ow a m1 c1 x ∧ Ow b m2 c2 y
  | .sl e, m, cs, (xs : List e.Den) => ∃ v m0 m1 rc, cs = [v] ∧ mdj m0 m1 ∧ mle m0 m ∧ mle m1 m ∧ OwnA e.sz m0 v xs.length rc ∧ OwAll (Ow e) m1 rc xs
  | .spl e, m, cs, ((xs, ys) : List e.Den × List e.Den) => ∃ A c m0 m1 rc, cs = [.slice A xs.length c] ∧ mdj m0 m1 ∧ mle m0 m ∧ mle m1 m ∧ OwnA e.sz m0 (.slice A (xs ++ ys).length c) (xs ++ ys).length rc ∧ OwAll (Ow e) m1 rc (xs ++ ys)
  | .ptr e, m, cs, ((g, d) : Nat × e.Den) => cs = [.pointer (some ⟨g, 0, none⟩)] ∧ ∃ rc E m1, mdj (mone g (.cells rc.toArray E (0, 0))) m1 ∧ mle (mone g (.cells rc.toArray E (0, 0))) m ∧ mle m1 m ∧ Ow e m1 rc d
  | .addr, _, cs, (g : Option Nat) => cs = [.pointer (g.map fun g => ⟨g, 0, none⟩)]

section
variable {α : Type} {R : Mem → List Value → α → Prop}
theorem OwAll.up : ∀ {xs : List α} {m m' : Mem} {cs : List Value}, OwAll R m cs xs → mle m m' → OwAll R m' cs xs
  | [], _, _, _, h, _ => h
  | _ :: _, _, _, _, ⟨c1, c2, m1, m2, h1, h2, h3, h4, h5⟩, hm => ⟨c1, c2, m1, m2, h1, h2, h3.trans hm, h4.trans hm, h5⟩
theorem OwAll.all {Q : List Value → α → Prop} : ∀ {xs : List α} {m : Mem} {cs : List Value}, OwAll R m cs xs → (∀ m' c x, mle m' m → R m' c x → Q c x) → All2c Q cs xs
  | [], _, _, h, _ => h
  | _ :: _, _, _, ⟨c1, c2, m1, m2, h1, h2, h3, h4, h5, h6⟩, hq => ⟨c1, c2, h1, hq _ _ _ h3 h5, h6.all fun m' c x hm => hq m' c x (hm.trans h4)⟩
theorem OwAll.app : ∀ {xs ys : List α} {m m1 m2 : Mem} {cs ds : List Value}, mdj m1 m2 → mle m1 m → mle m2 m → OwAll R m1 cs xs → OwAll R m2 ds ys → OwAll R m (cs ++ ds) (xs ++ ys)
  | [], _, _, _, _, _, _, hd, h1, h2, h, h' => by rw [show _ = [] from h]; exact h'.up h2
  | _ :: _, _, m, m1, m2, _, _, hd, h1, h2, ⟨c1, c2, k1, k2, e1, e2, e3, e4, e5, e6⟩, h' =>
    ⟨c1, c2 ++ _, k1, mun k2 m2, by rw [e1, List.append_assoc], (mdj_un e2.symm (hd.symm.mono (mle_refl _) e3)).symm, e3.trans h1, mun_le (e4.trans h1) h2, e5,
      OwAll.app (hd.mono e4 (mle_refl _)) (mle_un_left _ _) (mle_un_right (hd.mono e4 (mle_refl _))) e6 h'⟩
theorem OwAll.one {m m1 : Mem} {c : List Value} {x : α} (h : R m1 c x) (hm : mle m1 m) : OwAll R m c [x] := ⟨c, [], m1, mnil, by simp, mdj_nil _, hm, mle_nil _, h, rfl⟩
theorem OwAll.of {Q : List Value → α → Prop} : ∀ {xs : List α} {m : Mem} {cs : List Value}, All2c Q cs xs → (∀ m' c x, Q c x → R m' c x) → OwAll R m cs xs
  | [], _, _, h, _ => h
  | _ :: _, _, _, ⟨c1, c2, h1, h2, h3⟩, hq => ⟨c1, c2, mnil, mnil, h1, mdj_nil _, mle_nil _, mle_nil _, hq _ _ _ h2, OwAll.of h3 hq⟩
theorem OwAll.split {k : Nat} (hk : ∀ m c x, R m c x → c.length = k) : ∀ {xs : List α} {m : Mem} {cs : List Value} (j : Nat), OwAll R m cs xs → ∃ m1 m2, mdj m1 m2 ∧ mle m1 m ∧ mle m2 m ∧ OwAll R m1 (cs.take (j * k)) (xs.take j) ∧ OwAll R m2 (cs.drop (j * k)) (xs.drop j)
  | [], m, _, j, h => by rw [show _ = [] from h]; exact ⟨mnil, mnil, mdj_nil _, mle_nil _, mle_nil _, by simp [OwAll], by simp [OwAll]⟩
  | y :: r, m, cs, 0, h => ⟨mnil, m, mdj_nil' _, mle_nil _, mle_refl _, by simp [OwAll], by simpa using h⟩
  | y :: r, m, cs, j + 1, ⟨c1, c2, m1, m2, h1, h2, h3, h4, h5, h6⟩ => by
    obtain ⟨k1, k2, d, e1, e2, f1, f2⟩ := OwAll.split hk j h6
    have el : (j + 1) * k = c1.length + j * k := by rw [hk _ _ _ h5, Nat.add_mul]; omega
    refine ⟨mun m1 k1, k2, mdj_un (h2.mono (mle_refl _) e2) d, mun_le h3 (e1.trans h4), e2.trans h4, ?_, ?_⟩
    · rw [h1, el, List.take_length_add_append]
      exact ⟨c1, _, m1, k1, rfl, h2.mono (mle_refl _) e1, mle_un_left _ _, mle_un_right (h2.mono (mle_refl _) e1), h5, f1⟩
    · rw [h1, el, List.drop_length_add_append]
      exact f2
end

theorem Ow.len : ∀ {t : Ty} {m : Mem} {cs : List Value} {d : t.Den}, Ow t m cs d → cs.length = t.sz
  | .int _, _, _, _, h => by rw [h.1]; rfl
  | .byte, _, _, _, h => by rw [show _ = _ from h]; rfl
  | .bool, _, _, _, h => by rw [show _ = _ from h]; rfl
  | .str, _, _, _, h => by rw [h.1]; rfl
  | .pair a b, _, _, (x, y), ⟨c1, c2, m1, m2, h1, _, _, _, h2, h3⟩ => by rw [h1, List.length_append, Ow.len h2, Ow.len h3]; rfl
  | .sl e, _, _, _, ⟨v, m0, m1, rc, h1, _⟩ => by rw [h1]; rfl
  | .spl e, _, _, (_, _), ⟨A, c, m0, m1, rc, h1, _⟩ => by rw [h1]; rfl
  | .ptr e, _, _, (_, _), ⟨h1, _⟩ => by rw [h1]; rfl
  | .addr, _, _, _, h => by rw [show _ = _ from h]; rfl
theorem Ow.up : ∀ {t : Ty} {m m' : Mem} {cs : List Value} {d : t.Den}, Ow t m cs d → mle m m' → Ow t m' cs d
  | .int _, _, _, _, _, h, _ => h
  | .byte, _, _, _, _, h, _ => h
  | .bool, _, _, _, _, h, _ => h
  | .str, _, _, _, _, h, _ => h
  | .pair a b, _, _, _, (x, y), ⟨c1, c2, m1, m2, h1, h2, h3, h4, h5⟩, hm => ⟨c1, c2, m1, m2, h1, h2, h3.trans hm, h4.trans hm, h5⟩
  | .sl e, _, _, _, _, ⟨v, m0, m1, rc, h1, h2, h3, h4, h5⟩, hm => ⟨v, m0, m1, rc, h1, h2, h3.trans hm, h4.trans hm, h5⟩
  | .spl e, _, _, _, (_, _), ⟨A, c, m0, m1, rc, h1, h2, h3, h4, h5⟩, hm => ⟨A, c, m0, m1, rc, h1, h2, h3.trans hm, h4.trans hm, h5⟩
  | .ptr e, _, _, _, (_, _), ⟨h1, rc, E, m1, h2, h3, h4, h5⟩, hm => ⟨h1, rc, E, m1, h2, h3.trans hm, h4.trans hm, h5⟩
  | .addr, _, _, _, _, h, _ => h
theorem Ow.rd : ∀ {t : Ty} {m : Mem} {cs : List Value} {d : t.Den}, Ow t m cs d → ∀ {k : Mem}, mle m k → Rd t k cs d
  | .int _, _, _, _, h, _, _ => h
  | .byte, _, _, _, h, _, _ => h
  | .bool, _, _, _, h, _, _ => h
  | .str, _, _, _, h, _, _ => h
  | .pair a b, _, _, (x, y), ⟨c1, c2, m1, m2, h1, h2, h3, h4, h5, h6⟩, k, hk => ⟨c1, c2, h1, Ow.rd h5 (h3.trans hk), Ow.rd h6 (h4.trans hk)⟩
  | .sl e, _, _, _, ⟨v, m0, m1, rc, h1, h2, h3, h4, h5, h6⟩, k, hk => by
    subst h1
    exact h5.rd (n := k) (h6.all fun m' c x hm hr => Ow.rd hr ((hm.trans h4).trans hk)) (h3.trans hk) (mle_refl _)
  | .spl e, _, _, (xs, ys), ⟨A, c, m0, m1, rc, h1, h2, h3, h4, h5, h6⟩, k, hk => by
    obtain ⟨A', c', e1, e2, e3, e4⟩ := h5.rd (e := e) (n := k) (h6.all fun m' c x hm hr => Ow.rd hr ((hm.trans h4).trans hk)) (h3.trans hk) (mle_refl _)
    simp only [List.cons.injEq, Value.slice.injEq, true_and, and_true] at e1
    obtain ⟨rfl, rfl⟩ := e1
    exact ⟨A, c, h1, e2, e3, e4⟩
  | .ptr e, _, _, (_, _), ⟨h1, rc, E, m1, h2, h3, h4, h5⟩, k, hk => ⟨h1, rc, E, hk _ _ (h3 _ _ (mone_self _ _)), Ow.rd h5 (h4.trans hk)⟩
  | .addr, _, _, _, h, _, _ => h
theorem Ow.of : ∀ {t : Ty} {m m' : Mem} {cs : List Value} {d : t.Den}, t.flat = true → Rd t m cs d → Ow t m' cs d
  | .int _, _, _, _, _, _, h => h
  | .byte, _, _, _, _, _, h => h
  | .bool, _, _, _, _, _, h => h
  | .str, _, _, _, _, _, h => h
  | .pair a b, _, _, _, (x, y), hf, ⟨c1, c2, h1, h2, h3⟩ => by
    have hf' : (a.flat && b.flat) = true := hf
    rw [Bool.and_eq_true] at hf'
    exact ⟨c1, c2, mnil, mnil, h1, mdj_nil _, mle_nil _, mle_nil _, Ow.of hf'.1 h2, Ow.of hf'.2 h3⟩
  | .addr, _, _, _, _, _, h => h
theorem Ow.flat {t : Ty} {m m' : Mem} {cs : List Value} {d : t.Den} (hf : t.flat = true) (h : Ow t m cs d) : Ow t m' cs d := Ow.of hf (h.rd (mle_refl _))
theorem Ow.nice {t : Ty} {m : Mem} {cs : List Value} {d : t.Den} (h : Ow t m cs d) : ∀ u ∈ cs, u.oneCell' = true := (h.rd (mle_refl _)).nice
theorem OwAll.rd {e : Ty} {m k : Mem} {cs : List Value} {xs : List e.Den} (h : OwAll (Ow e) m cs xs) (hk : mle m k) : All2c (Rd e k) cs xs := h.all fun m' c x hm hr => hr.rd (hm.trans hk)
theorem Ow.pair {a b : Ty} {m : Mem} {cs : List Value} {x : a.Den × b.Den} (h : Ow (.pair a b) m cs x) : ∃ c1 c2 m1 m2, cs = c1 ++ c2 ∧ mdj m1 m2 ∧ mle m1 m ∧ mle m2 m ∧ Ow a m1 c1 x.1 ∧ Ow b m2 c2 x.2 := h
theorem Ow.mkPair {a b : Ty} {m m1 m2 : Mem} {c1 c2 : List Value} {x : a.Den × b.Den} (hd : mdj m1 m2) (h1 : mle m1 m) (h2 : mle m2 m) (k1 : Ow a m1 c1 x.1) (k2 : Ow b m2 c2 x.2) : Ow (.pair a b) m (c1 ++ c2) x := ⟨c1, c2, m1, m2, rfl, hd, h1, h2, k1, k2⟩
/-- A slice, opened. -/
theorem Ow.slice {e : Ty} {m : Mem} {v : Value} {xs : List e.Den} (h : Ow (.sl e) m [v] xs) : ∃ A c, v = .slice A xs.length c ∧ xs.length ≤ c ∧ c ≤ maxLen := (h.rd (mle_refl _)).slice
theorem Ow.nil (e : Ty) (m : Mem) : Ow (.sl e) m [.slice none 0 0] [] := ⟨_, mnil, mnil, [], rfl, mdj_nil _, mle_nil _, mle_nil _, .nil none, rfl⟩
/-- A list of flat things: owned is owned. -/
theorem OwnL.ow {e : Ty} {m k : Mem} {v : Value} {xs : List e.Den} (h : OwnL e m k v xs) (hf : e.flat = true) : Ow (.sl e) m [v] xs :=
  let ⟨m0, cs, h0, h1, h2⟩ := h
  ⟨v, m0, mnil, cs, rfl, mdj_nil _, h0, mle_nil _, h1, OwAll.of h2 fun _ _ _ h => Ow.of hf h⟩
theorem Ow.ownl {e : Ty} {m : Mem} {v : Value} {xs : List e.Den} (h : Ow (.sl e) m [v] xs) (hf : e.flat = true) (k : Mem) : OwnL e m k v xs := by
  obtain ⟨v', m0, m1, rc, h1, h2, h3, h4, h5, h6⟩ := h
  simp only [List.cons.injEq, and_true] at h1
  subst h1
  exact ⟨m0, rc, h3, h5, h6.all fun m' c x hm hr => (hr.rd (mle_refl _)).flat hf k⟩

theorem Ow.slice1 {e : Ty} {m : Mem} {cs : List Value} {xs : List e.Den} (h : Ow (.sl e) m cs xs) : ∃ A c, cs = [.slice A xs.length c] ∧ xs.length ≤ c ∧ c ≤ maxLen := by
  obtain ⟨A, c, h1, h2, h3, _⟩ := h.rd (mle_refl _)
  exact ⟨A, c, h1, h2, h3⟩
theorem Ow.spl1 {e : Ty} {m : Mem} {cs : List Value} {x : List e.Den × List e.Den} (h : Ow (.spl e) m cs x) : ∃ A c, cs = [.slice A x.1.length c] ∧ (x.1 ++ x.2).length ≤ c ∧ c ≤ maxLen := by
  obtain ⟨A, c, h1, h2, h3, _⟩ := h.rd (mle_refl _)
  exact ⟨A, c, h1, h2, h3⟩
theorem Rd.slice1 {e : Ty} {m : Mem} {cs : List Value} {xs : List e.Den} (h : Rd (.sl e) m cs xs) : ∃ A c, cs = [.slice A xs.length c] ∧ xs.length ≤ c ∧ c ≤ maxLen := by
  obtain ⟨A, c, h1, h2, h3, _⟩ := h
  exact ⟨A, c, h1, h2, h3⟩
theorem Rd.spl1 {e : Ty} {m : Mem} {cs : List Value} {x : List e.Den × List e.Den} (h : Rd (.spl e) m cs x) : ∃ A c, cs = [.slice A x.1.length c] ∧ (x.1 ++ x.2).length ≤ c ∧ c ≤ maxLen := by
  obtain ⟨A, c, h1, h2, h3, _⟩ := h
  exact ⟨A, c, h1, h2, h3⟩
/-- What a pointer owns. -/
theorem Ow.opnP {e : Ty} {m : Mem} {cs : List Value} {g : Nat} {x : e.Den} (h : Ow (.ptr e) m cs (g, x)) : cs = [.pointer (some ⟨g, 0, none⟩)] ∧ ∃ rc E m1, mdj (mone g (.cells rc.toArray E (0, 0))) m1 ∧ mle (mone g (.cells rc.toArray E (0, 0))) m ∧ mle m1 m ∧ Ow e m1 rc x := h

/-- What is left of a slice without its first k. -/
def dropV (v : Value) (k sz : Nat) : Value := match v with
  | .slice A l c => .slice (if c = k then A else A.map (·.add (k * sz))) (l - k) (c - k)
  | v => v
/-! ### Spare room -/
theorem Rd.full {e : Ty} {m : Mem} {A : Option Addr} {l c : Nat} {x : List e.Den × List e.Den} (h : Rd (.spl e) m [.slice A l c] x) : l = x.1.length ∧ Rd (.sl e) m [.slice A (x.1 ++ x.2).length c] (x.1 ++ x.2) := by
  obtain ⟨A', c', h1, h2⟩ := h
  simp only [List.cons.injEq, Value.slice.injEq, and_true] at h1
  obtain ⟨rfl, rfl, rfl⟩ := h1
  exact ⟨rfl, _, _, rfl, h2⟩
theorem Rd.mkSpl {e : Ty} {m : Mem} {A : Option Addr} {c l k : Nat} {xs ys : List e.Den} (h : Rd (.sl e) m [.slice A l c] (xs ++ ys)) (hk : k = xs.length) : Rd (.spl e) m [.slice A k c] (xs, ys) := by
  obtain ⟨A', c', h1, h2⟩ := h
  simp only [List.cons.injEq, Value.slice.injEq, and_true] at h1
  obtain ⟨rfl, rfl, rfl⟩ := h1
  exact ⟨_, _, by rw [hk], h2⟩
theorem Rd.pre2 {e : Ty} {m : Mem} {A : Option Addr} {l c : Nat} {xs ys : List e.Den} (h : Rd (.sl e) m [.slice A l c] (xs ++ ys)) : Rd (.sl e) m [.slice A xs.length c] xs := by
  have hl : l = (xs ++ ys).length := by
    obtain ⟨A', c', h1, h2⟩ := h
    simp only [List.cons.injEq, Value.slice.injEq, and_true] at h1
    exact h1.2.1
  have := h.pre (j := xs.length) (by simp)
  rwa [List.take_left] at this
/-- The spare room is forgotten, here and in all parts. -/
def fg : Ty → Ty
  | .pair a b => .pair (fg a) (fg b)
  | .sl e => .sl (fg e)
  | .spl e => .sl (fg e)
  | t => t
def fgd : (t : Ty) → t.Den → (fg t).Den
  | .pair a b, (x, y) => (fgd a x, fgd b y)
  | .sl e, (xs : List e.Den) => xs.map (fgd e)
  | .spl e, ((xs, _) : List e.Den × List e.Den) => xs.map (fgd e)
  | .int _, n => n
  | .byte, b => b
  | .bool, b => b
  | .str, s => s
  | .ptr _, x => x
  | .addr, g => g
theorem fg_sz : ∀ t : Ty, (fg t).sz = t.sz
  | .pair a b => by simp only [fg, Ty.sz, fg_sz a, fg_sz b]
  | .sl _ | .spl _ | .int _ | .byte | .bool | .str | .ptr _ | .addr => rfl
theorem All2c.map {α β : Type} {R : List Value → α → Prop} {S : List Value → β → Prop} (f : α → β) (hf : ∀ c x, R c x → S c (f x)) : ∀ {xs : List α} {cs : List Value}, All2c R cs xs → All2c S cs (xs.map f)
  | [], _, h => h
  | _ :: _, _, ⟨c1, c2, h1, h2, h3⟩ => ⟨c1, c2, h1, hf _ _ h2, h3.map f hf⟩
theorem Rd.fg : ∀ {t : Ty} {m : Mem} {cs : List Value} {d : t.Den}, Rd t m cs d → Rd (fg t) m cs (fgd t d)
  | .int _, _, _, _, h => h
  | .byte, _, _, _, h => h
  | .bool, _, _, _, h => h
  | .str, _, _, _, h => h
  | .pair a b, _, _, (x, y), ⟨c1, c2, h1, h2, h3⟩ => ⟨c1, c2, h1, Rd.fg h2, Rd.fg h3⟩
  | .sl e, _, _, (xs : List e.Den), ⟨A, c, h1, h2, h3, h4⟩ => by
    have hl : (xs.map (fgd e)).length = xs.length := List.length_map ..
    refine ⟨A, c, by simp only [fgd, hl]; exact h1, by simp only [fgd, hl]; exact h2, h3, ?_⟩
    simp only [fgd, hl, fg_sz]
    exact h4.imp id fun ⟨g, off, all, k1, k2, k3⟩ => ⟨g, off, all, k1, k2, k3.map _ fun _ _ h => Rd.fg h⟩
  | .spl e, m, _, ((xs, ys) : List e.Den × List e.Den), ⟨A, c, h1, h2, h3, h4⟩ => by
    have hx : Rd (.sl e) m [.slice A xs.length c] xs := Rd.pre2 (ys := ys) (l := (xs ++ ys).length) ⟨A, c, rfl, h2, h3, h4⟩
    obtain ⟨A', c', e1, e2, e3, e4⟩ := hx
    simp only [List.cons.injEq, Value.slice.injEq, true_and, and_true] at e1
    obtain ⟨rfl, rfl⟩ := e1
    have hl : (xs.map (fgd e)).length = xs.length := List.length_map ..
    refine ⟨A, c, by simp only [fgd, hl]; exact h1, by simp only [fgd, hl]; exact e2, h3, ?_⟩
    simp only [fgd, hl, fg_sz]
    exact e4.imp id fun ⟨g, off, all, k1, k2, k3⟩ => ⟨g, off, all, k1, k2, k3.map _ fun _ _ h => Rd.fg h⟩
  | .ptr _, _, _, _, h => h
  | .addr, _, _, _, h => h
theorem OwnA.pre {sz len k : Nat} {m : Mem} {A : Option Addr} {l c : Nat} {cs : List Value} (h : OwnA sz m (.slice A l c) len cs) (hk : k ≤ len) : OwnA sz m (.slice A k c) k (cs.take (k * sz)) := by
  generalize hv : Value.slice A l c = v at h
  cases h with
  | nil B =>
    simp only [Value.slice.injEq] at hv
    obtain ⟨rfl, _, rfl⟩ := hv
    obtain rfl : k = 0 := by omega
    simpa using OwnA.nil (sz := sz) A
  | row g off len' cap E c' k1 k2 k3 =>
    simp only [Value.slice.injEq] at hv
    obtain ⟨rfl, _, rfl⟩ := hv
    have := OwnA.row (sz := sz) g off k c E c' k1 (by omega) k3
    rwa [show List.take (k * sz) (List.take (len * sz) (List.drop off c')) = List.take (k * sz) (List.drop off c') by rw [List.take_take, Nat.min_eq_left (Nat.mul_le_mul_right _ hk)]]
theorem OwnA.len_is {sz len : Nat} {m : Mem} {A : Option Addr} {l c : Nat} {cs : List Value} (h : OwnA sz m (.slice A l c) len cs) : l = len := by
  obtain ⟨A', c', h1, _⟩ := h.slice
  simp only [Value.slice.injEq] at h1
  exact h1.2.1
/-- x[i:] -/
theorem OwnA.drop {sz len k : Nat} {m : Mem} {A : Option Addr} {l c : Nat} {cs : List Value} (h : OwnA sz m (.slice A l c) len cs) (hk : k ≤ len) : OwnA sz m (.slice (if c = k then A else A.map (·.add (k * sz))) (len - k) (c - k)) (len - k) (cs.drop (k * sz)) := by
  generalize hv : Value.slice A l c = v at h
  cases h with
  | nil B =>
    simp only [Value.slice.injEq] at hv
    obtain ⟨rfl, _, rfl⟩ := hv
    obtain rfl : k = 0 := by omega
    simpa using OwnA.nil (sz := sz) A
  | row g off len' cap E c' k1 k2 k3 =>
    simp only [Value.slice.injEq] at hv
    obtain ⟨rfl, _, rfl⟩ := hv
    have e1 : (List.take (len * sz) (List.drop off c')).drop (k * sz) = List.take ((len - k) * sz) (List.drop (off + k * sz) c') := by
      rw [List.drop_take, List.drop_drop, Nat.sub_mul]
    rw [e1]
    by_cases hck : c = k
    · rw [if_pos hck]
      obtain rfl : len = k := by omega
      have := OwnA.row (sz := sz) g off (len - len) (c - len) E c' (by simp [hck]; have := Nat.zero_le (c * sz); omega) (by omega) (by omega)
      simpa using this
    · rw [if_neg hck]
      have hm : (c - k) * sz + k * sz = c * sz := by rw [← Nat.add_mul]; congr 1; omega
      have := OwnA.row (sz := sz) g (off + k * sz) (len - k) (c - k) E c' (by omega) (by omega) (by omega)
      simpa [add_off] using this

/-! ### Parts put together -/
theorem Seps.cut {m : Mem} {l r : List Mem} (h : Seps m (l ++ r)) : mdj (muns l) (muns r) ∧ mle (muns l) m ∧ mle (muns r) m ∧ Seps (muns l) l ∧ Seps (muns r) r := by
  obtain ⟨h1, h2⟩ := h
  obtain ⟨k1, k2, k3⟩ := List.pairwise_append.1 h2
  exact ⟨mdj_muns fun x hx => (mdj_muns fun y hy => (k3 x hx y hy).symm).symm, muns_le fun x hx => h1 x (List.mem_append_left _ hx), muns_le fun x hx => h1 x (List.mem_append_right _ hx), seps_muns k1, seps_muns k2⟩
theorem Seps.grp {m : Mem} : ∀ {ls : List (List Mem)}, Seps m ls.flatten → Seps m (ls.map muns)
  | [], _ => Seps.nil _
  | l :: r, h => by
    have h' : Seps m (l ++ r.flatten) := h
    obtain ⟨_, k1, _, _, k2⟩ := h'.cut
    have h3 : Seps m r.flatten := ⟨fun x hx => h'.1 x (List.mem_append_right _ hx), (List.pairwise_append.1 h'.2).2.1⟩
    refine (Seps.grp h3).cons k1 fun x hx => ?_
    obtain ⟨y, hy, rfl⟩ := List.mem_map.1 hx
    exact mdj_muns fun a ha => (mdj_muns fun b hb => ((List.pairwise_append.1 h'.2).2.2 a ha b (List.mem_flatten.2 ⟨y, hy, hb⟩)).symm).symm
theorem Seps.grp1 {m a : Mem} {ls : List (List Mem)} (h : Seps m (a :: ls.flatten)) : Seps m (a :: ls.map muns) := by
  have h1 : Seps m ([a] :: ls).flatten := h
  have h2 : Seps m (muns [a] :: ls.map muns) := Seps.grp h1
  refine ⟨fun x hx => ?_, ?_⟩
  · rcases List.mem_cons.1 hx with rfl | hx
    · exact h.1 _ (.head _)
    · exact h2.1 _ (.tail _ hx)
  · obtain ⟨k1, k2⟩ := List.pairwise_cons.1 h2.2
    exact List.pairwise_cons.2 ⟨fun x hx => (k1 x hx).mono (mle_un_left _ _) (mle_refl _), k2⟩
theorem Seps.sub {m : Mem} {l l' : List Mem} (h : Seps m l) (hs : l'.Sublist l) : Seps m l' := ⟨fun x hx => h.1 x (hs.subset hx), h.2.sublist hs⟩
/-- A part that is nothing. -/
theorem Seps.nilAt {m : Mem} (i : Nat) {l : List Mem} (h : Seps m l) : Seps m (l.take i ++ mnil :: l.drop i) := by
  obtain ⟨h1, h2⟩ := h
  refine ⟨fun x hx => ?_, ?_⟩
  · rcases List.mem_append.1 hx with hx | hx
    · exact h1 x (List.mem_of_mem_take hx)
    · rcases List.mem_cons.1 hx with rfl | hx
      · exact mle_nil _
      · exact h1 x (List.mem_of_mem_drop hx)
  · rw [← List.take_append_drop i l] at h2
    obtain ⟨k1, k2, k3⟩ := List.pairwise_append.1 h2
    refine List.pairwise_append.2 ⟨k1, List.pairwise_cons.2 ⟨fun x _ => mdj_nil' _, k2⟩, fun x hx y hy => ?_⟩
    rcases List.mem_cons.1 hy with rfl | hy
    · exact mdj_nil _
    · exact k3 x hx y hy
/-- Elements, each with its own memory. -/
def OwAs {α : Type} (R : Mem → List Value → α → Prop) : List Mem → List Value → List α → Prop
  | [], cs, xs => cs = [] ∧ xs = []
  | m :: ms, cs, x :: r => ∃ c1 c2, cs = c1 ++ c2 ∧ R m c1 x ∧ OwAs R ms c2 r
  | _ :: _, _, [] => False
theorem OwAs.all {α : Type} {R : Mem → List Value → α → Prop} : ∀ {ms : List Mem} {M : Mem} {cs : List Value} {xs : List α}, Seps M ms → OwAs R ms cs xs → OwAll R M cs xs
  | [], _, _, _, _, h => by obtain ⟨rfl, rfl⟩ := h; rfl
  | m :: ms, M, cs, x :: r, hS, ⟨c1, c2, h1, h2, h3⟩ => by
    have hS' : Seps M ([m] ++ ms) := hS
    obtain ⟨k1, k2, k3, k4, k5⟩ := hS'.cut
    exact ⟨c1, c2, m, muns ms, h1, k1.mono (k4.1 _ (.head _)) (mle_refl _), hS.1 _ (.head _), k3, h2, OwAs.all k5 h3⟩
theorem OwAs.cons {α : Type} {R : Mem → List Value → α → Prop} {m : Mem} {ms : List Mem} {c1 c2 : List Value} {x : α} {r : List α} (h : R m c1 x) (h2 : OwAs R ms c2 r) : OwAs R (m :: ms) (c1 ++ c2) (x :: r) := ⟨c1, c2, rfl, h, h2⟩
theorem OwAs.nil {α : Type} {R : Mem → List Value → α → Prop} : OwAs R [] [] [] := ⟨rfl, rfl⟩
theorem Ow.lit {e : Ty} {E : TypeId} {g : Nat} {M : Mem} {ms : List Mem} {cs : List Value} {xs : List e.Den} (len : Nat) (hS : Seps M (mone g (.cells cs.toArray E (0, 0)) :: ms)) (h : OwAs (Ow e) ms cs xs) (hl : xs.length = len) (hm : Nat.ble len 1000 = true) :
    Ow (.sl e) M [.slice (some ⟨g, 0, none⟩) len len] xs := by
  subst hl
  have hS' : Seps M ([mone g (.cells cs.toArray E (0, 0))] ++ ms) := hS
  obtain ⟨k1, k2, k3, k4, k5⟩ := hS'.cut
  have ha := OwAs.all k5 h
  have hc : cs.length = xs.length * e.sz := (OwAll.all (Q := fun c (x : e.Den) => c.length = e.sz) ha fun _ _ _ _ h => h.len).len fun _ _ h => h
  refine ⟨_, _, muns ms, cs, rfl, k1.mono (k4.1 _ (.head _)) (mle_refl _), hS.1 _ (.head _), k3, ?_, ha⟩
  have := OwnA.row (sz := e.sz) g 0 xs.length xs.length E cs (by rw [hc]; omega) (Nat.le_refl _) (Nat.le_trans (Nat.le_of_ble_eq_true hm) (by decide))
  rwa [List.drop_zero, List.take_of_length_le (by rw [hc]; omega)] at this

theorem Ow.clsP {e : Ty} {M : Mem} {g : Nat} {E : TypeId} {rc : List Value} {ms : List Mem} {x : e.Den} (hS : Seps M (mone g (.cells rc.toArray E (0, 0)) :: ms)) (h : Seps (muns ms) ms → Ow e (muns ms) rc x) : Ow (.ptr e) M [.pointer (some ⟨g, 0, none⟩)] (g, x) := by
  have hS' : Seps M ([mone g (.cells rc.toArray E (0, 0))] ++ ms) := hS
  obtain ⟨k1, k2, k3, k4, k5⟩ := hS'.cut
  exact ⟨rfl, rc, E, muns ms, k1.mono (k4.1 _ (.head _)) (mle_refl _), hS.1 _ (.head _), k3, h k5⟩
theorem Seps.self {m : Mem} {l l' : List Mem} (h : Seps m l) (hs : l'.Sublist l) : Seps (muns l') l' := seps_muns (h.2.sublist hs)
/-- A list is owned in two parts: its row, and what its elements own. -/
theorem Ow.opn {e : Ty} {m : Mem} {v : Value} {xs : List e.Den} (h : Ow (.sl e) m [v] xs) : ∃ m0 m1 rc, Seps m [m0, m1] ∧ OwnA e.sz m0 v xs.length rc ∧ OwAll (Ow e) m1 rc xs := by
  obtain ⟨v', m0, m1, rc, h1, h2, h3, h4, h5, h6⟩ := h
  simp only [List.cons.injEq, and_true] at h1
  subst h1
  exact ⟨m0, m1, rc, .two h2 h3 h4, h5, h6⟩
theorem Ow.cls {e : Ty} {m m0 m1 : Mem} {v : Value} {xs : List e.Den} {rc : List Value} (hS : Seps m [m0, m1]) (h1 : OwnA e.sz m0 v xs.length rc) (h2 : OwAll (Ow e) m1 rc xs) : Ow (.sl e) m [v] xs :=
  ⟨v, m0, m1, rc, rfl, by have := hS.2; simpa using this, hS.1 _ (.head _), hS.1 _ (.tail _ (.head _)), h1, h2⟩

section
variable {P : Program} {n : Nat} {w0 : World} {σ : Env} {Ω : Ctx} {ops : Array Oper} {K : Env → Ctx → Prop}
variable {ty : TypeId} {pos : String} {af : Array Edge} {d : Option Tmp} {gd : Option (Nat × Bool)} {r : List Oper}

/-- One thing, owned in chunk j (it goes into the list's chunk), is appended to a list of chunk i. It lies in a literal. -/
theorem VO.appO {e : Ty} {s x : Operand} {t xt et xe : TypeId} {b dd g c : Nat} {v : Value} {xs : List e.Den} {y : e.Den} {yc z : List Value} (i j k : Nat) {m mj mk : Mem} (hd : Nat.blt dd n = true) (hsv : ev σ s = some v) (hxv : ev σ x = some (.slice (some ⟨g, 0, none⟩) 1 c)) (ht : tsl P t = some (et, e.sz, b)) (hz : tz P et = some z) (hzl : z.length = e.sz)
    (hm : cget Ω i = some m) (hj : cget (cdel Ω i) j = some mj) (hk : cget Ω k = some mk) (hown : Ow (.sl e) m [v] xs) (hy : Ow e mj yc y) (hxt : P.underlying xt = some (.slice xe)) (hc : cellsAt mk g 0 e.sz yc) (hml : xs.length + 1 ≤ maxLen) (hb : (xs.length + 1) * b ≤ 140737488355328) (hb0 : b ≠ 0)
    (h : ∀ v' m', Ow (.sl e) m' [v'] (xs ++ [y]) → VO P n w0 ops r ((dd, v') :: σ) ((i, m') :: cdel (cdel Ω i) j) K) :
    VO P n w0 ops (⟨some dd, .call { callee := .builtin .append, args := [s, x].toArray, argTypes := [t, xt].toArray }, ty, pos, af, none⟩ :: r) σ Ω K :=
  fun Q hQ a W he hi => wpList_plain rfl fun K' hK => by
    obtain ⟨m0, m1, rc, hS, hA, hL⟩ := hown.opn
    obtain ⟨q1, q2, q3, q4, _⟩ := hi.gets (ids := [i, j]) (l := [m, mj]) (by simp [cgets, hm, hj])
    have dmj : mdj m mj := by simpa using q1
    have d01 : mdj m0 m1 := by have := hS.2; simpa using this
    have l0 := hS.1 m0 (.head _)
    have l1 := hS.1 m1 (.tail _ (.head _))
    have d1j : mdj m1 mj := dmj.mono l1 (mle_refl _)
    have hnew : mdj m0 (mun m1 mj) := (mdj_un d01.symm (dmj.mono l0 (mle_refl _)).symm).symm
    have hΩ2 : Inv w0 ((i, m0) :: (j, mun m1 mj) :: cdel (cdel Ω i) j) W := by
      have hdel : Inv w0 (cdel (cdel Ω i) j) W := q4
      have f1 : ∀ p ∈ cdel (cdel Ω i) j, mdj m p.2 := fun p hp => q3 m (.head _) p hp
      have f2 : ∀ p ∈ cdel (cdel Ω i) j, mdj mj p.2 := fun p hp => q3 mj (.tail _ (.head _)) p hp
      refine ⟨hi.os, hi.tape, hi.output, hi.size, fun p hp => ?_, List.pairwise_cons.2 ⟨fun p hp => ?_, List.pairwise_cons.2 ⟨fun p hp => ?_, hdel.dj⟩⟩⟩
      · rcases List.mem_cons.1 hp with rfl | hp
        · exact l0.trans (hi.at hm)
        · rcases List.mem_cons.1 hp with rfl | hp
          · exact mun_le (l1.trans (hi.at hm)) (q2 mj (.tail _ (.head _)))
          · exact hdel.le p hp
      · rcases List.mem_cons.1 hp with rfl | hp
        · exact hnew
        · exact (f1 p hp).mono l0 (mle_refl _)
      · exact mdj_un ((f1 p hp).mono l1 (mle_refl _)) (f2 p hp)
    have hsrc : SrcW P W e.sz xt (.slice (some ⟨g, 0, none⟩) 1 c) 1 yc := by
      refine ⟨⟨_, hxt, by simp⟩, by rw [hy.len]; omega, fun W' hW => ?_, fun W' => by simp [Builtin.lenOf]⟩
      have hc2 : cellsAt (wm W') g 0 (1 * e.sz) yc := by
        rw [Nat.one_mul]
        refine hc.mono (fun q o ho => ?_)
        have := hi.at hk q o ho
        unfold wm at this ⊢
        rw [hW]; exact this
      exact firstCells_row hc2
    refine app_wp (i := i) (m := m0) (m0 := m0) he hΩ2 hsv hxv ht hz hzl (by simp [cget]) (mle_refl _) hA hsrc hy.nice hml hb hb0 fun v' m' W' hA' hi' => ?_
    have hc' : cset ((i, m0) :: (j, mun m1 mj) :: cdel (cdel Ω i) j) i m' = (i, m') :: (j, mun m1 mj) :: cdel (cdel Ω i) j := by simp [cset]
    rw [hc'] at hi'
    have hdj : mdj m' (mun m1 mj) := (List.pairwise_cons.1 hi'.dj).1 _ (.head _)
    have hall : OwAll (Ow e) (mun m1 mj) (rc ++ yc) (xs ++ [y]) := OwAll.app d1j (mle_un_left _ _) (mle_un_right d1j) hL (.one hy (mle_refl _))
    have how : Ow (.sl e) (mun m' (mun m1 mj)) [v'] (xs ++ [y]) := ⟨v', m', mun m1 mj, rc ++ yc, rfl, hdj, mle_un_left _ _, mle_un_right hdj, by simpa using hA', hall⟩
    refine hK _ _ (h v' _ how Q hQ _ _ (he.put hd v') ?_)
    refine ⟨hi'.os, hi'.tape, hi'.output, hi'.size, fun p hp => ?_, List.pairwise_cons.2 ⟨fun p hp => ?_, (List.pairwise_cons.1 (List.pairwise_cons.1 hi'.dj).2).2⟩⟩
    · rcases List.mem_cons.1 hp with rfl | hp
      · exact mun_le (hi'.le (i, m') (.head _)) (hi'.le (j, mun m1 mj) (.tail _ (.head _)))
      · exact hi'.le p (.tail _ (.tail _ hp))
    · exact mdj_un ((List.pairwise_cons.1 hi'.dj).1 p (.tail _ hp)) ((List.pairwise_cons.1 (List.pairwise_cons.1 hi'.dj).2).1 p hp)

/-- All elements of a list of chunk j go behind a list of chunk i. -/
theorem VO.appOs {e : Ty} {s x : Operand} {t xt et xe : TypeId} {b dd : Nat} {v xv : Value} {xs ys : List e.Den} {z : List Value} (i j : Nat) {m mj : Mem} (hd : Nat.blt dd n = true) (hsv : ev σ s = some v) (hxv : ev σ x = some xv) (ht : tsl P t = some (et, e.sz, b)) (hz : tz P et = some z) (hzl : z.length = e.sz)
    (hm : cget Ω i = some m) (hj : cget (cdel Ω i) j = some mj) (hown : Ow (.sl e) m [v] xs) (hy : Ow (.sl e) mj [xv] ys) (hxt : P.underlying xt = some (.slice xe)) (hml : xs.length + ys.length ≤ maxLen) (hb : (xs.length + ys.length) * b ≤ 140737488355328) (hb0 : b ≠ 0)
    (h : ∀ v' m', Ow (.sl e) m' [v'] (xs ++ ys) → VO P n w0 ops r ((dd, v') :: σ) ((i, m') :: cdel (cdel Ω i) j) K) :
    VO P n w0 ops (⟨some dd, .call { callee := .builtin .append, args := [s, x].toArray, argTypes := [t, xt].toArray }, ty, pos, af, none⟩ :: r) σ Ω K :=
  fun Q hQ a W he hi => wpList_plain rfl fun K' hK => by
    obtain ⟨m0, m1, rc, hS, hA, hL⟩ := hown.opn
    obtain ⟨j0, j1, rj, hSj, hAj, hLj⟩ := hy.opn
    obtain ⟨q1, q2, q3, q4, _⟩ := hi.gets (ids := [i, j]) (l := [m, mj]) (by simp [cgets, hm, hj])
    have dmj : mdj m mj := by simpa using q1
    have d01 : mdj m0 m1 := by have := hS.2; simpa using this
    have l0 := hS.1 m0 (.head _)
    have l1 := hS.1 m1 (.tail _ (.head _))
    have lj0 := hSj.1 j0 (.head _)
    have lj1 := hSj.1 j1 (.tail _ (.head _))
    have d1j : mdj m1 j1 := dmj.mono l1 lj1
    have hnew : mdj m0 (mun m1 j1) := (mdj_un d01.symm (dmj.mono l0 lj1).symm).symm
    have hΩ2 : Inv w0 ((i, m0) :: (j, mun m1 j1) :: cdel (cdel Ω i) j) W := by
      have hdel : Inv w0 (cdel (cdel Ω i) j) W := q4
      have f1 : ∀ p ∈ cdel (cdel Ω i) j, mdj m p.2 := fun p hp => q3 m (.head _) p hp
      have f2 : ∀ p ∈ cdel (cdel Ω i) j, mdj mj p.2 := fun p hp => q3 mj (.tail _ (.head _)) p hp
      refine ⟨hi.os, hi.tape, hi.output, hi.size, fun p hp => ?_, List.pairwise_cons.2 ⟨fun p hp => ?_, List.pairwise_cons.2 ⟨fun p hp => ?_, hdel.dj⟩⟩⟩
      · rcases List.mem_cons.1 hp with rfl | hp
        · exact l0.trans (hi.at hm)
        · rcases List.mem_cons.1 hp with rfl | hp
          · exact mun_le (l1.trans (hi.at hm)) (lj1.trans (q2 mj (.tail _ (.head _))))
          · exact hdel.le p hp
      · rcases List.mem_cons.1 hp with rfl | hp
        · exact hnew
        · exact (f1 p hp).mono l0 (mle_refl _)
      · exact mdj_un ((f1 p hp).mono l1 (mle_refl _)) ((f2 p hp).mono lj1 (mle_refl _))
    have hsrc : SrcW P W e.sz xt xv ys.length rj := by
      refine ⟨⟨_, hxt, by simp⟩, hAj.len_eq, fun W' hW => ?_, fun W' => ?_⟩
      · by_cases h0 : ys.length = 0
        · obtain ⟨A, c, rfl, _⟩ := hAj.slice
          have : rj = [] := List.eq_nil_of_length_eq_zero (by rw [hAj.len_eq, h0]; simp)
          subst this
          rw [h0]
          cases A <;> simp [Builtin.firstCells, loadCells, loadCellsFrom]
        · obtain ⟨g, off, c, rfl, hc⟩ := hAj.cells h0
          refine firstCells_row (hc.mono fun q o ho => ?_)
          have := q2 mj (.tail _ (.head _)) q o (lj0 q o ho)
          unfold wm at this ⊢
          rw [hW]; exact this
      · obtain ⟨A, c, rfl, _⟩ := hAj.slice
        simp [Builtin.lenOf]
    refine app_wp (i := i) (m := m0) (m0 := m0) he hΩ2 hsv hxv ht hz hzl (by simp [cget]) (mle_refl _) hA hsrc (All2c.nice (hLj.rd (mle_refl _))) hml hb hb0 fun v' m' W' hA' hi' => ?_
    have hc' : cset ((i, m0) :: (j, mun m1 j1) :: cdel (cdel Ω i) j) i m' = (i, m') :: (j, mun m1 j1) :: cdel (cdel Ω i) j := by simp [cset]
    rw [hc'] at hi'
    have hdj : mdj m' (mun m1 j1) := (List.pairwise_cons.1 hi'.dj).1 _ (.head _)
    have hall : OwAll (Ow e) (mun m1 j1) (rc ++ rj) (xs ++ ys) := OwAll.app d1j (mle_un_left _ _) (mle_un_right d1j) hL hLj
    have how : Ow (.sl e) (mun m' (mun m1 j1)) [v'] (xs ++ ys) := ⟨v', m', mun m1 j1, rc ++ rj, rfl, hdj, mle_un_left _ _, mle_un_right hdj, by simpa using hA', hall⟩
    refine hK _ _ (h v' _ how Q hQ _ _ (he.put hd v') ?_)
    refine ⟨hi'.os, hi'.tape, hi'.output, hi'.size, fun p hp => ?_, List.pairwise_cons.2 ⟨fun p hp => ?_, (List.pairwise_cons.1 (List.pairwise_cons.1 hi'.dj).2).2⟩⟩
    · rcases List.mem_cons.1 hp with rfl | hp
      · exact mun_le (hi'.le (i, m') (.head _)) (hi'.le (j, mun m1 j1) (.tail _ (.head _)))
      · exact hi'.le p (.tail _ (.tail _ hp))
    · exact mdj_un ((List.pairwise_cons.1 hi'.dj).1 p (.tail _ hp)) ((List.pairwise_cons.1 (List.pairwise_cons.1 hi'.dj).2).1 p hp)
end
end Go.Proofs.Ytfaknkkaegjdaaa
