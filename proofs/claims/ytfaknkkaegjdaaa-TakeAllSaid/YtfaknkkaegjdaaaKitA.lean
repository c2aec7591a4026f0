/- Own library, part A: memory as chunks, the state of a walk, walks of regions and of code without frames and worlds. No program in sight. -/
import Derived.WalkKit
import Derived.OrdersHeld
import Derived.StillTail
import Derived.KernelRfl
namespace Go.Proofs.Ytfaknkkaegjdaaa

/-! ### Memory -/
abbrev Mem := Nat → Option Obj
def wm (w : World) : Mem := fun g => w.heap[g]?
def mle (m n : Mem) : Prop := ∀ g o, m g = some o → n g = some o
def mdj (m n : Mem) : Prop := ∀ g, m g = none ∨ n g = none
def mout (n m : Mem) : Mem := fun g => match m g with | some _ => none | none => n g
def mone (g : Nat) (o : Obj) : Mem := fun k => if k = g then some o else none
def mun (m n : Mem) : Mem := fun g => match m g with | some o => some o | none => n g
def mnil : Mem := fun _ => none

theorem mle_refl (m : Mem) : mle m m := fun _ _ h => h
theorem mle.trans {a b c : Mem} (h : mle a b) (k : mle b c) : mle a c := fun g o e => k g o (h g o e)
theorem mle_nil (m : Mem) : mle mnil m := fun _ _ h => by cases h
theorem mdj.symm {m n : Mem} (h : mdj m n) : mdj n m := fun g => (h g).symm
theorem mdj_nil (m : Mem) : mdj m mnil := fun _ => .inr rfl
theorem mdj_nil' (m : Mem) : mdj mnil m := fun _ => .inl rfl
theorem mdj.mono {m n m' n' : Mem} (h : mdj m n) (hm : mle m' m) (hn : mle n' n) : mdj m' n' := fun g => by
  rcases h g with h | h
  · left
    cases e : m' g with
    | none => rfl
    | some o => rw [hm g o e] at h; cases h
  · right
    cases e : n' g with
    | none => rfl
    | some o => rw [hn g o e] at h; cases h
theorem mle_un_left (m n : Mem) : mle m (mun m n) := fun g o h => by simp [mun, h]
theorem mle_un_right {m n : Mem} (h : mdj m n) : mle n (mun m n) := fun g o e => by
  rcases h g with h | h
  · simp [mun, h, e]
  · rw [h] at e; cases e
theorem mun_le {m n k : Mem} (hm : mle m k) (hn : mle n k) : mle (mun m n) k := fun g o e => by
  unfold mun at e
  split at e
  · rename_i o' h; exact hm g o (by rw [h, ← e])
  · exact hn g o e
theorem mdj_un {m n k : Mem} (hm : mdj m k) (hn : mdj n k) : mdj (mun m n) k := fun g => by
  rcases hm g with h | h
  · rcases hn g with h' | h'
    · exact .inl (by simp [mun, h, h'])
    · exact .inr h'
  · exact .inr h
theorem mout_le (n m : Mem) : mle (mout n m) n := fun g o h => by
  unfold mout at h
  split at h
  · cases h
  · exact h
theorem mdj_out (n m : Mem) : mdj (mout n m) m := fun g => by
  cases h : m g with
  | none => exact .inr rfl
  | some o => exact .inl (by simp [mout, h])
theorem mle_out {n m k : Mem} (h : mle k n) (hd : mdj k m) : mle k (mout n m) := fun g o e => by
  rcases hd g with h' | h'
  · rw [h'] at e; cases e
  · simp [mout, h', h g o e]
theorem mout_nil (n : Mem) : mout n mnil = n := rfl
theorem mone_le {g : Nat} {o : Obj} {m : Mem} (h : m g = some o) : mle (mone g o) m := fun k x e => by
  unfold mone at e
  split at e
  · rename_i hk; subst hk; rw [h, ← e]
  · cases e
theorem mone_self (g : Nat) (o : Obj) : mone g o g = some o := by simp [mone]
theorem mone_ne {g k : Nat} (o : Obj) (h : k ≠ g) : mone g o k = none := by simp [mone, h]

/-! ### The state -/
abbrev Ctx := List (Nat × Mem)
def cget : Ctx → Nat → Option Mem
  | [], _ => none
  | (i, m) :: r, j => cond (Nat.beq i j) (some m) (cget r j)
def cset : Ctx → Nat → Mem → Ctx
  | [], _, _ => []
  | (i, m) :: r, j, m' => cond (Nat.beq i j) ((i, m') :: r) ((i, m) :: cset r j m')
def cdel : Ctx → Nat → Ctx
  | [], _ => []
  | (i, m) :: r, j => cond (Nat.beq i j) r ((i, m) :: cdel r j)

structure Inv (w0 : World) (Ω : Ctx) (W : World) : Prop where
  os : W.os = w0.os
  tape : W.tape = w0.tape
  output : W.output = w0.output
  size : w0.heap.size ≤ W.heap.size
  le : ∀ p ∈ Ω, mle p.2 (wm W)
  dj : Ω.Pairwise (fun p q => mdj p.2 q.2)

theorem cget_mem : ∀ {Ω : Ctx} {i : Nat} {m : Mem}, cget Ω i = some m → (i, m) ∈ Ω
  | (j, n) :: r, i, m, h => by
    unfold cget at h
    cases hb : Nat.beq j i with
    | true =>
      rw [hb] at h
      have := Nat.eq_of_beq_eq_true hb
      subst this
      simp only [cond_true, Option.some.injEq] at h
      subst h
      exact .head _
    | false => rw [hb] at h; exact .tail _ (cget_mem h)

theorem Inv.at {w0 W : World} {Ω : Ctx} (h : Inv w0 Ω W) {i : Nat} {m : Mem} (hi : cget Ω i = some m) : mle m (wm W) := h.le _ (cget_mem hi)

theorem cset_mem : ∀ {Ω : Ctx} {i : Nat} {m' : Mem} {p : Nat × Mem}, p ∈ cset Ω i m' → p = (i, m') ∨ p ∈ cdel Ω i
  | (j, n) :: r, i, m', p, h => by
    unfold cset at h
    unfold cdel
    cases hb : Nat.beq j i with
    | true =>
      have := Nat.eq_of_beq_eq_true hb
      subst this
      rw [hb] at h
      simp only [cond_true, List.mem_cons] at h ⊢
      exact h
    | false =>
      rw [hb] at h
      simp only [cond_false, List.mem_cons] at h ⊢
      rcases h with h | h
      · exact .inr (.inl h)
      · exact (cset_mem h).imp id .inr

theorem cdel_mem : ∀ {Ω : Ctx} {i : Nat} {p : Nat × Mem}, p ∈ cdel Ω i → p ∈ Ω
  | (j, n) :: r, i, p, h => by
    unfold cdel at h
    cases hb : Nat.beq j i with
    | true => rw [hb] at h; exact .tail _ h
    | false =>
      rw [hb] at h
      rcases List.mem_cons.1 h with h | h
      · exact h ▸ .head _
      · exact .tail _ (cdel_mem h)

/-- The chunks besides number i: disjoint from it, pairwise disjoint. -/
theorem cdel_dj : ∀ {Ω : Ctx} {i : Nat} {m : Mem}, cget Ω i = some m → Ω.Pairwise (fun p q => mdj p.2 q.2) → (∀ p ∈ cdel Ω i, mdj m p.2) ∧ (cdel Ω i).Pairwise (fun p q => mdj p.2 q.2)
  | (j, n) :: r, i, m, hg, hp => by
    unfold cget at hg
    unfold cdel
    rw [List.pairwise_cons] at hp
    cases hb : Nat.beq j i with
    | true =>
      rw [hb] at hg
      simp only [cond_true, Option.some.injEq] at hg
      subst hg
      exact ⟨hp.1, hp.2⟩
    | false =>
      rw [hb] at hg
      obtain ⟨h1, h2⟩ := cdel_dj hg hp.2
      refine ⟨fun p hm => ?_, ?_⟩
      · rcases List.mem_cons.1 hm with rfl | hm
        · exact (hp.1 _ (cget_mem hg)).symm
        · exact h1 p hm
      · exact List.pairwise_cons.2 ⟨fun p hm => hp.1 p (cdel_mem hm), h2⟩

theorem cset_dj : ∀ {Ω : Ctx} {i : Nat} {m' : Mem}, (∀ p ∈ cdel Ω i, mdj m' p.2) → (cdel Ω i).Pairwise (fun p q => mdj p.2 q.2) → (cset Ω i m').Pairwise (fun p q => mdj p.2 q.2)
  | [], _, _, _, _ => .nil
  | (j, n) :: r, i, m', h1, h2 => by
    unfold cdel at h1 h2
    unfold cset
    cases hb : Nat.beq j i with
    | true =>
      rw [hb] at h1 h2
      exact List.pairwise_cons.2 ⟨h1, h2⟩
    | false =>
      rw [hb] at h1 h2
      simp only [cond_false] at h1 h2 ⊢
      rw [List.pairwise_cons] at h2
      refine List.pairwise_cons.2 ⟨fun p hm => ?_, cset_dj (fun p hm => h1 p (.tail _ hm)) h2.2⟩
      rcases cset_mem hm with rfl | hm
      · exact (h1 _ (.head _)).symm
      · exact h2.1 p hm

/-- Chunk i is replaced: the world has changed in it and in new blocks alone. -/
theorem Inv.set {w0 W W' : World} {Ω : Ctx} (h : Inv w0 Ω W) {i : Nat} {m m' : Mem} (hi : cget Ω i = some m)
    (ho : W'.os = W.os) (ht : W'.tape = W.tape) (hu : W'.output = W.output) (hs : W.heap.size ≤ W'.heap.size)
    (hk : mle (mout (wm W) m) (wm W')) (hl : mle m' (wm W')) (hf : ∀ g, m' g = none ∨ m g ≠ none ∨ W.heap.size ≤ g) : Inv w0 (cset Ω i m') W' := by
  obtain ⟨h1, h2⟩ := cdel_dj hi h.dj
  have hfar : ∀ p ∈ cdel Ω i, mdj m' p.2 := fun p hp g => by
    rcases hf g with h' | h' | h'
    · exact .inl h'
    · exact .inr ((h1 p hp g).resolve_left h')
    · right
      cases e : p.2 g with
      | none => rfl
      | some o =>
        have := h.le p (cdel_mem hp) g o e
        simp [wm, Array.getElem?_eq_none h'] at this
  refine ⟨ho.trans h.os, ht.trans h.tape, hu.trans h.output, Nat.le_trans h.size hs, fun p hp => ?_, cset_dj hfar h2⟩
  rcases cset_mem hp with rfl | hp
  · exact hl
  · exact (mle_out (h.le p (cdel_mem hp)) (h1 p hp).symm).trans hk

/-- A new chunk: the world has changed in new blocks alone. -/
theorem Inv.new {w0 W W' : World} {Ω : Ctx} (h : Inv w0 Ω W) (i : Nat) {m' : Mem}
    (ho : W'.os = W.os) (ht : W'.tape = W.tape) (hu : W'.output = W.output) (hs : W.heap.size ≤ W'.heap.size)
    (hk : mle (wm W) (wm W')) (hl : mle m' (wm W')) (hf : ∀ g, m' g = none ∨ W.heap.size ≤ g) : Inv w0 ((i, m') :: Ω) W' := by
  refine ⟨ho.trans h.os, ht.trans h.tape, hu.trans h.output, Nat.le_trans h.size hs, fun p hp => ?_, List.pairwise_cons.2 ⟨fun p hp g => ?_, h.dj⟩⟩
  · rcases List.mem_cons.1 hp with rfl | hp
    · exact hl
    · exact (h.le p hp).trans hk
  · rcases hf g with h' | h'
    · exact .inl h'
    · right
      cases e : p.2 g with
      | none => rfl
      | some o =>
        have := h.le p hp g o e
        simp [wm, Array.getElem?_eq_none h'] at this

theorem Inv.keep {w0 W W' : World} {Ω : Ctx} (h : Inv w0 Ω W) (ho : W'.os = W.os) (ht : W'.tape = W.tape) (hu : W'.output = W.output) (hs : W.heap.size ≤ W'.heap.size)
    (hk : mle (wm W) (wm W')) : Inv w0 Ω W' :=
  ⟨ho.trans h.os, ht.trans h.tape, hu.trans h.output, Nat.le_trans h.size hs, fun p hp => (h.le p hp).trans hk, h.dj⟩

theorem Inv.drew {w0 W : World} {Ω : Ctx} (h : Inv w0 Ω W) : Inv w0 Ω W.drew := ⟨h.os, h.tape, h.output, h.size, h.le, h.dj⟩

/-- Fewer chunks, by number. -/
def csub (Ω : Ctx) : List Nat → Ctx
  | [] => []
  | i :: r => match cget Ω i with
    | some m => (i, m) :: csub (cdel Ω i) r
    | none => csub Ω r
theorem csub_mem : ∀ {l : List Nat} {Ω : Ctx} {p : Nat × Mem}, p ∈ csub Ω l → p ∈ Ω
  | i :: r, Ω, p, h => by
    unfold csub at h
    split at h
    · rename_i m hm
      rcases List.mem_cons.1 h with rfl | h
      · exact cget_mem hm
      · exact cdel_mem (csub_mem h)
    · exact csub_mem h
theorem csub_dj : ∀ {l : List Nat} {Ω : Ctx}, Ω.Pairwise (fun p q => mdj p.2 q.2) → (csub Ω l).Pairwise (fun p q => mdj p.2 q.2)
  | [], _, _ => .nil
  | i :: r, Ω, h => by
    unfold csub
    split
    · rename_i m hm
      obtain ⟨h1, h2⟩ := cdel_dj hm h
      exact List.pairwise_cons.2 ⟨fun p hp => h1 p (csub_mem hp), csub_dj h2⟩
    · exact csub_dj h
theorem Inv.sub {w0 W : World} {Ω : Ctx} (h : Inv w0 Ω W) (l : List Nat) : Inv w0 (csub Ω l) W :=
  ⟨h.os, h.tape, h.output, h.size, fun p hp => h.le p (csub_mem hp), csub_dj h.dj⟩

/-- Chunk j is joined to chunk i. -/
theorem Inv.join {w0 W : World} {Ω : Ctx} (h : Inv w0 Ω W) {i j : Nat} {m n : Mem} (hi : cget Ω i = some m) (hj : cget (cdel Ω i) j = some n) :
    Inv w0 ((i, mun m n) :: cdel (cdel Ω i) j) W := by
  obtain ⟨h1, h2⟩ := cdel_dj hi h.dj
  obtain ⟨h3, h4⟩ := cdel_dj hj h2
  refine ⟨h.os, h.tape, h.output, h.size, fun p hp => ?_, List.pairwise_cons.2 ⟨fun p hp => mdj_un (h1 p (cdel_mem hp)) (h3 p hp), h4⟩⟩
  rcases List.mem_cons.1 hp with rfl | hp
  · exact mun_le (h.at hi) (h.le _ (cdel_mem (cget_mem hj)))
  · exact h.le p (cdel_mem (cdel_mem hp))
theorem Inv.dj_of {w0 W : World} {Ω : Ctx} (h : Inv w0 Ω W) {i j : Nat} {m n : Mem} (hi : cget Ω i = some m) (hj : cget (cdel Ω i) j = some n) : mdj m n :=
  (cdel_dj hi h.dj).1 _ (cget_mem hj)

/-! ### The frame -/
abbrev Env := List (Nat × Value)
def eget : Env → Nat → Option Value
  | [], _ => none
  | (u, v) :: r, t => cond (Nat.beq u t) (some v) (eget r t)
def ev (σ : Env) : Operand → Option Value
  | .tmp t => eget σ t
  | .const v => some v
  | .global g => some (.pointer (some ⟨g, 0, none⟩))
  | .func f => some (.func (.func f) #[] #[])
def evs (σ : Env) : List Operand → Option (List Value)
  | [] => some []
  | x :: r => match ev σ x, evs σ r with
    | some v, some vs => some (v :: vs)
    | _, _ => none

structure EnvOk (n : Nat) (σ : Env) (a : Act) : Prop where
  size : a.tmps.size = n
  defers : a.defers = []
  get : ∀ t v, eget σ t = some v → a.tmps.getD t undef = v

theorem EnvOk.eval {n : Nat} {σ : Env} {a : Act} (h : EnvOk n σ a) {x : Operand} {v : Value} (hx : ev σ x = some v) : a.eval x = v := by
  cases x with
  | tmp t => exact h.get t v hx
  | const c => simpa [ev, Act.eval] using hx
  | global g => simpa [ev, Act.eval] using hx
  | func f => simpa [ev, Act.eval] using hx

theorem EnvOk.evals {n : Nat} {σ : Env} {a : Act} (h : EnvOk n σ a) : ∀ {xs : List Operand} {vs : List Value}, evs σ xs = some vs → xs.map a.eval = vs
  | [], vs, hx => by simp [evs] at hx; simp [hx]
  | x :: r, vs, hx => by
    unfold evs at hx
    split at hx
    · rename_i v vs' h1 h2
      simp only [Option.some.injEq] at hx
      subst hx
      rw [List.map_cons, h.eval h1, h.evals h2]
    · cases hx

theorem EnvOk.put {n : Nat} {σ : Env} {a : Act} (h : EnvOk n σ a) {d : Nat} (hd : Nat.blt d n = true) (v : Value) : EnvOk n ((d, v) :: σ) (a.put (some d) v) := by
  have hlt : d < a.tmps.size := by rw [h.size]; simpa using hd
  refine ⟨by simp [Act.put, h.size], h.defers, fun t u e => ?_⟩
  unfold eget at e
  cases hb : Nat.beq d t with
  | true =>
    have := Nat.eq_of_beq_eq_true hb
    subst this
    rw [hb] at e
    simp only [cond_true, Option.some.injEq] at e
    subst e
    simp [Act.put, hlt]
  | false =>
    rw [hb] at e
    have hne : d ≠ t := Nat.ne_of_beq_eq_false hb
    have := h.get t u e
    simpa [Act.put, Array.getElem?_setIfInBounds_ne hne] using this

/-- Every row of σ' stands in σ. -/
def esub : Env → Env → Prop
  | [], _ => True
  | (t, v) :: r, σ => eget σ t = some v ∧ esub r σ
theorem esub_get : ∀ {σ' σ : Env} {t : Nat} {v : Value}, esub σ' σ → eget σ' t = some v → eget σ t = some v
  | (u, x) :: r, σ, t, v, h, e => by
    unfold eget at e
    cases hb : Nat.beq u t with
    | true =>
      have := Nat.eq_of_beq_eq_true hb
      subst this
      rw [hb] at e
      simp only [cond_true, Option.some.injEq] at e
      exact e ▸ h.1
    | false => rw [hb] at e; exact esub_get h.2 e
theorem EnvOk.sub {n : Nat} {σ σ' : Env} {a : Act} (h : EnvOk n σ a) (hs : esub σ' σ) : EnvOk n σ' a :=
  ⟨h.size, h.defers, fun t v e => h.get t v (esub_get hs e)⟩
theorem EnvOk.mono {n : Nat} {σ σ' : Env} {a : Act} (h : EnvOk n σ a) (hs : ∀ t v, eget σ' t = some v → eget σ t = some v) : EnvOk n σ' a :=
  ⟨h.size, h.defers, fun t v e => h.get t v (hs t v e)⟩
/-- The rows of these slots. -/
def eres (σ : Env) : List Nat → Env
  | [] => []
  | t :: r => match eget σ t with
    | some v => (t, v) :: eres σ r
    | none => eres σ r
theorem eres_sub : ∀ (σ : Env) (l : List Nat), esub (eres σ l) σ
  | _, [] => trivial
  | σ, t :: r => by
    unfold eres
    split
    · rename_i v h; exact ⟨h, eres_sub σ r⟩
    · exact eres_sub σ r

/-! ### Operations -/
section
variable (P : Program) (n : Nat) (w0 : World)

/-- In every such state the operation yields v and leaves the world as it is. -/
def Yld (σ : Env) (Ω : Ctx) (o : Oper) (v : Value) : Prop := ∀ a W, EnvOk n σ a → Inv w0 Ω W → (execOp a.eval o).run P W = .ok (.value v) W

/-- The operation ends with some value and in some state of which Φ holds. -/
def Stp (σ : Env) (Ω : Ctx) (o : Oper) (Φ : Value → Ctx → Prop) : Prop :=
  ∀ a W, EnvOk n σ a → Inv w0 Ω W → ∀ (K : Act → World → Prop) (Q : Exit → Act → World → Prop), (∀ v Ω' W', Φ v Ω' → Inv w0 Ω' W' → K (a.put o.dst v) W') → o.wp P a W K Q

/-- A list of operations, one behind the other. -/
def VO (ops : Array Oper) (l : List Oper) (σ : Env) (Ω : Ctx) (K : Env → Ctx → Prop) : Prop :=
  ∀ Q : Exit → Act → World → Prop, (∀ σ' Ω' a W, K σ' Ω' → EnvOk n σ' a → Inv w0 Ω' W → Q .normal a W) → ∀ a W, EnvOk n σ a → Inv w0 Ω W → wpList P ops Q l a W

/-- Code. R: what is asked at each way out. -/
def VC (c : Code) (R : Exit → Env → Ctx → Prop) (σ : Env) (Ω : Ctx) : Prop :=
  ∀ Q : Exit → Act → World → Prop, (∀ e σ' Ω' a W, R e σ' Ω' → EnvOk n σ' a → Inv w0 Ω' W → Q e a W) → ∀ a W, EnvOk n σ a → Inv w0 Ω W → c.wp P Q a W
end

section
variable {P : Program} {n : Nat} {w0 : World} {σ : Env} {Ω : Ctx} {ops : Array Oper} {K : Env → Ctx → Prop} {R : Exit → Env → Ctx → Prop}

theorem VO.nil (h : K σ Ω) : VO P n w0 ops [] σ Ω K := fun _ hQ a W he hi => wpList_nil (hQ σ Ω a W h he hi)
/-- Only these slots are kept. -/
theorem VO.drop (l : List Nat) {r : List Oper} (h : VO P n w0 ops r (eres σ l) Ω K) : VO P n w0 ops r σ Ω K :=
  fun Q hQ a W he hi => h Q hQ a W (he.sub (eres_sub σ l)) hi
theorem VO.esub {r : List Oper} (σ' : Env) (hs : esub σ' σ) (h : VO P n w0 ops r σ' Ω K) : VO P n w0 ops r σ Ω K :=
  fun Q hQ a W he hi => h Q hQ a W (he.sub hs) hi
theorem VO.inv {r : List Oper} (Ω' : Ctx) (hs : ∀ W, Inv w0 Ω W → Inv w0 Ω' W) (h : VO P n w0 ops r σ Ω' K) : VO P n w0 ops r σ Ω K :=
  fun Q hQ a W he hi => h Q hQ a W he (hs W hi)
/-- A fact that holds of every such state. -/
theorem VO.fact {r : List Oper} {p : Prop} (hp : ∀ W, Inv w0 Ω W → p) (h : p → VO P n w0 ops r σ Ω K) : VO P n w0 ops r σ Ω K :=
  fun Q hQ a W he hi => h (hp W hi) Q hQ a W he hi

theorem VO.y {r : List Oper} {d : Nat} {op : Op} {ty : TypeId} {pos : String} {af : Array Edge} {v : Value} (hd : Nat.blt d n = true)
    (hy : Yld P n w0 σ Ω ⟨some d, op, ty, pos, af, none⟩ v) (h : VO P n w0 ops r ((d, v) :: σ) Ω K) : VO P n w0 ops (⟨some d, op, ty, pos, af, none⟩ :: r) σ Ω K :=
  fun Q hQ a W he hi => wpList_plain rfl fun K' hK => by
    unfold Oper.wp
    rw [hy a W he hi]
    exact hK _ _ (h Q hQ _ _ (he.put hd v) hi)
theorem VO.s {r : List Oper} {d : Nat} {op : Op} {ty : TypeId} {pos : String} {af : Array Edge} {Φ : Value → Ctx → Prop} (hd : Nat.blt d n = true)
    (hs : Stp P n w0 σ Ω ⟨some d, op, ty, pos, af, none⟩ Φ) (h : ∀ v Ω', Φ v Ω' → VO P n w0 ops r ((d, v) :: σ) Ω' K) : VO P n w0 ops (⟨some d, op, ty, pos, af, none⟩ :: r) σ Ω K :=
  fun Q hQ a W he hi => wpList_plain rfl fun K' hK => hs a W he hi K' Q fun v Ω' _ hv hi' => hK _ _ (h v Ω' hv Q hQ _ _ (he.put hd v) hi')
theorem VO.u {r : List Oper} {op : Op} {ty : TypeId} {pos : String} {af : Array Edge} {Φ : Value → Ctx → Prop}
    (hs : Stp P n w0 σ Ω ⟨none, op, ty, pos, af, none⟩ Φ) (h : ∀ v Ω', Φ v Ω' → VO P n w0 ops r σ Ω' K) : VO P n w0 ops (⟨none, op, ty, pos, af, none⟩ :: r) σ Ω K :=
  fun Q hQ a W he hi => wpList_plain rfl fun K' hK => hs a W he hi K' Q fun v Ω' _ hv hi' => hK _ _ (h v Ω' hv Q hQ _ _ he hi')

/-- What a guard's operation has yielded. -/
def gyes (σ : Env) (ops : Array Oper) (j : Nat) (b : Bool) : Prop := ∃ d, (ops[j]?).bind (·.dst) = some d ∧ eget σ d = some (.bool b)
def gund (σ : Env) (ops : Array Oper) (j : Nat) : Prop := ∃ d, (ops[j]?).bind (·.dst) = some d ∧ eget σ d = some undef

theorem getD_some {xs : Array Value} {d : Nat} {v : Value} (h : xs.getD d undef = v) (hv : v ≠ undef) : xs[d]? = some v := by
  rcases Nat.lt_or_ge d xs.size with hl | hl
  · rw [Array.getElem?_eq_getElem hl]; simpa [Array.getD, hl] using h
  · simp [Array.getD, Nat.not_lt.2 hl] at h; exact absurd h.symm hv

theorem yielded_of {a : Act} {j : Nat} {b : Bool} (he : EnvOk n σ a) (h : gyes σ ops j b) : yielded ops a.tmps j = some b := by
  obtain ⟨d, h1, h2⟩ := h
  have := getD_some (he.get d _ h2) (by simp [undef])
  simp [yielded, h1, this]
theorem yielded_und {a : Act} {j : Nat} (he : EnvOk n σ a) (h : gund σ ops j) : yielded ops a.tmps j = none := by
  obtain ⟨d, h1, h2⟩ := h
  have h3 := he.get d _ h2
  unfold yielded
  rw [h1]
  show (match a.tmps[d]? with | some (.bool b) => some b | _ => none) = none
  rcases Nat.lt_or_ge d a.tmps.size with hl | hl
  · rw [Array.getElem?_eq_getElem hl]
    simp only [Array.getD, hl, dif_pos] at h3
    rw [show a.tmps[d] = undef from h3]
    rfl
  · rw [Array.getElem?_eq_none hl]

/-- The guard says yes. -/
theorem VO.gy {r : List Oper} {d : Nat} {op : Op} {ty : TypeId} {pos : String} {af : Array Edge} {j : Nat} {b : Bool} {v : Value} (hd : Nat.blt d n = true) (hg : gyes σ ops j b)
    (hy : Yld P n w0 σ Ω ⟨some d, op, ty, pos, af, some (j, b)⟩ v) (h : VO P n w0 ops r ((d, v) :: σ) Ω K) : VO P n w0 ops (⟨some d, op, ty, pos, af, some (j, b)⟩ :: r) σ Ω K :=
  fun Q hQ a W he hi => wpList_step fun K' hK => by
    rw [if_pos (by simp [Region.wanted, yielded_of he hg])]
    unfold Oper.wp
    rw [hy a W he hi]
    exact hK _ _ (h Q hQ _ _ (he.put hd v) hi)
theorem VO.gs {r : List Oper} {d : Nat} {op : Op} {ty : TypeId} {pos : String} {af : Array Edge} {j : Nat} {b : Bool} {Φ : Value → Ctx → Prop} (hd : Nat.blt d n = true) (hg : gyes σ ops j b)
    (hs : Stp P n w0 σ Ω ⟨some d, op, ty, pos, af, some (j, b)⟩ Φ) (h : ∀ v Ω', Φ v Ω' → VO P n w0 ops r ((d, v) :: σ) Ω' K) : VO P n w0 ops (⟨some d, op, ty, pos, af, some (j, b)⟩ :: r) σ Ω K :=
  fun Q hQ a W he hi => wpList_step fun K' hK => by
    rw [if_pos (by simp [Region.wanted, yielded_of he hg])]
    exact hs a W he hi K' Q fun v Ω' W' hv hi' => hK _ _ (h v Ω' hv Q hQ _ _ (he.put hd v) hi')
/-- The guard says no. -/
theorem VO.gn {r : List Oper} {d : Nat} {op : Op} {ty : TypeId} {pos : String} {af : Array Edge} {j : Nat} {b : Bool} (hd : Nat.blt d n = true) (hg : gyes σ ops j (!b) ∨ gund σ ops j)
    (h : VO P n w0 ops r ((d, undef) :: σ) Ω K) : VO P n w0 ops (⟨some d, op, ty, pos, af, some (j, b)⟩ :: r) σ Ω K :=
  fun Q hQ a W he hi => wpList_step fun K' hK => by
    have : yielded ops a.tmps j ≠ some b := by
      rcases hg with hg | hg
      · rw [yielded_of he hg]; cases b <;> simp
      · rw [yielded_und he hg]; simp
    rw [if_neg (by simpa [Region.wanted] using this)]
    exact hK _ _ (h Q hQ _ _ (he.put hd _) hi)

theorem EnvOk.dup {a : Act} {t : Nat} {v : Value} (he : EnvOk n σ a) (ht : eget σ t = some v) : EnvOk n ((t, v) :: σ) a := by
  refine he.mono fun u x e => ?_
  unfold eget at e
  cases hb' : Nat.beq t u with
  | true =>
    have := Nat.eq_of_beq_eq_true hb'
    subst this
    rw [hb'] at e
    simp only [cond_true, Option.some.injEq] at e
    rw [ht, e]
  | false => rw [hb'] at e; exact e
/-- A truth value in a slot is decided. -/
theorem VO.dec {r : List Oper} {t : Nat} {p : Prop} [Decidable p] (ht : eget σ t = some (.bool (decide p))) (h1 : p → VO P n w0 ops r ((t, .bool true) :: σ) Ω K)
    (h2 : ¬ p → VO P n w0 ops r ((t, .bool false) :: σ) Ω K) : VO P n w0 ops r σ Ω K := fun Q hQ a W he hi => by
  by_cases hp : p
  · exact h1 hp Q hQ a W (he.dup (by rw [ht, decide_eq_true hp])) hi
  · exact h2 hp Q hQ a W (he.dup (by rw [ht, decide_eq_false hp])) hi
/-- A value in a slot is known to be another one. -/
theorem VO.rw {r : List Oper} {t : Nat} {v : Value} (v' : Value) (ht : eget σ t = some v) (hv : v = v') (h : VO P n w0 ops r ((t, v') :: σ) Ω K) : VO P n w0 ops r σ Ω K :=
  fun Q hQ a W he hi => h Q hQ a W (he.dup (by rw [ht, hv])) hi
end
end Go.Proofs.Ytfaknkkaegjdaaa
