/- Part 1 of the proof of LStoreAgain: what it needs of the library, the walks and the plain laws. Conditions: those named in each theorem. -/
import Derived.WalkKit
import Derived.OrdersHeld
import Derived.StillTail
import Derived.KernelRfl
import Derived.Deep.LoopGhost
import Derived.MapKept
import Derived.ProofKit
import Derived.OpenShut
import Derived.Carry
import Derived.LoopN
import Derived.Laws.MakeOwn
import Derived.Test.YtonbpfncmlijnaaGreatChecked
import Derived.Scope
import Derived.Shelf.SlIter.Sorted
import Derived.StringKeys
import Derived.Below
import Derived.RangeFuncSeq
import Derived.LoopIn
import Derived.LoopNIn
import Derived.Shelf.SlIter.Nil
import Derived.Shelf.SortM.Plain
import Derived.Shelf.SortM.SortNone
import Derived.Ground.GgzProg
import Derived.Ground.SlgmProg
import Derived.Test.YtonbpfncmlijnaaGreatFacts
set_option linter.unusedVariables false
set_option linter.unusedSimpArgs false
set_option maxRecDepth 4000
namespace Go.Proofs.YtonbpfncmlijnaaGreat
abbrev Mem := Nat → Option Obj
def wm (w : World) : Mem := fun g => w.heap[g]?
def mle (m n : Mem) : Prop := ∀ g o, m g = some o → n g = some o
def mdj (m n : Mem) : Prop := ∀ g, m g = none ∨ n g = none
def mout (n m : Mem) : Mem := fun g => match m g with | some _ => none | none => n g
def mone (g : Nat) (o : Obj) : Mem := fun k => if k = g then some o else none
def mun (m n : Mem) : Mem := fun g => match m g with | some o => some o | none => n g
def mnil : Mem := fun _ => none
theorem mle_refl (m : Mem) : mle m m := fun _ _ h => h
theorem mle.trans {a b c : Mem} (h : mle a b) (k : mle b c) : mle a c := fun g o e => k g o (h g o e)
theorem mle_nil (m : Mem) : mle mnil m := fun _ _ h => by cases h
theorem mdj.symm {m n : Mem} (h : mdj m n) : mdj n m := fun g => (h g).symm
theorem mdj_nil (m : Mem) : mdj m mnil := fun _ => .inr rfl
theorem mdj_nil' (m : Mem) : mdj mnil m := fun _ => .inl rfl
theorem mdj.mono {m n m' n' : Mem} (h : mdj m n) (hm : mle m' m) (hn : mle n' n) : mdj m' n' := fun g => by
  rcases h g with h | h
  · left
    cases e : m' g with
    | none => rfl
    | some o => rw [hm g o e] at h; cases h
  · right
    cases e : n' g with
    | none => rfl
    | some o => rw [hn g o e] at h; cases h
theorem mle_un_left (m n : Mem) : mle m (mun m n) := fun g o h => by simp [mun, h]
theorem mle_un_right {m n : Mem} (h : mdj m n) : mle n (mun m n) := fun g o e => by
  rcases h g with h | h
  · simp [mun, h, e]
  · rw [h] at e; cases e
theorem mun_le {m n k : Mem} (hm : mle m k) (hn : mle n k) : mle (mun m n) k := fun g o e => by
  unfold mun at e
  split at e
  · rename_i o' h; exact hm g o (by rw [h, ← e])
  · exact hn g o e
theorem mdj_un {m n k : Mem} (hm : mdj m k) (hn : mdj n k) : mdj (mun m n) k := fun g => by
  rcases hm g with h | h
  · rcases hn g with h' | h'
    · exact .inl (by simp [mun, h, h'])
    · exact .inr h'
  · exact .inr h
theorem mout_le (n m : Mem) : mle (mout n m) n := fun g o h => by
  unfold mout at h
  split at h
  · cases h
  · exact h
theorem mdj_out (n m : Mem) : mdj (mout n m) m := fun g => by
  cases h : m g with
  | none => exact .inr rfl
  | some o => exact .inl (by simp [mout, h])
theorem mle_out {n m k : Mem} (h : mle k n) (hd : mdj k m) : mle k (mout n m) := fun g o e => by
  rcases hd g with h' | h'
  · rw [h'] at e; cases e
  · simp [mout, h', h g o e]
theorem mout_nil (n : Mem) : mout n mnil = n := rfl
theorem mone_le {g : Nat} {o : Obj} {m : Mem} (h : m g = some o) : mle (mone g o) m := fun k x e => by
  unfold mone at e
  split at e
  · rename_i hk; subst hk; rw [h, ← e]
  · cases e
theorem mone_self (g : Nat) (o : Obj) : mone g o g = some o := by simp [mone]
theorem mone_ne {g k : Nat} (o : Obj) (h : k ≠ g) : mone g o k = none := by simp [mone, h]
abbrev Ctx := List (Nat × Mem)
def cget : Ctx → Nat → Option Mem
  | [], _ => none
  | (i, m) :: r, j => cond (Nat.beq i j) (some m) (cget r j)
def cset : Ctx → Nat → Mem → Ctx
  | [], _, _ => []
  | (i, m) :: r, j, m' => cond (Nat.beq i j) ((i, m') :: r) ((i, m) :: cset r j m')
def cdel : Ctx → Nat → Ctx
  | [], _ => []
  | (i, m) :: r, j => cond (Nat.beq i j) r ((i, m) :: cdel r j)
structure Inv (w0 : World) (Ω : Ctx) (W : World) : Prop where
  os : W.os = w0.os
  tape : W.tape = w0.tape
  output : W.output = w0.output
  size : w0.heap.size ≤ W.heap.size
  le : ∀ p ∈ Ω, mle p.2 (wm W)
  dj : Ω.Pairwise (fun p q => mdj p.2 q.2)
theorem cget_mem : ∀ {Ω : Ctx} {i : Nat} {m : Mem}, cget Ω i = some m → (i, m) ∈ Ω
  | (j, n) :: r, i, m, h => by
    unfold cget at h
    cases hb : Nat.beq j i with
    | true =>
      rw [hb] at h
      have := Nat.eq_of_beq_eq_true hb
      subst this
      simp only [cond_true, Option.some.injEq] at h
      subst h
      exact .head _
    | false => rw [hb] at h; exact .tail _ (cget_mem h)
theorem Inv.at {w0 W : World} {Ω : Ctx} (h : Inv w0 Ω W) {i : Nat} {m : Mem} (hi : cget Ω i = some m) : mle m (wm W) := h.le _ (cget_mem hi)
theorem cset_mem : ∀ {Ω : Ctx} {i : Nat} {m' : Mem} {p : Nat × Mem}, p ∈ cset Ω i m' → p = (i, m') ∨ p ∈ cdel Ω i
  | (j, n) :: r, i, m', p, h => by
    unfold cset at h
    unfold cdel
    cases hb : Nat.beq j i with
    | true =>
      have := Nat.eq_of_beq_eq_true hb
      subst this
      rw [hb] at h
      simp only [cond_true, List.mem_cons] at h ⊢
      exact h
    | false =>
      rw [hb] at h
      simp only [cond_false, List.mem_cons] at h ⊢
      rcases h with h | h
      · exact .inr (.inl h)
      · exact (cset_mem h).imp id .inr
theorem cdel_mem : ∀ {Ω : Ctx} {i : Nat} {p : Nat × Mem}, p ∈ cdel Ω i → p ∈ Ω
  | (j, n) :: r, i, p, h => by
    unfold cdel at h
    cases hb : Nat.beq j i with
    | true => rw [hb] at h; exact .tail _ h
    | false =>
      rw [hb] at h
      rcases List.mem_cons.1 h with h | h
      · exact h ▸ .head _
      · exact .tail _ (cdel_mem h)
/-- The chunks besides number i: disjoint from it, pairwise disjoint. -/
theorem cdel_dj : ∀ {Ω : Ctx} {i : Nat} {m : Mem}, cget Ω i = some m → Ω.Pairwise (fun p q => mdj p.2 q.2) → (∀ p ∈ cdel Ω i, mdj m p.2) ∧ (cdel Ω i).Pairwise (fun p q => mdj p.2 q.2)
  | (j, n) :: r, i, m, hg, hp => by
    unfold cget at hg
    unfold cdel
    rw [List.pairwise_cons] at hp
    cases hb : Nat.beq j i with
    | true =>
      rw [hb] at hg
      simp only [cond_true, Option.some.injEq] at hg
      subst hg
      exact ⟨hp.1, hp.2⟩
    | false =>
      rw [hb] at hg
      obtain ⟨h1, h2⟩ := cdel_dj hg hp.2
      refine ⟨fun p hm => ?_, ?_⟩
      · rcases List.mem_cons.1 hm with rfl | hm
        · exact (hp.1 _ (cget_mem hg)).symm
        · exact h1 p hm
      · exact List.pairwise_cons.2 ⟨fun p hm => hp.1 p (cdel_mem hm), h2⟩
theorem cset_dj : ∀ {Ω : Ctx} {i : Nat} {m' : Mem}, (∀ p ∈ cdel Ω i, mdj m' p.2) → (cdel Ω i).Pairwise (fun p q => mdj p.2 q.2) → (cset Ω i m').Pairwise (fun p q => mdj p.2 q.2)
  | [], _, _, _, _ => .nil
  | (j, n) :: r, i, m', h1, h2 => by
    unfold cdel at h1 h2
    unfold cset
    cases hb : Nat.beq j i with
    | true =>
      rw [hb] at h1 h2
      exact List.pairwise_cons.2 ⟨h1, h2⟩
    | false =>
      rw [hb] at h1 h2
      simp only [cond_false] at h1 h2 ⊢
      rw [List.pairwise_cons] at h2
      refine List.pairwise_cons.2 ⟨fun p hm => ?_, cset_dj (fun p hm => h1 p (.tail _ hm)) h2.2⟩
      rcases cset_mem hm with rfl | hm
      · exact (h1 _ (.head _)).symm
      · exact h2.1 p hm
/-- Chunk i is replaced: the world has changed in it and in new blocks alone. -/
theorem Inv.set {w0 W W' : World} {Ω : Ctx} (h : Inv w0 Ω W) {i : Nat} {m m' : Mem} (hi : cget Ω i = some m)
    (ho : W'.os = W.os) (ht : W'.tape = W.tape) (hu : W'.output = W.output) (hs : W.heap.size ≤ W'.heap.size)
    (hk : mle (mout (wm W) m) (wm W')) (hl : mle m' (wm W')) (hf : ∀ g, m' g = none ∨ m g ≠ none ∨ W.heap.size ≤ g) : Inv w0 (cset Ω i m') W' := by
  obtain ⟨h1, h2⟩ := cdel_dj hi h.dj
  have hfar : ∀ p ∈ cdel Ω i, mdj m' p.2 := fun p hp g => by
    rcases hf g with h' | h' | h'
    · exact .inl h'
    · exact .inr ((h1 p hp g).resolve_left h')
    · right
      cases e : p.2 g with
      | none => rfl
      | some o =>
        have := h.le p (cdel_mem hp) g o e
        simp [wm, Array.getElem?_eq_none h'] at this
  refine ⟨ho.trans h.os, ht.trans h.tape, hu.trans h.output, Nat.le_trans h.size hs, fun p hp => ?_, cset_dj hfar h2⟩
  rcases cset_mem hp with rfl | hp
  · exact hl
  · exact (mle_out (h.le p (cdel_mem hp)) (h1 p hp).symm).trans hk
/-- A new chunk: the world has changed in new blocks alone. -/
theorem Inv.new {w0 W W' : World} {Ω : Ctx} (h : Inv w0 Ω W) (i : Nat) {m' : Mem}
    (ho : W'.os = W.os) (ht : W'.tape = W.tape) (hu : W'.output = W.output) (hs : W.heap.size ≤ W'.heap.size)
    (hk : mle (wm W) (wm W')) (hl : mle m' (wm W')) (hf : ∀ g, m' g = none ∨ W.heap.size ≤ g) : Inv w0 ((i, m') :: Ω) W' := by
  refine ⟨ho.trans h.os, ht.trans h.tape, hu.trans h.output, Nat.le_trans h.size hs, fun p hp => ?_, List.pairwise_cons.2 ⟨fun p hp g => ?_, h.dj⟩⟩
  · rcases List.mem_cons.1 hp with rfl | hp
    · exact hl
    · exact (h.le p hp).trans hk
  · rcases hf g with h' | h'
    · exact .inl h'
    · right
      cases e : p.2 g with
      | none => rfl
      | some o =>
        have := h.le p hp g o e
        simp [wm, Array.getElem?_eq_none h'] at this
theorem Inv.keep {w0 W W' : World} {Ω : Ctx} (h : Inv w0 Ω W) (ho : W'.os = W.os) (ht : W'.tape = W.tape) (hu : W'.output = W.output) (hs : W.heap.size ≤ W'.heap.size)
    (hk : mle (wm W) (wm W')) : Inv w0 Ω W' :=
  ⟨ho.trans h.os, ht.trans h.tape, hu.trans h.output, Nat.le_trans h.size hs, fun p hp => (h.le p hp).trans hk, h.dj⟩
theorem Inv.drew {w0 W : World} {Ω : Ctx} (h : Inv w0 Ω W) : Inv w0 Ω W.drew := ⟨h.os, h.tape, h.output, h.size, h.le, h.dj⟩
/-- Fewer chunks, by number. -/
def csub (Ω : Ctx) : List Nat → Ctx
  | [] => []
  | i :: r => match cget Ω i with
    | some m => (i, m) :: csub (cdel Ω i) r
    | none => csub Ω r
theorem csub_mem : ∀ {l : List Nat} {Ω : Ctx} {p : Nat × Mem}, p ∈ csub Ω l → p ∈ Ω
  | i :: r, Ω, p, h => by
    unfold csub at h
    split at h
    · rename_i m hm
      rcases List.mem_cons.1 h with rfl | h
      · exact cget_mem hm
      · exact cdel_mem (csub_mem h)
    · exact csub_mem h
theorem csub_dj : ∀ {l : List Nat} {Ω : Ctx}, Ω.Pairwise (fun p q => mdj p.2 q.2) → (csub Ω l).Pairwise (fun p q => mdj p.2 q.2)
  | [], _, _ => .nil
  | i :: r, Ω, h => by
    unfold csub
    split
    · rename_i m hm
      obtain ⟨h1, h2⟩ := cdel_dj hm h
      exact List.pairwise_cons.2 ⟨fun p hp => h1 p (csub_mem hp), csub_dj h2⟩
    · exact csub_dj h
theorem Inv.sub {w0 W : World} {Ω : Ctx} (h : Inv w0 Ω W) (l : List Nat) : Inv w0 (csub Ω l) W :=
  ⟨h.os, h.tape, h.output, h.size, fun p hp => h.le p (csub_mem hp), csub_dj h.dj⟩
/-- Chunk j is joined to chunk i. -/
theorem Inv.join {w0 W : World} {Ω : Ctx} (h : Inv w0 Ω W) {i j : Nat} {m n : Mem} (hi : cget Ω i = some m) (hj : cget (cdel Ω i) j = some n) :
    Inv w0 ((i, mun m n) :: cdel (cdel Ω i) j) W := by
  obtain ⟨h1, h2⟩ := cdel_dj hi h.dj
  obtain ⟨h3, h4⟩ := cdel_dj hj h2
  refine ⟨h.os, h.tape, h.output, h.size, fun p hp => ?_, List.pairwise_cons.2 ⟨fun p hp => mdj_un (h1 p (cdel_mem hp)) (h3 p hp), h4⟩⟩
  rcases List.mem_cons.1 hp with rfl | hp
  · exact mun_le (h.at hi) (h.le _ (cdel_mem (cget_mem hj)))
  · exact h.le p (cdel_mem (cdel_mem hp))
theorem Inv.dj_of {w0 W : World} {Ω : Ctx} (h : Inv w0 Ω W) {i j : Nat} {m n : Mem} (hi : cget Ω i = some m) (hj : cget (cdel Ω i) j = some n) : mdj m n :=
  (cdel_dj hi h.dj).1 _ (cget_mem hj)
abbrev Env := List (Nat × Value)
def eget : Env → Nat → Option Value
  | [], _ => none
  | (u, v) :: r, t => cond (Nat.beq u t) (some v) (eget r t)
def ev (σ : Env) : Operand → Option Value
  | .tmp t => eget σ t
  | .const v => some v
  | .global g => some (.pointer (some ⟨g, 0, none⟩))
  | .func f => some (.func (.func f) #[] #[])
def evs (σ : Env) : List Operand → Option (List Value)
  | [] => some []
  | x :: r => match ev σ x, evs σ r with
    | some v, some vs => some (v :: vs)
    | _, _ => none
structure EnvOk (n : Nat) (σ : Env) (a : Act) : Prop where
  size : a.tmps.size = n
  defers : a.defers = []
  get : ∀ t v, eget σ t = some v → a.tmps.getD t undef = v
theorem EnvOk.eval {n : Nat} {σ : Env} {a : Act} (h : EnvOk n σ a) {x : Operand} {v : Value} (hx : ev σ x = some v) : a.eval x = v := by
  cases x with
  | tmp t => exact h.get t v hx
  | const c => simpa [ev, Act.eval] using hx
  | global g => simpa [ev, Act.eval] using hx
  | func f => simpa [ev, Act.eval] using hx
theorem EnvOk.evals {n : Nat} {σ : Env} {a : Act} (h : EnvOk n σ a) : ∀ {xs : List Operand} {vs : List Value}, evs σ xs = some vs → xs.map a.eval = vs
  | [], vs, hx => by simp [evs] at hx; simp [hx]
  | x :: r, vs, hx => by
    unfold evs at hx
    split at hx
    · rename_i v vs' h1 h2
      simp only [Option.some.injEq] at hx
      subst hx
      rw [List.map_cons, h.eval h1, h.evals h2]
    · cases hx
theorem EnvOk.put {n : Nat} {σ : Env} {a : Act} (h : EnvOk n σ a) {d : Nat} (hd : Nat.blt d n = true) (v : Value) : EnvOk n ((d, v) :: σ) (a.put (some d) v) := by
  have hlt : d < a.tmps.size := by rw [h.size]; simpa using hd
  refine ⟨by simp [Act.put, h.size], h.defers, fun t u e => ?_⟩
  unfold eget at e
  cases hb : Nat.beq d t with
  | true =>
    have := Nat.eq_of_beq_eq_true hb
    subst this
    rw [hb] at e
    simp only [cond_true, Option.some.injEq] at e
    subst e
    simp [Act.put, hlt]
  | false =>
    rw [hb] at e
    have hne : d ≠ t := Nat.ne_of_beq_eq_false hb
    have := h.get t u e
    simpa [Act.put, Array.getElem?_setIfInBounds_ne hne] using this
/-- Every row of σ' stands in σ. -/
def esub : Env → Env → Prop
  | [], _ => True
  | (t, v) :: r, σ => eget σ t = some v ∧ esub r σ
theorem esub_get : ∀ {σ' σ : Env} {t : Nat} {v : Value}, esub σ' σ → eget σ' t = some v → eget σ t = some v
  | (u, x) :: r, σ, t, v, h, e => by
    unfold eget at e
    cases hb : Nat.beq u t with
    | true =>
      have := Nat.eq_of_beq_eq_true hb
      subst this
      rw [hb] at e
      simp only [cond_true, Option.some.injEq] at e
      exact e ▸ h.1
    | false => rw [hb] at e; exact esub_get h.2 e
theorem EnvOk.sub {n : Nat} {σ σ' : Env} {a : Act} (h : EnvOk n σ a) (hs : esub σ' σ) : EnvOk n σ' a :=
  ⟨h.size, h.defers, fun t v e => h.get t v (esub_get hs e)⟩
theorem EnvOk.mono {n : Nat} {σ σ' : Env} {a : Act} (h : EnvOk n σ a) (hs : ∀ t v, eget σ' t = some v → eget σ t = some v) : EnvOk n σ' a :=
  ⟨h.size, h.defers, fun t v e => h.get t v (hs t v e)⟩
/-- The rows of these slots. -/
def eres (σ : Env) : List Nat → Env
  | [] => []
  | t :: r => match eget σ t with
    | some v => (t, v) :: eres σ r
    | none => eres σ r
theorem eres_sub : ∀ (σ : Env) (l : List Nat), esub (eres σ l) σ
  | _, [] => trivial
  | σ, t :: r => by
    unfold eres
    split
    · rename_i v h; exact ⟨h, eres_sub σ r⟩
    · exact eres_sub σ r
section
variable (P : Program) (n : Nat) (w0 : World)
/-- In every such state the operation yields v and leaves the world as it is. -/
def Yld (σ : Env) (Ω : Ctx) (o : Oper) (v : Value) : Prop := ∀ a W, EnvOk n σ a → Inv w0 Ω W → (execOp a.eval o).run P W = .ok (.value v) W
/-- The operation ends with some value and in some state of which Φ holds. -/
def Stp (σ : Env) (Ω : Ctx) (o : Oper) (Φ : Value → Ctx → Prop) : Prop :=
  ∀ a W, EnvOk n σ a → Inv w0 Ω W → ∀ (K : Act → World → Prop) (Q : Exit → Act → World → Prop), (∀ v Ω' W', Φ v Ω' → Inv w0 Ω' W' → K (a.put o.dst v) W') → o.wp P a W K Q
/-- A list of operations, one behind the other. -/
def VO (ops : Array Oper) (l : List Oper) (σ : Env) (Ω : Ctx) (K : Env → Ctx → Prop) : Prop :=
  ∀ Q : Exit → Act → World → Prop, (∀ σ' Ω' a W, K σ' Ω' → EnvOk n σ' a → Inv w0 Ω' W → Q .normal a W) → ∀ a W, EnvOk n σ a → Inv w0 Ω W → wpList P ops Q l a W
/-- Code. R: what is asked at each way out. -/
def VC (c : Code) (R : Exit → Env → Ctx → Prop) (σ : Env) (Ω : Ctx) : Prop :=
  ∀ Q : Exit → Act → World → Prop, (∀ e σ' Ω' a W, R e σ' Ω' → EnvOk n σ' a → Inv w0 Ω' W → Q e a W) → ∀ a W, EnvOk n σ a → Inv w0 Ω W → c.wp P Q a W
end
section
variable {P : Program} {n : Nat} {w0 : World} {σ : Env} {Ω : Ctx} {ops : Array Oper} {K : Env → Ctx → Prop} {R : Exit → Env → Ctx → Prop}
theorem VO.nil (h : K σ Ω) : VO P n w0 ops [] σ Ω K := fun _ hQ a W he hi => wpList_nil (hQ σ Ω a W h he hi)
/-- Only these slots are kept. -/
theorem VO.drop (l : List Nat) {r : List Oper} (h : VO P n w0 ops r (eres σ l) Ω K) : VO P n w0 ops r σ Ω K :=
  fun Q hQ a W he hi => h Q hQ a W (he.sub (eres_sub σ l)) hi
theorem VO.esub {r : List Oper} (σ' : Env) (hs : esub σ' σ) (h : VO P n w0 ops r σ' Ω K) : VO P n w0 ops r σ Ω K :=
  fun Q hQ a W he hi => h Q hQ a W (he.sub hs) hi
theorem VO.inv {r : List Oper} (Ω' : Ctx) (hs : ∀ W, Inv w0 Ω W → Inv w0 Ω' W) (h : VO P n w0 ops r σ Ω' K) : VO P n w0 ops r σ Ω K :=
  fun Q hQ a W he hi => h Q hQ a W he (hs W hi)
theorem VO.y {r : List Oper} {d : Nat} {op : Op} {ty : TypeId} {pos : String} {af : Array Edge} {v : Value} (hd : Nat.blt d n = true)
    (hy : Yld P n w0 σ Ω ⟨some d, op, ty, pos, af, none⟩ v) (h : VO P n w0 ops r ((d, v) :: σ) Ω K) : VO P n w0 ops (⟨some d, op, ty, pos, af, none⟩ :: r) σ Ω K :=
  fun Q hQ a W he hi => wpList_plain rfl fun K' hK => by
    unfold Oper.wp
    rw [hy a W he hi]
    exact hK _ _ (h Q hQ _ _ (he.put hd v) hi)
theorem VO.s {r : List Oper} {d : Nat} {op : Op} {ty : TypeId} {pos : String} {af : Array Edge} {Φ : Value → Ctx → Prop} (hd : Nat.blt d n = true)
    (hs : Stp P n w0 σ Ω ⟨some d, op, ty, pos, af, none⟩ Φ) (h : ∀ v Ω', Φ v Ω' → VO P n w0 ops r ((d, v) :: σ) Ω' K) : VO P n w0 ops (⟨some d, op, ty, pos, af, none⟩ :: r) σ Ω K :=
  fun Q hQ a W he hi => wpList_plain rfl fun K' hK => hs a W he hi K' Q fun v Ω' _ hv hi' => hK _ _ (h v Ω' hv Q hQ _ _ (he.put hd v) hi')
theorem VO.u {r : List Oper} {op : Op} {ty : TypeId} {pos : String} {af : Array Edge} {Φ : Value → Ctx → Prop}
    (hs : Stp P n w0 σ Ω ⟨none, op, ty, pos, af, none⟩ Φ) (h : ∀ v Ω', Φ v Ω' → VO P n w0 ops r σ Ω' K) : VO P n w0 ops (⟨none, op, ty, pos, af, none⟩ :: r) σ Ω K :=
  fun Q hQ a W he hi => wpList_plain rfl fun K' hK => hs a W he hi K' Q fun v Ω' _ hv hi' => hK _ _ (h v Ω' hv Q hQ _ _ he hi')
/-- What a guard's operation has yielded. -/
def gyes (σ : Env) (ops : Array Oper) (j : Nat) (b : Bool) : Prop := ∃ d, (ops[j]?).bind (·.dst) = some d ∧ eget σ d = some (.bool b)
def gund (σ : Env) (ops : Array Oper) (j : Nat) : Prop := ∃ d, (ops[j]?).bind (·.dst) = some d ∧ eget σ d = some undef
theorem getD_some {xs : Array Value} {d : Nat} {v : Value} (h : xs.getD d undef = v) (hv : v ≠ undef) : xs[d]? = some v := by
  rcases Nat.lt_or_ge d xs.size with hl | hl
  · rw [Array.getElem?_eq_getElem hl]; simpa [Array.getD, hl] using h
  · simp [Array.getD, Nat.not_lt.2 hl] at h; exact absurd h.symm hv
theorem yielded_of {a : Act} {j : Nat} {b : Bool} (he : EnvOk n σ a) (h : gyes σ ops j b) : yielded ops a.tmps j = some b := by
  obtain ⟨d, h1, h2⟩ := h
  have := getD_some (he.get d _ h2) (by simp [undef])
  simp [yielded, h1, this]
theorem yielded_und {a : Act} {j : Nat} (he : EnvOk n σ a) (h : gund σ ops j) : yielded ops a.tmps j = none := by
  obtain ⟨d, h1, h2⟩ := h
  have h3 := he.get d _ h2
  unfold yielded
  rw [h1]
  show (match a.tmps[d]? with | some (.bool b) => some b | _ => none) = none
  rcases Nat.lt_or_ge d a.tmps.size with hl | hl
  · rw [Array.getElem?_eq_getElem hl]
    simp only [Array.getD, hl, dif_pos] at h3
    rw [show a.tmps[d] = undef from h3]
    rfl
  · rw [Array.getElem?_eq_none hl]
/-- The guard says yes. -/
theorem VO.gy {r : List Oper} {d : Nat} {op : Op} {ty : TypeId} {pos : String} {af : Array Edge} {j : Nat} {b : Bool} {v : Value} (hd : Nat.blt d n = true) (hg : gyes σ ops j b)
    (hy : Yld P n w0 σ Ω ⟨some d, op, ty, pos, af, some (j, b)⟩ v) (h : VO P n w0 ops r ((d, v) :: σ) Ω K) : VO P n w0 ops (⟨some d, op, ty, pos, af, some (j, b)⟩ :: r) σ Ω K :=
  fun Q hQ a W he hi => wpList_step fun K' hK => by
    rw [if_pos (by simp [Region.wanted, yielded_of he hg])]
    unfold Oper.wp
    rw [hy a W he hi]
    exact hK _ _ (h Q hQ _ _ (he.put hd v) hi)
theorem VO.gs {r : List Oper} {d : Nat} {op : Op} {ty : TypeId} {pos : String} {af : Array Edge} {j : Nat} {b : Bool} {Φ : Value → Ctx → Prop} (hd : Nat.blt d n = true) (hg : gyes σ ops j b)
    (hs : Stp P n w0 σ Ω ⟨some d, op, ty, pos, af, some (j, b)⟩ Φ) (h : ∀ v Ω', Φ v Ω' → VO P n w0 ops r ((d, v) :: σ) Ω' K) : VO P n w0 ops (⟨some d, op, ty, pos, af, some (j, b)⟩ :: r) σ Ω K :=
  fun Q hQ a W he hi => wpList_step fun K' hK => by
    rw [if_pos (by simp [Region.wanted, yielded_of he hg])]
    exact hs a W he hi K' Q fun v Ω' W' hv hi' => hK _ _ (h v Ω' hv Q hQ _ _ (he.put hd v) hi')
/-- The guard says no. -/
theorem VO.gn {r : List Oper} {d : Nat} {op : Op} {ty : TypeId} {pos : String} {af : Array Edge} {j : Nat} {b : Bool} (hd : Nat.blt d n = true) (hg : gyes σ ops j (!b) ∨ gund σ ops j)
    (h : VO P n w0 ops r ((d, undef) :: σ) Ω K) : VO P n w0 ops (⟨some d, op, ty, pos, af, some (j, b)⟩ :: r) σ Ω K :=
  fun Q hQ a W he hi => wpList_step fun K' hK => by
    have : yielded ops a.tmps j ≠ some b := by
      rcases hg with hg | hg
      · rw [yielded_of he hg]; cases b <;> simp
      · rw [yielded_und he hg]; simp
    rw [if_neg (by simpa [Region.wanted] using this)]
    exact hK _ _ (h Q hQ _ _ (he.put hd _) hi)
theorem EnvOk.dup {a : Act} {t : Nat} {v : Value} (he : EnvOk n σ a) (ht : eget σ t = some v) : EnvOk n ((t, v) :: σ) a := by
  refine he.mono fun u x e => ?_
  unfold eget at e
  cases hb' : Nat.beq t u with
  | true =>
    have := Nat.eq_of_beq_eq_true hb'
    subst this
    rw [hb'] at e
    simp only [cond_true, Option.some.injEq] at e
    rw [ht, e]
  | false => rw [hb'] at e; exact e
/-- A truth value in a slot is decided. -/
theorem VO.dec {r : List Oper} {t : Nat} {p : Prop} [Decidable p] (ht : eget σ t = some (.bool (decide p))) (h1 : p → VO P n w0 ops r ((t, .bool true) :: σ) Ω K)
    (h2 : ¬ p → VO P n w0 ops r ((t, .bool false) :: σ) Ω K) : VO P n w0 ops r σ Ω K := fun Q hQ a W he hi => by
  by_cases hp : p
  · exact h1 hp Q hQ a W (he.dup (by rw [ht, decide_eq_true hp])) hi
  · exact h2 hp Q hQ a W (he.dup (by rw [ht, decide_eq_false hp])) hi
/-- A value in a slot is known to be another one. -/
theorem VO.rw {r : List Oper} {t : Nat} {v : Value} (v' : Value) (ht : eget σ t = some v) (hv : v = v') (h : VO P n w0 ops r ((t, v') :: σ) Ω K) : VO P n w0 ops r σ Ω K :=
  fun Q hQ a W he hi => h Q hQ a W (he.dup (by rw [ht, hv])) hi
end
def thenR (k : Env → Ctx → Prop) (R : Exit → Env → Ctx → Prop) : Exit → Env → Ctx → Prop
  | .normal => k
  | e => R e
def inBlk (id : Nat) (R : Exit → Env → Ctx → Prop) : Exit → Env → Ctx → Prop
  | .exit i => cond (Nat.beq i id) (R .normal) (R (.exit i))
  | e => R e
section
variable {P : Program} {n : Nat} {w0 : World} {σ : Env} {Ω : Ctx} {R : Exit → Env → Ctx → Prop}
theorem VC.reg {id : Nat} {l : List Oper} (h : VO P n w0 l.toArray l σ Ω (R .normal)) : VC P n w0 (.region id l.toArray false) R σ Ω :=
  fun Q hQ a W he hi => wp_region_lit (h Q (fun σ' Ω' a W hk => hQ _ σ' Ω' a W hk) a W he hi)
theorem VC.seq {x y : Code} (h : VC P n w0 x (thenR (fun σ' Ω' => VC P n w0 y R σ' Ω') R) σ Ω) : VC P n w0 (.seq x y) R σ Ω :=
  fun Q hQ a W he hi => wp_seq (h (Exit.then (y.wp P Q) Q) (fun e σ' Ω' a W hr he hi => by
    cases e with
    | normal => exact hr Q hQ a W he hi
    | exit id => exact hQ _ σ' Ω' a W hr he hi
    | goto l => exact hQ _ σ' Ω' a W hr he hi
    | ret => exact hQ _ σ' Ω' a W hr he hi
    | panic ch => exact hQ _ σ' Ω' a W hr he hi
    | outgrown => exact hQ _ σ' Ω' a W hr he hi) a W he hi)
/-- A region, then the rest. -/
theorem VC.rs {id : Nat} {l : List Oper} {y : Code} (h : VO P n w0 l.toArray l σ Ω (fun σ' Ω' => VC P n w0 y R σ' Ω')) : VC P n w0 (.seq (.region id l.toArray false) y) R σ Ω :=
  VC.seq (VC.reg h)
theorem VC.skip (h : R .normal σ Ω) : VC P n w0 .skip R σ Ω := fun _ hQ a W he hi => wp_skip (hQ _ σ Ω a W h he hi)
theorem VC.exit {id : Nat} (h : R (.exit id) σ Ω) : VC P n w0 (.exit id) R σ Ω := fun _ hQ a W he hi => wp_exit (hQ _ σ Ω a W h he hi)
theorem VC.ret (h : R .ret σ Ω) : VC P n w0 .ret R σ Ω := fun _ hQ a W he hi => wp_ret (hQ _ σ Ω a W h he hi)
theorem VC.block {id : Nat} {c : Code} (h : VC P n w0 c (inBlk id R) σ Ω) : VC P n w0 (.block id c) R σ Ω :=
  fun Q hQ a W he hi => wp_block (h (Exit.inBlock id Q) (fun e σ' Ω' a W hr he hi => by
    cases e with
    | exit i =>
      show if i = id then Q .normal a W else Q (.exit i) a W
      change cond (Nat.beq i id) (R .normal) (R (.exit i)) σ' Ω' at hr
      cases hb : Nat.beq i id with
      | true =>
        rw [if_pos (Nat.eq_of_beq_eq_true hb)]
        rw [hb] at hr
        exact hQ _ σ' Ω' a W hr he hi
      | false =>
        rw [if_neg (Nat.ne_of_beq_eq_false hb)]
        rw [hb] at hr
        exact hQ _ σ' Ω' a W hr he hi
    | normal => exact hQ _ σ' Ω' a W hr he hi
    | goto l => exact hQ _ σ' Ω' a W hr he hi
    | ret => exact hQ _ σ' Ω' a W hr he hi
    | panic ch => exact hQ _ σ' Ω' a W hr he hi
    | outgrown => exact hQ _ σ' Ω' a W hr he hi) a W he hi)
theorem VC.condT {c : Operand} {x y : Code} (hc : ev σ c = some (.bool true)) (h : VC P n w0 x R σ Ω) : VC P n w0 (.cond c x y) R σ Ω :=
  fun Q hQ a W he hi => wp_cond_true (he.eval hc) (h Q hQ a W he hi)
theorem VC.condF {c : Operand} {x y : Code} (hc : ev σ c = some (.bool false)) (h : VC P n w0 y R σ Ω) : VC P n w0 (.cond c x y) R σ Ω :=
  fun Q hQ a W he hi => wp_cond_false (he.eval hc) (h Q hQ a W he hi)
theorem VC.condB {c : Operand} {x y : Code} {b : Bool} (hc : ev σ c = some (.bool b)) (h1 : b = true → VC P n w0 x R σ Ω) (h2 : b = false → VC P n w0 y R σ Ω) : VC P n w0 (.cond c x y) R σ Ω := by
  cases b
  · exact VC.condF hc (h2 rfl)
  · exact VC.condT hc (h1 rfl)
theorem VC.cond {c : Operand} {x y : Code} {p : Prop} [Decidable p] (hc : ev σ c = some (.bool (decide p))) (h1 : p → VC P n w0 x R σ Ω) (h2 : ¬ p → VC P n w0 y R σ Ω) : VC P n w0 (.cond c x y) R σ Ω :=
  VC.condB hc (fun h => h1 (of_decide_eq_true h)) (fun h => h2 (of_decide_eq_false h))
theorem VC.inv {c : Code} (Ω' : Ctx) (hs : ∀ W, Inv w0 Ω W → Inv w0 Ω' W) (h : VC P n w0 c R σ Ω') : VC P n w0 c R σ Ω :=
  fun Q hQ a W he hi => h Q hQ a W he (hs W hi)
theorem VC.esub {c : Code} (σ' : Env) (hs : esub σ' σ) (h : VC P n w0 c R σ' Ω) : VC P n w0 c R σ Ω :=
  fun Q hQ a W he hi => h Q hQ a W (he.sub hs) hi
theorem VC.mono {c : Code} {R' : Exit → Env → Ctx → Prop} (h : VC P n w0 c R' σ Ω) (hr : ∀ e σ Ω, R' e σ Ω → R e σ Ω) : VC P n w0 c R σ Ω :=
  fun Q hQ a W he hi => h Q (fun e σ' Ω' a W hk => hQ e σ' Ω' a W (hr _ _ _ hk)) a W he hi
theorem outN {k : Env → Ctx → Prop} (h : k σ Ω) : thenR k R .normal σ Ω := h
theorem outR {k : Env → Ctx → Prop} (h : R .ret σ Ω) : thenR k R .ret σ Ω := h
theorem outE {k : Env → Ctx → Prop} {i : Nat} (h : R (.exit i) σ Ω) : thenR k R (.exit i) σ Ω := h
theorem outBN {i : Nat} (h : R .normal σ Ω) : inBlk i R .normal σ Ω := h
theorem outBR {i : Nat} (h : R .ret σ Ω) : inBlk i R .ret σ Ω := h
theorem outBE {i j : Nat} (hij : Nat.beq i j = false) (h : R (.exit i) σ Ω) : inBlk j R (.exit i) σ Ω := by
  have : inBlk j R (.exit i) = cond (Nat.beq i j) (R .normal) (R (.exit i)) := rfl
  rw [this, hij]; exact h
theorem outBB {i : Nat} (h : R .normal σ Ω) : inBlk i R (.exit i) σ Ω := by
  have : inBlk i R (.exit i) = cond (Nat.beq i i) (R .normal) (R (.exit i)) := rfl
  rw [this]
  cases hb : Nat.beq i i with
  | true => exact h
  | false => exact absurd rfl (Nat.ne_of_beq_eq_false hb)
/-- What is handed on to a later round, or to what stands behind a join. -/
structure To (w0 : World) (σ' : Env) (Ω' : Ctx) (σ : Env) (Ω : Ctx) : Prop where
  env : esub σ' σ
  inv : ∀ W, Inv w0 Ω W → Inv w0 Ω' W
/-- A loop: the state at its head is S g, C g for some g of which I holds; μ falls. -/
theorem VC.loop {G : Type} {c : Code} (S : G → Env) (C : G → Ctx) (I : G → Prop) (μ : G → Nat) (g0 : G) (h0 : I g0) (h1 : To w0 (S g0) (C g0) σ Ω)
    (round : ∀ g, I g → VC P n w0 c (thenR (fun σ' Ω' => ∃ g', I g' ∧ μ g' < μ g ∧ To w0 (S g') (C g') σ' Ω') R) (S g) (C g)) : VC P n w0 (.loop c) R σ Ω :=
  fun Q hQ a W he hi => wp_loop_ghost (fun k a W => ∃ g, I g ∧ μ g = k ∧ EnvOk n (S g) a ∧ Inv w0 (C g) W) (μ g0) ⟨g0, h0, rfl, he.sub h1.env, h1.inv W hi⟩ (by
    rintro k a W ⟨g, hI, rfl, he, hi⟩
    refine round g hI _ (fun e σ' Ω' a W hr he hi => ?_) a W he hi
    cases e with
    | normal =>
      obtain ⟨g', hI', hlt, ht⟩ := hr
      exact ⟨μ g', hlt, g', hI', rfl, he.sub ht.env, ht.inv W hi⟩
    | exit id => exact hQ _ σ' Ω' a W hr he hi
    | goto l => exact hQ _ σ' Ω' a W hr he hi
    | ret => exact hQ _ σ' Ω' a W hr he hi
    | panic ch => exact hQ _ σ' Ω' a W hr he hi
    | outgrown => exact hQ _ σ' Ω' a W hr he hi)
/-- The ways meet: behind x the state is S g, C g for some g of which I holds. -/
theorem VC.cut {G : Type} {x y : Code} (S : G → Env) (C : G → Ctx) (I : G → Prop)
    (h1 : VC P n w0 x (thenR (fun σ' Ω' => ∃ g, I g ∧ To w0 (S g) (C g) σ' Ω') R) σ Ω) (h2 : ∀ g, I g → VC P n w0 y R (S g) (C g)) : VC P n w0 (.seq x y) R σ Ω :=
  VC.seq (VC.mono h1 fun e σ' Ω' hr => by
    cases e with
    | normal =>
      obtain ⟨g, hI, ht⟩ := hr
      exact fun Q hQ a W he hi => h2 g hI Q hQ a W (he.sub ht.env) (ht.inv W hi)
    | exit id => exact hr
    | goto l => exact hr
    | ret => exact hr
    | panic ch => exact hr
    | outgrown => exact hr)
end
/-- What a call does to memory: it has chunk m, and leaves chunk m' of it (with new blocks); all else is as it was. -/
structure Upd (W : World) (m : Mem) (W' : World) (m' : Mem) : Prop where
  os : W'.os = W.os
  tape : W'.tape = W.tape
  output : W'.output = W.output
  size : W.heap.size ≤ W'.heap.size
  keep : mle (mout (wm W) m) (wm W')
  le : mle m' (wm W')
  dom : ∀ g, m' g = none ∨ m g ≠ none ∨ W.heap.size ≤ g
def CallR (P : Program) (f : FuncId) (args : List Value) (W : World) (m : Mem) (Post : Value → Mem → Prop) : Prop :=
  Calls P f args.toArray W fun e W' => ∃ v m', e = .returned v ∧ Post v m' ∧ Upd W m W' m'
def fnOk (P : Program) (f : FuncId) : Bool := match P.funcs[f]? with
  | some fn => !(fn.name == "runtime.NumGoroutine") && fn.body.isSome
  | none => false
theorem run_call_of_ok {P : Program} {f : FuncId} (h : fnOk P f = true) (args : Array Value) (w : World) : (callFunc f args).run P w = .ok (.enter f args) w := by
  unfold fnOk at h
  split at h
  · rename_i fn hf
    simp only [Bool.and_eq_true, Bool.not_eq_true'] at h
    have h2 : fn.body.isNone = false := by cases hb : fn.body <;> simp_all
    simp only [callFunc, Sem.run_bind, run_program, Result.andThen_ok, hf, h.1, h2, Bool.false_eq_true, if_false, Sem.run_pure]
  · cases h
section
variable {P : Program} {n : Nat} {w0 : World} {σ : Env} {Ω : Ctx} {ops : Array Oper} {K : Env → Ctx → Prop}
theorem CallR.mono {f : FuncId} {args : List Value} {W : World} {m : Mem} {Post Post' : Value → Mem → Prop} (h : CallR P f args W m Post) (hp : ∀ v m', Post v m' → Post' v m') : CallR P f args W m Post' :=
  Calls.mono h fun _ _ ⟨v, m', h1, h2, h3⟩ => ⟨v, m', h1, hp v m' h2, h3⟩
theorem Inv.upd {W W' : World} {i : Nat} {m m' : Mem} (h : Inv w0 Ω W) (hm : cget Ω i = some m) (hu : Upd W m W' m') : Inv w0 (cset Ω i m') W' :=
  h.set hm hu.os hu.tape hu.output hu.size hu.keep hu.le hu.dom
theorem Inv.updN {W W' : World} (i : Nat) {m' : Mem} (h : Inv w0 Ω W) (hu : Upd W mnil W' m') : Inv w0 ((i, m') :: Ω) W' :=
  h.new i hu.os hu.tape hu.output hu.size hu.keep hu.le fun g => (hu.dom g).imp id (fun h => h.resolve_left (by simp [mnil]))
/-- A call that is handed chunk i. -/
theorem Stp.call {f : FuncId} {xs : List Operand} {ats : Array TypeId} {ty : TypeId} {pos : String} {af : Array Edge} {dst : Option Tmp} {gd : Option (Nat × Bool)} {vs : List Value} {Post : Value → Mem → Prop}
    (i : Nat) {m : Mem} (hf : fnOk P f = true) (ha : evs σ xs = some vs) (hm : cget Ω i = some m) (hc : ∀ W, Inv w0 Ω W → CallR P f vs W m Post) :
    Stp P n w0 σ Ω ⟨dst, .call { callee := .value (.func f), args := xs.toArray, argTypes := ats }, ty, pos, af, gd⟩ (fun v Ω' => ∃ m', Post v m' ∧ Ω' = cset Ω i m') := fun a W he hi K Q hK => by
  unfold Oper.wp
  rw [execOp_call_go]
  rw [run_call_of_ok hf]
  have : #[] ++ Array.map a.eval xs.toArray ++ #[] = vs.toArray := by
    rw [← he.evals ha]; simp
  rw [this, Oper.upon_enter]
  refine Calls.mono (hc W hi) fun e W' ⟨v, m', h1, h2, h3⟩ => ?_
  subst h1
  exact hK v _ W' ⟨m', h2, rfl⟩ (hi.upd hm h3)
/-- A call that is handed nothing to change: chunk i is new. -/
theorem Stp.callN {f : FuncId} {xs : List Operand} {ats : Array TypeId} {ty : TypeId} {pos : String} {af : Array Edge} {dst : Option Tmp} {gd : Option (Nat × Bool)} {vs : List Value} {Post : Value → Mem → Prop}
    (i : Nat) (hf : fnOk P f = true) (ha : evs σ xs = some vs) (hc : ∀ W, Inv w0 Ω W → CallR P f vs W mnil Post) :
    Stp P n w0 σ Ω ⟨dst, .call { callee := .value (.func f), args := xs.toArray, argTypes := ats }, ty, pos, af, gd⟩ (fun v Ω' => ∃ m', Post v m' ∧ Ω' = (i, m') :: Ω) := fun a W he hi K Q hK => by
  unfold Oper.wp
  rw [execOp_call_go]
  rw [run_call_of_ok hf]
  have : #[] ++ Array.map a.eval xs.toArray ++ #[] = vs.toArray := by
    rw [← he.evals ha]; simp
  rw [this, Oper.upon_enter]
  refine Calls.mono (hc W hi) fun e W' ⟨v, m', h1, h2, h3⟩ => ?_
  subst h1
  exact hK v _ W' ⟨m', h2, rfl⟩ (hi.updN i h3)
theorem VO.call {r : List Oper} {d : Nat} {f : FuncId} {xs : List Operand} {ats : Array TypeId} {ty : TypeId} {pos : String} {af : Array Edge} {vs : List Value} {Post : Value → Mem → Prop}
    (i : Nat) {m : Mem} (hd : Nat.blt d n = true) (hf : fnOk P f = true) (ha : evs σ xs = some vs) (hm : cget Ω i = some m) (hc : ∀ W, Inv w0 Ω W → CallR P f vs W m Post)
    (h : ∀ v m', Post v m' → VO P n w0 ops r ((d, v) :: σ) (cset Ω i m') K) :
    VO P n w0 ops (⟨some d, .call { callee := .value (.func f), args := xs.toArray, argTypes := ats }, ty, pos, af, none⟩ :: r) σ Ω K :=
  VO.s hd (Stp.call i hf ha hm hc) fun v _ ⟨m', hp, hΩ⟩ => hΩ ▸ h v m' hp
theorem VO.callN {r : List Oper} {d : Nat} {f : FuncId} {xs : List Operand} {ats : Array TypeId} {ty : TypeId} {pos : String} {af : Array Edge} {vs : List Value} {Post : Value → Mem → Prop}
    (i : Nat) (hd : Nat.blt d n = true) (hf : fnOk P f = true) (ha : evs σ xs = some vs) (hc : ∀ W, Inv w0 Ω W → CallR P f vs W mnil Post)
    (h : ∀ v m', Post v m' → VO P n w0 ops r ((d, v) :: σ) ((i, m') :: Ω) K) :
    VO P n w0 ops (⟨some d, .call { callee := .value (.func f), args := xs.toArray, argTypes := ats }, ty, pos, af, none⟩ :: r) σ Ω K :=
  VO.s hd (Stp.callN i hf ha hc) fun v _ ⟨m', hp, hΩ⟩ => hΩ ▸ h v m' hp
def zipE : Nat → List Value → Env
  | _, [] => []
  | i, v :: r => (i, v) :: zipE (i + 1) r
theorem zipE_get : ∀ {vs : List Value} {i t : Nat} {v : Value}, eget (zipE i vs) t = some v → i ≤ t ∧ vs[t - i]? = some v
  | x :: r, i, t, v, h => by
    unfold zipE eget at h
    cases hb : Nat.beq i t with
    | true =>
      have := Nat.eq_of_beq_eq_true hb
      subst this
      rw [hb] at h
      simpa using h
    | false =>
      rw [hb] at h
      obtain ⟨h1, h2⟩ := zipE_get h
      refine ⟨by omega, ?_⟩
      rw [show t - i = (t - (i + 1)) + 1 by omega]
      simpa using h2
def retR (P : Program) (n : Nat) (w0 : World) (fn : Func) (m : Mem) (Post : Value → Mem → Prop) : Exit → Env → Ctx → Prop
  | .ret, σ, Ω | .normal, σ, Ω => ∃ v m', (∀ a W, EnvOk n σ a → Inv w0 Ω W → (results fn a.tmps).run P W = .ok v W) ∧
      (∀ W, Inv w0 Ω W → Post v m' ∧ mle (mout (wm w0) m) (wm W) ∧ mle m' (wm W) ∧ mdj m' (mout (wm w0) m))
  | _, _, _ => False
theorem CallR.of {f : FuncId} {fn : Func} {c : Code} {args : List Value} {W : World} {m : Mem} {Post : Value → Mem → Prop} (hf : P.funcs[f]? = some fn) (hb : fn.body = some c) (hn : fn.ntmps = n)
    (hsz : Nat.ble args.length n = true) (hm : mle m (wm W)) (h : VC P n W c (retR P n W fn m Post) (zipE 0 args) [(0, mout (wm W) m), (1, m)]) : CallR P f args W m Post := by
  have hlen : args.length ≤ n := by simpa using hsz
  refine calls_of_wp hf hb (h _ (fun e σ' Ω' a W' hr he hi => ?_) _ W ⟨?_, rfl, fun t v hv => ?_⟩ ⟨rfl, rfl, rfl, Nat.le_refl _, ?_, ?_⟩)
  · cases e with
    | ret =>
      obtain ⟨v, m', h1, h3⟩ := hr
      obtain ⟨h2, k1, k2, k3⟩ := h3 W' hi
      refine ⟨he.defers, v, h1 a W' he hi, v, m', rfl, h2, hi.os, hi.tape, hi.output, hi.size, k1, k2, fun g => ?_⟩
      rcases k3 g with h | h
      · exact .inl h
      · refine .inr ?_
        unfold mout wm at h
        split at h
        · rename_i o ho; exact .inl (by rw [ho]; simp)
        · exact .inr (Array.getElem?_eq_none_iff.1 h)
    | normal =>
      obtain ⟨v, m', h1, h3⟩ := hr
      obtain ⟨h2, k1, k2, k3⟩ := h3 W' hi
      refine ⟨he.defers, v, h1 a W' he hi, v, m', rfl, h2, hi.os, hi.tape, hi.output, hi.size, k1, k2, fun g => ?_⟩
      rcases k3 g with h | h
      · exact .inl h
      · refine .inr ?_
        unfold mout wm at h
        split at h
        · rename_i o ho; exact .inl (by rw [ho]; simp)
        · exact .inr (Array.getElem?_eq_none_iff.1 h)
    | exit id => exact hr.elim
    | goto l => exact hr.elim
    | panic ch => exact hr.elim
    | outgrown => exact hr.elim
  · simp [hn]; omega
  · obtain ⟨_, h2⟩ := zipE_get hv
    have hlt : t < args.length := by
      have := (List.getElem?_eq_some_iff.1 h2).1; omega
    have h3 : (args.toArray ++ Array.replicate (fn.ntmps - args.toArray.size) undef)[t]? = some v := by
      rw [Array.getElem?_append_left (by simpa using hlt)]; simpa using h2
    simp only [Array.getD_eq_getD_getElem?, h3, Option.getD_some]
  · intro p hp
    rcases List.mem_cons.1 hp with rfl | hp
    · exact mout_le _ _
    · rcases List.mem_cons.1 hp with rfl | hp
      · exact hm
      · cases hp
  · refine List.pairwise_cons.2 ⟨fun p hp => ?_, List.pairwise_cons.2 ⟨fun p hp => ?_, List.Pairwise.nil⟩⟩
    · rcases List.mem_cons.1 hp with rfl | hp
      · exact mdj_out _ _
      · cases hp
    · cases hp
theorem CallR.ofA {f : FuncId} {fn : Func} {c : Code} {args : List Value} {W : World} {Post : Value → Mem → Prop} (hf : P.funcs[f]? = some fn) (hb : fn.body = some c) (hn : fn.ntmps = n)
    (hsz : Nat.ble args.length n = true) (h : VC P n W c (retR P n W fn mnil Post) (zipE 0 args) [(0, wm W)]) : CallR P f args W mnil Post :=
  CallR.of hf hb hn hsz (mle_nil _) (VC.inv [(0, wm W)] (fun W' h' => ⟨h'.os, h'.tape, h'.output, h'.size, fun p hp => h'.le p (by simp at hp; subst hp; exact .head _), List.pairwise_singleton _ _⟩) h)
theorem Inv.out {Ω : Ctx} {W : World} (h : Inv w0 Ω W) {i j : Nat} {m k : Mem} (hi : cget Ω i = some m) (hj : cget (cdel Ω i) j = some k) : mle k (mout (wm W) m) :=
  mle_out (h.le _ (cdel_mem (cget_mem hj))) (h.dj_of hi hj).symm
/-- What is handed back: chunk i, or nothing. -/
theorem own_of {Ω : Ctx} {b m' : Mem} (i : Nat) (h0 : cget Ω 0 = some b) (hi : cget (cdel Ω 0) i = some m') : ∀ W, Inv w0 Ω W → mle b (wm W) ∧ mle m' (wm W) ∧ mdj m' b :=
  fun _ h => ⟨h.at h0, h.le _ (cdel_mem (cget_mem hi)), (h.dj_of h0 hi).symm⟩
/-- one cell ('some none'), or an aggregate of so many ('some (some k)'). -/
def tk (P : Program) (t : TypeId) : Option (Option Nat) := match P.underlying t, P.info? t with
  | some (.struct _), some i | some (.array _ _), some i => some (some i.size)
  | some _, some i => if i.size = 1 then some none else none
  | _, _ => none
def tz (P : Program) (t : TypeId) : Option (List Value) := match P.info? t with
  | some i => match i.zero with
    | some z => if z.cells.size = i.size then some z.cells.toList else none
    | none => none
  | none => none
/-- a slice type's element: type, cells, bytes. -/
def tsl (P : Program) (t : TypeId) : Option (TypeId × Nat × Nat) := match P.underlying t with
  | some (.slice e) => match P.info? e with
    | some i => some (e, i.size, i.bytes)
    | none => none
  | _ => none
/-- a struct's fields: offset and cells. -/
def tst (P : Program) (t : TypeId) : Option (List (Nat × Nat)) := match P.underlying t with
  | some (.struct fs) => fs.toList.mapM fun f => (P.info? f.type).bind fun i => if i.size = 0 then none else some (f.offset, i.size)
  | _ => none
theorem run_underlying' {t : TypeId} {d : TypeDesc} (h : P.underlying t = some d) (w : World) : (underlying t).run P w = .ok d w := by
  simp [underlying, h]
theorem run_typeInfo' {t : TypeId} {i : TypeInfo} (h : P.info? t = some i) (w : World) : (typeInfo t).run P w = .ok i w := by
  simp [typeInfo, h]
theorem run_sizeOf' {t : TypeId} {i : TypeInfo} (h : P.info? t = some i) (w : World) : (sizeOf t).run P w = .ok i.size w := by
  simp [sizeOf, run_typeInfo' h]
theorem tk_some {t : TypeId} {k : Nat} (h : tk P t = some (some k)) (w : World) : (isAgg t).run P w = .ok true w ∧ (sizeOf t).run P w = .ok k w := by
  unfold tk at h
  split at h
  · rename_i fs i h1 h2
    simp only [Option.some.injEq] at h
    exact ⟨by simp [isAgg, run_underlying' h1], by rw [run_sizeOf' h2, h]⟩
  · rename_i l e i h1 h2
    simp only [Option.some.injEq] at h
    exact ⟨by simp [isAgg, run_underlying' h1], by rw [run_sizeOf' h2, h]⟩
  · split at h <;> simp at h
  · cases h
theorem tk_none {t : TypeId} (h : tk P t = some none) (w : World) : (isAgg t).run P w = .ok false w ∧ (sizeOf t).run P w = .ok 1 w := by
  unfold tk at h
  split at h
  · simp at h
  · simp at h
  · rename_i d i h3 h4 h1 h2
    split at h
    · rename_i hs
      refine ⟨?_, by rw [run_sizeOf' h2, hs]⟩
      simp only [isAgg, Sem.run_bind, run_underlying' h1, Result.andThen_ok]
      cases d <;> first | rfl | (exact absurd h1 (h3 _)) | (exact absurd h1 (h4 _ _))
    · cases h
  · cases h
theorem tz_run {t : TypeId} {z : List Value} (h : tz P t = some z) : ∃ v : Value, v.cells.toList = z ∧ ∀ w, (zeroValue t).run P w = .ok v w := by
  unfold tz at h
  split at h
  · rename_i i hi
    split at h
    · rename_i v hv
      split at h
      · simp only [Option.some.injEq] at h
        exact ⟨v, h, fun w => by simp [zeroValue, run_typeInfo' hi, hv]⟩
      · cases h
    · cases h
  · cases h
theorem tsl_run {t e : TypeId} {s b : Nat} (h : tsl P t = some (e, s, b)) : P.underlying t = some (.slice e) ∧ ∃ i, P.info? e = some i ∧ i.size = s ∧ i.bytes = b := by
  unfold tsl at h
  split at h
  · rename_i e' he
    split at h
    · rename_i i hi
      simp only [Option.some.injEq, Prod.mk.injEq] at h
      obtain ⟨rfl, h2, h3⟩ := h
      exact ⟨he, i, hi, h2, h3⟩
    · cases h
  · cases h
/-- n cells from off on in block g of chunk m. -/
def cellsAt (m : Mem) (g off n : Nat) (cs : List Value) : Prop :=
  ∃ c E fz, m g = some (.cells c E fz) ∧ off + n ≤ c.size ∧ cs = (c.toList.drop off).take n
theorem cellsAt.mono {m m' : Mem} {g off k : Nat} {cs : List Value} (h : cellsAt m g off k cs) (hm : mle m m') : cellsAt m' g off k cs := by
  obtain ⟨c, E, fz, h1, h2⟩ := h
  exact ⟨c, E, fz, hm g _ h1, h2⟩
theorem cellsAt.len {m : Mem} {g off k : Nat} {cs : List Value} (h : cellsAt m g off k cs) : cs.length = k := by
  obtain ⟨c, E, fz, _, h2, rfl⟩ := h
  simp; omega
theorem cellsAt.cell {W : World} {g off k : Nat} {cs : List Value} (h : cellsAt (wm W) g off k cs) {i : Nat} (hi : i < k) : W.cell? ⟨g, off + i, none⟩ = cs[i]? := by
  obtain ⟨c, E, fz, h1, h2, rfl⟩ := h
  unfold wm at h1
  simp only [World.cell?, h1]
  simp [hi]
theorem add_off (g off i : Nat) : (Addr.mk g off none).add i = ⟨g, off + i, none⟩ := by
  unfold Addr.add
  split
  · rename_i h; subst h; rfl
  · rfl
theorem run_loadCellsFrom' {W : World} {g off : Nat} : ∀ (k i : Nat) (cs : List Value) (acc : Array Value), (∀ j, j < k → W.cell? ⟨g, off + (i + j), none⟩ = cs[j]?) → cs.length = k →
    (loadCellsFrom ⟨g, off, none⟩ i k acc).run P W = .ok (acc ++ cs.toArray) W
  | 0, i, cs, acc, _, hl => by
    have : cs = [] := List.eq_nil_of_length_eq_zero hl
    subst this
    simp [loadCellsFrom]
  | k + 1, i, cs, acc, h, hl => by
    match cs, hl with
    | c :: r, hl =>
      have h0 := h 0 (by omega)
      simp only [Nat.add_zero, List.getElem?_cons_zero] at h0
      simp only [loadCellsFrom, Sem.run_bind, run_load, add_off, h0, Result.andThen_ok]
      rw [run_loadCellsFrom' k (i + 1) r (acc.push c) (fun j hj => by
        have := h (j + 1) (by omega)
        rw [show i + (j + 1) = i + 1 + j by omega] at this
        simpa using this) (by simpa using hl)]
      simp
theorem run_loadCells' {W : World} {g off k : Nat} {cs : List Value} (h : cellsAt (wm W) g off k cs) : (loadCells ⟨g, off, none⟩ k).run P W = .ok cs.toArray W := by
  have := run_loadCellsFrom' (P := P) (W := W) (g := g) (off := off) k 0 cs #[] (fun j hj => by rw [Nat.zero_add]; exact h.cell hj) h.len
  simpa [loadCells] using this
/-- A load of an aggregate. -/
theorem Yld.ldA {t : TypeId} {x : Operand} {ty : TypeId} {pos : String} {af : Array Edge} {d : Option Tmp} {gd : Option (Nat × Bool)} {g off k : Nat} {cs : List Value} (i : Nat) {m : Mem}
    (hx : ev σ x = some (.pointer (some ⟨g, off, none⟩))) (ht : tk P t = some (some k)) (hm : cget Ω i = some m) (hc : cellsAt m g off k cs) :
    Yld P n w0 σ Ω ⟨d, .load t x, ty, pos, af, gd⟩ (.agg cs.toArray) := fun a W he hi => by
  obtain ⟨h1, h2⟩ := tk_some ht W
  simp [execOp, Instr.loadAt, he.eval hx, Instr.sureAddr, loadVar, h1, h2, run_loadCells' (hc.mono (hi.at hm))]
theorem Yld.ld1 {t : TypeId} {x : Operand} {ty : TypeId} {pos : String} {af : Array Edge} {d : Option Tmp} {gd : Option (Nat × Bool)} {g off : Nat} {v : Value} (i : Nat) {m : Mem}
    (hx : ev σ x = some (.pointer (some ⟨g, off, none⟩))) (ht : tk P t = some none) (hm : cget Ω i = some m) (hc : cellsAt m g off 1 [v]) :
    Yld P n w0 σ Ω ⟨d, .load t x, ty, pos, af, gd⟩ v := fun a W he hi => by
  obtain ⟨h1, _⟩ := tk_none ht W
  have := (hc.mono (hi.at hm)).cell (i := 0) (by omega)
  simp at this
  simp [execOp, Instr.loadAt, he.eval hx, Instr.sureAddr, loadVar, h1, this]
theorem cellsAt_one {g off k : Nat} {c : Array Value} {E : TypeId} {fz : Nat × Nat} {cs : List Value} (h : Nat.ble (off + k) c.size = true) (hcs : (c.toList.drop off).take k = cs) : cellsAt (mone g (.cells c E fz)) g off k cs :=
  ⟨c, E, fz, mone_self _ _, by simpa using h, hcs.symm⟩
inductive ResL (P : Program) (σ : Env) (Ω : Ctx) : List ResultVar → List Value → Prop
  | nil : ResL P σ Ω [] []
  | tmp {t : Nat} {v : Value} {r : List ResultVar} {vs : List Value} (h : eget σ t = some v) (hr : ResL P σ Ω r vs) : ResL P σ Ω (.tmp t :: r) (v :: vs)
  | agg {a g off k : Nat} {T : TypeId} {cs : List Value} {r : List ResultVar} {vs : List Value} (i : Nat) {m : Mem} (h : eget σ a = some (.pointer (some ⟨g, off, none⟩))) (ht : tk P T = some (some k)) (hm : cget Ω i = some m)
      (hc : ∃ c E fz, m g = some (.cells c E fz) ∧ off + k ≤ c.size ∧ cs = (c.toList.drop off).take k) (hr : ResL P σ Ω r vs) : ResL P σ Ω (.cell a T :: r) (.agg cs.toArray :: vs)
  | one {a g off : Nat} {T : TypeId} {v : Value} {r : List ResultVar} {vs : List Value} (i : Nat) {m : Mem} (h : eget σ a = some (.pointer (some ⟨g, off, none⟩))) (ht : tk P T = some none) (hm : cget Ω i = some m)
      (hc : ∃ c E fz, m g = some (.cells c E fz) ∧ c[off]? = some v) (hr : ResL P σ Ω r vs) : ResL P σ Ω (.cell a T :: r) (v :: vs)
def packV : List Value → Value
  | [v] => v
  | vs => .tuple vs.toArray
theorem run_asAddr_some (x : Addr) (W : World) : (asAddr (.pointer (some x))).run P W = .ok x W := rfl
theorem run_loadVar_agg {T : TypeId} {k g off : Nat} {cs : List Value} {W : World} (ht : tk P T = some (some k)) (hc : cellsAt (wm W) g off k cs) : (loadVar T ⟨g, off, none⟩).run P W = .ok (.agg cs.toArray) W := by
  obtain ⟨h1, h2⟩ := tk_some ht W
  simp [loadVar, h1, h2, run_loadCells' hc]
theorem run_loadVar_one {T : TypeId} {g off : Nat} {v : Value} {W : World} (ht : tk P T = some none) (hc : W.cell? ⟨g, off, none⟩ = some v) : (loadVar T ⟨g, off, none⟩).run P W = .ok v W := by
  obtain ⟨h1, _⟩ := tk_none ht W
  simp [loadVar, h1, hc]
theorem cell_at1 {W : World} {g off : Nat} {c : Array Value} {E : TypeId} {fz : Nat × Nat} {v : Value} (h : wm W g = some (.cells c E fz)) (hv : c[off]? = some v) : W.cell? ⟨g, off, none⟩ = some v := by
  unfold wm at h
  unfold World.cell?
  simp only [h]
  exact hv
def resV (tmps : Array Value) : ResultVar → Sem Value
  | .tmp t => pure (tmps.getD t undef)
  | .cell x t => do loadVar t (← asAddr (tmps.getD x undef))
theorem results_eq (fn : Func) (tmps : Array Value) : results fn tmps = (do
  let vs ← fn.results.mapM (resV tmps)
  pure (if h : vs.size = 1 then vs[0] else .tuple vs)) := by
  unfold results
  congr 2
theorem ResL.run {rs : List ResultVar} {vs : List Value} (h : ResL P σ Ω rs vs) {a : Act} {W : World} (he : EnvOk n σ a) (hi : Inv w0 Ω W) :
    (rs.mapM (resV a.tmps)).run P W = .ok vs W := by
  induction h with
  | nil => rfl
  | tmp h hr ih => simp only [List.mapM_cons, resV, Sem.run_bind, Sem.run_pure, Result.andThen_ok, he.get _ _ h, ih]
  | agg i h ht hm hc hr ih =>
    have hc' : cellsAt _ _ _ _ _ := hc
    simp only [List.mapM_cons, resV, Sem.run_bind, he.get _ _ h, run_asAddr_some, Result.andThen_ok, run_loadVar_agg ht (hc'.mono (hi.at hm)), ih, Sem.run_pure]
  | one i h ht hm hc hr ih =>
    obtain ⟨c, E, fz, k1, k2⟩ := hc
    have k3 := cell_at1 (hi.at hm _ _ k1) k2
    simp only [List.mapM_cons, resV, Sem.run_bind, he.get _ _ h, run_asAddr_some, Result.andThen_ok, run_loadVar_one ht k3, ih, Sem.run_pure]
theorem res_run {fn : Func} {rs : List ResultVar} {vs : List Value} (hfn : fn.results = rs.toArray) (h : ResL P σ Ω rs vs) : ∀ a W, EnvOk n σ a → Inv w0 Ω W → (results fn a.tmps).run P W = .ok (packV vs) W := fun a W he hi => by
  rw [results_eq, hfn, List.mapM_toArray]
  simp only [Sem.run_bind, Sem.run_map, h.run he hi, Result.andThen_ok, Sem.run_pure]
  match vs with
  | [] => rfl
  | [v] => rfl
  | v :: u :: r => rfl
theorem wm_alloc (W : World) (o : Obj) : mle (wm W) (wm (W.alloc o)) := fun g x h => by
  unfold wm at h ⊢
  have hl : g < W.heap.size := (Array.getElem?_eq_some_iff.1 h).1
  rw [RowKit.Below.heap_alloc W o g hl]
  exact h
theorem wm_alloc_new (W : World) (o : Obj) : (wm (W.alloc o)) W.heap.size = some o := by simp only [wm]; exact heap_alloc_new W o
theorem Inv.alloc {W : World} (h : Inv w0 Ω W) (i : Nat) (o : Obj) : Inv w0 ((i, mone W.heap.size o) :: Ω) (W.alloc o) :=
  h.new i rfl rfl rfl (by simp) (wm_alloc W o) (mone_le (wm_alloc_new W o)) fun g => by
    by_cases hg : g = W.heap.size
    · exact .inr (Nat.le_of_eq hg.symm)
    · exact .inl (mone_ne _ hg)
theorem Stp.alloc {t : TypeId} {ty : TypeId} {pos : String} {af : Array Edge} {d : Option Tmp} {gd : Option (Nat × Bool)} {z : List Value} (i : Nat) (hz : tz P t = some z) :
    Stp P n w0 σ Ω ⟨d, .alloc t, ty, pos, af, gd⟩ (fun v Ω' => ∃ g, v = .pointer (some ⟨g, 0, none⟩) ∧ Ω' = (i, mone g (.cells z.toArray t (0, 0))) :: Ω) := fun a W he hi K Q hK => by
  obtain ⟨v, hv, hr⟩ := tz_run hz
  have hv' : v.cells = z.toArray := by rw [← hv]
  unfold Oper.wp
  have : (execOp a.eval ⟨d, .alloc t, ty, pos, af, gd⟩).run P W = .ok (.value (.pointer (some ⟨W.heap.size, 0, none⟩))) (W.alloc (.cells z.toArray t (0, 0))) := by
    simp [execOp, Instr.alloc, hr, newVar, newRow, hv']
  rw [this]
  exact hK _ _ _ ⟨_, rfl, rfl⟩ (hi.alloc i _)
theorem VO.alloc {r : List Oper} {d : Nat} {t : TypeId} {ty : TypeId} {pos : String} {af : Array Edge} {z : List Value} (i : Nat) (hd : Nat.blt d n = true) (hz : tz P t = some z)
    (h : ∀ g, VO P n w0 ops r ((d, .pointer (some ⟨g, 0, none⟩)) :: σ) ((i, mone g (.cells z.toArray t (0, 0))) :: Ω) K) : VO P n w0 ops (⟨some d, .alloc t, ty, pos, af, none⟩ :: r) σ Ω K :=
  VO.s hd (Stp.alloc i hz) fun _ _ ⟨g, hv, hΩ⟩ => hv ▸ hΩ ▸ h g
def mset (m : Mem) (g : Nat) (o : Obj) : Mem := fun k => if k = g then some o else m k
theorem mset_one (g : Nat) (o o' : Obj) : mset (mone g o) g o' = mone g o' := by
  funext k; unfold mset mone; split <;> rfl
def splice (c : List Value) (off : Nat) (vs : List Value) : List Value := c.take off ++ (vs ++ c.drop (off + vs.length))
theorem splice_set (c : List Value) (off : Nat) (v : Value) (r : List Value) (h : off < c.length) : splice (c.set off v) (off + 1) r = splice c off (v :: r) := by
  unfold splice
  rw [List.drop_set_of_lt (by omega), List.take_set, List.take_succ_eq_append_getElem h, List.set_append_right _ _ (by simp; omega)]
  have : off - (List.take off c).length = 0 := by simp; omega
  rw [this]
  simp [Nat.add_assoc, Nat.add_comm 1]
theorem setCells_heap : ∀ (vs : List Value) (W : World) (g off : Nat) (c : Array Value) (E : TypeId) (fz : Nat × Nat), W.heap[g]? = some (.cells c E fz) → off + vs.length ≤ c.size → (fz.2 ≤ fz.1) → (∀ v ∈ vs, v.oneCell' = true) →
    ∀ i off', off = off' + i → ∃ W', (storeCells ⟨g, off', none⟩ vs i).run P W = .ok () W' ∧ W'.os = W.os ∧ W'.tape = W.tape ∧ W'.output = W.output ∧ W'.heap.size = W.heap.size ∧
      (∀ k, k ≠ g → W'.heap[k]? = W.heap[k]?) ∧ W'.heap[g]? = some (.cells (splice c.toList off vs).toArray E fz)
  | [], W, g, off, c, E, fz, h, _, _, _, i, off', _ => ⟨W, by simp [storeCells], rfl, rfl, rfl, rfl, fun _ _ => rfl, by rw [h]; simp [splice]⟩
  | v :: r, W, g, off, c, E, fz, h, hl, hfz, h1, i, off', ho => by
    simp only [List.length_cons] at hl
    have hoff : off < c.size := by omega
    have hcell : W.cell? ⟨g, off, none⟩ = some c[off] := by simp [World.cell?, h, hoff]
    have hfr : W.frozen? ⟨g, off, none⟩ = false := by
      obtain ⟨lo, hi⟩ := fz
      simp only at hfz
      simp [World.frozen?, h]; omega
    have hset : (W.setCell ⟨g, off, none⟩ v).heap[g]? = some (.cells (c.setIfInBounds off v) E fz) := by
      simp [World.setCell, Array.getElem?_modify, h]
    obtain ⟨W', hrun, ho', ht, hu, hs, hk, hg⟩ := setCells_heap r (W.setCell ⟨g, off, none⟩ v) g (off + 1) (c.setIfInBounds off v) E fz hset (by simp; omega) hfz (fun x hx => h1 x (.tail _ hx)) (i + 1) off' (by omega)
    refine ⟨W', ?_, ho', ht, hu, by rw [hs]; simp, fun k hk' => ?_, ?_⟩
    · simp only [storeCells, Sem.run_bind, add_off, ← ho]
      rw [run_store P W _ v _ (h1 v (.head _)), hcell]
      simp only [hfr, Bool.false_eq_true, if_false, Result.andThen_ok]
      exact hrun
    · rw [hk k hk']
      simp only [World.setCell, Array.getElem?_modify]
      rw [if_neg (by simpa using (Ne.symm hk'))]
    · rw [hg]
      congr 2
      rw [Array.toList_setIfInBounds]
      exact congrArg _ (splice_set c.toList off v r (by simpa using hoff))
end
section
variable {P : Program} {n : Nat} {w0 : World} {σ : Env} {Ω : Ctx} {ops : Array Oper} {K : Env → Ctx → Prop}
variable {ty : TypeId} {pos : String} {af : Array Edge} {d : Option Tmp} {gd : Option (Nat × Bool)} {r : List Oper}
def nice (v : Value) : Bool := v.cells.toList.all (·.oneCell')
/-- A store into a block of chunk i. -/
theorem Stp.store {t : TypeId} {x y : Operand} {g off : Nat} {v : Value} {k : Nat} (i : Nat) {m : Mem} {c : Array Value} {E : TypeId}
    (hx : ev σ x = some (.pointer (some ⟨g, off, none⟩))) (hy : ev σ y = some v) (ht : tk P t = some (some k) ∨ (tk P t = some none ∧ k = 1)) (hk : Nat.beq v.cells.size k = true) (hn : nice v = true)
    (hm : cget Ω i = some m) (hg : m g = some (.cells c E (0, 0))) (hl : Nat.ble (off + k) c.size = true) :
    Stp P n w0 σ Ω ⟨d, .store t x y, ty, pos, af, gd⟩ (fun u Ω' => u = undef ∧ Ω' = cset Ω i (mset m g (.cells (splice c.toList off v.cells.toList).toArray E (0, 0)))) := fun a W he hi K' Q hK => by
  have hsz : (sizeOf t).run P W = .ok k W := by
    rcases ht with h | ⟨h, rfl⟩
    · exact (tk_some h W).2
    · exact (tk_none h W).2
  have hks := Nat.eq_of_beq_eq_true hk
  have hwm : W.heap[g]? = some (.cells c E (0, 0)) := hi.at hm g _ hg
  obtain ⟨W', hrun, ho, htp, hu, hs, hfar, hgg⟩ := setCells_heap (P := P) v.cells.toList W g off c E (0, 0) hwm (by simp [hks]; simpa using hl) (Nat.le_refl _)
    (fun u hu => by unfold nice at hn; rw [List.all_eq_true] at hn; exact hn u hu) 0 off rfl
  unfold Oper.wp
  have hex : (execOp a.eval ⟨d, .store t x y, ty, pos, af, gd⟩).run P W = .ok .skip W' := by
    simp [execOp, Instr.storeAt, he.eval hx, he.eval hy, Instr.sureAddr, storeVar, hsz, hks, hrun]
  rw [hex]
  refine hK undef _ W' ⟨rfl, rfl⟩ (hi.set hm ho htp hu (Nat.le_of_eq hs.symm) (fun k o h => ?_) (fun k o h => ?_) (fun k => ?_))
  · unfold mout at h
    split at h
    · cases h
    · rename_i hn
      have hkg : k ≠ g := by rintro rfl; rw [hg] at hn; cases hn
      unfold wm at h ⊢
      rw [hfar k hkg]; exact h
  · unfold mset at h
    split at h
    · rename_i hkg; subst hkg; unfold wm; rw [hgg]; exact h
    · rename_i hkg; unfold wm; rw [hfar k hkg]; exact hi.at hm k o h
  · by_cases hkg : k = g
    · subst hkg; right; left; rw [hg]; simp
    · cases hmk : m k with
      | none => left; simp [mset, hkg, hmk]
      | some o => right; left; simp
/-- A store into a variable of one's own. -/
theorem VO.store {t : TypeId} {x y : Operand} {g off : Nat} {v : Value} {k : Nat} (i : Nat) {c : Array Value} {E : TypeId} {c' : List Value}
    (hx : ev σ x = some (.pointer (some ⟨g, off, none⟩))) (hy : ev σ y = some v) (ht : tk P t = some (some k) ∨ (tk P t = some none ∧ k = 1)) (hk : Nat.beq v.cells.size k = true) (hn : nice v = true)
    (hm : cget Ω i = some (mone g (.cells c E (0, 0)))) (hl : Nat.ble (off + k) c.size = true) (hc : splice c.toList off v.cells.toList = c')
    (h : VO P n w0 ops r σ (cset Ω i (mone g (.cells c'.toArray E (0, 0)))) K) : VO P n w0 ops (⟨none, .store t x y, ty, pos, af, none⟩ :: r) σ Ω K :=
  VO.u (Stp.store i hx hy ht hk hn hm (mone_self _ _) hl) fun _ _ ⟨_, hΩ⟩ => by rw [hΩ, mset_one, hc]; exact h
theorem Yld.mv {x : Operand} {v : Value} (hx : ev σ x = some v) : Yld P n w0 σ Ω ⟨d, .move x, ty, pos, af, gd⟩ v := fun a W he _ => by
  simp [execOp, he.eval hx]
theorem Yld.as {x : Operand} {v : Value} (hx : ev σ x = some v) : Yld P n w0 σ Ω ⟨d, .assign x, ty, pos, af, gd⟩ v := fun a W he _ => by
  simp [execOp, he.eval hx]
theorem Yld.pT {c x y : Operand} {v : Value} (hc : ev σ c = some (.bool true)) (hx : ev σ x = some v) : Yld P n w0 σ Ω ⟨d, .pick c x y, ty, pos, af, gd⟩ v := fun a W he _ => by
  simp [execOp, he.eval hc, he.eval hx, asBool]
theorem Yld.pF {c x y : Operand} {v : Value} (hc : ev σ c = some (.bool false)) (hy : ev σ y = some v) : Yld P n w0 σ Ω ⟨d, .pick c x y, ty, pos, af, gd⟩ v := fun a W he _ => by
  simp [execOp, he.eval hc, he.eval hy, asBool]
theorem Yld.not {x : Operand} {t : TypeId} {b : Bool} (hx : ev σ x = some (.bool b)) : Yld P n w0 σ Ω ⟨d, .unOp .not t x, ty, pos, af, gd⟩ (.bool (!b)) := fun a W he _ => by
  simp [execOp, he.eval hx, Op.unary]
theorem Yld.notD {x : Operand} {t : TypeId} {p : Prop} [Decidable p] (hx : ev σ x = some (.bool (decide p))) : Yld P n w0 σ Ω ⟨d, .unOp .not t x, ty, pos, af, gd⟩ (.bool (decide (¬ p))) := by
  have := Yld.not (P := P) (n := n) (w0 := w0) (Ω := Ω) (ty := ty) (pos := pos) (af := af) (d := d) (gd := gd) (t := t) hx
  simpa using this
theorem Yld.nilp {x : Operand} {a : Addr} (hx : ev σ x = some (.pointer (some a))) : Yld P n w0 σ Ω ⟨d, .nilCheck x, ty, pos, af, gd⟩ (.pointer (some a)) := fun a W he _ => by
  simp [execOp, he.eval hx]
theorem Yld.ext {x : Operand} {vs : Array Value} {i : Nat} {v : Value} (hx : ev σ x = some (.tuple vs)) (hv : vs[i]? = some v) : Yld P n w0 σ Ω ⟨d, .extract x i, ty, pos, af, gd⟩ v := fun a W he _ => by
  simp [execOp, he.eval hx, Instr.extract, hv]
section
variable {x y : Operand} {t u : TypeId} {k : IntKind} {a b : Int}
theorem eqGuard_int (op : BinOp) (t : TypeId) (x y : Operand) (k k' : IntKind) (a b : Int) (W : World) : (eqGuard op t x y (.int k a) (.int k' b)).run P W = .ok () W := by
  unfold eqGuard; cases op <;> simp
theorem Yld.lss (hx : ev σ x = some (.int k a)) (hy : ev σ y = some (.int k b)) : Yld P n w0 σ Ω ⟨d, .binOp .lss t x y u, ty, pos, af, gd⟩ (.bool (decide (a < b))) := fun A W he _ => by
  simp [execOp, he.eval hx, he.eval hy, eqGuard_int, binOp, Op.intCmp]
theorem Yld.leq (hx : ev σ x = some (.int k a)) (hy : ev σ y = some (.int k b)) : Yld P n w0 σ Ω ⟨d, .binOp .leq t x y u, ty, pos, af, gd⟩ (.bool (decide (a ≤ b))) := fun A W he _ => by
  simp [execOp, he.eval hx, he.eval hy, eqGuard_int, binOp, Op.intCmp]
theorem Yld.gtr (hx : ev σ x = some (.int k a)) (hy : ev σ y = some (.int k b)) : Yld P n w0 σ Ω ⟨d, .binOp .gtr t x y u, ty, pos, af, gd⟩ (.bool (decide (b < a))) := fun A W he _ => by
  simp [execOp, he.eval hx, he.eval hy, eqGuard_int, binOp, Op.intCmp]
theorem Yld.geq (hx : ev σ x = some (.int k a)) (hy : ev σ y = some (.int k b)) : Yld P n w0 σ Ω ⟨d, .binOp .geq t x y u, ty, pos, af, gd⟩ (.bool (decide (b ≤ a))) := fun A W he _ => by
  simp [execOp, he.eval hx, he.eval hy, eqGuard_int, binOp, Op.intCmp]
theorem Yld.eql (hx : ev σ x = some (.int k a)) (hy : ev σ y = some (.int k b)) : Yld P n w0 σ Ω ⟨d, .binOp .eql t x y u, ty, pos, af, gd⟩ (.bool (decide (a = b))) := fun A W he _ => by
  simp [execOp, he.eval hx, he.eval hy, eqGuard_int, binOp, Op.intCmp]; rfl
theorem Yld.neq (hx : ev σ x = some (.int k a)) (hy : ev σ y = some (.int k b)) : Yld P n w0 σ Ω ⟨d, .binOp .neq t x y u, ty, pos, af, gd⟩ (.bool (decide (¬ a = b))) := fun A W he _ => by
  simp [execOp, he.eval hx, he.eval hy, eqGuard_int, binOp, Op.intCmp, bne]; rfl
theorem Yld.addW (hx : ev σ x = some (.int k a)) (hy : ev σ y = some (.int k b)) : Yld P n w0 σ Ω ⟨d, .binOp .add t x y u, ty, pos, af, gd⟩ (.int k (k.wrap (a + b))) := fun A W he _ => by
  simp [execOp, he.eval hx, he.eval hy, eqGuard_int, binOp, Op.intArith]
theorem Yld.subW (hx : ev σ x = some (.int k a)) (hy : ev σ y = some (.int k b)) : Yld P n w0 σ Ω ⟨d, .binOp .sub t x y u, ty, pos, af, gd⟩ (.int k (k.wrap (a - b))) := fun A W he _ => by
  simp [execOp, he.eval hx, he.eval hy, eqGuard_int, binOp, Op.intArith]
theorem Yld.mulW (hx : ev σ x = some (.int k a)) (hy : ev σ y = some (.int k b)) : Yld P n w0 σ Ω ⟨d, .binOp .mul t x y u, ty, pos, af, gd⟩ (.int k (k.wrap (a * b))) := fun A W he _ => by
  simp [execOp, he.eval hx, he.eval hy, eqGuard_int, binOp, Op.intArith]
theorem Yld.add {c : Int} (hx : ev σ x = some (.int .i64 a)) (hy : ev σ y = some (.int .i64 b)) (hc : a + b = c) (h : -9223372036854775808 ≤ c ∧ c ≤ 9223372036854775807) :
    Yld P n w0 σ Ω ⟨d, .binOp .add t x y u, ty, pos, af, gd⟩ (.int .i64 c) := by
  have := Yld.addW (P := P) (n := n) (w0 := w0) (Ω := Ω) (ty := ty) (pos := pos) (af := af) (d := d) (gd := gd) (t := t) (u := u) hx hy
  rwa [hc, IntWalk.i64_in c h] at this
theorem Yld.sub {c : Int} (hx : ev σ x = some (.int .i64 a)) (hy : ev σ y = some (.int .i64 b)) (hc : a - b = c) (h : -9223372036854775808 ≤ c ∧ c ≤ 9223372036854775807) :
    Yld P n w0 σ Ω ⟨d, .binOp .sub t x y u, ty, pos, af, gd⟩ (.int .i64 c) := by
  have := Yld.subW (P := P) (n := n) (w0 := w0) (Ω := Ω) (ty := ty) (pos := pos) (af := af) (d := d) (gd := gd) (t := t) (u := u) hx hy
  rwa [hc, IntWalk.i64_in c h] at this
theorem Yld.mul {c : Int} (hx : ev σ x = some (.int .i64 a)) (hy : ev σ y = some (.int .i64 b)) (hc : a * b = c) (h : -9223372036854775808 ≤ c ∧ c ≤ 9223372036854775807) :
    Yld P n w0 σ Ω ⟨d, .binOp .mul t x y u, ty, pos, af, gd⟩ (.int .i64 c) := by
  have := Yld.mulW (P := P) (n := n) (w0 := w0) (Ω := Ω) (ty := ty) (pos := pos) (af := af) (d := d) (gd := gd) (t := t) (u := u) hx hy
  rwa [hc, IntWalk.i64_in c h] at this
end
theorem Yld.lenS {x : Operand} {t e : TypeId} {A : Option Addr} {l c s b : Nat} (hx : ev σ x = some (.slice A l c)) (ht : tsl P t = some (e, s, b)) :
    Yld P n w0 σ Ω ⟨d, .call { callee := .builtin .len, args := [x].toArray, argTypes := [t].toArray }, ty, pos, af, gd⟩ (.int .i64 l) := fun a W he _ => by
  obtain ⟨h1, _⟩ := tsl_run ht
  simp [execOp, resolve, invoke, builtin, Builtin.len_, he.eval hx, run_underlying' h1, goInt]
theorem Yld.lenT {x : Operand} {t : TypeId} {s : List UInt8} (hx : ev σ x = some (.string ⟨s.toArray⟩)) (ht : P.underlying t = some .string) :
    Yld P n w0 σ Ω ⟨d, .call { callee := .builtin .len, args := [x].toArray, argTypes := [t].toArray }, ty, pos, af, gd⟩ (.int .i64 s.length) := fun a W he _ => by
  have e : (⟨s.toArray⟩ : ByteArray).size = s.length := by show s.toArray.size = _; simp
  simp [execOp, resolve, invoke, builtin, Builtin.len_, he.eval hx, run_underlying' ht, goInt, e]
theorem Yld.min {x y : Operand} {t u : TypeId} {k : IntKind} {a b : Int} (hx : ev σ x = some (.int k a)) (hy : ev σ y = some (.int k b)) :
    Yld P n w0 σ Ω ⟨d, .call { callee := .builtin .min, args := [x, y].toArray, argTypes := [t, u].toArray }, ty, pos, af, gd⟩ (.int k (if b < a then b else a)) := fun A W he _ => by
  simp [execOp, resolve, invoke, builtin, Builtin.min_, Builtin.min2, he.eval hx, he.eval hy]
theorem Yld.max {x y : Operand} {t u : TypeId} {k : IntKind} {a b : Int} (hx : ev σ x = some (.int k a)) (hy : ev σ y = some (.int k b)) :
    Yld P n w0 σ Ω ⟨d, .call { callee := .builtin .max, args := [x, y].toArray, argTypes := [t, u].toArray }, ty, pos, af, gd⟩ (.int k (if b > a then b else a)) := fun A W he _ => by
  simp [execOp, resolve, invoke, builtin, Builtin.max_, Builtin.max2, he.eval hx, he.eval hy]
/-- x[lo:hi] of a slice. -/
theorem Yld.sl {x lo hi : Operand} {t e : TypeId} {A : Option Addr} {l c s b i j : Nat} {k k' : IntKind} (hx : ev σ x = some (.slice A l c)) (hlo : ev σ lo = some (.int k i)) (hhi : ev σ hi = some (.int k' j)) (ht : tsl P t = some (e, s, b))
    (hij : i ≤ j) (hjc : j ≤ c) :
    Yld P n w0 σ Ω ⟨d, .slice t x (some lo) (some hi) none, ty, pos, af, gd⟩ (.slice (if c = i then A else A.map (·.add (i * s))) (j - i) (c - i)) := fun a W he _ => by
  obtain ⟨h1, i', h2, h3, _⟩ := tsl_run ht
  have e1 : (j : Int) ≤ c := by omega
  have e2 : (i : Int) ≤ j := by omega
  simp [execOp, Instr.sliceAt, Instr.slice, Instr.sliceBounds, Instr.sliceBound, asIntOf, he.eval hx, he.eval hlo, he.eval hhi, run_underlying' h1, run_sizeOf' h2, h3, hij, hjc]
theorem Yld.slL {x lo : Operand} {t e : TypeId} {A : Option Addr} {l c s b i : Nat} {k : IntKind} (hx : ev σ x = some (.slice A l c)) (hlo : ev σ lo = some (.int k i)) (ht : tsl P t = some (e, s, b))
    (hil : i ≤ l) :
    Yld P n w0 σ Ω ⟨d, .slice t x (some lo) none none, ty, pos, af, gd⟩ (.slice (if c = i then A else A.map (·.add (i * s))) (l - i) (c - i)) := fun a W he _ => by
  obtain ⟨h1, i', h2, h3, _⟩ := tsl_run ht
  simp [execOp, Instr.sliceAt, Instr.slice, Instr.sliceBounds, Instr.sliceBound, asIntOf, he.eval hx, he.eval hlo, run_underlying' h1, run_sizeOf' h2, h3, hil]
theorem Yld.slH {x hi : Operand} {t e : TypeId} {A : Option Addr} {l c s b j : Nat} {k : IntKind} (hx : ev σ x = some (.slice A l c)) (hhi : ev σ hi = some (.int k j)) (ht : tsl P t = some (e, s, b))
    (hjc : j ≤ c) :
    Yld P n w0 σ Ω ⟨d, .slice t x none (some hi) none, ty, pos, af, gd⟩ (.slice A j c) := fun a W he _ => by
  obtain ⟨h1, i', h2, h3, _⟩ := tsl_run ht
  have e0 : (if c = 0 then A else A.map (fun z => z.add 0)) = A := by
    split
    · rfl
    · cases A <;> simp [Addr.add]
  simp [execOp, Instr.sliceAt, Instr.slice, Instr.sliceBounds, Instr.sliceBound, asIntOf, he.eval hx, he.eval hhi, run_underlying' h1, run_sizeOf' h2, hjc, e0]
/-- an element's place. -/
theorem Yld.ix {x y : Operand} {t e : TypeId} {g off l c s b i : Nat} {k : IntKind} (hx : ev σ x = some (.slice (some ⟨g, off, none⟩) l c)) (hy : ev σ y = some (.int k i)) (ht : tsl P t = some (e, s, b)) (hi : i < l) :
    Yld P n w0 σ Ω ⟨d, .indexAddr t x y, ty, pos, af, gd⟩ (.pointer (some ⟨g, off + i * s, none⟩)) := fun a W he _ => by
  obtain ⟨h1, i', h2, h3, _⟩ := tsl_run ht
  have e1 : (i : Int) < l := by omega
  simp [execOp, Instr.indexAt, asIntOf, he.eval hx, he.eval hy, run_underlying' h1, run_sizeOf' h2, h3, hi, add_off]
/-- an element's place; the number given as an integer. -/
theorem Yld.ixI {x y : Operand} {t e : TypeId} {g off l c s b : Nat} {k : IntKind} {a : Int} (i : Nat) (hx : ev σ x = some (.slice (some ⟨g, off, none⟩) l c)) (hy : ev σ y = some (.int k a)) (ht : tsl P t = some (e, s, b)) (ha : a = i) (hi : i < l) :
    Yld P n w0 σ Ω ⟨d, .indexAddr t x y, ty, pos, af, gd⟩ (.pointer (some ⟨g, off + i * s, none⟩)) := by
  subst ha; exact Yld.ix hx hy ht hi
theorem mapM_get {α β : Type} {f : α → Option β} : ∀ {l : List α} {r : List β} {i : Nat} {y : β}, l.mapM f = some r → r[i]? = some y → ∃ x, l[i]? = some x ∧ f x = some y
  | [], r, i, y, h, hi => by simp at h; subst h; simp at hi
  | x :: l, r, i, y, h, hi => by
    simp only [List.mapM_cons, Option.bind_eq_bind, Option.bind_eq_some_iff] at h
    obtain ⟨z, hz, r', hr', h⟩ := h
    simp only [Option.pure_def, Option.some.injEq] at h
    subst h
    cases i with
    | zero => simp at hi; subst hi; exact ⟨x, rfl, hz⟩
    | succ i => simpa using mapM_get hr' (by simpa using hi)
/-- a field's place. -/
theorem tst_field {t : TypeId} {fs : List (Nat × Nat)} (h : tst P t = some fs) {i o z : Nat} (hi : fs[i]? = some (o, z)) :
    ∃ F : Array Field, P.underlying t = some (.struct F) ∧ ∃ f, F[i]? = some f ∧ f.offset = o ∧ ∃ j, P.info? f.type = some j ∧ j.size = z ∧ z ≠ 0 := by
  unfold tst at h
  split at h
  · rename_i F hF
    refine ⟨F, hF, ?_⟩
    obtain ⟨f, hf, hfi⟩ := mapM_get h hi
    simp only [Option.bind_eq_some_iff] at hfi
    obtain ⟨j, hj, hj2⟩ := hfi
    split at hj2
    · cases hj2
    · rename_i hz
      simp only [Option.some.injEq, Prod.mk.injEq] at hj2
      exact ⟨f, by simpa using hf, hj2.1, j, hj, hj2.2, hj2.2 ▸ hz⟩
  · cases h
theorem Yld.fa {x : Operand} {t : TypeId} {g off i o z : Nat} {fs : List (Nat × Nat)} (hx : ev σ x = some (.pointer (some ⟨g, off, none⟩))) (ht : tst P t = some fs) (hi : fs[i]? = some (o, z)) :
    Yld P n w0 σ Ω ⟨d, .fieldAddr t x i, ty, pos, af, gd⟩ (.pointer (some ⟨g, off + o, none⟩)) := fun a W he _ => by
  obtain ⟨F, h1, f, h2, h3, j, h4, h5, h6⟩ := tst_field ht hi
  simp [execOp, Instr.fieldAt, he.eval hx, run_underlying' h1, h2, Instr.sureAddr, fieldPlace, run_sizeOf' h4, h5, h6, h3, add_off]
end
/-- is operation k a store? has one come? -/
def isSt (ops : Array Oper) (k : Nat) : Bool := match ops[k]? with
  | some ⟨none, .store _ _ _, _, _, _, _⟩ => true
  | _ => false
def anySt (ops : Array Oper) (L : Array Bool) : Bool := (List.range ops.size).any fun k => L.getD k false && isSt ops k
/-- chunks that no store of the region turns (those beyond number 2000 hold only till one has come). -/
def lowS (ΩS : Ctx) : Ctx := ΩS.filter fun p => Nat.blt p.1 2000
def curS (ops : Array Oper) (ΩS : Ctx) (L : Array Bool) : Ctx := cond (anySt ops L) (lowS ΩS) ΩS
theorem anySt_set {ops : Array Oper} {i : Nat} {L : Array Bool} (h : isSt ops i = false) : anySt ops (L.setIfInBounds i true) = anySt ops L := by
  unfold anySt
  congr 1
  funext k
  by_cases hk : i = k
  · subst hk; rw [h, Bool.and_false, Bool.and_false]
  · rw [getD_set_ne false hk]
theorem Inv.low {w0 W : World} {Ω : Ctx} (h : Inv w0 Ω W) : Inv w0 (lowS Ω) W :=
  ⟨h.os, h.tape, h.output, h.size, fun p hp => h.le p (List.mem_filter.1 hp).1, h.dj.filter _⟩
theorem Inv.cur {w0 W : World} {Ω : Ctx} {ops : Array Oper} {L : Array Bool} (h : Inv w0 Ω W) : Inv w0 (curS ops Ω L) W := by
  unfold curS; cases anySt ops L
  · exact h
  · exact h.low
theorem Inv.curLow {w0 W : World} {Ω : Ctx} {ops : Array Oper} {L : Array Bool} (h : Inv w0 (curS ops Ω L) W) : Inv w0 (lowS Ω) W := by
  unfold curS at h; cases hb : anySt ops L
  · rw [hb] at h; exact h.low
  · rw [hb] at h; exact h
theorem curS_set {ops : Array Oper} {i : Nat} {L : Array Bool} {Ω : Ctx} (h : isSt ops i = false) : curS ops Ω (L.setIfInBounds i true) = curS ops Ω L := by unfold curS; rw [anySt_set h]
section
variable {P : Program} {ops : Array Oper} {Q : Exit → Act → World → Prop} {S : Array Bool → World → Prop} {T : World → Prop}
/-- Whatever order is picked; S holds behind every operation ahead of number t. -/
def wpAnyT (P : Program) (ops : Array Oper) (Q : Exit → Act → World → Prop) (S : Array Bool → World → Prop) (t : Nat) : Nat → Array Bool → Act → World → Prop
  | 0, listed, a, w => Region.ready .any ops listed = [] ∧ Q .normal a w
  | fuel + 1, listed, a, w =>
    (Region.ready .any ops listed = [] → Q .normal a w) ∧
    ∀ i ∈ Region.ready .any ops listed, wpOp P ops Q i (fun a' w' => (i < t → S (listed.setIfInBounds i true) w') ∧ wpAnyT P ops Q S t fuel (listed.setIfInBounds i true) a' w') a w
theorem wpAny_of_T {t : Nat} : ∀ (fuel : Nat) (listed : Array Bool) (a : Act) (w : World), wpAnyT P ops Q S t fuel listed a w → wpAny P .any ops Q fuel listed a w
  | 0, _, _, _, h => h
  | fuel + 1, _, _, _, h => ⟨h.1, fun i hi => wpOp_mono (fun a' w' h' => wpAny_of_T fuel _ a' w' h'.2) (h.2 i hi)⟩
theorem wpAnyT_first {t i : Nat} {oi : Oper} {v : Value} (hi : ops[i]? = some oi) (hit : i < t) (htn : t < ops.size ∨ ops.size ≤ t) (hsel : ∀ (j : Nat) (o : Oper) cs b, ops[j]? = some o → o.op ≠ .select cs b)
    (hT : ∀ L w, HeadInv .any ops t L → L.getD i true = false → S L w → T w) (hset : ∀ L w, S (L.setIfInBounds i true) w ↔ S L w)
    (hQ : ∀ c a w, Q (.panic c) (a.put oi.dst v) w → Q (.panic c) a w) (hs : t < ops.size → Region.sinkB .any ops t = true) (hc : t < ops.size → Region.chainB .any ops t = true) :
    ∀ (fuel : Nat) (listed : Array Bool) (a : Act) (w : World), HeadInv .any ops t listed →
      (∀ j oj, ops[j]? = some oj → j ≠ i → listed.getD j true = false → (∀ e ∈ oj.after, Region.binds .any e = true → e.on ≠ i) → oi.apart ops oj = true) →
      i ∈ Region.ready .any ops listed → YieldsIf P ops T oi v a → S listed w →
      wpAnyT P ops Q S t fuel (listed.setIfInBounds i true) (a.put oi.dst v) w → wpAnyT P ops Q S t (fuel + 1) listed a w := by
  intro fuel
  induction fuel with
  | zero =>
    intro listed a w inv _ hr hy hS H
    refine ⟨fun h => (by rw [h] at hr; cases hr), fun j hj => ?_⟩
    by_cases hji : j = i
    · subst hji; exact hy.wpOp hi (hT _ _ inv (mem_ready.1 hr).1 hS) ⟨fun _ => (hset _ _).2 hS, H⟩
    · have := ready_mono hj hji
      rw [H.1] at this
      cases this
  | succ fuel ih =>
    intro listed a w inv hfree hr hy hS H
    have hun := (mem_ready.1 hr).1
    refine ⟨fun h => (by rw [h] at hr; cases hr), fun j hj => ?_⟩
    by_cases hji : j = i
    · subst hji; exact hy.wpOp hi (hT _ _ inv (mem_ready.1 hr).1 hS) ⟨fun _ => (hset _ _).2 hS, H⟩
    · have hjt : j < t := by
        rcases htn with htn | htn
        · rcases Nat.lt_or_ge j t with h | h
          · exact h
          · exact absurd hj (tail_waits (hs htn) (hc htn) htn inv _ i rfl hit hun j h)
        · obtain ⟨_, oj, hoj, _⟩ := mem_ready.1 hj
          exact Nat.lt_of_lt_of_le (Array.getElem?_eq_some_iff.1 hoj).1 htn
      have h1 := H.2 j (ready_mono hj hji)
      obtain ⟨hjun, oj, hoj, hall⟩ := mem_ready.1 hj
      have hnot : ∀ e ∈ oj.after, Region.binds .any e = true → e.on ≠ i := fun e he hb heq => by
        have h1 := hall e he hb
        rw [heq, getD_both hun] at h1
        cases h1
      have h2 := wpOp_putIf hoj (hfree j oj hoj hji hjun hnot) (fun cs b => hsel i oi cs b hi) (fun cs b => hsel j oj cs b hoj) hQ hy h1
      have hfree' : ∀ k ok, ops[k]? = some ok → k ≠ i → (listed.setIfInBounds j true).getD k true = false →
          (∀ e ∈ ok.after, Region.binds .any e = true → e.on ≠ i) → oi.apart ops ok = true := fun k ok hk hki hun hno => by
        refine hfree k ok hk hki ?_ hno
        by_cases hjk : j = k
        · subst hjk; exact hjun
        · rw [getD_set_ne true hjk] at hun; exact hun
      refine wpOp_mono (fun a' w' h3 => ⟨fun _ => (hset _ _).1 (by have := h3.2.1 hjt; rwa [Array.setIfInBounds_comm _ _ (Ne.symm hji)] at this), ih (listed.setIfInBounds j true) a' w' (inv.set hj hjt) hfree' (ready_mono hr (Ne.symm hji)) h3.1 ((hset _ _).1 (by have := h3.2.1 hjt; rwa [Array.setIfInBounds_comm _ _ (Ne.symm hji)] at this)) ?_⟩) h2
      rw [Array.setIfInBounds_comm _ _ hji]
      exact h3.2.2
/-- The operations ahead of number t in this order ('true': it may be moved), the others behind them as they stand. -/
def okHead (ops : Array Oper) (t : Nat) : List (Nat × Bool) → Array Bool → Bool
  | [], listed => okTail ops (ops.size - t) t listed
  | (i, mv) :: r, listed => Nat.blt i t && (bif mv then (Region.ready .any ops listed).contains i && Region.free .any ops listed i else Region.ready .any ops listed == [i]) && okHead ops t r (listed.setIfInBounds i true)
where
  okTail (ops : Array Oper) : Nat → Nat → Array Bool → Bool
  | 0, _, listed => Region.ready .any ops listed == []
  | f + 1, k, listed => Region.ready .any ops listed == [k] && okTail ops f (k + 1) (listed.setIfInBounds k true)
def okSched (ops : Array Oper) (t : Nat) (l : List (Nat × Bool)) : Bool :=
  Nat.beq (l.length + (ops.size - t)) ops.size && Region.noSelect ops && (Nat.ble ops.size t || (Region.sinkB .any ops t && Region.chainB .any ops t)) && okHead ops t l (Array.replicate ops.size false)
theorem wpAnyT_tail {t : Nat} : ∀ (f k : Nat) (listed : Array Bool) (a : Act) (w : World), okHead.okTail ops f k listed = true → t ≤ k → k + f = ops.size → wpList P ops Q (ops.toList.drop k) a w → wpAnyT P ops Q S t f listed a w
  | 0, k, listed, a, w, ho, _, hk, h => by
    have hr : Region.ready .any ops listed = [] := by simpa [okHead.okTail] using ho
    refine ⟨hr, ?_⟩
    rw [List.drop_of_length_le (by simp; omega)] at h
    exact h
  | f + 1, k, listed, a, w, ho, htk, hk, h => by
    simp only [okHead.okTail, Bool.and_eq_true, beq_iff_eq] at ho
    obtain ⟨hr, ho⟩ := ho
    refine ⟨fun h0 => (by rw [hr] at h0; cases h0), fun i hi => ?_⟩
    rw [hr, List.mem_singleton] at hi
    subst hi
    have hlt : i < ops.size := by omega
    rw [List.drop_eq_getElem_cons (by simpa using hlt)] at h
    have hoi : ops[i]? = some ops[i] := Array.getElem?_eq_getElem hlt
    simp only [wpList, Array.getElem_toList] at h
    simp only [wpOp, hoi]
    have hK : ∀ a' w', wpList P ops Q (List.drop (i + 1) ops.toList) a' w' → (i < t → S (listed.setIfInBounds i true) w') ∧ wpAnyT P ops Q S t f (listed.setIfInBounds i true) a' w' :=
      fun a' w' h' => ⟨fun hlt' => by omega, wpAnyT_tail f (i + 1) _ a' w' ho (by omega) (by omega) h'⟩
    split
    · rename_i hw; rw [if_pos hw] at h; exact h.imp (Oper.wp_mono hK) id
    · rename_i hw; rw [if_neg hw] at h; exact hK _ _ h
end
section
variable (P : Program) (n : Nat) (w0 : World)
/-- The rest of a schedule. -/
def VD (ops : Array Oper) (ΩS : Ctx) (t : Nat) (l : List (Nat × Bool)) (σ : Env) (Ω : Ctx) (K : Env → Ctx → Prop) : Prop :=
  ∀ Q : Exit → Act → World → Prop, (∀ c a w, ¬ Q (.panic c) a w) → (∀ σ' Ω' a W, K σ' Ω' → EnvOk n σ' a → Inv w0 Ω' W → Q .normal a W) →
    ∀ (listed : Array Bool) a W, EnvOk n σ a → Inv w0 Ω W → Inv w0 (curS ops ΩS listed) W → okHead ops t l listed = true → HeadInv .any ops t listed → Region.noSelect ops = true → (t < ops.size → Region.sinkB .any ops t = true ∧ Region.chainB .any ops t = true) → wpAnyT P ops Q (fun L w => Inv w0 (curS ops ΩS L) w) t (l.length + (ops.size - t)) listed a W
end
section
variable {P : Program} {n : Nat} {w0 : World} {σ : Env} {Ω ΩS : Ctx} {ops : Array Oper} {t : Nat} {K : Env → Ctx → Prop} {R : Exit → Env → Ctx → Prop}
theorem HeadInv.start (ops : Array Oper) (t : Nat) : HeadInv .any ops t (Array.replicate ops.size false) :=
  ⟨by simp, fun j oj _ h => (by rw [getD_replicate_false] at h; cases h), fun k _ hk => by simp [hk]⟩
/-- A region that draws. -/
theorem VC.regD {id : Nat} {l : List Oper} (ΩS : Ctx) (t : Nat) (sched : List (Nat × Bool)) (hm : P.follows .mixedOrders = true) (hs : okSched l.toArray t sched = true) (hΩ : ∀ W, Inv w0 Ω W → Inv w0 ΩS W)
    (h : VD P n w0 l.toArray ΩS t sched σ Ω (R .normal)) : VC P n w0 (.region id l.toArray true) R σ Ω :=
  fun Q hQ a W he hi => by
    unfold okSched at hs
    simp only [Bool.and_eq_true, Bool.or_eq_true] at hs
    obtain ⟨⟨⟨h0, h1⟩, h2⟩, h3⟩ := hs
    have h4 : t < l.toArray.size → Region.sinkB .any l.toArray t = true ∧ Region.chainB .any l.toArray t = true := fun hlt => by
      rcases h2 with h2 | h2
      · have := Nat.le_of_ble_eq_true h2; omega
      · exact h2
    let Q' : Exit → Act → World → Prop := fun e a w => match e with | .normal => Q .normal a w | _ => False
    refine wp_mono (Q := Q') ?_ (fun e a w hq => by cases e <;> first | exact hq | exact hq.elim)
    have := h Q' (fun _ _ _ hq => hq) (fun σ' Ω' a W hk => hQ _ σ' Ω' a W hk) (Array.replicate l.toArray.size false) a W.drew he hi.drew (hΩ W hi).drew.cur h3 (HeadInv.start _ _) h1 h4
    refine wp_region_any hm (wpAny_of_T (S := fun L w => Inv w0 (curS l.toArray ΩS L) w) (t := t) _ _ _ _ ?_)
    rw [Nat.eq_of_beq_eq_true h0] at this
    exact this
/-- All ahead of number t is done: the rest in the text's order. -/
theorem VD.nil {l : List Oper} (hl : ops.toList.drop t = l) (h : VO P n w0 ops l σ Ω K) (ht : Nat.ble t ops.size = true) : VD P n w0 ops ΩS t [] σ Ω K :=
  fun Q _ hQ listed a W he hi _ ho _ _ _ => by
    have htl := Nat.le_of_ble_eq_true ht
    subst hl
    have := wpAnyT_tail (P := P) (Q := Q) (S := fun L w => Inv w0 (curS ops ΩS L) w) (ops.size - t) t listed a W ho (Nat.le_refl _) (by omega) (h Q hQ a W he hi)
    simpa using this
theorem VD.y {i : Nat} {r : List (Nat × Bool)} {d : Nat} {op : Op} {ty : TypeId} {pos : String} {af : Array Edge} {gd : Option (Nat × Bool)} {v : Value} (hd : Nat.blt d n = true) (ho : ops[i]? = some ⟨some d, op, ty, pos, af, gd⟩)
    (hg : gd = none ∨ ∃ j b, gd = some (j, b) ∧ gyes σ ops j b) (hy : Yld P n w0 σ (lowS ΩS) ⟨some d, op, ty, pos, af, gd⟩ v) (h : VD P n w0 ops ΩS t r ((d, v) :: σ) Ω K) : VD P n w0 ops ΩS t ((i, true) :: r) σ Ω K :=
  fun Q hn hQ listed a W he hi hiS hok hh hsel hsc => by
    unfold okHead at hok
    simp only [cond_true, Bool.and_eq_true] at hok
    obtain ⟨⟨hit, hr, hf⟩, hok⟩ := hok
    have hit' : i < t := by simpa using hit
    have hr' : i ∈ Region.ready .any ops listed := by simpa using hr
    have hyi : YieldsIf P ops (Inv w0 (lowS ΩS)) ⟨some d, op, ty, pos, af, gd⟩ v a := by
      refine .inl ⟨?_, fun w hw => hy a w he hw⟩
      rcases hg with rfl | ⟨j, b, rfl, hg⟩
      · simp [Region.wanted]
      · simp [Region.wanted, yielded_of he hg]
    have hlen : (((i, true) :: r).length + (ops.size - t)) = (r.length + (ops.size - t)) + 1 := by simp only [List.length_cons]; omega
    rw [hlen]
    have hns : isSt ops i = false := by unfold isSt; rw [ho]
    exact wpAnyT_first ho hit' (Nat.lt_or_ge t ops.size) (Region.noSelect_spec hsel) (fun _ _ _ _ q => q.curLow) (fun L w => by rw [curS_set hns]) (fun c a w hq => absurd hq (hn c _ w)) (fun h => (hsc h).1) (fun h => (hsc h).2) _ listed a W hh (Region.free_spec ho hf) hr' hyi hiS
      (h Q hn hQ _ _ W (he.put hd v) hi (by rw [curS_set hns]; exact hiS) hok (hh.set hr' hit') hsel hsc)
theorem VD.gn {i : Nat} {r : List (Nat × Bool)} {d : Nat} {op : Op} {ty : TypeId} {pos : String} {af : Array Edge} {j : Nat} {b : Bool} (hd : Nat.blt d n = true) (ho : ops[i]? = some ⟨some d, op, ty, pos, af, some (j, b)⟩)
    (hg : gyes σ ops j (!b) ∨ gund σ ops j) (h : VD P n w0 ops ΩS t r ((d, undef) :: σ) Ω K) : VD P n w0 ops ΩS t ((i, true) :: r) σ Ω K :=
  fun Q hn hQ listed a W he hi hiS hok hh hsel hsc => by
    unfold okHead at hok
    simp only [cond_true, Bool.and_eq_true] at hok
    obtain ⟨⟨hit, hr, hf⟩, hok⟩ := hok
    have hit' : i < t := by simpa using hit
    have hr' : i ∈ Region.ready .any ops listed := by simpa using hr
    have hyi : YieldsIf P ops (Inv w0 (lowS ΩS)) ⟨some d, op, ty, pos, af, some (j, b)⟩ undef a := by
      refine .inr ⟨?_, rfl⟩
      have : yielded ops a.tmps j ≠ some b := by
        rcases hg with hg | hg
        · rw [yielded_of he hg]; cases b <;> simp
        · rw [yielded_und he hg]; simp
      simpa [Region.wanted] using this
    have hlen : (((i, true) :: r).length + (ops.size - t)) = (r.length + (ops.size - t)) + 1 := by simp only [List.length_cons]; omega
    rw [hlen]
    have hns : isSt ops i = false := by unfold isSt; rw [ho]
    exact wpAnyT_first ho hit' (Nat.lt_or_ge t ops.size) (Region.noSelect_spec hsel) (fun _ _ _ _ q => q.curLow) (fun L w => by rw [curS_set hns]) (fun c a w hq => absurd hq (hn c _ w)) (fun h => (hsc h).1) (fun h => (hsc h).2) _ listed a W hh (Region.free_spec ho hf) hr' hyi hiS
      (h Q hn hQ _ _ W (he.put hd _) hi (by rw [curS_set hns]; exact hiS) hok (hh.set hr' hit') hsel hsc)
/-- An operation that may not be moved: nobody else may come up. -/
theorem VD.s {i : Nat} {r : List (Nat × Bool)} {o : Oper} {Φ : Value → Ctx → Prop} (σ' : Value → Env) (ho : ops[i]? = some o) (hσ : ∀ v a, EnvOk n σ a → EnvOk n (σ' v) (a.put o.dst v))
    (hg : o.guard = none ∨ ∃ j b, o.guard = some (j, b) ∧ gyes σ ops j b) (hs : Stp P n w0 σ Ω o Φ) (hS : ∀ v Ω', Φ v Ω' → ∀ W, Inv w0 Ω' W → Inv w0 ΩS W)
    (h : ∀ v Ω', Φ v Ω' → VD P n w0 ops ΩS t r (σ' v) Ω' K) : VD P n w0 ops ΩS t ((i, false) :: r) σ Ω K :=
  fun Q hn hQ listed a W he hi _ hok hh hsel hsc => by
    unfold okHead at hok
    simp only [cond_false, Bool.and_eq_true, beq_iff_eq] at hok
    obtain ⟨⟨hit, hr⟩, hok⟩ := hok
    have hit' : i < t := by simpa using hit
    have hr' : i ∈ Region.ready .any ops listed := by rw [hr]; exact .head _
    have hlen : (((i, false) :: r).length + (ops.size - t)) = (r.length + (ops.size - t)) + 1 := by simp only [List.length_cons]; omega
    rw [hlen]
    refine ⟨fun h0 => (by rw [hr] at h0; cases h0), fun j hj => ?_⟩
    rw [hr, List.mem_singleton] at hj
    subst hj
    unfold wpOp
    simp only [ho]
    have hw : Region.wanted o (yielded ops a.tmps) = true := by
      rcases hg with hg | ⟨k, b, hg, hy⟩
      · simp [Region.wanted, hg]
      · simp [Region.wanted, hg, yielded_of he hy]
    rw [if_pos hw]
    exact .inl (hs a W he hi _ Q fun v Ω' W' hv hi' => ⟨fun _ => (hS v Ω' hv W' hi').cur, h v Ω' hv Q hn hQ _ _ W' (hσ v a he) hi' (hS v Ω' hv W' hi').cur hok (hh.set hr' hit') hsel hsc⟩)
/-- is i among what k waits for? -/
def reachB (ops : Array Oper) : Nat → Nat → Nat → Bool
  | 0, _, _ => false
  | f + 1, k, i => ((ops[k]?).map fun o => o.after.any fun e => Region.binds .any e && (Nat.beq e.on i || reachB ops f e.on i)).getD false
def precB (ops : Array Oper) (i : Nat) : Bool := (List.range ops.size).all fun k => !isSt ops k || reachB ops ops.size k i
theorem reach_listed {t : Nat} {L : Array Bool} (hh : HeadInv .any ops t L) : ∀ {f k i : Nat}, reachB ops f k i = true → L.getD k false = true → L.getD i false = true
  | f + 1, k, i, h, hl => by
    unfold reachB at h
    cases ho : ops[k]? with
    | none => rw [ho] at h; cases h
    | some o =>
      rw [ho] at h
      simp only [Option.map_some, Option.getD_some, Array.any_eq_true', Bool.and_eq_true, Bool.or_eq_true] at h
      obtain ⟨e, he, hb, hr⟩ := h
      have h1 := hh.closed k o ho hl e he hb
      rcases hr with hr | hr
      · rw [← Nat.eq_of_beq_eq_true hr]; exact h1
      · exact reach_listed hh hr h1
theorem prec_none {t i : Nat} {L : Array Bool} (hp : precB ops i = true) (hh : HeadInv .any ops t L) (hi : L.getD i true = false) : anySt ops L = false := by
  cases ha : anySt ops L with
  | false => rfl
  | true =>
    exfalso
    obtain ⟨k, hk, h2⟩ := List.any_eq_true.1 ha
    simp only [Bool.and_eq_true] at h2
    have := List.all_eq_true.1 hp k hk
    rw [h2.2] at this
    have h3 := reach_listed hh (by simpa using this) h2.1
    rw [getD_both hi] at h3
    cases h3
/-- Moved: it reads what only later stores turn. -/
theorem VD.yH {i : Nat} {r : List (Nat × Bool)} {d : Nat} {op : Op} {ty : TypeId} {pos : String} {af : Array Edge} {gd : Option (Nat × Bool)} {v : Value} (hd : Nat.blt d n = true) (ho : ops[i]? = some ⟨some d, op, ty, pos, af, gd⟩)
    (hg : gd = none ∨ ∃ j b, gd = some (j, b) ∧ gyes σ ops j b) (hp : precB ops i = true) (hy : Yld P n w0 σ ΩS ⟨some d, op, ty, pos, af, gd⟩ v) (h : VD P n w0 ops ΩS t r ((d, v) :: σ) Ω K) : VD P n w0 ops ΩS t ((i, true) :: r) σ Ω K :=
  fun Q hn hQ listed a W he hi hiS hok hh hsel hsc => by
    unfold okHead at hok
    simp only [cond_true, Bool.and_eq_true] at hok
    obtain ⟨⟨hit, hr, hf⟩, hok⟩ := hok
    have hit' : i < t := by simpa using hit
    have hr' : i ∈ Region.ready .any ops listed := by simpa using hr
    have hyi : YieldsIf P ops (Inv w0 ΩS) ⟨some d, op, ty, pos, af, gd⟩ v a := by
      refine .inl ⟨?_, fun w hw => hy a w he hw⟩
      rcases hg with rfl | ⟨j, b, rfl, hg⟩
      · simp [Region.wanted]
      · simp [Region.wanted, yielded_of he hg]
    have hlen : (((i, true) :: r).length + (ops.size - t)) = (r.length + (ops.size - t)) + 1 := by simp only [List.length_cons]; omega
    rw [hlen]
    have hns : isSt ops i = false := by unfold isSt; rw [ho]
    exact wpAnyT_first ho hit' (Nat.lt_or_ge t ops.size) (Region.noSelect_spec hsel) (fun L w hhL hu q => by unfold curS at q; rw [prec_none hp hhL hu] at q; exact q) (fun L w => by rw [curS_set hns]) (fun c a w hq => absurd hq (hn c _ w)) (fun h => (hsc h).1) (fun h => (hsc h).2) _ listed a W hh (Region.free_spec ho hf) hr' hyi hiS
      (h Q hn hQ _ _ W (he.put hd v) hi (by rw [curS_set hns]; exact hiS) hok (hh.set hr' hit') hsel hsc)
theorem anySt_mono {L : Array Bool} {j : Nat} (h : anySt ops L = true) : anySt ops (L.setIfInBounds j true) = true := by
  obtain ⟨k, hk, h2⟩ := List.any_eq_true.1 h
  simp only [Bool.and_eq_true] at h2
  exact List.any_eq_true.2 ⟨k, hk, by rw [h2.2, getD_set_true h2.1]; rfl⟩
theorem lowS_lowS (Ω : Ctx) : lowS (lowS Ω) = lowS Ω := by unfold lowS; rw [List.filter_filter]; congr 1; funext p; simp
theorem curS_lowS {L : Array Bool} : curS ops (lowS ΩS) L = lowS ΩS := by unfold curS; rw [lowS_lowS]; cases anySt ops L <;> rfl
theorem wpAnyT_low {Q : Exit → Act → World → Prop} : ∀ (fuel : Nat) (L : Array Bool) (a : Act) (w : World), anySt ops L = true → wpAnyT P ops Q (fun L w => Inv w0 (curS ops (lowS ΩS) L) w) t fuel L a w → wpAnyT P ops Q (fun L w => Inv w0 (curS ops ΩS L) w) t fuel L a w
  | 0, _, _, _, _, h => h
  | fuel + 1, L, a, w, hL, h => ⟨h.1, fun i hi => wpOp_mono (fun a' w' h' => ⟨fun hlt => by
      have this : Inv w0 (curS ops (lowS ΩS) (L.setIfInBounds i true)) w' := h'.1 hlt
      rw [curS_lowS] at this
      show Inv w0 (curS ops ΩS (L.setIfInBounds i true)) w'
      unfold curS; rw [anySt_mono hL]; exact this, wpAnyT_low fuel _ _ _ (anySt_mono hL) h'.2⟩) (h.2 i hi)⟩
/-- A store ahead of the tail: from here on the chunks that stores turn are not held. -/
theorem VD.sH {i : Nat} {r : List (Nat × Bool)} {o : Oper} {Φ : Value → Ctx → Prop} (σ' : Value → Env) (ho : ops[i]? = some o) (hσ : ∀ v a, EnvOk n σ a → EnvOk n (σ' v) (a.put o.dst v))
    (hg : o.guard = none) (hst : isSt ops i = true) (hs : Stp P n w0 σ Ω o Φ) (hS : ∀ v Ω', Φ v Ω' → ∀ W, Inv w0 Ω' W → Inv w0 (lowS ΩS) W)
    (h : ∀ v Ω', Φ v Ω' → VD P n w0 ops (lowS ΩS) t r (σ' v) Ω' K) : VD P n w0 ops ΩS t ((i, false) :: r) σ Ω K :=
  fun Q hn hQ listed a W he hi _ hok hh hsel hsc => by
    unfold okHead at hok
    simp only [cond_false, Bool.and_eq_true, beq_iff_eq] at hok
    obtain ⟨⟨hit, hr⟩, hok⟩ := hok
    have hit' : i < t := by simpa using hit
    have hr' : i ∈ Region.ready .any ops listed := by rw [hr]; exact .head _
    have hlen : (((i, false) :: r).length + (ops.size - t)) = (r.length + (ops.size - t)) + 1 := by simp only [List.length_cons]; omega
    rw [hlen]
    refine ⟨fun h0 => (by rw [hr] at h0; cases h0), fun j hj => ?_⟩
    rw [hr, List.mem_singleton] at hj
    subst hj
    unfold wpOp
    simp only [ho]
    have hw : Region.wanted o (yielded ops a.tmps) = true := by simp [Region.wanted, hg]
    rw [if_pos hw]
    have hsz : j < listed.size := by rw [hh.size]; exact (Array.getElem?_eq_some_iff.1 ho).1
    have hany : anySt ops (listed.setIfInBounds j true) = true := List.any_eq_true.2 ⟨j, List.mem_range.2 (Array.getElem?_eq_some_iff.1 ho).1, by rw [hst]; simp [hsz]⟩
    exact .inl (hs a W he hi _ Q fun v Ω' W' hv hi' => ⟨fun _ => by unfold curS; rw [hany]; exact hS v Ω' hv W' hi', wpAnyT_low _ _ _ _ hany (h v Ω' hv Q hn hQ _ _ W' (hσ v a he) hi' (by rw [curS_lowS]; exact hS v Ω' hv W' hi') hok (hh.set hr' hit') hsel hsc)⟩)
theorem Inv.tl {p : Nat × Mem} {W : World} (h : Inv w0 (p :: Ω) W) : Inv w0 Ω W :=
  ⟨h.os, h.tape, h.output, h.size, fun q hq => h.le q (.tail _ hq), (List.pairwise_cons.1 h.dj).2⟩
theorem VD.callN {i : Nat} {r : List (Nat × Bool)} {d : Nat} {f : FuncId} {xs : List Operand} {ats : Array TypeId} {ty : TypeId} {pos : String} {af : Array Edge} {gd : Option (Nat × Bool)} {vs : List Value} {Post : Value → Mem → Prop}
    (j : Nat) (hd : Nat.blt d n = true) (ho : ops[i]? = some ⟨some d, .call { callee := .value (.func f), args := xs.toArray, argTypes := ats }, ty, pos, af, gd⟩) (hg : gd = none ∨ ∃ j b, gd = some (j, b) ∧ gyes σ ops j b) (hf : fnOk P f = true)
    (ha : evs σ xs = some vs) (hS : ∀ W, Inv w0 Ω W → Inv w0 ΩS W) (hc : ∀ W, Inv w0 Ω W → CallR P f vs W mnil Post) (h : ∀ v m', Post v m' → VD P n w0 ops ΩS t r ((d, v) :: σ) ((j, m') :: Ω) K) : VD P n w0 ops ΩS t ((i, false) :: r) σ Ω K :=
  VD.s (fun v => (d, v) :: σ) ho (fun v _ he => he.put hd v) hg (Stp.callN j hf ha hc) (fun _ _ ⟨_, _, hΩ⟩ W hW => hS W (by subst hΩ; exact hW.tl)) (fun v _ ⟨m', hp, hΩ⟩ => hΩ ▸ h v m' hp)
/-- A truth value in a slot is decided. -/
theorem VD.dec {l : List (Nat × Bool)} {s : Nat} {p : Prop} [Decidable p] (ht : eget σ s = some (.bool (decide p))) (h1 : p → VD P n w0 ops ΩS t l ((s, .bool true) :: σ) Ω K)
    (h2 : ¬ p → VD P n w0 ops ΩS t l ((s, .bool false) :: σ) Ω K) : VD P n w0 ops ΩS t l σ Ω K := fun Q hn hQ listed a W he => by
  by_cases hp : p
  · exact h1 hp Q hn hQ listed a W (he.dup (by rw [ht, decide_eq_true hp]))
  · exact h2 hp Q hn hQ listed a W (he.dup (by rw [ht, decide_eq_false hp]))
end
abbrev str (l : List UInt8) : Value := .string ⟨l.toArray⟩
abbrev byV (b : UInt8) : Value := .int .u8 (b.toNat : Int)
theorem ba_toList (l : List UInt8) : (⟨l.toArray⟩ : ByteArray).toList = l := by rw [ByteArray.toList_eq]
theorem ba_size (l : List UInt8) : (⟨l.toArray⟩ : ByteArray).size = l.length := by show l.toArray.size = _; simp
theorem ba_extract (l : List UInt8) (i j : Nat) : (⟨l.toArray⟩ : ByteArray).extract i j = ⟨((l.take j).drop i).toArray⟩ := by
  apply ByteArray.ext
  rw [ByteArray.data_extract]
  apply Array.toList_inj.1
  simp [List.drop_take]
theorem beq_dec {α : Type} [BEq α] [LawfulBEq α] [DecidableEq α] (a b : α) : (a == b) = decide (a = b) := by
  by_cases h : a = b
  · subst h; simp
  · rw [decide_eq_false h]; exact beq_eq_false_iff_ne.2 h
theorem ba_beq (a b : List UInt8) : ((⟨a.toArray⟩ : ByteArray) == ⟨b.toArray⟩) = decide (a = b) := by
  rw [beq_toListBytes, ba_toList, ba_toList]
  exact beq_dec a b
section
variable {P : Program} {n : Nat} {w0 : World} {σ : Env} {Ω : Ctx} {ops : Array Oper} {K : Env → Ctx → Prop}
variable {ty : TypeId} {pos : String} {af : Array Edge} {d : Option Tmp} {gd : Option (Nat × Bool)} {r : List Oper}
section
variable {x y : Operand} {t u : TypeId} {a b : List UInt8}
theorem eqGuard_str (op : BinOp) (t : TypeId) (x y : Operand) (a b : ByteArray) (W : World) : (eqGuard op t x y (.string a) (.string b)).run P W = .ok () W := by
  unfold eqGuard; cases op <;> simp
theorem Yld.seql (hx : ev σ x = some (str a)) (hy : ev σ y = some (str b)) : Yld P n w0 σ Ω ⟨d, .binOp .eql t x y u, ty, pos, af, gd⟩ (.bool (decide (a = b))) := fun A W he _ => by
  simp [execOp, he.eval hx, he.eval hy, eqGuard_str, binOp, Op.stringOp]
  exact beq_dec a b
theorem Yld.sneq (hx : ev σ x = some (str a)) (hy : ev σ y = some (str b)) : Yld P n w0 σ Ω ⟨d, .binOp .neq t x y u, ty, pos, af, gd⟩ (.bool (decide (¬ a = b))) := fun A W he _ => by
  simp [execOp, he.eval hx, he.eval hy, eqGuard_str, binOp, Op.stringOp]
  exact beq_dec a b
end
theorem Yld.cvI {x : Operand} {s t : TypeId} {k k' : IntKind} {a : Int} {c : Int} (hx : ev σ x = some (.int k a)) (hs : ∃ k0, P.underlying s = some (.int k0)) (ht : P.underlying t = some (.int k')) (hc : k'.wrap a = c) :
    Yld P n w0 σ Ω ⟨d, .convert s t x, ty, pos, af, gd⟩ (.int k' c) := fun A W he _ => by
  obtain ⟨k0, hs⟩ := hs
  simp [execOp, convert, he.eval hx, run_underlying' hs, run_underlying' ht, Conv.intToInt, hc]
theorem Yld.bit {op : BinOp} {x y : Operand} {t u : TypeId} {k : IntKind} {a b c : Int} (hop : op = .and ∨ op = .or ∨ op = .xor ∨ op = .andNot) (hx : ev σ x = some (.int k a)) (hy : ev σ y = some (.int k b)) (hc : ∀ W, (Op.intBits op k a b).run P W = .ok (.int k c) W) :
    Yld P n w0 σ Ω ⟨d, .binOp op t x y u, ty, pos, af, gd⟩ (.int k c) := fun A W he _ => by
  rcases hop with rfl | rfl | rfl | rfl <;> simp [execOp, he.eval hx, he.eval hy, eqGuard_int, binOp, hc]
theorem Yld.shf {op : BinOp} {x y : Operand} {t u : TypeId} {k k' : IntKind} {a b c : Int} (hop : op = .shl ∨ op = .shr) (hx : ev σ x = some (.int k a)) (hy : ev σ y = some (.int k' b)) (hc : ∀ W, (Op.shift op k a k' b).run P W = .ok (.int k c) W) :
    Yld P n w0 σ Ω ⟨d, .binOp op t x y u, ty, pos, af, gd⟩ (.int k c) := fun A W he _ => by
  rcases hop with rfl | rfl <;> simp [execOp, he.eval hx, he.eval hy, eqGuard_int, binOp, hc]
theorem Yld.quo {op : BinOp} {x y : Operand} {t u : TypeId} {k : IntKind} {a b c : Int} (hop : op = .quo ∨ op = .rem) (hx : ev σ x = some (.int k a)) (hy : ev σ y = some (.int k b)) (hc : ∀ W, (Op.intDiv op k a b).run P W = .ok (.int k c) W) :
    Yld P n w0 σ Ω ⟨d, .binOp op t x y u, ty, pos, af, gd⟩ (.int k c) := fun A W he _ => by
  rcases hop with rfl | rfl <;> simp [execOp, he.eval hx, he.eval hy, eqGuard_int, binOp, hc]
/-- The parts of a literal, laid into cells. -/
def bld (place : Nat → Option (Nat × Nat)) (cells : List Value) : List (Nat × Value) → Option (List Value)
  | [] => some cells
  | (i, v) :: rest => match place i with
    | none => none
    | some (off, size) => bif Nat.beq v.cells.size size && Nat.ble (off + v.cells.size) cells.length then bld place (splice cells off v.cells.toList) rest else none
theorem foldl_set : ∀ (l : List Value) (off k : Nat) (cs : Array Value), off + k + l.length ≤ cs.size →
    (l.zipIdx k).foldl (fun (cs : Array Value) (p : Value × Nat) => cs.setIfInBounds (off + p.2) p.1) cs = (splice cs.toList (off + k) l).toArray
  | [], off, k, cs, _ => by simp [splice]
  | v :: l, off, k, cs, h => by
    simp only [List.length_cons] at h
    simp only [List.zipIdx_cons, List.foldl_cons]
    rw [foldl_set l off (k + 1) _ (by simp; omega), Array.toList_setIfInBounds, ← Nat.add_assoc]
    exact congrArg _ (splice_set cs.toList (off + k) v l (by simp; omega))
theorem fill_eq (place : Nat → Option (Nat × Nat)) : ∀ (ps : List (Nat × Value)) (cells : Array Value) (out : List Value), bld place cells.toList ps = some out → Instr.fill place cells ps = some out.toArray
  | [], cells, out, h => by simp [bld] at h; simp [Instr.fill, ← h]
  | (i, v) :: rest, cells, out, h => by
    unfold bld at h
    unfold Instr.fill
    split at h
    · cases h
    · rename_i off size hp
      cases hb : (Nat.beq v.cells.size size && Nat.ble (off + v.cells.size) cells.toList.length) with
      | false => rw [hb] at h; cases h
      | true =>
        rw [hb] at h
        simp only [Bool.and_eq_true] at hb
        have h1 := Nat.eq_of_beq_eq_true hb.1
        have h2 : off + v.cells.size ≤ cells.size := by simpa using Nat.le_of_ble_eq_true hb.2
        simp only [hp]
        rw [if_neg (by simp [h1]; omega)]
        have e : v.cells.zipIdx.foldl (fun cs (x : Value × Nat) => match x with | (c, j) => cs.setIfInBounds (off + j) c) cells = (splice cells.toList off v.cells.toList).toArray := by
          rw [← Array.foldl_toList, Array.toList_zipIdx]
          exact foldl_set v.cells.toList off 0 cells (by simpa using h2)
        rw [e]
        exact fill_eq place rest _ out (by simpa using h)
def evp (σ : Env) : List (Nat × Operand) → Option (List (Nat × Value))
  | [] => some []
  | (i, x) :: r => match ev σ x, evp σ r with
    | some v, some vs => some ((i, v) :: vs)
    | _, _ => none
theorem evp_map {a : Act} (he : EnvOk n σ a) : ∀ {l : List (Nat × Operand)} {ps : List (Nat × Value)}, evp σ l = some ps → l.map (fun (i, x) => (i, a.eval x)) = ps
  | [], ps, h => by simp [evp] at h; simp [h]
  | (i, x) :: r, ps, h => by
    unfold evp at h
    split at h
    · rename_i v vs h1 h2
      simp only [Option.some.injEq] at h
      subst h
      simp only [List.map_cons, he.eval h1]
      rw [evp_map he h2]
    · cases h
theorem mapM_run_places {t : TypeId} {fs : List (Nat × Nat)} (h : tst P t = some fs) (W : World) : ∃ F : Array Field, P.underlying t = some (.struct F) ∧ (F.mapM (m := Sem) fun f => do pure (f.offset, ← sizeOf f.type)).run P W = .ok fs.toArray W := by
  unfold tst at h
  split at h
  · rename_i F hF
    refine ⟨F, hF, ?_⟩
    rw [← Array.toArray_toList (xs := F), List.mapM_toArray]
    have key : ∀ (l : List Field) (r : List (Nat × Nat)), l.mapM (fun f => (P.info? f.type).bind fun i => if i.size = 0 then none else some (f.offset, i.size)) = some r →
        (l.mapM (m := Sem) fun f => do pure (f.offset, ← sizeOf f.type)).run P W = .ok r W := by
      intro l
      induction l with
      | nil => intro r hr; simp at hr; subst hr; rfl
      | cons f l ih =>
        intro r hr
        simp only [List.mapM_cons, Option.bind_eq_bind, Option.bind_eq_some_iff] at hr
        obtain ⟨z, ⟨i, hi, hz⟩, r', hr', hr⟩ := hr
        split at hz
        · cases hz
        · simp only [Option.some.injEq] at hz
          simp only [Option.pure_def, Option.some.injEq] at hr
          subst hz; subst hr
          simp only [List.mapM_cons, Sem.run_bind, run_sizeOf' hi, Result.andThen_ok, Sem.run_pure, ih r' hr']
    rw [Sem.run_map, key _ _ h]
    rfl
  · cases h
theorem Yld.bst {t : TypeId} {l : List (Nat × Operand)} {ps : List (Nat × Value)} {fs : List (Nat × Nat)} {z cs : List Value} (hl : evp σ l = some ps) (ht : tst P t = some fs) (hz : tz P t = some z) (hb : bld (fun i => fs[i]?) z ps = some cs) :
    Yld P n w0 σ Ω ⟨d, .build t l.toArray, ty, pos, af, gd⟩ (.agg cs.toArray) := fun a W he _ => by
  obtain ⟨v, hv, hzr⟩ := tz_run hz
  obtain ⟨F, h1, h2⟩ := mapM_run_places ht W
  have hf : Instr.fill (fun i => fs.toArray[i]?) v.cells ps = some cs.toArray := fill_eq _ ps v.cells cs (by rw [hv]; simpa using hb)
  have hm : (l.toArray.map fun (i, x) => (i, a.eval x)).toList = ps := by rw [← evp_map he hl]; simp
  simp only [execOp, Instr.build, Sem.run_bind, hzr, Result.andThen_ok, run_underlying' h1, h2]
  rw [hm, hf]
  simp
theorem Stp.bsl {t e : TypeId} {s b len : Nat} {l : List (Nat × Operand)} {ps : List (Nat × Value)} {z cs : List Value} (i : Nat) (hl : evp σ l = some ps) (ht : tsl P t = some (e, s, b)) (hz : tz P e = some z)
    (hsmall : Nat.ble (len * s) 16777216 = true) (hb : bld (fun i => some (i * s, s)) ((List.range (len * s)).map fun j => z.toArray[j % z.toArray.size]!) ps = some cs) :
    Stp P n w0 σ Ω ⟨d, .buildSlice t len l.toArray, ty, pos, af, gd⟩ (fun v Ω' => ∃ g, v = .slice (some ⟨g, 0, none⟩) len len ∧ Ω' = (i, mone g (.cells cs.toArray e (0, 0))) :: Ω) := fun a W he hi K' Q hK => by
  obtain ⟨h1, i', h2, h3, _⟩ := tsl_run ht
  obtain ⟨v, hv, hzr⟩ := tz_run hz
  have hv' : v.cells = z.toArray := by rw [← hv]
  have hm : (l.toArray.map fun (i, x) => (i, a.eval x)).toList = ps := by rw [← evp_map he hl]; simp
  have hsm : ¬ (len * s > 2 ^ 24) := by have := Nat.le_of_ble_eq_true hsmall; omega
  unfold Oper.wp
  have hex : (execOp a.eval ⟨d, .buildSlice t len l.toArray, ty, pos, af, gd⟩).run P W = .ok (.value (.slice (some ⟨W.heap.size, 0, none⟩) len len)) (W.alloc (.cells cs.toArray e (0, 0))) := by
    simp only [execOp, Instr.buildSlice, Sem.run_bind, run_underlying' h1, Result.andThen_ok, run_sizeOf' h2, h3, hsm, if_false, hm]
    by_cases h0 : len * s = 0
    · have hf : Instr.fill (fun i => some (i * s, s)) ((Array.range (len * s)).map (fun x => (#[] : Array Value)[x % (#[] : Array Value).size]!)) ps = some cs.toArray := by
        refine fill_eq _ ps _ cs ?_
        rw [h0] at hb ⊢
        simpa using hb
      simp [h0, newRow] at hf ⊢
      simp [hf]
    · have hf : Instr.fill (fun i => some (i * s, s)) ((Array.range (len * s)).map (fun x => v.cells[x % v.cells.size]!)) ps = some cs.toArray := by
        refine fill_eq _ ps _ cs ?_
        rw [hv', Array.toList_map, Array.toList_range]
        exact hb
      simp only [h0, if_false, Sem.run_bind, hzr, Result.andThen_ok, Sem.run_pure, hf, newRow, run_newObj]
      rfl
  rw [hex]
  exact hK _ _ _ ⟨_, rfl, rfl⟩ (hi.alloc i _)
theorem VO.bsl {dd : Nat} {t e : TypeId} {s b len : Nat} {l : List (Nat × Operand)} {ps : List (Nat × Value)} {z cs : List Value} (i : Nat) (hd : Nat.blt dd n = true) (hl : evp σ l = some ps) (ht : tsl P t = some (e, s, b)) (hz : tz P e = some z)
    (hsmall : Nat.ble (len * s) 16777216 = true) (hb : bld (fun i => some (i * s, s)) ((List.range (len * s)).map fun j => z.toArray[j % z.toArray.size]!) ps = some cs)
    (h : ∀ g, VO P n w0 ops r ((dd, .slice (some ⟨g, 0, none⟩) len len) :: σ) ((i, mone g (.cells cs.toArray e (0, 0))) :: Ω) K) : VO P n w0 ops (⟨some dd, .buildSlice t len l.toArray, ty, pos, af, none⟩ :: r) σ Ω K :=
  VO.s hd (Stp.bsl i hl ht hz hsmall hb) fun _ _ ⟨g, hv, hΩ⟩ => hv ▸ hΩ ▸ h g
end
/-- A slice of one's own: without room, or a part of block g up to its capacity; chunk m is that block; 'cs': its cells. -/
inductive OwnA (sz : Nat) : Mem → Value → Nat → List Value → Prop
  | nil (A : Option Addr) : OwnA sz mnil (.slice A 0 0) 0 []
  | row (g off len cap : Nat) (e : TypeId) (c : List Value) (h1 : off + cap * sz ≤ c.length) (h2 : len ≤ cap) (h3 : cap ≤ maxLen) :
      OwnA sz (mone g (.cells c.toArray e (0, 0))) (.slice (some ⟨g, off, none⟩) len cap) len ((c.drop off).take (len * sz))
/-- What may be appended. -/
inductive Src (P : Program) (Ω : Ctx) (sz : Nat) (xt : TypeId) : Value → Nat → List Value → Prop
  | str (s : List UInt8) (h : P.underlying xt = some .string) (h1 : sz = 1) : Src P Ω sz xt (str s) s.length (s.map byV)
  | zero (A : Option Addr) (c : Nat) (e : TypeId) (h : P.underlying xt = some (.slice e)) : Src P Ω sz xt (.slice A 0 c) 0 []
  | row (i : Nat) (m : Mem) (g off k c : Nat) (xs : List Value) (e : TypeId) (h : P.underlying xt = some (.slice e)) (hm : cget Ω i = some m) (hc : cellsAt m g off (k * sz) xs) : Src P Ω sz xt (.slice (some ⟨g, off, none⟩) k c) k xs
section
variable {P : Program} {n : Nat} {w0 : World} {σ : Env} {Ω : Ctx} {ops : Array Oper} {K : Env → Ctx → Prop}
variable {ty : TypeId} {pos : String} {af : Array Edge} {d : Option Tmp} {gd : Option (Nat × Bool)} {r : List Oper}
theorem OwnA.len_eq {sz len : Nat} {m : Mem} {v : Value} {cs : List Value} (h : OwnA sz m v len cs) : cs.length = len * sz := by
  cases h with
  | nil => simp
  | row g off len cap e c h1 h2 h3 =>
    have := Nat.mul_le_mul_right sz h2
    simp; omega
theorem run_firstCells_ok {W : World} {sz : Nat} {xt : TypeId} {x : Value} {k : Nat} {xs : List Value} (h : Src P Ω sz xt x k xs) (hi : Inv w0 Ω W) : (Builtin.firstCells sz k x).run P W = .ok xs.toArray W := by
  cases h with
  | str s h1 h2 =>
    have : (⟨s.toArray⟩ : ByteArray).extract 0 s.length = ⟨s.toArray⟩ := by rw [ba_extract]; simp
    simp [Builtin.firstCells, this]
  | zero A c e h =>
    cases A with
    | none => simp [Builtin.firstCells]
    | some a => simp [Builtin.firstCells, loadCells, loadCellsFrom]
  | row i m g off k c xs e h hm hc => exact run_loadCells' (hc.mono (hi.at hm))
theorem run_lenOf_ok {W : World} {sz : Nat} {xt : TypeId} {x : Value} {k : Nat} {xs : List Value} (h : Src P Ω sz xt x k xs) : (Builtin.lenOf x).run P W = .ok k W := by
  cases h with
  | str s h1 h2 => simp [Builtin.lenOf, ba_size]
  | zero A c e h => simp [Builtin.lenOf]
  | row i m g off k c xs e h hm hc => simp [Builtin.lenOf]
theorem Src.type {sz : Nat} {xt : TypeId} {x : Value} {k : Nat} {xs : List Value} (h : Src P Ω sz xt x k xs) : ∃ D, P.underlying xt = some D ∧ (∀ k, D ≠ .int k) := by
  cases h with
  | str s h1 h2 => exact ⟨_, h1, by simp⟩
  | zero A c e h => exact ⟨_, h, by simp⟩
  | row i m g off k c xs e h hm hc => exact ⟨_, h, by simp⟩
theorem Src.len {sz : Nat} {xt : TypeId} {x : Value} {k : Nat} {xs : List Value} (h : Src P Ω sz xt x k xs) : xs.length = k * sz := by
  cases h with
  | str s h1 h2 => simp [h2]
  | zero A c e h => simp
  | row i m g off k c xs e h hm hc => exact hc.len
/-- The same, of one world. -/
structure SrcW (P : Program) (W : World) (sz : Nat) (xt : TypeId) (x : Value) (k : Nat) (xs : List Value) : Prop where
  type : ∃ D, P.underlying xt = some D ∧ (∀ k, D ≠ .int k)
  len : xs.length = k * sz
  fc : ∀ W', W'.heap = W.heap → (Builtin.firstCells sz k x).run P W' = .ok xs.toArray W'
  ln : ∀ W' : World, (Builtin.lenOf x).run P W' = .ok k W'
theorem firstCells_row {W : World} {sz g off k c : Nat} {xs : List Value} (h : cellsAt (wm W) g off (k * sz) xs) : (Builtin.firstCells sz k (.slice (some ⟨g, off, none⟩) k c)).run P W = .ok xs.toArray W := run_loadCells' h
theorem Src.w {W : World} {sz : Nat} {xt : TypeId} {x : Value} {k : Nat} {xs : List Value} (h : Src P Ω sz xt x k xs) (hi : Inv w0 Ω W) : SrcW P W sz xt x k xs :=
  ⟨h.type, h.len, fun W' hW => run_firstCells_ok h ⟨rfl, rfl, rfl, Nat.le_refl _, fun p hp => by have := hi.le p hp; unfold wm at this ⊢; rw [hW]; exact this, hi.dj⟩, fun W' => run_lenOf_ok h⟩
theorem append_eq {t xt e : TypeId} {sz b : Nat} {A : Option Addr} {len cap k : Nat} {x : Value} {xs : List Value} {W : World} (ht : tsl P t = some (e, sz, b)) (hs : SrcW P W sz xt x k xs) (ty : TypeId)
    (hle : len + k ≤ cap) : (Builtin.append_ #[t, xt] ty #[.slice A len cap, x]).run P W = (match A with
      | some a => (storeCells (a.add (len * sz)) xs).run P W
      | none => .ok () W).andThen fun _ W' => .ok (.slice A (len + k) cap) W' := by
  obtain ⟨h1, i, h2, h3, h4⟩ := tsl_run ht
  obtain ⟨D, hD, hne⟩ := hs.type
  cases A with
  | none => simp [Builtin.append_, run_underlying' h1, run_underlying' hD, run_sizeOf' h2, hs.ln, hle, h3, hs.fc W rfl]
  | some a => simp [Builtin.append_, run_underlying' h1, run_underlying' hD, run_sizeOf' h2, hs.ln, hle, h3, hs.fc W rfl]
theorem append_grow {t xt e : TypeId} {sz b : Nat} {A : Option Addr} {len cap k : Nat} {x : Value} {xs cs z : List Value} {W : World} (ht : tsl P t = some (e, sz, b)) (hz : tz P e = some z) (hs : SrcW P W sz xt x k xs) (ty : TypeId)
    (hold : ∀ W', W'.heap = W.heap → (Builtin.firstCells sz len (.slice A len cap)).run P W' = .ok cs.toArray W')
    (hgt : cap < len + k) (hml : len + k ≤ maxLen) (hb : (len + k) * b ≤ 140737488355328) (hb0 : b ≠ 0) :
    ∃ ncap rest, len + k ≤ ncap ∧ ncap ≤ maxLen ∧ rest.length = (ncap - (len + k)) * z.length ∧ (Builtin.append_ #[t, xt] ty #[.slice A len cap, x]).run P W =
      .ok (.slice (some ⟨W.heap.size, 0, none⟩) (len + k) ncap) (W.drew.alloc (.cells (cs ++ xs ++ rest).toArray e (0, 0))) := by
  obtain ⟨h1, i, h2, h3, h4⟩ := tsl_run ht
  obtain ⟨D, hD, hne⟩ := hs.type
  obtain ⟨v, hv, hzr⟩ := tz_run hz
  have hge := grownCap_ge W (len + k) cap e
  have hcm := grownCap_le_maxLen W (len + k) cap e hml
  refine ⟨grownCap W (len + k) cap e, (Builtin.zeroCells v.cells (grownCap W (len + k) cap e - (len + k))).toList, hge, hcm, by simp [size_zeroCells, ← hv], ?_⟩
  have hnot : ¬ (len + k ≤ cap) := by omega
  have hfit : ¬ (Builtin.nextslicecap (len + k) cap * i.bytes > 2 ^ 48) := by
    have := growslice_fits (need := len + k) (old := cap) (bytes := i.bytes) hgt (by rw [h4]; exact hb)
    omega
  have hsrc : (Builtin.firstCells sz k x).run P W.drew = .ok xs.toArray W.drew := hs.fc _ rfl
  have hb0' : i.bytes ≠ 0 := by rw [h4]; exact hb0
  simp [Builtin.append_, run_underlying' h1, run_underlying' hD, run_sizeOf' h2, run_typeInfo' h2, hs.ln, hnot, h3, hfit, hb0', hzr, hold W.drew rfl, hsrc, newRow]
  rw [if_neg (by simp [Question.forced])]
  simp
  refine ⟨rfl, ?_⟩
  congr 2
  apply Array.toList_inj.1
  simp
  rfl
theorem app_wp {s x : Operand} {t xt e : TypeId} {sz b len k : Nat} {v xv : Value} {cs xs z : List Value} {i : Nat} {m m0 : Mem} {a : Act} {W : World} (he : EnvOk n σ a) (hi : Inv w0 Ω W) (hsv : ev σ s = some v) (hxv : ev σ x = some xv) (ht : tsl P t = some (e, sz, b)) (hz : tz P e = some z) (hzl : z.length = sz)
    (hm : cget Ω i = some m) (hm0 : mle m0 m) (hown : OwnA sz m0 v len cs) (hs : SrcW P W sz xt xv k xs) (h1 : ∀ u ∈ xs, u.oneCell' = true) (hml : len + k ≤ maxLen) (hb : (len + k) * b ≤ 140737488355328) (hb0 : b ≠ 0)
    {K' : Act → World → Prop} {Q : Exit → Act → World → Prop} (hK : ∀ v' m' W', OwnA sz m' v' (len + k) (cs ++ xs) → Inv w0 (cset Ω i m') W' → K' (a.put d v') W') :
    (⟨d, .call { callee := .builtin .append, args := [s, x].toArray, argTypes := [t, xt].toArray }, ty, pos, af, gd⟩ : Oper).wp P a W K' Q := by
  have hex : ∀ (res : Value) (W' : World), (Builtin.append_ #[t, xt] ty #[v, xv]).run P W = .ok res W' → (execOp a.eval ⟨d, .call { callee := .builtin .append, args := [s, x].toArray, argTypes := [t, xt].toArray }, ty, pos, af, gd⟩).run P W = .ok (.value res) W' := by
    intro res W' h
    simp [execOp, resolve, invoke, builtin, he.eval hsv, he.eval hxv, h]
  have grow : ∀ (A : Option Addr) (cap : Nat), v = .slice A len cap → (∀ W', W'.heap = W.heap → (Builtin.firstCells sz len (.slice A len cap)).run P W' = .ok cs.toArray W') → cap < len + k →
      (⟨d, .call { callee := .builtin .append, args := [s, x].toArray, argTypes := [t, xt].toArray }, ty, pos, af, gd⟩ : Oper).wp P a W K' Q := by
    intro A cap hv hold hgt
    subst hv
    obtain ⟨ncap, rest, hn1, hn2, hr, hrun⟩ := append_grow ht hz hs ty hold hgt hml hb hb0
    unfold Oper.wp
    rw [hex _ _ hrun]
    have hl1 := hown.len_eq
    have hl2 := hs.len
    refine hK _ (mone W.heap.size (.cells (cs ++ xs ++ rest).toArray e (0, 0))) _ ?_ (hi.set hm rfl rfl rfl (by simp) ?_ (mone_le ?_) fun g => ?_)
    · have hlen : (cs ++ xs ++ rest).length = ncap * sz := by
        simp only [List.length_append, hl1, hl2, hr, hzl, ← Nat.add_mul]
        congr 1; omega
      have := OwnA.row (sz := sz) W.heap.size 0 (len + k) ncap e (cs ++ xs ++ rest) (by rw [hlen]; omega) hn1 hn2
      rw [List.drop_zero, List.take_append_of_le_length (by simp [hl1, hl2, Nat.add_mul]), List.take_of_length_le (by simp [hl1, hl2, Nat.add_mul])] at this
      exact this
    · exact (mout_le _ _).trans (wm_alloc W.drew _)
    · exact wm_alloc_new W.drew _
    · by_cases hg : g = W.heap.size
      · exact .inr (.inr (Nat.le_of_eq hg.symm))
      · exact .inl (mone_ne _ hg)
  cases hown with
  | nil A =>
    by_cases hk : k = 0
    · subst hk
      have hx : xs = [] := List.eq_nil_of_length_eq_zero (by simpa using hs.len)
      subst hx
      unfold Oper.wp
      rw [hex (.slice A 0 0) W (by rw [append_eq ht hs ty (by omega)]; cases A <;> rfl)]
      exact hK _ mnil _ (.nil A) (hi.set hm rfl rfl rfl (Nat.le_refl _) (mout_le _ _) (mle_nil _) fun g => .inl rfl)
    · exact grow A 0 rfl (fun W' _ => by cases A <;> simp [Builtin.firstCells, loadCells, loadCellsFrom]) (by omega)
  | row g off len cap E c h1' h2' h3' =>
    by_cases hle : len + k ≤ cap
    · have hg := hi.at hm g _ (hm0 g _ (mone_self _ _))
      have hmul := Nat.mul_le_mul_right sz hle
      have hl2 := hs.len
      obtain ⟨W', hrun, ho, htp, hu, hsz, hfar, hgg⟩ := setCells_heap (P := P) xs W g (off + len * sz) c.toArray E (0, 0) hg (by simp [hl2]; rw [Nat.add_mul] at hmul; omega) (Nat.le_refl _) h1 0 (off + len * sz) rfl
      unfold Oper.wp
      rw [hex (.slice (some ⟨g, off, none⟩) (len + k) cap) W' (by rw [append_eq ht hs ty hle]; simp only [add_off, hrun]; rfl)]
      have hsl : splice c (off + len * sz) xs = c.take (off + len * sz) ++ (xs ++ c.drop (off + len * sz + xs.length)) := rfl
      have hlc : (splice c (off + len * sz) xs).length = c.length := by rw [hsl]; simp [hl2]; rw [Nat.add_mul] at hmul; omega
      refine hK _ (mone g (.cells (splice c (off + len * sz) xs).toArray E (0, 0))) _ ?_ (hi.set hm ho htp hu (Nat.le_of_eq hsz.symm) ?_ (mone_le hgg) fun g' => ?_)
      · have := OwnA.row (sz := sz) g off (len + k) cap E (splice c (off + len * sz) xs) (by rw [hlc]; exact h1') hle h3'
        have e1 : List.take ((len + k) * sz) (List.drop off (splice c (off + len * sz) xs)) = List.take (len * sz) (List.drop off c) ++ xs := by
          rw [hsl, List.drop_append_of_le_length (by simp; rw [Nat.add_mul] at hmul; omega), ← List.append_assoc]
          have e2 : List.drop off (List.take (off + len * sz) c) = List.take (len * sz) (List.drop off c) := by
            rw [List.drop_take]; congr 1; omega
          rw [e2]
          have e3 : (List.take (len * sz) (List.drop off c) ++ xs).length = (len + k) * sz := by
            rw [Nat.add_mul] at hmul ⊢
            simp [hl2]; omega
          rw [← e3]
          exact List.take_left
        rw [e1] at this
        exact this
      · intro q o h
        unfold mout at h
        split at h
        · cases h
        · rename_i hn
          have hne : q ≠ g := by rintro rfl; rw [hm0 _ _ (mone_self _ _)] at hn; cases hn
          unfold wm at h ⊢
          rw [hfar q hne]; exact h
      · by_cases hgg' : g' = g
        · subst hgg'; right; left; rw [hm0 _ _ (mone_self _ _)]; simp
        · exact .inl (mone_ne _ hgg')
    · refine grow (some ⟨g, off, none⟩) cap rfl (fun W' hW' => ?_) (by omega)
      have hg := hi.at hm g _ (hm0 g _ (mone_self _ _))
      have hmul := Nat.mul_le_mul_right sz h2'
      refine run_loadCells' ⟨c.toArray, E, (0, 0), ?_, by simp; omega, rfl⟩
      unfold wm at hg ⊢
      rw [hW']; exact hg
theorem Stp.app {s x : Operand} {t xt e : TypeId} {sz b len k : Nat} {v xv : Value} {cs xs z : List Value} (i : Nat) {m m0 : Mem} (hsv : ev σ s = some v) (hxv : ev σ x = some xv) (ht : tsl P t = some (e, sz, b)) (hz : tz P e = some z) (hzl : z.length = sz)
    (hm : cget Ω i = some m) (hm0 : mle m0 m) (hown : OwnA sz m0 v len cs) (hs : Src P Ω sz xt xv k xs) (h1 : ∀ u ∈ xs, u.oneCell' = true) (hml : len + k ≤ maxLen) (hb : (len + k) * b ≤ 140737488355328) (hb0 : b ≠ 0) :
    Stp P n w0 σ Ω ⟨d, .call { callee := .builtin .append, args := [s, x].toArray, argTypes := [t, xt].toArray }, ty, pos, af, gd⟩ (fun v' Ω' => ∃ m', OwnA sz m' v' (len + k) (cs ++ xs) ∧ Ω' = cset Ω i m') := fun a W he hi K' Q hK =>
  app_wp he hi hsv hxv ht hz hzl hm hm0 hown (hs.w hi) h1 hml hb hb0 fun v' m' W' h1 h2 => hK v' _ W' ⟨m', h1, rfl⟩ h2
theorem VO.app {s x : Operand} {t xt e : TypeId} {sz b len k dd : Nat} {v xv : Value} {cs xs z : List Value} (i : Nat) {m m0 : Mem} (hd : Nat.blt dd n = true) (hsv : ev σ s = some v) (hxv : ev σ x = some xv) (ht : tsl P t = some (e, sz, b)) (hz : tz P e = some z) (hzl : z.length = sz)
    (hm : cget Ω i = some m) (hm0 : mle m0 m) (hown : OwnA sz m0 v len cs) (hs : Src P Ω sz xt xv k xs) (h1 : ∀ u ∈ xs, u.oneCell' = true) (hml : len + k ≤ maxLen) (hb : (len + k) * b ≤ 140737488355328) (hb0 : b ≠ 0)
    (h : ∀ v' m', OwnA sz m' v' (len + k) (cs ++ xs) → VO P n w0 ops r ((dd, v') :: σ) (cset Ω i m') K) :
    VO P n w0 ops (⟨some dd, .call { callee := .builtin .append, args := [s, x].toArray, argTypes := [t, xt].toArray }, ty, pos, af, none⟩ :: r) σ Ω K :=
  VO.s hd (Stp.app i hsv hxv ht hz hzl hm hm0 hown hs h1 hml hb hb0) fun v' _ ⟨m', hp, hΩ⟩ => hΩ ▸ h v' m' hp
/-- cells of plain kinds, one by one. -/
def ceq : List Value → List Value → Bool
  | [], [] => true
  | .int _ a :: r, .int _ b :: s => decide (a = b) && ceq r s
  | .bool a :: r, .bool b :: s => decide (a = b) && ceq r s
  | .string a :: r, .string b :: s => decide (a.toList = b.toList) && ceq r s
  | _, _ => false
/-- Do these fields, all of plain kinds and named, lie one behind the other, from cell o on, in these cells? -/
def plainF (P : Program) : List Field → Nat → List Value → Bool
  | [], _, [] => true
  | f :: r, o, v :: s => decide (f.name ≠ "_") && decide (f.offset = o) && (match P.underlying f.type, v with
      | some (.int k), .int k' _ => decide (k = k')
      | some .bool, .bool _ => true
      | some .string, .string _ => true
      | _, _ => false) && plainF P r (o + 1) s
  | _, _, _ => false
/-- A struct of plain fields, comparable; given cells of these kinds. -/
def plainS (P : Program) (t : TypeId) (cs : List Value) : Bool := match P.underlying t with
  | some (.struct F) => plainF P F.toList 0 cs && !P.stoodInHeld t && !P.eqGuardType P.depth t
  | _ => false
end
def inK : IntKind → Int → Prop
  | .i64, n => -9223372036854775808 ≤ n ∧ n ≤ 9223372036854775807
  | .u64, n => 0 ≤ n ∧ n ≤ 18446744073709551615
  | .i32, n => -2147483648 ≤ n ∧ n ≤ 2147483647
  | .u32, n => 0 ≤ n ∧ n ≤ 4294967295
  | .i16, n => -32768 ≤ n ∧ n ≤ 32767
  | .u16, n => 0 ≤ n ∧ n ≤ 65535
  | .i8, n => -128 ≤ n ∧ n ≤ 127
  | .u8, n => 0 ≤ n ∧ n ≤ 255
inductive Ty where
  | int (k : IntKind)
  | byte
  | bool
  | str
  | pair (a b : Ty)
  | sl (e : Ty)
  | spl (e : Ty)
  | ptr (e : Ty)
  | addr
  | hdr
  | tmap
namespace Ty
@[reducible] def Den : Ty → Type
  | .int _ => Int
  | .byte => UInt8
  | .bool => Bool
  | .str => List UInt8
  | .pair a b => a.Den × b.Den
  | .sl e => List e.Den
  | .spl e => List e.Den × List e.Den
  | .ptr e => Nat × e.Den
  | .addr => Option Nat
  | .hdr => Option Addr × Nat × Nat
  | .tmap => List (List UInt8 × List UInt8 × Bool)
def sz : Ty → Nat
  | .pair a b => a.sz + b.sz
  | _ => 1
/-- no memory beyond its own cells. -/
def flat : Ty → Bool
  | .pair a b => a.flat && b.flat
  | .sl _ => false
  | .spl _ => false
  | .ptr _ => false
  | .tmap => false
  | _ => true
end Ty
/-- Cells that read, part by part, as the list. -/
def All2c {α : Type} (R : List Value → α → Prop) : List Value → List α → Prop
  | cs, [] => cs = []
  | cs, x :: r => ∃ c1 c2, cs = c1 ++ c2 ∧ R c1 x ∧ All2c R c2 r
/-- the entries of a map from texts to texts with a mark. -/
def entV (x : List UInt8 × List UInt8 × Bool) : Value × Value := (str x.1, .agg [str x.2.1, .bool x.2.2].toArray)
def mapRd (es : Array MapEntry) (ck : Nat) (xs : List (List UInt8 × List UInt8 × Bool)) : Prop := es.toList.map (fun e => (e.key, e.val)) = xs.map entV ∧ (∀ x ∈ xs, x.1.length ≤ maxLen ∧ x.2.1.length ≤ maxLen) ∧ MapKept.Stamped es ck
def Rd : (t : Ty) → Mem → List Value → t.Den → Prop
  | .int k, _, cs, (n : Int) => cs = [.int k n] ∧ inK k n
  | .byte, _, cs, (b : UInt8) => cs = [byV b]
  | .bool, _, cs, (b : Bool) => cs = [.bool b]
  | .str, _, cs, (s : List UInt8) => cs = [str s] ∧ s.length ≤ maxLen
  | .pair a b, m, cs, (x, y) => ∃ c1 c2, cs = c1 ++ c2 ∧ Rd a m c1 x ∧ Rd b m c2 y
  | .sl e, m, cs, (xs : List e.Den) => ∃ A c, cs = [.slice A xs.length c] ∧ xs.length ≤ c ∧ c ≤ maxLen ∧
      (xs.length = 0 ∨ ∃ g off all, A = some ⟨g, off, none⟩ ∧ cellsAt m g off (xs.length * e.sz) all ∧ All2c (Rd e m) all xs)
  | .spl e, m, cs, ((xs, ys) : List e.Den × List e.Den) => ∃ A c, cs = [.slice A xs.length c] ∧ (xs ++ ys).length ≤ c ∧ c ≤ maxLen ∧
      ((xs ++ ys).length = 0 ∨ ∃ g off all, A = some ⟨g, off, none⟩ ∧ cellsAt m g off ((xs ++ ys).length * e.sz) all ∧ All2c (Rd e m) all (xs ++ ys))
  | .ptr e, m, cs, ((g, d) : Nat × e.Den) => cs = [.pointer (some ⟨g, 0, none⟩)] ∧ ∃ rc E, m g = some (.cells rc.toArray E (0, 0)) ∧ Rd e m rc d
  | .addr, _, cs, (g : Option Nat) => cs = [.pointer (g.map fun g => ⟨g, 0, none⟩)]
  | .hdr, _, cs, (h : Option Addr × Nat × Nat) => cs = [.slice h.1 h.2.1 h.2.2]
  | .tmap, m, cs, (xs : List (List UInt8 × List UInt8 × Bool)) => ∃ r es ck, cs = [.map (some r)] ∧ m r = some (.map es ck) ∧ mapRd es ck xs
section
variable {α : Type} {R R' : List Value → α → Prop} {k : Nat}
theorem All2c.mono : ∀ {xs : List α} {cs : List Value}, All2c R cs xs → (∀ c x, R c x → R' c x) → All2c R' cs xs
  | [], _, h, _ => h
  | _ :: _, _, ⟨c1, c2, h1, h2, h3⟩, hr => ⟨c1, c2, h1, hr _ _ h2, All2c.mono h3 hr⟩
theorem All2c.len (hk : ∀ c x, R c x → c.length = k) : ∀ {xs : List α} {cs : List Value}, All2c R cs xs → cs.length = xs.length * k
  | [], _, h => by rw [show _ = [] from h]; simp
  | _ :: r, _, ⟨c1, c2, h1, h2, h3⟩ => by
    rw [h1, List.length_append, hk _ _ h2, All2c.len hk h3, List.length_cons, Nat.add_mul]; omega
theorem All2c.app : ∀ {xs ys : List α} {cs ds : List Value}, All2c R cs xs → All2c R ds ys → All2c R (cs ++ ds) (xs ++ ys)
  | [], _, _, _, h, h' => by rw [show _ = [] from h]; exact h'
  | _ :: _, _, _, _, ⟨c1, c2, h1, h2, h3⟩, h' => ⟨c1, c2 ++ _, by rw [h1, List.append_assoc], h2, All2c.app h3 h'⟩
theorem All2c.one {c : List Value} {x : α} (h : R c x) : All2c R c [x] := ⟨c, [], by simp, h, rfl⟩
theorem All2c.get (hk : ∀ c x, R c x → c.length = k) : ∀ {xs : List α} {cs : List Value} {i : Nat} {x : α}, All2c R cs xs → xs[i]? = some x → R ((cs.drop (i * k)).take k) x
  | y :: r, _, 0, x, ⟨c1, c2, h1, h2, h3⟩, hi => by
    simp at hi; subst hi
    rw [h1, Nat.zero_mul, List.drop_zero, ← hk _ _ h2, List.take_left]
    exact h2
  | y :: r, _, i + 1, x, ⟨c1, c2, h1, h2, h3⟩, hi => by
    have := All2c.get hk h3 (i := i) (by simpa using hi)
    rw [h1, show (i + 1) * k = c1.length + i * k by rw [hk _ _ h2, Nat.add_mul]; omega, List.drop_append, List.drop_of_length_le (by omega), List.nil_append]
    simpa using this
theorem All2c.take (hk : ∀ c x, R c x → c.length = k) : ∀ {xs : List α} {cs : List Value} (j : Nat), All2c R cs xs → All2c R (cs.take (j * k)) (xs.take j)
  | [], _, j, h => by rw [show _ = [] from h]; simp [All2c]
  | y :: r, _, 0, h => by simp [All2c]
  | y :: r, _, j + 1, ⟨c1, c2, h1, h2, h3⟩ => by
    refine ⟨c1, c2.take (j * k), ?_, h2, All2c.take hk j h3⟩
    rw [h1, show (j + 1) * k = c1.length + j * k by rw [hk _ _ h2, Nat.add_mul]; omega, List.take_length_add_append]
theorem All2c.drop (hk : ∀ c x, R c x → c.length = k) : ∀ {xs : List α} {cs : List Value} (j : Nat), All2c R cs xs → All2c R (cs.drop (j * k)) (xs.drop j)
  | [], _, j, h => by rw [show _ = [] from h]; simp [All2c]
  | y :: r, _, 0, h => by simpa using h
  | y :: r, _, j + 1, ⟨c1, c2, h1, h2, h3⟩ => by
    rw [h1, show (j + 1) * k = c1.length + j * k by rw [hk _ _ h2, Nat.add_mul]; omega, List.drop_length_add_append]
    exact All2c.drop hk j h3
theorem All2c.set (hk : ∀ c x, R c x → c.length = k) : ∀ {xs : List α} {cs : List Value} {i : Nat} {x : α} {c : List Value}, All2c R cs xs → i < xs.length → R c x → All2c R (splice cs (i * k) c) (xs.set i x)
  | y :: r, _, 0, x, c, ⟨c1, c2, h1, h2, h3⟩, _, hx => by
    refine ⟨c, c2, ?_, hx, h3⟩
    have e1 := hk _ _ h2
    have e2 := hk _ _ hx
    rw [h1]
    unfold splice
    rw [Nat.zero_mul, List.take_zero, List.nil_append, Nat.zero_add, List.drop_append, List.drop_of_length_le (by omega)]
    simp [show c.length - c1.length = 0 by omega]
  | y :: r, _, i + 1, x, c, ⟨c1, c2, h1, h2, h3⟩, hi, hx => by
    refine ⟨c1, splice c2 (i * k) c, ?_, h2, All2c.set hk h3 (by simpa using hi) hx⟩
    rw [h1, show (i + 1) * k = c1.length + i * k by rw [hk _ _ h2, Nat.add_mul]; omega]
    unfold splice
    rw [List.take_length_add_append, Nat.add_assoc, List.drop_length_add_append]
    simp
end
theorem Rd.len : ∀ {t : Ty} {m : Mem} {cs : List Value} {d : t.Den}, Rd t m cs d → cs.length = t.sz
  | .int _, _, _, _, h => by rw [h.1]; rfl
  | .byte, _, _, _, h => by rw [show _ = _ from h]; rfl
  | .bool, _, _, _, h => by rw [show _ = _ from h]; rfl
  | .str, _, _, _, h => by rw [h.1]; rfl
  | .pair a b, _, _, (x, y), ⟨c1, c2, h1, h2, h3⟩ => by rw [h1, List.length_append, Rd.len h2, Rd.len h3]; rfl
  | .sl e, _, _, _, ⟨A, c, h1, _⟩ => by rw [h1]; rfl
  | .spl e, _, _, (_, _), ⟨A, c, h1, _⟩ => by rw [h1]; rfl
  | .ptr e, _, _, (_, _), ⟨h1, _⟩ => by rw [h1]; rfl
  | .addr, _, _, _, h => by rw [show _ = _ from h]; rfl
  | .hdr, _, _, _, h => by rw [show _ = _ from h]; rfl
  | .tmap, _, _, _, ⟨r, es, ck, h1, _⟩ => by rw [h1]; rfl
theorem Rd.mono : ∀ {t : Ty} {m m' : Mem} {cs : List Value} {d : t.Den}, Rd t m cs d → mle m m' → Rd t m' cs d
  | .int _, _, _, _, _, h, _ => h
  | .byte, _, _, _, _, h, _ => h
  | .bool, _, _, _, _, h, _ => h
  | .str, _, _, _, _, h, _ => h
  | .pair a b, _, _, _, (x, y), ⟨c1, c2, h1, h2, h3⟩, hm => ⟨c1, c2, h1, Rd.mono h2 hm, Rd.mono h3 hm⟩
  | .sl e, _, _, _, _, ⟨A, c, h1, h2, h3, h4⟩, hm => ⟨A, c, h1, h2, h3, h4.imp id fun ⟨g, off, all, k1, k2, k3⟩ => ⟨g, off, all, k1, k2.mono hm, k3.mono fun _ _ h => Rd.mono h hm⟩⟩
  | .spl e, _, _, _, (_, _), ⟨A, c, h1, h2, h3, h4⟩, hm => ⟨A, c, h1, h2, h3, h4.imp id fun ⟨g, off, all, k1, k2, k3⟩ => ⟨g, off, all, k1, k2.mono hm, k3.mono fun _ _ h => Rd.mono h hm⟩⟩
  | .ptr e, _, _, _, (_, _), ⟨h1, rc, E, h2, h3⟩, hm => ⟨h1, rc, E, hm _ _ h2, Rd.mono h3 hm⟩
  | .addr, _, _, _, _, h, _ => h
  | .hdr, _, _, _, _, h, _ => h
  | .tmap, _, _, _, _, ⟨r, es, ck, h1, h2, h3⟩, hm => ⟨r, es, ck, h1, hm _ _ h2, h3⟩
theorem Rd.flat : ∀ {t : Ty} {m : Mem} {cs : List Value} {d : t.Den}, t.flat = true → Rd t m cs d → ∀ m', Rd t m' cs d
  | .int _, _, _, _, _, h, _ => h
  | .byte, _, _, _, _, h, _ => h
  | .bool, _, _, _, _, h, _ => h
  | .str, _, _, _, _, h, _ => h
  | .pair a b, _, _, (x, y), hf, ⟨c1, c2, h1, h2, h3⟩, m' => by
    have hf' : (a.flat && b.flat) = true := hf
    rw [Bool.and_eq_true] at hf'
    exact ⟨c1, c2, h1, Rd.flat hf'.1 h2 m', Rd.flat hf'.2 h3 m'⟩
  | .addr, _, _, _, _, h, _ => h
  | .hdr, _, _, _, _, h, _ => h
theorem Rd.nice : ∀ {t : Ty} {m : Mem} {cs : List Value} {d : t.Den}, Rd t m cs d → ∀ u ∈ cs, u.oneCell' = true
  | .int _, _, _, _, h, u, hu => by rw [h.1] at hu; simp at hu; subst hu; rfl
  | .byte, _, _, _, h, u, hu => by rw [show _ = _ from h] at hu; simp at hu; subst hu; rfl
  | .bool, _, _, _, h, u, hu => by rw [show _ = _ from h] at hu; simp at hu; subst hu; rfl
  | .str, _, _, _, h, u, hu => by rw [h.1] at hu; simp at hu; subst hu; rfl
  | .pair a b, _, _, (x, y), ⟨c1, c2, h1, h2, h3⟩, u, hu => by
    rw [h1] at hu
    rcases List.mem_append.1 hu with hu | hu
    · exact Rd.nice h2 u hu
    · exact Rd.nice h3 u hu
  | .sl e, _, _, _, ⟨A, c, h1, _⟩, u, hu => by rw [h1] at hu; simp at hu; subst hu; rfl
  | .spl e, _, _, (_, _), ⟨A, c, h1, _⟩, u, hu => by rw [h1] at hu; simp at hu; subst hu; rfl
  | .ptr e, _, _, (_, _), ⟨h1, _⟩, u, hu => by rw [h1] at hu; simp at hu; subst hu; rfl
  | .addr, _, _, _, h, u, hu => by rw [show _ = _ from h] at hu; simp at hu; subst hu; rfl
  | .hdr, _, _, _, h, u, hu => by rw [show _ = _ from h] at hu; simp at hu; subst hu; rfl
  | .tmap, _, _, _, ⟨r, es, ck, h1, _⟩, u, hu => by rw [h1] at hu; simp at hu; subst hu; rfl
theorem All2c.nice {t : Ty} {m : Mem} : ∀ {xs : List t.Den} {cs : List Value}, All2c (Rd t m) cs xs → ∀ u ∈ cs, u.oneCell' = true
  | [], _, h, u, hu => by rw [show _ = [] from h] at hu; cases hu
  | _ :: _, _, ⟨c1, c2, h1, h2, h3⟩, u, hu => by
    rw [h1] at hu
    rcases List.mem_append.1 hu with hu | hu
    · exact h2.nice u hu
    · exact All2c.nice h3 u hu
/-- A slice's value, opened. -/
theorem Rd.slice {e : Ty} {m : Mem} {v : Value} {xs : List e.Den} (h : Rd (.sl e) m [v] xs) : ∃ A c, v = .slice A xs.length c ∧ xs.length ≤ c ∧ c ≤ maxLen := by
  obtain ⟨A, c, h1, h2, h3, _⟩ := h
  exact ⟨A, c, by simpa using h1, h2, h3⟩
/-- An element's cells. -/
theorem Rd.elem {e : Ty} {m : Mem} {A : Option Addr} {l c i : Nat} {xs : List e.Den} {x : e.Den} (h : Rd (.sl e) m [.slice A l c] xs) (hi : xs[i]? = some x) :
    ∃ g off ec, A = some ⟨g, off, none⟩ ∧ cellsAt m g (off + i * e.sz) e.sz ec ∧ Rd e m ec x := by
  obtain ⟨A', c', h1, h2, h3, h4⟩ := h
  have hlt : i < xs.length := (List.getElem?_eq_some_iff.1 hi).1
  simp only [List.cons.injEq, Value.slice.injEq, and_true] at h1
  obtain ⟨rfl, rfl, rfl⟩ := h1
  rcases h4 with h4 | ⟨g, off, all, k1, k2, k3⟩
  · omega
  · refine ⟨g, off, (all.drop (i * e.sz)).take e.sz, k1, ?_, k3.get (fun _ _ h => h.len) hi⟩
    obtain ⟨cs, E, fz, q1, q2, rfl⟩ := k2
    have hm : i * e.sz + e.sz ≤ xs.length * e.sz := by
      have := Nat.mul_le_mul_right e.sz (Nat.succ_le_of_lt hlt)
      rw [Nat.succ_mul] at this; exact this
    refine ⟨cs, E, fz, q1, by omega, ?_⟩
    rw [List.drop_take, List.take_take, List.drop_drop]
    congr 1
    omega
/-- The whole row. -/
theorem Rd.row {e : Ty} {m : Mem} {A : Option Addr} {l c : Nat} {xs : List e.Den} (h : Rd (.sl e) m [.slice A l c] xs) (h0 : xs ≠ []) :
    ∃ g off all, A = some ⟨g, off, none⟩ ∧ cellsAt m g off (xs.length * e.sz) all ∧ All2c (Rd e m) all xs := by
  obtain ⟨A', c', h1, h2, h3, h4⟩ := h
  simp only [List.cons.injEq, Value.slice.injEq, and_true] at h1
  obtain ⟨rfl, rfl, rfl⟩ := h1
  rcases h4 with h4 | h4
  · exact absurd (List.eq_nil_of_length_eq_zero h4) h0
  · exact h4
theorem Rd.nil (e : Ty) (m : Mem) (A : Option Addr) (c : Nat) (hc : c ≤ maxLen) : Rd (.sl e) m [.slice A 0 c] ([] : List e.Den) := ⟨A, c, rfl, Nat.zero_le _, hc, .inl rfl⟩
theorem cellsAt.sub {m : Mem} {g off k : Nat} {all : List Value} (h : cellsAt m g off k all) {i j : Nat} (hij : i + j ≤ k) : cellsAt m g (off + i) j ((all.drop i).take j) := by
  obtain ⟨cs, E, fz, q1, q2, rfl⟩ := h
  refine ⟨cs, E, fz, q1, by omega, ?_⟩
  rw [List.drop_take, List.take_take, List.drop_drop]
  congr 1
  omega
/-- x[i:j], and what the walk makes of its address. -/
theorem Rd.sub {e : Ty} {m : Mem} {A : Option Addr} {l c i j : Nat} {xs : List e.Den} (h : Rd (.sl e) m [.slice A l c] xs) (hij : i ≤ j) (hj : j ≤ xs.length) :
    Rd (.sl e) m [.slice (if c = i then A else A.map (·.add (i * e.sz))) (j - i) (c - i)] ((xs.take j).drop i) := by
  have h' := h
  obtain ⟨A', c', h1, h2, h3, h4⟩ := h'
  simp only [List.cons.injEq, Value.slice.injEq, and_true] at h1
  obtain ⟨rfl, rfl, rfl⟩ := h1
  have hl : ((xs.take j).drop i).length = j - i := by simp; omega
  refine ⟨_, _, by rw [hl], by rw [hl]; omega, by omega, ?_⟩
  rw [hl]
  by_cases h0 : j - i = 0
  · exact .inl h0
  · right
    rcases h4 with h4 | ⟨g, off, all, k1, k2, k3⟩
    · omega
    · subst k1
      rw [if_neg (by omega)]
      have hm1 : i * e.sz + (j - i) * e.sz = j * e.sz := by rw [← Nat.add_mul]; congr 1; omega
      have hm2 := Nat.mul_le_mul_right e.sz hj
      refine ⟨g, off + i * e.sz, (all.drop (i * e.sz)).take ((j - i) * e.sz), by simp [add_off], k2.sub (by omega), ?_⟩
      have := (k3.take (fun _ _ h => h.len) j).drop (fun _ _ h => h.len) i
      rwa [List.drop_take, ← Nat.sub_mul] at this
def OwnL (e : Ty) (m n : Mem) (v : Value) (xs : List e.Den) : Prop := ∃ m0 cs, mle m0 m ∧ OwnA e.sz m0 v xs.length cs ∧ All2c (Rd e n) cs xs
section
variable {e : Ty} {m n : Mem} {v : Value} {xs : List e.Den}
theorem OwnL.nil (e : Ty) (m n : Mem) : OwnL e m n (.slice none 0 0) [] := ⟨mnil, [], mle_nil _, .nil none, rfl⟩
theorem OwnL.mono {n' : Mem} (h : OwnL e m n v xs) (hn : mle n n') : OwnL e m n' v xs :=
  let ⟨m0, cs, h0, h1, h2⟩ := h
  ⟨m0, cs, h0, h1, h2.mono fun _ _ h => h.mono hn⟩
theorem OwnL.up {m' : Mem} (h : OwnL e m n v xs) (hm : mle m m') : OwnL e m' n v xs :=
  let ⟨m0, cs, h0, h1, h2⟩ := h
  ⟨m0, cs, h0.trans hm, h1, h2⟩
theorem OwnL.flat {n' : Mem} (h : OwnL e m n v xs) (hf : e.flat = true) : OwnL e m n' v xs :=
  let ⟨m0, cs, h0, h1, h2⟩ := h
  ⟨m0, cs, h0, h1, h2.mono fun _ _ h => h.flat hf _⟩
theorem OwnA.slice {sz len : Nat} {cs : List Value} (h : OwnA sz m v len cs) : ∃ A c, v = .slice A len c ∧ len ≤ c ∧ c ≤ maxLen := by
  cases h with
  | nil A => exact ⟨A, 0, rfl, Nat.le_refl _, Nat.zero_le _⟩
  | row g off len cap E c k1 k2 k3 => exact ⟨_, _, rfl, k2, k3⟩
theorem OwnL.slice (h : OwnL e m n v xs) : ∃ A c, v = .slice A xs.length c ∧ xs.length ≤ c ∧ c ≤ maxLen := by
  obtain ⟨m0, cs, h0, h1, h2⟩ := h
  exact h1.slice
theorem OwnA.cells {sz len : Nat} {cs : List Value} (h : OwnA sz m v len cs) (h0 : len ≠ 0) : ∃ g off c, v = .slice (some ⟨g, off, none⟩) len c ∧ cellsAt m g off (len * sz) cs := by
  cases h with
  | nil => exact absurd rfl h0
  | row g off len cap E c k1 k2 k3 =>
    have := Nat.mul_le_mul_right sz k2
    exact ⟨g, off, cap, rfl, c.toArray, E, (0, 0), mone_self _ _, by simp; omega, rfl⟩
theorem OwnA.rd {cs : List Value} (h1 : OwnA e.sz m v xs.length cs) (h2 : All2c (Rd e n) cs xs) {k : Mem} (hm : mle m k) (hn : mle n k) : Rd (.sl e) k [v] xs := by
  obtain ⟨A, c, rfl, q2, q3⟩ := h1.slice
  refine ⟨A, c, rfl, q2, q3, ?_⟩
  by_cases h0 : xs.length = 0
  · exact .inl h0
  · right
    obtain ⟨g, off, c', hv, hc⟩ := h1.cells h0
    simp only [Value.slice.injEq, true_and] at hv
    exact ⟨g, off, cs, hv.1, hc.mono hm, h2.mono fun _ _ h => h.mono hn⟩
theorem OwnL.rd (h : OwnL e m n v xs) {k : Mem} (hm : mle m k) (hn : mle n k) : Rd (.sl e) k [v] xs := by
  obtain ⟨m0, cs, h0, k1, k2⟩ := h
  exact k1.rd k2 (h0.trans hm) hn
theorem OwnL.one {m' : Mem} {v' : Value} {cs xc : List Value} {x : e.Den} (hc : All2c (Rd e n) cs xs) (h : OwnA e.sz m' v' (xs.length + 1) (cs ++ xc)) (hx : Rd e n xc x) : OwnL e m' n v' (xs ++ [x]) :=
  ⟨m', cs ++ xc, mle_refl _, by simpa using h, hc.app (.one hx)⟩
theorem OwnL.more {m' : Mem} {v' : Value} {cs xc : List Value} {ys : List e.Den} (hc : All2c (Rd e n) cs xs) (h : OwnA e.sz m' v' (xs.length + ys.length) (cs ++ xc)) (hx : All2c (Rd e n) xc ys) : OwnL e m' n v' (xs ++ ys) :=
  ⟨m', cs ++ xc, mle_refl _, by simpa using h, hc.app hx⟩
end
theorem cellsAt.at1 {m : Mem} {g off k : Nat} {cs : List Value} {j : Nat} {v : Value} (h : cellsAt m g off k cs) (hj : cs[j]? = some v) : cellsAt m g (off + j) 1 [v] := by
  have hlt : j < cs.length := (List.getElem?_eq_some_iff.1 hj).1
  have := h.sub (i := j) (j := 1) (by rw [← h.len]; omega)
  rwa [List.drop_eq_getElem_cons hlt, show cs[j] = v from (List.getElem?_eq_some_iff.1 hj).2] at this
theorem Rd.pair {a b : Ty} {m : Mem} {cs : List Value} {x : a.Den × b.Den} (h : Rd (.pair a b) m cs x) : ∃ c1 c2, cs = c1 ++ c2 ∧ Rd a m c1 x.1 ∧ Rd b m c2 x.2 := h
theorem Rd.mkPair {a b : Ty} {m : Mem} {c1 c2 : List Value} {x : a.Den × b.Den} (h1 : Rd a m c1 x.1) (h2 : Rd b m c2 x.2) : Rd (.pair a b) m (c1 ++ c2) x := ⟨c1, c2, rfl, h1, h2⟩
section
variable {P : Program} {n : Nat} {w0 : World} {σ : Env} {Ω ΩS : Ctx} {ops : Array Oper} {K : Env → Ctx → Prop} {t : Nat}
variable {ty : TypeId} {pos : String} {af : Array Edge} {d : Option Tmp} {gd : Option (Nat × Bool)} {r : List Oper}
theorem VO.decB {t : Nat} {b : Bool} (ht : eget σ t = some (.bool b)) (h1 : b = true → VO P n w0 ops r ((t, .bool true) :: σ) Ω K)
    (h2 : b = false → VO P n w0 ops r ((t, .bool false) :: σ) Ω K) : VO P n w0 ops r σ Ω K := fun Q hQ a W he hi => by
  cases hb : b with
  | true => exact h1 hb Q hQ a W (he.dup (by rw [ht, hb])) hi
  | false => exact h2 hb Q hQ a W (he.dup (by rw [ht, hb])) hi
theorem VD.decB {l : List (Nat × Bool)} {s : Nat} {b : Bool} (ht : eget σ s = some (.bool b)) (h1 : b = true → VD P n w0 ops ΩS t l ((s, .bool true) :: σ) Ω K)
    (h2 : b = false → VD P n w0 ops ΩS t l ((s, .bool false) :: σ) Ω K) : VD P n w0 ops ΩS t l σ Ω K := fun Q hn hQ listed a W he => by
  cases hb : b with
  | true => exact h1 hb Q hn hQ listed a W (he.dup (by rw [ht, hb]))
  | false => exact h2 hb Q hn hQ listed a W (he.dup (by rw [ht, hb]))
theorem VD.bsl {i : Nat} {rr : List (Nat × Bool)} {dd : Nat} {t' e : TypeId} {s b len : Nat} {l : List (Nat × Operand)} {ps : List (Nat × Value)} {z cs : List Value} (j : Nat) (hd : Nat.blt dd n = true) (ho : ops[i]? = some ⟨some dd, .buildSlice t' len l.toArray, ty, pos, af, none⟩)
    (hl : evp σ l = some ps) (ht : tsl P t' = some (e, s, b)) (hz : tz P e = some z)
    (hsmall : Nat.ble (len * s) 16777216 = true) (hb : bld (fun i => some (i * s, s)) ((List.range (len * s)).map fun j => z.toArray[j % z.toArray.size]!) ps = some cs) (hS : ∀ W, Inv w0 Ω W → Inv w0 ΩS W)
    (h : ∀ g, VD P n w0 ops ΩS t rr ((dd, .slice (some ⟨g, 0, none⟩) len len) :: σ) ((j, mone g (.cells cs.toArray e (0, 0))) :: Ω) K) : VD P n w0 ops ΩS t ((i, false) :: rr) σ Ω K :=
  VD.s (fun v => (dd, v) :: σ) ho (fun v _ he => he.put hd v) (.inl rfl) (Stp.bsl j hl ht hz hsmall hb) (fun _ _ ⟨_, _, hΩ⟩ W hW => hS W (by subst hΩ; exact hW.tl)) (fun _ _ ⟨g, hv, hΩ⟩ => hv ▸ hΩ ▸ h g)
theorem Inv.nilc {W : World} (h : Inv w0 Ω W) (i : Nat) : Inv w0 ((i, mnil) :: Ω) W :=
  h.new i rfl rfl rfl (Nat.le_refl _) (mle_refl _) (mle_nil _) fun g => .inl rfl
theorem VO.gcallN {dd : Nat} {f : FuncId} {xs : List Operand} {ats : Array TypeId} {j : Nat} {b : Bool} {vs : List Value} {Post : Value → Mem → Prop}
    (i : Nat) (hd : Nat.blt dd n = true) (hg : gyes σ ops j b) (hf : fnOk P f = true) (ha : evs σ xs = some vs) (hc : ∀ W, Inv w0 Ω W → CallR P f vs W mnil Post)
    (h : ∀ v m', Post v m' → VO P n w0 ops r ((dd, v) :: σ) ((i, m') :: Ω) K) :
    VO P n w0 ops (⟨some dd, .call { callee := .value (.func f), args := xs.toArray, argTypes := ats }, ty, pos, af, some (j, b)⟩ :: r) σ Ω K :=
  VO.gs hd hg (Stp.callN i hf ha hc) fun v _ ⟨m', hp, hΩ⟩ => hΩ ▸ h v m' hp
theorem rd_str (s : List UInt8) (m : Mem) : All2c (Rd .byte m) (s.map byV) s := by
  induction s with
  | nil => rfl
  | cons b s ih => exact ⟨[byV b], s.map byV, rfl, rfl, ih⟩
theorem Rd.srcI {e : Ty} {xt et : TypeId} {m : Mem} {v : Value} {xs : List e.Den} (h : Rd (.sl e) m [v] xs) (ht : P.underlying xt = some (.slice et)) :
    ∃ all, (∀ (Ω : Ctx) (i : Nat), cget Ω i = some m → Src P Ω e.sz xt v xs.length all) ∧ All2c (Rd e m) all xs := by
  obtain ⟨A, c, rfl, h2, h3⟩ := h.slice
  by_cases h0 : xs = []
  · subst h0; exact ⟨[], fun _ _ _ => .zero A c et ht, rfl⟩
  · obtain ⟨g, off, all, rfl, k2, k3⟩ := h.row h0
    exact ⟨all, fun Ω i hm => .row i m g off xs.length c all et ht hm k2, k3⟩
theorem Stp.box {t : TypeId} {x : Operand} {v : Value} (i : Nat) (hx : ev σ x = some v) :
    Stp P n w0 σ Ω ⟨d, .box t x, ty, pos, af, gd⟩ (fun u Ω' => ∃ g, u = .pointer (some ⟨g, 0, none⟩) ∧ Ω' = (i, mone g (.cells v.cells t (0, 0))) :: Ω) := fun a W he hi K Q hK => by
  unfold Oper.wp
  have : (execOp a.eval ⟨d, .box t x, ty, pos, af, gd⟩).run P W = .ok (.value (.pointer (some ⟨W.heap.size, 0, none⟩))) (W.alloc (.cells v.cells t (0, 0))) := by
    simp [execOp, Instr.box, he.eval hx, newVar, newRow]
  rw [this]
  exact hK _ _ _ ⟨_, rfl, rfl⟩ (hi.alloc i _)
theorem VO.box {dd : Nat} {t : TypeId} {x : Operand} {v : Value} {cs : List Value} (i : Nat) (hd : Nat.blt dd n = true) (hx : ev σ x = some v) (hc : v.cells = cs.toArray)
    (h : ∀ g, VO P n w0 ops r ((dd, .pointer (some ⟨g, 0, none⟩)) :: σ) ((i, mone g (.cells cs.toArray t (0, 0))) :: Ω) K) : VO P n w0 ops (⟨some dd, .box t x, ty, pos, af, none⟩ :: r) σ Ω K :=
  VO.s hd (Stp.box i hx) fun _ _ ⟨g, hv, hΩ⟩ => by rw [hv, hΩ, hc]; exact h g
theorem Yld.slI {x lo hi : Operand} {t e : TypeId} {A : Option Addr} {l c s b : Nat} {k k' : IntKind} {a1 a2 : Int} (i j : Nat) (A' : Option Addr) (hx : ev σ x = some (.slice A l c)) (hlo : ev σ lo = some (.int k a1)) (hhi : ev σ hi = some (.int k' a2)) (ht : tsl P t = some (e, s, b))
    (h1 : a1 = i) (h2 : a2 = j) (hA : (if c = i then A else A.map (·.add (i * s))) = A') (hij : i ≤ j) (hjc : j ≤ c) :
    Yld P n w0 σ Ω ⟨d, .slice t x (some lo) (some hi) none, ty, pos, af, gd⟩ (.slice A' (j - i) (c - i)) := by
  subst h1 h2 hA; exact Yld.sl hx hlo hhi ht hij hjc
theorem Yld.slLI {x lo : Operand} {t e : TypeId} {A : Option Addr} {l c s b : Nat} {k : IntKind} {a1 : Int} (i : Nat) (A' : Option Addr) (hx : ev σ x = some (.slice A l c)) (hlo : ev σ lo = some (.int k a1)) (ht : tsl P t = some (e, s, b))
    (h1 : a1 = i) (hA : (if c = i then A else A.map (·.add (i * s))) = A') (hil : i ≤ l) :
    Yld P n w0 σ Ω ⟨d, .slice t x (some lo) none none, ty, pos, af, gd⟩ (.slice A' (l - i) (c - i)) := by
  subst h1 hA; exact Yld.slL hx hlo ht hil
theorem Yld.slHI {x hi : Operand} {t e : TypeId} {A : Option Addr} {l c s b : Nat} {k : IntKind} {a2 : Int} (j : Nat) (hx : ev σ x = some (.slice A l c)) (hhi : ev σ hi = some (.int k a2)) (ht : tsl P t = some (e, s, b))
    (h2 : a2 = j) (hjc : j ≤ c) : Yld P n w0 σ Ω ⟨d, .slice t x none (some hi) none, ty, pos, af, gd⟩ (.slice A j c) := by
  subst h2; exact Yld.slH hx hhi ht hjc
theorem Rd.sub' {e : Ty} {m : Mem} {A : Option Addr} {l c : Nat} {xs : List e.Den} (h : Rd (.sl e) m [.slice A l c] xs) (s i j : Nat) (hs : e.sz = s) (hij : i ≤ j) (hj : j ≤ xs.length) :
    ∃ A', (if c = i then A else A.map (·.add (i * s))) = A' ∧ Rd (.sl e) m [.slice A' (j - i) (c - i)] ((xs.take j).drop i) := by
  subst hs; exact ⟨_, rfl, h.sub hij hj⟩
theorem Rd.pre {e : Ty} {m : Mem} {A : Option Addr} {l c j : Nat} {xs : List e.Den} (h : Rd (.sl e) m [.slice A l c] xs) (hj : j ≤ xs.length) : Rd (.sl e) m [.slice A j c] (xs.take j) := by
  have h' := h
  obtain ⟨A', c', h1, h2, h3, h4⟩ := h'
  simp only [List.cons.injEq, Value.slice.injEq, and_true] at h1
  obtain ⟨rfl, rfl, rfl⟩ := h1
  have hl : (xs.take j).length = j := by simp; omega
  refine ⟨A, c, by rw [hl], by omega, h3, ?_⟩
  rw [hl]
  rcases h4 with h4 | ⟨g, off, all, k1, k2, k3⟩
  · exact .inl (by omega)
  · refine .inr ⟨g, off, all.take (j * e.sz), k1, ?_, k3.take (fun _ _ h => h.len) j⟩
    have := k2.sub (i := 0) (j := j * e.sz) (by rw [Nat.zero_add]; exact Nat.mul_le_mul_right _ hj)
    simpa using this
theorem Rd.drop {e : Ty} {m : Mem} {A : Option Addr} {l c : Nat} {xs : List e.Den} (h : Rd (.sl e) m [.slice A l c] xs) (s i : Nat) (hs : e.sz = s) (hi : i ≤ xs.length) :
    ∃ A', (if c = i then A else A.map (·.add (i * s))) = A' ∧ Rd (.sl e) m [.slice A' (xs.length - i) (c - i)] (xs.drop i) := by
  obtain ⟨A', h1, h2⟩ := h.sub' s i xs.length hs hi (Nat.le_refl _)
  rw [List.take_length] at h2
  exact ⟨A', h1, h2⟩
theorem eqF {F : List Field} : ∀ {o : Nat} {xs ys : List Value} (cs ds : Array Value), plainF P F o xs = true → plainF P F o ys = true → (∀ i v, xs[i]? = some v → cs[o + i]? = some v) → (∀ i v, ys[i]? = some v → ds[o + i]? = some v) →
    ∀ (W : World) (dd : Nat), (Op.eqFields (dd + 1) cs ds F).run P W = .ok (ceq xs ys) W := by
  induction F with
  | nil =>
    intro o xs ys cs ds h1 h2 _ _ W dd
    cases xs <;> cases ys <;> simp_all [plainF, Op.eqFields, ceq]
  | cons f F ih =>
    intro o xs ys cs ds h1 h2 hx hy W dd
    cases xs with
    | nil => simp [plainF] at h1
    | cons x xs =>
      cases ys with
      | nil => simp [plainF] at h2
      | cons y ys =>
        simp only [plainF, Bool.and_eq_true, decide_eq_true_eq] at h1 h2
        obtain ⟨⟨⟨k1, k2⟩, k3⟩, k4⟩ := h1
        obtain ⟨⟨⟨_, _⟩, k5⟩, k6⟩ := h2
        have hx0 := hx 0 x rfl
        have hy0 := hy 0 y rfl
        have ihh := ih cs ds k4 k6 (fun i v h => by have := hx (i + 1) v (by simpa using h); rw [← this]; congr 1; omega) (fun i v h => by have := hy (i + 1) v (by simpa using h); rw [← this]; congr 1; omega) W dd
        simp only [Nat.add_zero] at hx0 hy0
        have pt : ∀ (D : TypeDesc) (v : Value) (c : Array Value), P.underlying f.type = some D → (∀ F, D ≠ .struct F) → (∀ l e, D ≠ .array l e) → c[o]? = some v → (part f.type c f.offset).run P W = .ok v W := by
          intro D v c hD h1 h2 hc
          have hag : (isAgg f.type).run P W = .ok false W := by
            simp only [isAgg, Sem.run_bind, run_underlying' hD, Result.andThen_ok]
            cases D <;> first | rfl | exact absurd rfl (h1 _) | exact absurd rfl (h2 _ _)
          simp [part, hag, k2, hc]
        unfold Op.eqFields
        rw [if_pos k1]
        cases hu : P.underlying f.type with
        | none => rw [hu] at k3; simp at k3
        | some D =>
          rw [hu] at k3 k5
          have hcase : (∃ k a b, D = .int k ∧ x = .int k a ∧ y = .int k b) ∨ (∃ a b, D = .bool ∧ x = .bool a ∧ y = .bool b) ∨ (∃ a b, D = .string ∧ x = .string a ∧ y = .string b) := by
            cases D <;> cases x <;> simp at k3 <;> cases y <;> simp at k5 <;> simp_all
          rcases hcase with ⟨k, a, b, rfl, rfl, rfl⟩ | ⟨a, b, rfl, rfl, rfl⟩ | ⟨a, b, rfl, rfl, rfl⟩
          · rw [Sem.run_bind, pt _ _ _ hu (by simp) (by simp) hx0, Result.andThen_ok, Sem.run_bind, pt _ _ _ hu (by simp) (by simp) hy0, Result.andThen_ok, Sem.run_bind,
              run_equalIn_int W dd f.type _ _ a b hu, Result.andThen_ok]
            by_cases hab : a = b
            · subst hab; simp [ceq, ihh]
            · simp [ceq, hab]
          · rw [Sem.run_bind, pt _ _ _ hu (by simp) (by simp) hx0, Result.andThen_ok, Sem.run_bind, pt _ _ _ hu (by simp) (by simp) hy0, Result.andThen_ok, Sem.run_bind,
              run_equalIn_bool' W dd f.type a b hu, Result.andThen_ok]
            by_cases hab : a = b
            · subst hab; simp [ceq, ihh]
            · simp [ceq, hab]
          · rw [Sem.run_bind, pt _ _ _ hu (by simp) (by simp) hx0, Result.andThen_ok, Sem.run_bind, pt _ _ _ hu (by simp) (by simp) hy0, Result.andThen_ok, Sem.run_bind,
              run_equalIn_string W dd f.type a b hu, Result.andThen_ok]
            by_cases hab : a.toList = b.toList
            · simp [ceq, hab, ihh]
            · simp [ceq, hab]
theorem eqS {t : TypeId} {xs ys : List Value} (h1 : plainS P t xs = true) (h2 : plainS P t ys = true) (W : World) : (Op.equalIn 10000 t (.agg xs.toArray) (.agg ys.toArray)).run P W = .ok (ceq xs ys) W ∧ P.eqGuardType P.depth t = false := by
  unfold plainS at h1 h2
  split at h1
  · rename_i F hF
    rw [hF] at h2
    simp only [Bool.and_eq_true, Bool.not_eq_true'] at h1 h2
    have hfs : P.fieldsOf t = F := by simp [Program.fieldsOf, hF]
    refine ⟨?_, h1.2⟩
    rw [run_equalIn_struct W 9999 t _ _ (by rw [hfs]; exact hF) h1.1.2, hfs]
    exact eqF _ _ h1.1.1 h2.1.1 (fun i v h => by simpa using h) (fun i v h => by simpa using h) W 9998
  · cases h1
theorem Yld.stneq {x y : Operand} {t u : TypeId} {xs ys : List Value} {p : Prop} [Decidable p] (hx : ev σ x = some (.agg xs.toArray)) (hy : ev σ y = some (.agg ys.toArray)) (h1 : plainS P t xs = true) (h2 : plainS P t ys = true) (hp : ceq xs ys = decide p) :
    Yld P n w0 σ Ω ⟨d, .binOp .neq t x y u, ty, pos, af, gd⟩ (.bool (decide (¬ p))) := fun A W he _ => by
  obtain ⟨k1, k2⟩ := eqS h1 h2 W
  simp only [execOp, he.eval hx, he.eval hy, Sem.run_bind, run_eqGuard_agg W .neq t x y _ _ k2, Result.andThen_ok, run_neq_struct, k1, hp, Sem.run_pure]
  simp
theorem Rd.bytes {m : Mem} : ∀ {l : List UInt8} {cs : List Value}, All2c (Rd .byte m) cs l → cs = l.map byV
  | [], _, h => h
  | b :: l, _, ⟨c1, c2, h1, h2, h3⟩ => by rw [h1, show c1 = [byV b] from h2, Rd.bytes h3]; rfl
theorem push_fold : ∀ (l acc : List UInt8), (l.map fun b => (b.toNat : Int)).foldl (fun (r : ByteArray) n => r.push (UInt8.ofNat n.toNat)) ⟨acc.toArray⟩ = ⟨(acc ++ l).toArray⟩
  | [], acc => by simp
  | b :: l, acc => by
    have e : (⟨acc.toArray⟩ : ByteArray).push (UInt8.ofNat ((b.toNat : Int).toNat)) = ⟨(acc ++ [b]).toArray⟩ := by
      apply ByteArray.ext
      simp [ByteArray.push]
    rw [List.map_cons, List.foldl_cons, e, push_fold l (acc ++ [b])]
    simp
theorem b2s_run (W : World) (l : List UInt8) (g off : Nat) (c : Nat) (h : (loadCells ⟨g, off, none⟩ l.length).run P W = .ok (l.map byV).toArray W) :
    (Conv.bytesToString (.slice (some ⟨g, off, none⟩) l.length c)).run P W = .ok (str l) W := by
  have h' : (loadCells ⟨g, off, none⟩ l.length).run P W = .ok ((l.map fun b => (b.toNat : Int)).map (Value.int .u8)).toArray W := by
    rw [h, List.map_map]; rfl
  rw [run_bytesToString W _ _ c _ h']
  have := push_fold l []
  rw [show (⟨([] : List UInt8).toArray⟩ : ByteArray) = ByteArray.empty from rfl] at this
  rw [this]
  simp
theorem Yld.b2s {x : Operand} {s t e : TypeId} {m : Mem} {v : Value} {l : List UInt8} (i : Nat) (hx : ev σ x = some v) (hs : P.underlying s = some (.slice e)) (ht : P.underlying t = some .string) (he' : P.underlying e = some (.int .u8)) (hm : cget Ω i = some m) (h : Rd (.sl .byte) m [v] l) :
    Yld P n w0 σ Ω ⟨d, .convert s t x, ty, pos, af, gd⟩ (str l) := fun a W he hi => by
  obtain ⟨A, c, rfl, h2, h3⟩ := h.slice
  have key : (Conv.bytesToString (.slice A l.length c)).run P W = .ok (str l) W := by
    by_cases h0 : l = []
    · subst h0
      cases A with
      | none => rfl
      | some a0 =>
        simp only [Conv.bytesToString, loadCells, loadCellsFrom, Sem.run_bind, List.length_nil, Sem.run_pure, Result.andThen_ok]
        rfl
    · obtain ⟨g, off, all, rfl, k2, k3⟩ := h.row h0
      have k2' : cellsAt m g off l.length all := by simpa [Ty.sz] using k2
      have hall := Rd.bytes k3
      subst hall
      exact b2s_run W l g off c (run_loadCells' (k2'.mono (hi.at hm)))
  simp only [execOp, convert, he.eval hx, Sem.run_bind, run_underlying' hs, run_underlying' ht, Result.andThen_ok, run_underlying' he', key, Sem.run_pure]
end
section
open Go.ChangeShapes Go.WideShapes Go.ChangeAt Go.RowKit
theorem Ty.sz_pos : ∀ t : Ty, 0 < t.sz
  | .int _ | .byte | .bool | .str | .sl _ | .spl _ | .ptr _ | .addr | .hdr | .tmap => Nat.one_pos
  | .pair a b => Nat.add_pos_left (sz_pos a) _
/-- how many bytes a thing takes at least. -/
def Ty.wt : Ty → Nat
  | .int .u8 | .byte => 1
  | .str => 16
  | .sl _ | .spl _ | .hdr => 24
  | .pair a b => a.wt + b.wt
  | _ => 8
/-- Go type t reads as ty: x is a type, or the fields from an offset on. -/
def tyOk (P : Program) : Nat → Ty → TypeId ⊕ (List Field × Nat) → Bool
  | 0, _, _ => false
  | n + 1, ty, .inl t => match P.underlying t, ty with
    | some .bool, .bool => true
    | some .string, .str => true
    | some (.int .u8), .byte => true
    | some (.int k), .int k' => k == k'
    | some (.slice u), .sl e => tyOk P n e (.inl u) && P.cellsOf u == e.sz && Nat.ble e.wt (P.bytesOf u)
    | some (.struct fs), ty => P.cellsOf t == ty.sz && tyOk P n ty (.inr (fs.toList, 0))
    | _, _ => false
  | n + 1, ty, .inr ([f], off) => f.offset == off && P.cellsOf f.type == ty.sz && tyOk P n ty (.inl f.type)
  | n + 1, .pair a b, .inr (f :: r, off) => f.offset == off && P.cellsOf f.type == a.sz && tyOk P n a (.inl f.type) && tyOk P n b (.inr (r, off + a.sz))
  | _, _, _ => false
theorem inK_wf {k : IntKind} {n : Int} (h : (Lit.int k n).wf = true) : inK k n := by
  cases k <;> simp [Lit.wf, IntKind.min, IntKind.max, IntKind.signed, IntKind.bits] at h <;> simp [inK] <;> omega
theorem cells_of {w : World} {a : Addr} {k : Nat} {ci : List Value} (h : w.cells? 0 a k = some ci) : ci.length = k ∧ ∀ j, j < k → w.cell? (a.add j) = ci[j]? := by
  unfold World.cells? at h
  rw [if_pos (Nat.zero_le _)] at h
  exact ⟨by simpa using mapM_some_length h, fun j hj => mapM_some_get h j j (by simp [hj])⟩
theorem all2c_of {α : Type} {R : List Value → α → Prop} {k : Nat} {c : List Value} : ∀ (len off : Nat), (∀ i, i < len → ∃ x, R ((c.drop (off + i * k)).take k) x) → off + len * k ≤ c.length →
    ∃ xs : List α, xs.length = len ∧ All2c R ((c.drop off).take (len * k)) xs
  | 0, off, _, _ => ⟨[], rfl, by simp [All2c]⟩
  | len + 1, off, h, hl => by
    have e : (len + 1) * k = k + len * k := by rw [Nat.add_mul]; omega
    obtain ⟨x, hx⟩ := h 0 (by omega)
    obtain ⟨xs, h1, h2⟩ := all2c_of (c := c) (k := k) len (off + k) (fun i hi => by
      have := h (i + 1) (by omega)
      rwa [show off + (i + 1) * k = off + k + i * k by rw [Nat.add_mul]; omega] at this) (by omega)
    refine ⟨x :: xs, by simp [h1], _, _, ?_, by simpa using hx, h2⟩
    rw [e, List.take_add, List.drop_drop]
section
variable {H : Type} {enc : TypeId × Value → H} {P : Program} {w : World} {spare : Nat → Bool} {held : Bool}
theorem rd_of_trod : ∀ (n : Nat) (ty : Ty), (∀ (t : TypeId) (fuel : Nat) (cs : List Value) (x : DataW H × List MemPlace), tyOk P n ty (.inl t) = true → DataW.trod enc P w 0 spare held fuel t cs = some x → ∃ d, Rd ty (wm w) cs d) ∧
    (∀ (fs : List Field) (off : Nat) (cs : List Value), tyOk P n ty (.inr (fs, off)) = true → off + ty.sz ≤ cs.length → (∀ f ∈ fs, ∃ fuel x, DataW.trod enc P w 0 spare held fuel f.type ((cs.drop f.offset).take (P.cellsOf f.type)) = some x) → ∃ d, Rd ty (wm w) ((cs.drop off).take ty.sz) d)
  | 0, ty => ⟨fun _ _ _ _ h => by simp [tyOk] at h, fun _ _ _ h => by simp [tyOk] at h⟩
  | n + 1, ty => by
    constructor
    · intro t fuel cs x ht hx
      unfold tyOk at ht
      split at ht
      · rename_i hu
        obtain ⟨b, rfl, _⟩ := DataW.trod_bool hu hx
        exact ⟨b, rfl⟩
      · rename_i hu
        obtain ⟨s, rfl, _, hs⟩ := DataW.trod_string hu hx
        exact ⟨s.data.toList, by cases s; rfl, hs⟩
      · rename_i hu
        obtain ⟨q, rfl, _, hq⟩ := DataW.trod_int hu hx
        have := inK_wf hq
        simp only [inK] at this
        refine ⟨UInt8.ofNat q.toNat, ?_⟩
        show _ = [byV _]
        simp only [byV, List.cons.injEq, Value.int.injEq, and_true, true_and]
        simp
        omega
      · rename_i k k' hu
        have ek : k = k' := eq_of_beq ht
        subst ek
        obtain ⟨q, rfl, _, hq⟩ := DataW.trod_int hu hx
        exact ⟨q, rfl, inK_wf hq⟩
      · rename_i u e hu
        simp only [Bool.and_eq_true, beq_iff_eq] at ht
        obtain ⟨⟨ht1, ht2⟩, ht3⟩ := ht
        rcases DataW.trod_slice hu hx with ⟨rfl, _⟩ | ⟨a, len, cap, elems, rest, m, _, rfl, _, _, hl, hc, hel, hget, _⟩
        · exact ⟨[], Rd.nil _ _ _ _ (Nat.zero_le _)⟩
        · rcases Nat.eq_zero_or_pos len with h0 | h0
          · subst h0; exact ⟨[], Rd.nil _ _ _ _ hc⟩
          · rw [ht2] at hget
            have hk := e.sz_pos
            have hcell : ∀ i, i < len → ∃ ci, w.cells? 0 (a.add (i * e.sz)) e.sz = some ci ∧ ∃ x, Rd e (wm w) ci x := fun i hi => by
              have := hget i hi
              rw [List.getElem?_eq_getElem (by omega), Option.bind_eq_some_iff] at this
              obtain ⟨ci, h1, h2⟩ := this
              exact ⟨ci, h1, (rd_of_trod n e).1 u _ _ _ ht1 h2⟩
            obtain ⟨c0, h1, x0, _⟩ := hcell 0 h0
            obtain ⟨hl0, hg0⟩ := cells_of h1
            have h00 := hg0 0 hk
            rw [List.getElem?_eq_getElem (by omega), Nat.zero_mul] at h00
            have ha0 : (a.add 0).add 0 = a := by simp [Addr.add]
            rw [ha0] at h00
            obtain ⟨g, off, spot⟩ := a
            unfold World.cell? at h00
            dsimp only at h00
            split at h00
            · rename_i c E fz hheap
              split at h00
              · cases h00
              · rename_i hs
                have hs' : spot = none := by cases spot <;> simp_all
                subst hs'
                have hget2 : ∀ i, i < len → ∀ j, j < e.sz → off + i * e.sz + j < c.size ∧ ∀ ci, w.cells? 0 ((Addr.mk g off none).add (i * e.sz)) e.sz = some ci → c[off + i * e.sz + j]? = ci[j]? := fun i hi j hj => by
                  obtain ⟨ci, q1, _⟩ := hcell i hi
                  obtain ⟨q2, q3⟩ := cells_of q1
                  have := q3 j hj
                  rw [add_off, add_off] at this
                  simp only [World.cell?, hheap, Option.isSome_none, Bool.false_eq_true, if_false] at this
                  refine ⟨?_, fun ci' h => ?_⟩
                  · rw [List.getElem?_eq_getElem (by omega)] at this
                    exact (Array.getElem?_eq_some_iff.1 this).1
                  · rw [q1] at h; cases h; exact this
                have hsz : off + len * e.sz ≤ c.size := by
                  have := (hget2 (len - 1) (by omega) (e.sz - 1) (by omega)).1
                  have e1 : len * e.sz = (len - 1) * e.sz + e.sz := by
                    conv => lhs; rw [show len = len - 1 + 1 by omega, Nat.add_mul, Nat.one_mul]
                  omega
                obtain ⟨xs, k1, k2⟩ := all2c_of (R := Rd e (wm w)) (k := e.sz) (c := c.toList) len off (fun i hi => by
                  obtain ⟨ci, q1, x, q2⟩ := hcell i hi
                  refine ⟨x, ?_⟩
                  rwa [show (c.toList.drop (off + i * e.sz)).take e.sz = ci from ?_]
                  have := (cells_of q1).1
                  have e2 : i * e.sz + e.sz ≤ len * e.sz := by
                    have := Nat.mul_le_mul_right e.sz (Nat.succ_le_of_lt hi)
                    rwa [Nat.succ_mul] at this
                  apply List.ext_getElem?
                  intro j
                  by_cases hj : j < e.sz
                  · rw [List.getElem?_take_of_lt hj, List.getElem?_drop, ← (hget2 i hi j hj).2 ci q1]
                    simp
                  · rw [List.getElem?_eq_none (by simp; omega), List.getElem?_eq_none (by omega)]) (by simpa using hsz)
                refine ⟨xs, some ⟨g, off, none⟩, cap, by rw [k1], by omega, hc, .inr ⟨g, off, _, rfl, ⟨c, E, fz, hheap, by rw [k1]; exact hsz, rfl⟩, ?_⟩⟩
                rw [k1]; exact k2
            · cases h00
      · rename_i fs hu
        simp only [Bool.and_eq_true, beq_iff_eq] at ht
        obtain ⟨ht1, ht2⟩ := ht
        obtain ⟨xs, m, _, _, hcl, hxl, hf⟩ := DataW.trod_struct hu hx
        have := (rd_of_trod n _).2 fs.toList 0 cs ht2 (by rw [hcl, ht1]; omega) (fun f hm => by
          obtain ⟨i, hi, rfl⟩ := List.getElem_of_mem hm
          have := hf i fs.toList[i] (by simp at hi; simp [hi])
          rw [List.getElem?_eq_getElem (by simp at hi; omega)] at this
          exact ⟨_, _, this⟩)
        rwa [List.drop_zero, List.take_of_length_le (by omega)] at this
      · cases ht
    · intro fs off cs ht hl hf
      match fs, ht, hf with
      | [], ht, _ => cases ty <;> simp [tyOk] at ht
      | [f], ht, hf =>
        have ht' : (f.offset == off && P.cellsOf f.type == ty.sz && tyOk P n ty (.inl f.type)) = true := by cases ty <;> simpa [tyOk] using ht
        simp only [Bool.and_eq_true, beq_iff_eq] at ht'
        obtain ⟨⟨h1, h2⟩, h3⟩ := ht'
        obtain ⟨fuel, x, hx⟩ := hf f (.head _)
        rw [h1, h2] at hx
        exact (rd_of_trod n ty).1 _ _ _ _ h3 hx
      | f :: g :: r, ht, hf =>
        match ty, ht, hl with
        | .pair a b, ht, hl =>
          have ht' : (f.offset == off && P.cellsOf f.type == a.sz && tyOk P n a (.inl f.type) && tyOk P n b (.inr (g :: r, off + a.sz))) = true := ht
          simp only [Bool.and_eq_true, beq_iff_eq] at ht'
          obtain ⟨⟨⟨h1, h2⟩, h3⟩, h4⟩ := ht'
          obtain ⟨fuel, x, hx⟩ := hf f (.head _)
          rw [h1, h2] at hx
          have hs : (Ty.pair a b).sz = a.sz + b.sz := rfl
          rw [hs] at hl
          obtain ⟨d1, k1⟩ := (rd_of_trod n a).1 _ _ _ _ h3 hx
          obtain ⟨d2, k2⟩ := (rd_of_trod n b).2 (g :: r) (off + a.sz) cs h4 (by omega) (fun q hq => hf q (.tail _ hq))
          refine ⟨(d1, d2), _, _, ?_, k1, k2⟩
          rw [hs, List.take_add, List.drop_drop]
theorem arg_rd {ty : Ty} {t : TypeId} {v : Value} {d : DataW H} {ps : List MemPlace} {cs : List Value} (n : Nat) (ht : tyOk P n ty (.inl t) = true) (hv : v.cells.toList = cs) (h : DataW.Trod enc P w 0 spare held t v d ps) : ∃ d, Rd ty (wm w) cs d := by
  obtain ⟨fuel, hf⟩ := h
  rw [hv] at hf
  exact (rd_of_trod n ty).1 t fuel cs _ ht hf
variable {b0 : Nat} {t : TypeId} {v : Value} {d : DataW H} {ps : List MemPlace} {r : Reach}
theorem arg_sl {u : TypeId} {e : Ty} (n : Nat) (ht : tyOk P n (.sl e) (.inl t) = true) (hu : P.underlying t = some (.slice u)) (hv : Value.okWide P w r b0 t v) (h : DataW.Trod enc P w 0 spare held t v d ps) : ∃ d, Rd (.sl e) (wm w) [v] d := by
  obtain ⟨a, l, c, rfl⟩ := okWide_slice hu hv
  exact arg_rd n ht rfl h
theorem stay : ∀ {ts : List TypeId} {vs : List Value} {ds : List (DataW H)} {ps : List MemPlace} {W' : World} {sp : Nat → Bool}, laidOutB P = true → ts.all (fun t => P.readableRec t && Nat.blt t P.types.size) = true →
    DataW.TrodAll enc P w 0 (fun _ => true) true ts vs ds ps → Below w.heap.size w W' → (∀ x ∈ ps, x.block < w.heap.size) → (∀ x ∈ ps, sp x.block = true) → DataW.TrodAll enc P W' 0 sp true ts vs ds ps
  | [], [], [], _, _, _, _, _, h, _, _, _ => h
  | t :: ts, v :: vs, d :: ds, _, W', sp, hl, ha, ⟨p, q, h1, h2, rfl⟩, hb, hlt, hs => by
    rw [List.all_cons, Bool.and_eq_true, Bool.and_eq_true] at ha
    refine ⟨p, q, WideElems.Trod_stays hl ha.1.1 (Nat.le_of_ble_eq_true ha.1.2) h1 (fun x hx => hb.same (hlt x (List.mem_append_left _ hx))) (fun x hx => hs x (List.mem_append_left _ hx)), ?_, rfl⟩
    exact stay hl ha.2 h2 hb (fun x hx => hlt x (List.mem_append_right _ hx)) (fun x hx => hs x (List.mem_append_right _ hx))
end
theorem calls_of {P : Program} {f : FuncId} {args : List Value} {W : World} {b : Bool} (h : CallR P f args W mnil (fun v _ => v = .bool b)) : Calls P f args.toArray W fun e W' => e = .returned (.bool b) ∧ Below W.heap.size W W' :=
  Calls.mono h fun e W' ⟨v, m', h1, h2, h3⟩ => ⟨by rw [h1, h2], h3.os, h3.tape, h3.output, h3.size, fun k hk => by
    have := h3.keep k W.heap[k] (by simp [mout, mnil, wm, hk])
    simp only [wm] at this
    rw [this, Array.getElem?_eq_getElem hk]⟩
theorem law_post {H : Type} {enc : TypeId × Value → H} {P : Program} {f : Func} {s : ChangeSpec} {apart fresh handsOn again : Bool} {W W' : World} {args : List Value} {ds gs : List (DataW H)} {before : List MemPlace} {tb : TypeId} {b : Bool}
    (hW : DataW.Whole enc P f.params.toList s.vars apart W args ds gs before) (hb : Below W.heap.size W W') (hl : laidOutB P = true) (ha : f.params.toList.all (fun t => P.readableRec t && Nat.blt t P.types.size) = true)
    (hrt : f.resultTypes = #[tb]) (hub : P.underlying tb = some .bool) (hv : s.vars = []) (hr : (s.fn H ds).results = [.lit (.bool b)]) (hs : (s.fn H ds).args = ds) (hv2 : (s.fn H ds).vars = []) :
    s.post enc P f apart fresh handsOn again W args.toArray (.bool b) W' := by
  have hW' := hW
  have hlt : ∀ p ∈ before, p.block < W.heap.size := fun p hp => by simpa using hW.lt p hp
  obtain ⟨p, q, hA, hV, rfl, hz, hn⟩ := hW
  rw [hv] at hV
  obtain ⟨rfl, rfl⟩ := trodVars_none hV
  simp only [List.append_nil] at hlt hz hn hW'
  have hargs : ∀ sp : Nat → Bool, (∀ x ∈ p, sp x.block = true) → DataW.TrodAll enc P W' 0 sp true f.params.toList args (s.fn H ds).args p := fun sp h => by
    rw [hs]; exact stay hl ha hA hb hlt h
  have hres : ∀ (n : Nat) (sp : Nat → Bool) (hd : Bool), DataW.TrodAll enc P W' n sp hd f.resultTypes.toList ((Value.bool b).resultList f.resultTypes.size) (s.fn H ds).results [] := fun n sp hd => by
    rw [hr, hrt]; exact trodAll_mk1 (shut_bool hub _)
  have hold : ∀ x ∈ p, (fun n => decide (n < W.heap.size)) x.block = true := fun x hx => by simpa using hlt x hx
  have hvs : ∀ sp, DataW.TrodVars enc P W' sp s.vars (s.fn H ds).vars [] := fun sp => by rw [hv, hv2]; rfl
  have e : args.toArray.toList = args := by simp
  refine ⟨ds, [], p, [], p, [], by rw [e]; exact hW', ?_, ?_, ?_, ?_, fun _ => ⟨?_, ?_⟩⟩
  · rw [List.append_nil]; exact hres _ _ _
  · rw [List.append_nil, e]; exact hargs _ hold
  · rw [List.append_nil]; exact hvs _
  · exact hb.frame _
  · rw [hrt]
    intro j t r h1 h2
    match j, h1, h2 with
    | 0, h1, h2 =>
      simp [Value.resultList] at h1 h2
      subst h1; subst h2
      exact okWide_bool_mk hub _
  · refine ⟨_, _, ([] ++ p) ++ [], ⟨[] ++ p, [], trodAll_append (by rw [e]; exact hargs (fun _ => true) (fun _ _ => rfl)) (hres _ _ _), hvs (fun _ => true), rfl, ?_, ?_⟩, ?_⟩
    · intro k off hp
      have hp' : MemPlace.cell k off ∈ p := by simpa using hp
      rw [hb.frozen (hlt _ hp')]
      exact hz k off hp'
    · intro ha'
      simpa using hn ha'
    · intro x hx _
      simpa using hx
end
theorem u8_of_nat (n : Nat) : IntKind.u8.wrap (n : Int) = ((n % 256 : Nat) : Int) := by rw [IntKind.wrap_u8]; omega
theorem rd_byteN {n : Nat} {m : Mem} (h : n < 256) : Rd .byte m [.int .u8 ((n : Nat) : Int)] (UInt8.ofNat n) := by
  show [Value.int .u8 _] = [byV _]
  simp only [byV]
  congr 2
  simp
  omega
section
variable {P : Program} {n : Nat} {w0 : World} {σ : Env} {Ω : Ctx}
variable {ty : TypeId} {pos : String} {af : Array Edge} {d : Option Tmp} {gd : Option (Nat × Bool)}
theorem or_all : ∀ a : Fin 256, (a.val ||| 128) = a.val % 128 + 128 := by decide +kernel
theorem and_all : ∀ a : Fin 256, (a.val &&& 127) = a.val % 128 := by decide +kernel
theorem or128 (a : Nat) (h : a < 256) : ∀ W, (Op.intBits .or .u8 (a : Int) 128).run P W = .ok (.int .u8 ((a % 128 + 128 : Nat) : Int)) W := fun W => by
  have e : (BitVec.ofInt IntKind.u8.bits (a : Int) ||| BitVec.ofInt IntKind.u8.bits 128).toNat = a % 128 + 128 := by
    have := or_all ⟨a, h⟩
    simp only at this
    rw [BitVec.toNat_or]
    show (BitVec.ofInt 8 (a : Int)).toNat ||| (BitVec.ofInt 8 128).toNat = _
    have e1 : (BitVec.ofInt 8 (a : Int)).toNat = a := by simp; omega
    rw [e1]
    exact this
  show Result.ok (Value.int .u8 (IntKind.u8.wrap ((BitVec.ofInt IntKind.u8.bits (a : Int) ||| BitVec.ofInt IntKind.u8.bits 128).toNat : Int))) W = _
  rw [e, IntWalk.u8_in _ (by omega)]
theorem and127 (a : Nat) (h : a < 256) : ∀ W, (Op.intBits .and .u8 (a : Int) 127).run P W = .ok (.int .u8 ((a % 128 : Nat) : Int)) W := fun W => by
  have e : (BitVec.ofInt IntKind.u8.bits (a : Int) &&& BitVec.ofInt IntKind.u8.bits 127).toNat = a % 128 := by
    have := and_all ⟨a, h⟩
    simp only at this
    rw [BitVec.toNat_and]
    show (BitVec.ofInt 8 (a : Int)).toNat &&& (BitVec.ofInt 8 127).toNat = _
    have e1 : (BitVec.ofInt 8 (a : Int)).toNat = a := by simp; omega
    rw [e1]
    exact this
  show Result.ok (Value.int .u8 (IntKind.u8.wrap ((BitVec.ofInt IntKind.u8.bits (a : Int) &&& BitVec.ofInt IntKind.u8.bits 127).toNat : Int))) W = _
  rw [e, IntWalk.u8_in _ (by omega)]
theorem shr7 (a : Nat) {k : IntKind} : ∀ W, (Op.shift .shr .u64 (a : Int) k 7).run P W = .ok (.int .u64 ((a / 128 : Nat) : Int)) W := fun W => by
  show Result.ok (Value.int .u64 ((a : Int).fdiv (2 ^ (min 7 64)))) W = _
  have e : ((a : Int).fdiv (2 ^ (min 7 64))) = ((a / 128 : Nat) : Int) := by
    rw [Int.fdiv_eq_ediv_of_nonneg _ (by decide)]
    rfl
  rw [e]
end
theorem All2c.cons {α : Type} {R : List Value → α → Prop} {c1 c2 : List Value} {x : α} {xs : List α} (h : R c1 x) (h2 : All2c R c2 xs) : All2c R (c1 ++ c2) (x :: xs) := ⟨c1, c2, rfl, h, h2⟩
theorem All2c.nil {α : Type} {R : List Value → α → Prop} : All2c R [] [] := rfl
theorem OwnL.lit {e : Ty} {E : TypeId} {g : Nat} {k : Mem} {cs : List Value} {xs : List e.Den} (len : Nat) (h : All2c (Rd e k) cs xs) (hl : xs.length = len) (hm : Nat.ble len 1000 = true) :
    OwnL e (mone g (.cells cs.toArray E (0, 0))) k (.slice (some ⟨g, 0, none⟩) len len) xs := by
  subst hl
  have hc := h.len (fun _ _ h => h.len)
  refine ⟨_, cs, mle_refl _, ?_, h⟩
  have := OwnA.row (sz := e.sz) g 0 xs.length xs.length E cs (by rw [hc]; omega) (Nat.le_refl _) (Nat.le_trans (Nat.le_of_ble_eq_true hm) (by decide))
  rwa [List.drop_zero, List.take_of_length_le (by rw [hc]; omega)] at this
theorem OwnL.elem {e : Ty} {m n : Mem} {A : Option Addr} {l c i : Nat} {xs : List e.Den} {x : e.Den} (h : OwnL e m n (.slice A l c) xs) (hi : xs[i]? = some x) :
    ∃ g off ec, A = some ⟨g, off, none⟩ ∧ cellsAt m g (off + i * e.sz) e.sz ec ∧ Rd e n ec x := by
  obtain ⟨m0, cs, k0, k1, k2⟩ := h
  have hlt : i < xs.length := (List.getElem?_eq_some_iff.1 hi).1
  obtain ⟨g, off, c', hv, hc⟩ := k1.cells (by omega)
  simp only [Value.slice.injEq] at hv
  have hm : i * e.sz + e.sz ≤ xs.length * e.sz := by
    have := Nat.mul_le_mul_right e.sz (Nat.succ_le_of_lt hlt)
    rw [Nat.succ_mul] at this; exact this
  exact ⟨g, off, _, hv.1, (hc.sub hm).mono k0, k2.get (fun _ _ h => h.len) hi⟩
theorem Rd.room {e : Ty} {m : Mem} {A : Option Addr} {l c : Nat} {xs : List e.Den} (h : Rd (.sl e) m [.slice A l c] xs) : l ≤ c ∧ c ≤ 9223372036854775807 := by
  obtain ⟨A', c', he, h1, h2⟩ := h.slice
  simp only [Value.slice.injEq, maxLen] at he h2
  omega
section
variable {P : Program} {n : Nat} {w0 : World} {σ : Env} {Ω : Ctx} {ops : Array Oper} {K : Env → Ctx → Prop} {R : Exit → Env → Ctx → Prop}
variable {ty : TypeId} {pos : String} {af : Array Edge} {d : Option Tmp} {gd : Option (Nat × Bool)} {r : List Oper}
theorem Inv.joinK {W : World} (h : Inv w0 Ω W) (k : Nat) {i j : Nat} {m q : Mem} (hi : cget Ω i = some m) (hj : cget (cdel Ω i) j = some q) :
    Inv w0 ((k, mun m q) :: cdel (cdel Ω i) j) W := by
  have := h.join hi hj
  refine ⟨this.os, this.tape, this.output, this.size, fun p hp => ?_, ?_⟩
  · rcases List.mem_cons.1 hp with rfl | hp
    · exact this.le (i, mun m q) (.head _)
    · exact this.le p (.tail _ hp)
  · have := this.dj
    rw [List.pairwise_cons] at this ⊢
    exact this
theorem VO.join (i j k : Nat) {m q : Mem} (hi : cget Ω i = some m) (hj : cget (cdel Ω i) j = some q) (h : mle q (mun m q) → VO P n w0 ops r σ ((k, mun m q) :: cdel (cdel Ω i) j) K) : VO P n w0 ops r σ Ω K :=
  fun Q hQ a W he hI => h (mle_un_right (hI.dj_of hi hj)) Q hQ a W he (hI.joinK k hi hj)
theorem VC.join {c : Code} (i j k : Nat) {m q : Mem} (hi : cget Ω i = some m) (hj : cget (cdel Ω i) j = some q) (h : mle q (mun m q) → VC P n w0 c R σ ((k, mun m q) :: cdel (cdel Ω i) j)) : VC P n w0 c R σ Ω :=
  fun Q hQ a W he hI => h (mle_un_right (hI.dj_of hi hj)) Q hQ a W he (hI.joinK k hi hj)
theorem Yld.minM {x y : Operand} {t u : TypeId} {k : IntKind} {a b : Int} (hx : ev σ x = some (.int k a)) (hy : ev σ y = some (.int k b)) :
    Yld P n w0 σ Ω ⟨d, .call { callee := .builtin .min, args := [x, y].toArray, argTypes := [t, u].toArray }, ty, pos, af, gd⟩ (.int k (Min.min a b)) := by
  have h := Yld.min (P := P) (n := n) (w0 := w0) (Ω := Ω) (t := t) (u := u) (ty := ty) (pos := pos) (af := af) (d := d) (gd := gd) hx hy
  rwa [show (if b < a then b else a) = Min.min a b by split <;> omega] at h
/-- A slice against nil. -/
theorem eqGuard_sl (op : BinOp) (t : TypeId) (x y : Operand) (A B : Option Addr) (l c l' c' : Nat) (W : World) : (eqGuard op t x y (.slice A l c) (.slice B l' c')).run P W = .ok () W := by
  unfold eqGuard; cases op <;> simp
theorem run_equalIn_snil (W : World) (k : Nat) {t e : TypeId} (A : Option Addr) (l c : Nat) (ht : P.underlying t = some (.slice e)) : (Op.equalIn (k + 1) t (.slice A l c) (.slice none 0 0)).run P W = .ok (decide (A = none)) W := by
  unfold Op.equalIn
  rw [Sem.run_bind, run_underlying' ht]
  cases A <;> rfl
theorem Yld.snil {x y : Operand} {t u e : TypeId} {A : Option Addr} {l c : Nat} (hx : ev σ x = some (.slice A l c)) (hy : ev σ y = some (.slice none 0 0)) (ht : P.underlying t = some (.slice e)) :
    Yld P n w0 σ Ω ⟨d, .binOp .eql t x y u, ty, pos, af, gd⟩ (.bool (decide (A = none))) := fun a W he _ => by
  have h2 : (binOp .eql t (.slice A l c) (.slice none 0 0)).run P W = .ok (.bool (decide (A = none))) W := by
    have h3 : binOp .eql t (.slice A l c) (.slice none 0 0) = (do pure (.bool (← Op.equal t (.slice A l c) (.slice none 0 0)))) := by
      cases A <;> rfl
    rw [h3, Sem.run_bind]
    unfold Op.equal
    rw [show Op.maxDepth = 9999 + 1 from rfl, run_equalIn_snil W 9999 A l c ht]
    rfl
  simp [execOp, he.eval hx, he.eval hy, eqGuard_sl, h2]
theorem VO.gbsl {b' : Bool} {jj dd : Nat} {t e : TypeId} {s b len : Nat} {l : List (Nat × Operand)} {ps : List (Nat × Value)} {z cs : List Value} (i : Nat) (hd : Nat.blt dd n = true) (hg : gyes σ ops jj b') (hl : evp σ l = some ps) (ht : tsl P t = some (e, s, b)) (hz : tz P e = some z)
    (hsmall : Nat.ble (len * s) 16777216 = true) (hb : bld (fun i => some (i * s, s)) ((List.range (len * s)).map fun j => z.toArray[j % z.toArray.size]!) ps = some cs)
    (h : ∀ g, VO P n w0 ops r ((dd, .slice (some ⟨g, 0, none⟩) len len) :: σ) ((i, mone g (.cells cs.toArray e (0, 0))) :: Ω) K) : VO P n w0 ops (⟨some dd, .buildSlice t len l.toArray, ty, pos, af, some (jj, b')⟩ :: r) σ Ω K :=
  VO.gs hd hg (Stp.bsl i hl ht hz hsmall hb) fun _ _ ⟨g, hv, hΩ⟩ => hv ▸ hΩ ▸ h g
/-- A call that is handed chunk m as its own. -/
theorem CallR.ofB {f : FuncId} {fn : Func} {c : Code} {args : List Value} {W : World} {m : Mem} {Post : Value → Mem → Prop} (hm : mle m (wm W)) (hf : P.funcs[f]? = some fn) (hb : fn.body = some c) (hn : fn.ntmps = n)
    (hsz : Nat.ble args.length n = true) (h : VC P n W c (retR P n W fn m Post) (zipE 0 args) [(0, mout (wm W) m), (1, m)]) : CallR P f args W m Post := CallR.of hf hb hn hsz hm h
theorem VO.gcall {b : Bool} {dd j : Nat} {f : FuncId} {xs : List Operand} {ats : Array TypeId} {vs : List Value} {Post : Value → Mem → Prop}
    (i : Nat) {m : Mem} (hd : Nat.blt dd n = true) (hg : gyes σ ops j b) (hf : fnOk P f = true) (ha : evs σ xs = some vs) (hm : cget Ω i = some m) (hc : ∀ W, Inv w0 Ω W → CallR P f vs W m Post)
    (h : ∀ v m', Post v m' → VO P n w0 ops r ((dd, v) :: σ) (cset Ω i m') K) :
    VO P n w0 ops (⟨some dd, .call { callee := .value (.func f), args := xs.toArray, argTypes := ats }, ty, pos, af, some (j, b)⟩ :: r) σ Ω K :=
  VO.gs hd hg (Stp.call i hf ha hm hc) fun v _ ⟨m', hp, hΩ⟩ => hΩ ▸ h v m' hp
end
theorem rem_int {P : Program} (k : IntKind) (a b : Int) (hb : 0 < b) : ∀ W, (Op.intDiv .rem k a b).run P W = .ok (.int k (a.tmod b)) W := fun W => by
  unfold Op.intDiv
  rw [if_neg (by omega)]
  rfl
theorem tmod_bounds (a b : Int) (hb : 0 < b) : -b < a.tmod b ∧ a.tmod b < b := ⟨Int.lt_tmod_of_pos a hb, Int.tmod_lt_of_pos a hb⟩
def pickI (x n : Int) : Int := if x.tmod n < 0 then x.tmod n + n else x.tmod n
theorem pickI_bounds (x n : Int) (h : 0 < n) : 0 ≤ pickI x n ∧ pickI x n < n := by
  have := tmod_bounds x n h
  unfold pickI
  split <;> omega
def Seps (m : Mem) (l : List Mem) : Prop := (∀ x ∈ l, mle x m) ∧ l.Pairwise mdj
def muns : List Mem → Mem
  | [] => mnil
  | m :: r => mun m (muns r)
theorem Seps.nil (m : Mem) : Seps m [] := ⟨fun _ h => (by cases h), .nil⟩
theorem Seps.one {m a : Mem} (h : mle a m) : Seps m [a] := ⟨fun x hx => by simp at hx; exact hx ▸ h, by simp⟩
theorem Seps.two {m a b : Mem} (h : mdj a b) (h1 : mle a m) (h2 : mle b m) : Seps m [a, b] := ⟨fun x hx => by simp at hx; rcases hx with rfl | rfl <;> assumption, by simpa using h⟩
theorem Seps.up {m m' : Mem} {l : List Mem} (h : Seps m l) (hm : mle m m') : Seps m' l := ⟨fun x hx => (h.1 x hx).trans hm, h.2⟩
theorem Seps.cons {m a : Mem} {l : List Mem} (h : Seps m l) (ha : mle a m) (hd : ∀ x ∈ l, mdj a x) : Seps m (a :: l) :=
  ⟨fun x hx => by rcases List.mem_cons.1 hx with rfl | hx <;> first | exact ha | exact h.1 x hx, List.pairwise_cons.2 ⟨hd, h.2⟩⟩
/-- parts of two disjoint parts. -/
theorem Seps.app {m a b : Mem} {l r : List Mem} (hd : mdj a b) (ha : mle a m) (hb : mle b m) (hl : Seps a l) (hr : Seps b r) : Seps m (l ++ r) :=
  ⟨fun x hx => by rcases List.mem_append.1 hx with h | h <;> first | exact (hl.1 x h).trans ha | exact (hr.1 x h).trans hb, List.pairwise_append.2 ⟨hl.2, hr.2, fun x hx y hy => hd.mono (hl.1 x hx) (hr.1 y hy)⟩⟩
theorem muns_le {k : Mem} : ∀ {l : List Mem}, (∀ x ∈ l, mle x k) → mle (muns l) k
  | [], _ => mle_nil _
  | m :: r, h => mun_le (h m (.head _)) (muns_le fun x hx => h x (.tail _ hx))
theorem mdj_muns {k : Mem} : ∀ {l : List Mem}, (∀ x ∈ l, mdj x k) → mdj (muns l) k
  | [], _ => mdj_nil' _
  | m :: r, h => mdj_un (h m (.head _)) (mdj_muns fun x hx => h x (.tail _ hx))
theorem seps_muns : ∀ {l : List Mem}, l.Pairwise mdj → Seps (muns l) l
  | [], _ => Seps.nil _
  | m :: r, h => by
    obtain ⟨h1, h2⟩ := List.pairwise_cons.1 h
    have hd : mdj m (muns r) := (mdj_muns fun x hx => (h1 x hx).symm).symm
    exact ((seps_muns h2).up (mle_un_right hd)).cons (mle_un_left _ _) h1
section
variable {P : Program} {n : Nat} {w0 : World} {σ : Env} {Ω : Ctx} {ops : Array Oper} {K : Env → Ctx → Prop} {R : Exit → Env → Ctx → Prop}
/-- Chunk i gives way to disjoint parts of it. -/
theorem Inv.parts {W : World} (h : Inv w0 Ω W) {i : Nat} {m : Mem} (hi : cget Ω i = some m) {l : List Mem} (hl : Seps m l) (ids : List Nat) : Inv w0 (ids.zip l ++ cdel Ω i) W := by
  obtain ⟨h1, h2⟩ := cdel_dj hi h.dj
  have hz : ∀ p ∈ ids.zip l, p.2 ∈ l := fun p hp => (List.of_mem_zip (a := p.1) (b := p.2) hp).2
  have hp : ∀ (ids : List Nat) (l : List Mem), l.Pairwise mdj → (ids.zip l).Pairwise (fun p q => mdj p.2 q.2) := by
    intro ids
    induction ids with
    | nil => intro l _; simp
    | cons a ids ih =>
      intro l hl
      cases l with
      | nil => simp
      | cons m l =>
        obtain ⟨k1, k2⟩ := List.pairwise_cons.1 hl
        refine List.pairwise_cons.2 ⟨fun p hp => k1 _ ?_, ih l k2⟩
        exact (List.of_mem_zip (a := p.1) (b := p.2) hp).2
  refine ⟨h.os, h.tape, h.output, h.size, fun p hp => ?_, List.pairwise_append.2 ⟨hp ids l hl.2, h2, fun p hp q hq => (h1 q hq).mono (hl.1 _ (hz p hp)) (mle_refl _)⟩⟩
  rcases List.mem_append.1 hp with hp | hp
  · exact (hl.1 _ (hz p hp)).trans (h.at hi)
  · exact h.le p (cdel_mem hp)
def cgets : Ctx → List Nat → Option (List Mem)
  | _, [] => some []
  | Ω, i :: r => match cget Ω i, cgets (cdel Ω i) r with
    | some m, some l => some (m :: l)
    | _, _ => none
def cdels : Ctx → List Nat → Ctx
  | Ω, [] => Ω
  | Ω, i :: r => cdels (cdel Ω i) r
theorem Inv.gets : ∀ {ids : List Nat} {Ω : Ctx} {W : World} {l : List Mem}, Inv w0 Ω W → cgets Ω ids = some l → l.Pairwise mdj ∧ (∀ x ∈ l, mle x (wm W)) ∧ (∀ x ∈ l, ∀ p ∈ cdels Ω ids, mdj x p.2) ∧ Inv w0 (cdels Ω ids) W ∧ ∀ x ∈ l, ∃ i, (i, x) ∈ Ω
  | [], Ω, W, l, h, hg => by
    simp [cgets] at hg; subst hg
    exact ⟨.nil, fun _ h => (by cases h), fun _ h => (by cases h), h, fun _ h => (by cases h)⟩
  | i :: r, Ω, W, l, h, hg => by
    unfold cgets at hg
    split at hg
    · rename_i m l' h1 h2
      simp only [Option.some.injEq] at hg
      subst hg
      obtain ⟨d1, d2⟩ := cdel_dj h1 h.dj
      have hd : Inv w0 (cdel Ω i) W := ⟨h.os, h.tape, h.output, h.size, fun p hp => h.le p (cdel_mem hp), d2⟩
      obtain ⟨k1, k2, k3, k4, k5⟩ := Inv.gets hd h2
      have hsub : ∀ p ∈ cdels (cdel Ω i) r, p ∈ cdel Ω i := by
        have : ∀ (r : List Nat) (Ω : Ctx) (p : Nat × Mem), p ∈ cdels Ω r → p ∈ Ω := by
          intro r
          induction r with
          | nil => intro Ω p hp; exact hp
          | cons a r ih => intro Ω p hp; exact cdel_mem (ih _ _ hp)
        exact fun p hp => this r _ p hp
      refine ⟨List.pairwise_cons.2 ⟨fun x hx => ?_, k1⟩, fun x hx => ?_, fun x hx p hp => ?_, k4, fun x hx => ?_⟩
      · obtain ⟨j, hj⟩ := k5 x hx; exact d1 _ hj
      · rcases List.mem_cons.1 hx with rfl | hx
        · exact h.at h1
        · exact k2 x hx
      · rcases List.mem_cons.1 hx with rfl | hx
        · exact d1 _ (hsub p hp)
        · exact k3 x hx p hp
      · rcases List.mem_cons.1 hx with rfl | hx
        · exact ⟨i, cget_mem h1⟩
        · obtain ⟨j, hj⟩ := k5 x hx; exact ⟨j, cdel_mem hj⟩
    · cases hg
/-- Chunks become one chunk. -/
theorem Inv.gather {W : World} (h : Inv w0 Ω W) (k : Nat) {ids : List Nat} {l : List Mem} (hg : cgets Ω ids = some l) : Inv w0 ((k, muns l) :: cdels Ω ids) W ∧ Seps (muns l) l := by
  obtain ⟨h1, h2, h3, h4, _⟩ := h.gets hg
  refine ⟨⟨h4.os, h4.tape, h4.output, h4.size, fun p hp => ?_, List.pairwise_cons.2 ⟨fun p hp => mdj_muns fun x hx => h3 x hx p hp, h4.dj⟩⟩, seps_muns h1⟩
  rcases List.mem_cons.1 hp with rfl | hp
  · exact muns_le h2
  · exact h4.le p hp
theorem VO.gather {r : List Oper} (k : Nat) (ids : List Nat) {l : List Mem} (hg : cgets Ω ids = some l) (h : Seps (muns l) l → VO P n w0 ops r σ ((k, muns l) :: cdels Ω ids) K) : VO P n w0 ops r σ Ω K :=
  fun Q hQ a W he hi => h (hi.gather k hg).2 Q hQ a W he (hi.gather k hg).1
theorem VC.gather {c : Code} (k : Nat) (ids : List Nat) {l : List Mem} (hg : cgets Ω ids = some l) (h : Seps (muns l) l → VC P n w0 c R σ ((k, muns l) :: cdels Ω ids)) : VC P n w0 c R σ Ω :=
  fun Q hQ a W he hi => h (hi.gather k hg).2 Q hQ a W he (hi.gather k hg).1
theorem VO.parts {r : List Oper} (i : Nat) (ids : List Nat) {m : Mem} {l : List Mem} (hm : cget Ω i = some m) (hl : Seps m l) (h : VO P n w0 ops r σ (ids.zip l ++ cdel Ω i) K) : VO P n w0 ops r σ Ω K :=
  VO.inv _ (fun W hW => hW.parts hm hl ids) h
theorem VC.parts {c : Code} (i : Nat) (ids : List Nat) {m : Mem} {l : List Mem} (hm : cget Ω i = some m) (hl : Seps m l) (h : VC P n w0 c R σ (ids.zip l ++ cdel Ω i)) : VC P n w0 c R σ Ω :=
  VC.inv _ (fun W hW => hW.parts hm hl ids) h
/-- The way out: what is handed on, of these chunks. -/
theorem out_of {W : World} (hI : Inv w0 Ω W) (ids : List Nat) {l : List Mem} {b : Mem} (hg : cgets Ω ids = some l) (hb : cget (cdels Ω ids) 0 = some b) {b0 : Mem} (h0 : mle b0 b) {p : Prop} (hp : Seps (muns l) l → p) :
    p ∧ mle b0 (wm W) ∧ mle (muns l) (wm W) ∧ mdj (muns l) b0 := by
  obtain ⟨h1, h2, h3, h4, _⟩ := hI.gets hg
  exact ⟨hp (seps_muns h1), h0.trans (h4.at hb), muns_le h2, mdj_muns fun x hx => (h3 x hx _ (cget_mem hb)).mono (mle_refl _) h0⟩
theorem VD.inv {ΩS : Ctx} {t : Nat} {l : List (Nat × Bool)} (Ω' : Ctx) (hs : ∀ W, Inv w0 Ω W → Inv w0 Ω' W) (h : VD P n w0 ops ΩS t l σ Ω' K) : VD P n w0 ops ΩS t l σ Ω K :=
  fun Q hn hQ listed a W he hi => h Q hn hQ listed a W he (hs W hi)
theorem VD.gather {ΩS : Ctx} {t : Nat} {ss : List (Nat × Bool)} (k : Nat) (ids : List Nat) {l : List Mem} (hg : cgets Ω ids = some l) (h : Seps (muns l) l → VD P n w0 ops ΩS t ss σ ((k, muns l) :: cdels Ω ids) K) : VD P n w0 ops ΩS t ss σ Ω K :=
  fun Q hn hQ listed a W he hi => h (hi.gather k hg).2 Q hn hQ listed a W he (hi.gather k hg).1
theorem VD.call {ΩS : Ctx} {t : Nat} {i : Nat} {r : List (Nat × Bool)} {d : Nat} {f : FuncId} {xs : List Operand} {ats : Array TypeId} {ty : TypeId} {pos : String} {af : Array Edge} {gd : Option (Nat × Bool)} {vs : List Value} {Post : Value → Mem → Prop}
    (j : Nat) {m : Mem} (hd : Nat.blt d n = true) (ho : ops[i]? = some ⟨some d, .call { callee := .value (.func f), args := xs.toArray, argTypes := ats }, ty, pos, af, gd⟩) (hg : gd = none ∨ ∃ j b, gd = some (j, b) ∧ gyes σ ops j b) (hf : fnOk P f = true)
    (ha : evs σ xs = some vs) (hm : cget Ω j = some m) (hS : ∀ m' W, Inv w0 (cset Ω j m') W → Inv w0 ΩS W) (hc : ∀ W, Inv w0 Ω W → CallR P f vs W m Post) (h : ∀ v m', Post v m' → VD P n w0 ops ΩS t r ((d, v) :: σ) (cset Ω j m') K) : VD P n w0 ops ΩS t ((i, false) :: r) σ Ω K :=
  VD.s (fun v => (d, v) :: σ) ho (fun v _ he => he.put hd v) hg (Stp.call j hf ha hm hc) (fun _ _ ⟨m', _, hΩ⟩ W hW => hS m' W (by subst hΩ; exact hW)) (fun v _ ⟨m', hp, hΩ⟩ => hΩ ▸ h v m' hp)
def VRounds (P : Program) (n : Nat) (w0 : World) (c : Code) (R : Exit → Env → Ctx → Prop) : Nat → Env → Ctx → Prop
  | 0, _, _ => False
  | k + 1, σ, Ω => VC P n w0 c (thenR (fun σ' Ω' => VRounds P n w0 c R k σ' Ω') R) σ Ω
theorem VC.rounds {c : Code} (k : Nat) (h : VRounds P n w0 c R k σ Ω) : VC P n w0 (.loop c) R σ Ω := fun Q hQ a W he hi => by
  refine wp_loop_rounds k ?_
  induction k generalizing σ Ω a W with
  | zero => exact h.elim
  | succ k ih =>
    rw [rounds_succ]
    refine h _ (fun e σ' Ω' a W hr he hi => ?_) a W he hi
    cases e with
    | normal => exact ih hr a W he hi
    | exit id => exact hQ _ σ' Ω' a W hr he hi
    | goto l => exact hQ _ σ' Ω' a W hr he hi
    | ret => exact hQ _ σ' Ω' a W hr he hi
    | panic ch => exact hQ _ σ' Ω' a W hr he hi
    | outgrown => exact hQ _ σ' Ω' a W hr he hi
theorem VRounds.step {c : Code} {k : Nat} (h : VC P n w0 c (thenR (fun σ' Ω' => VRounds P n w0 c R k σ' Ω') R) σ Ω) : VRounds P n w0 c R (k + 1) σ Ω := h
end
def OwAll {α : Type} (R : Mem → List Value → α → Prop) : Mem → List Value → List α → Prop
  | _, cs, [] => cs = []
  | m, cs, x :: r => ∃ c1 c2 m1 m2, cs = c1 ++ c2 ∧ mdj m1 m2 ∧ mle m1 m ∧ mle m2 m ∧ R m1 c1 x ∧ OwAll R m2 c2 r
def Ow : (t : Ty) → Mem → List Value → t.Den → Prop
  | .int k, _, cs, (n : Int) => cs = [.int k n] ∧ inK k n
  | .byte, _, cs, (b : UInt8) => cs = [byV b]
  | .bool, _, cs, (b : Bool) => cs = [.bool b]
  | .str, _, cs, (s : List UInt8) => cs = [str s] ∧ s.length ≤ maxLen
  | .pair a b, m, cs, (x, y) => ∃ c1 c2 m1 m2, cs = c1 ++ c2 ∧ mdj m1 m2 ∧ mle m1 m ∧ mle m2 m ∧ Ow a m1 c1 x ∧ Ow b m2 c2 y
  | .sl e, m, cs, (xs : List e.Den) => ∃ v m0 m1 rc, cs = [v] ∧ mdj m0 m1 ∧ mle m0 m ∧ mle m1 m ∧ OwnA e.sz m0 v xs.length rc ∧ OwAll (Ow e) m1 rc xs
  | .spl e, m, cs, ((xs, ys) : List e.Den × List e.Den) => ∃ A c m0 m1 rc, cs = [.slice A xs.length c] ∧ mdj m0 m1 ∧ mle m0 m ∧ mle m1 m ∧ OwnA e.sz m0 (.slice A (xs ++ ys).length c) (xs ++ ys).length rc ∧ OwAll (Ow e) m1 rc (xs ++ ys)
  | .ptr e, m, cs, ((g, d) : Nat × e.Den) => cs = [.pointer (some ⟨g, 0, none⟩)] ∧ ∃ rc E m1, mdj (mone g (.cells rc.toArray E (0, 0))) m1 ∧ mle (mone g (.cells rc.toArray E (0, 0))) m ∧ mle m1 m ∧ Ow e m1 rc d
  | .addr, _, cs, (g : Option Nat) => cs = [.pointer (g.map fun g => ⟨g, 0, none⟩)]
  | .hdr, _, cs, (h : Option Addr × Nat × Nat) => cs = [.slice h.1 h.2.1 h.2.2]
  | .tmap, m, cs, (xs : List (List UInt8 × List UInt8 × Bool)) => ∃ r es ck, cs = [.map (some r)] ∧ mle (mone r (.map es ck)) m ∧ mapRd es ck xs
section
variable {α : Type} {R : Mem → List Value → α → Prop}
theorem OwAll.up : ∀ {xs : List α} {m m' : Mem} {cs : List Value}, OwAll R m cs xs → mle m m' → OwAll R m' cs xs
  | [], _, _, _, h, _ => h
  | _ :: _, _, _, _, ⟨c1, c2, m1, m2, h1, h2, h3, h4, h5⟩, hm => ⟨c1, c2, m1, m2, h1, h2, h3.trans hm, h4.trans hm, h5⟩
theorem OwAll.all {Q : List Value → α → Prop} : ∀ {xs : List α} {m : Mem} {cs : List Value}, OwAll R m cs xs → (∀ m' c x, mle m' m → R m' c x → Q c x) → All2c Q cs xs
  | [], _, _, h, _ => h
  | _ :: _, _, _, ⟨c1, c2, m1, m2, h1, h2, h3, h4, h5, h6⟩, hq => ⟨c1, c2, h1, hq _ _ _ h3 h5, h6.all fun m' c x hm => hq m' c x (hm.trans h4)⟩
theorem OwAll.app : ∀ {xs ys : List α} {m m1 m2 : Mem} {cs ds : List Value}, mdj m1 m2 → mle m1 m → mle m2 m → OwAll R m1 cs xs → OwAll R m2 ds ys → OwAll R m (cs ++ ds) (xs ++ ys)
  | [], _, _, _, _, _, _, hd, h1, h2, h, h' => by rw [show _ = [] from h]; exact h'.up h2
  | _ :: _, _, m, m1, m2, _, _, hd, h1, h2, ⟨c1, c2, k1, k2, e1, e2, e3, e4, e5, e6⟩, h' =>
    ⟨c1, c2 ++ _, k1, mun k2 m2, by rw [e1, List.append_assoc], (mdj_un e2.symm (hd.symm.mono (mle_refl _) e3)).symm, e3.trans h1, mun_le (e4.trans h1) h2, e5,
      OwAll.app (hd.mono e4 (mle_refl _)) (mle_un_left _ _) (mle_un_right (hd.mono e4 (mle_refl _))) e6 h'⟩
theorem OwAll.one {m m1 : Mem} {c : List Value} {x : α} (h : R m1 c x) (hm : mle m1 m) : OwAll R m c [x] := ⟨c, [], m1, mnil, by simp, mdj_nil _, hm, mle_nil _, h, rfl⟩
theorem OwAll.of {Q : List Value → α → Prop} : ∀ {xs : List α} {m : Mem} {cs : List Value}, All2c Q cs xs → (∀ m' c x, Q c x → R m' c x) → OwAll R m cs xs
  | [], _, _, h, _ => h
  | _ :: _, _, _, ⟨c1, c2, h1, h2, h3⟩, hq => ⟨c1, c2, mnil, mnil, h1, mdj_nil _, mle_nil _, mle_nil _, hq _ _ _ h2, OwAll.of h3 hq⟩
theorem OwAll.split {k : Nat} (hk : ∀ m c x, R m c x → c.length = k) : ∀ {xs : List α} {m : Mem} {cs : List Value} (j : Nat), OwAll R m cs xs → ∃ m1 m2, mdj m1 m2 ∧ mle m1 m ∧ mle m2 m ∧ OwAll R m1 (cs.take (j * k)) (xs.take j) ∧ OwAll R m2 (cs.drop (j * k)) (xs.drop j)
  | [], m, _, j, h => by rw [show _ = [] from h]; exact ⟨mnil, mnil, mdj_nil _, mle_nil _, mle_nil _, by simp [OwAll], by simp [OwAll]⟩
  | y :: r, m, cs, 0, h => ⟨mnil, m, mdj_nil' _, mle_nil _, mle_refl _, by simp [OwAll], by simpa using h⟩
  | y :: r, m, cs, j + 1, ⟨c1, c2, m1, m2, h1, h2, h3, h4, h5, h6⟩ => by
    obtain ⟨k1, k2, d, e1, e2, f1, f2⟩ := OwAll.split hk j h6
    have el : (j + 1) * k = c1.length + j * k := by rw [hk _ _ _ h5, Nat.add_mul]; omega
    refine ⟨mun m1 k1, k2, mdj_un (h2.mono (mle_refl _) e2) d, mun_le h3 (e1.trans h4), e2.trans h4, ?_, ?_⟩
    · rw [h1, el, List.take_length_add_append]
      exact ⟨c1, _, m1, k1, rfl, h2.mono (mle_refl _) e1, mle_un_left _ _, mle_un_right (h2.mono (mle_refl _) e1), h5, f1⟩
    · rw [h1, el, List.drop_length_add_append]
      exact f2
end
theorem Ow.len : ∀ {t : Ty} {m : Mem} {cs : List Value} {d : t.Den}, Ow t m cs d → cs.length = t.sz
  | .int _, _, _, _, h => by rw [h.1]; rfl
  | .byte, _, _, _, h => by rw [show _ = _ from h]; rfl
  | .bool, _, _, _, h => by rw [show _ = _ from h]; rfl
  | .str, _, _, _, h => by rw [h.1]; rfl
  | .pair a b, _, _, (x, y), ⟨c1, c2, m1, m2, h1, _, _, _, h2, h3⟩ => by rw [h1, List.length_append, Ow.len h2, Ow.len h3]; rfl
  | .sl e, _, _, _, ⟨v, m0, m1, rc, h1, _⟩ => by rw [h1]; rfl
  | .spl e, _, _, (_, _), ⟨A, c, m0, m1, rc, h1, _⟩ => by rw [h1]; rfl
  | .ptr e, _, _, (_, _), ⟨h1, _⟩ => by rw [h1]; rfl
  | .addr, _, _, _, h => by rw [show _ = _ from h]; rfl
  | .hdr, _, _, _, h => by rw [show _ = _ from h]; rfl
  | .tmap, _, _, _, ⟨r, es, ck, h1, _⟩ => by rw [h1]; rfl
theorem Ow.up : ∀ {t : Ty} {m m' : Mem} {cs : List Value} {d : t.Den}, Ow t m cs d → mle m m' → Ow t m' cs d
  | .int _, _, _, _, _, h, _ => h
  | .byte, _, _, _, _, h, _ => h
  | .bool, _, _, _, _, h, _ => h
  | .str, _, _, _, _, h, _ => h
  | .pair a b, _, _, _, (x, y), ⟨c1, c2, m1, m2, h1, h2, h3, h4, h5⟩, hm => ⟨c1, c2, m1, m2, h1, h2, h3.trans hm, h4.trans hm, h5⟩
  | .sl e, _, _, _, _, ⟨v, m0, m1, rc, h1, h2, h3, h4, h5⟩, hm => ⟨v, m0, m1, rc, h1, h2, h3.trans hm, h4.trans hm, h5⟩
  | .spl e, _, _, _, (_, _), ⟨A, c, m0, m1, rc, h1, h2, h3, h4, h5⟩, hm => ⟨A, c, m0, m1, rc, h1, h2, h3.trans hm, h4.trans hm, h5⟩
  | .ptr e, _, _, _, (_, _), ⟨h1, rc, E, m1, h2, h3, h4, h5⟩, hm => ⟨h1, rc, E, m1, h2, h3.trans hm, h4.trans hm, h5⟩
  | .addr, _, _, _, _, h, _ => h
  | .hdr, _, _, _, _, h, _ => h
  | .tmap, _, _, _, _, ⟨r, es, ck, h1, h2, h3⟩, hm => ⟨r, es, ck, h1, h2.trans hm, h3⟩
theorem Ow.rd : ∀ {t : Ty} {m : Mem} {cs : List Value} {d : t.Den}, Ow t m cs d → ∀ {k : Mem}, mle m k → Rd t k cs d
  | .int _, _, _, _, h, _, _ => h
  | .byte, _, _, _, h, _, _ => h
  | .bool, _, _, _, h, _, _ => h
  | .str, _, _, _, h, _, _ => h
  | .pair a b, _, _, (x, y), ⟨c1, c2, m1, m2, h1, h2, h3, h4, h5, h6⟩, k, hk => ⟨c1, c2, h1, Ow.rd h5 (h3.trans hk), Ow.rd h6 (h4.trans hk)⟩
  | .sl e, _, _, _, ⟨v, m0, m1, rc, h1, h2, h3, h4, h5, h6⟩, k, hk => by
    subst h1
    exact h5.rd (n := k) (h6.all fun m' c x hm hr => Ow.rd hr ((hm.trans h4).trans hk)) (h3.trans hk) (mle_refl _)
  | .spl e, _, _, (xs, ys), ⟨A, c, m0, m1, rc, h1, h2, h3, h4, h5, h6⟩, k, hk => by
    obtain ⟨A', c', e1, e2, e3, e4⟩ := h5.rd (e := e) (n := k) (h6.all fun m' c x hm hr => Ow.rd hr ((hm.trans h4).trans hk)) (h3.trans hk) (mle_refl _)
    simp only [List.cons.injEq, Value.slice.injEq, true_and, and_true] at e1
    obtain ⟨rfl, rfl⟩ := e1
    exact ⟨A, c, h1, e2, e3, e4⟩
  | .ptr e, _, _, (_, _), ⟨h1, rc, E, m1, h2, h3, h4, h5⟩, k, hk => ⟨h1, rc, E, hk _ _ (h3 _ _ (mone_self _ _)), Ow.rd h5 (h4.trans hk)⟩
  | .addr, _, _, _, h, _, _ => h
  | .hdr, _, _, _, h, _, _ => h
  | .tmap, _, _, _, ⟨r, es, ck, h1, h2, h3⟩, k, hk => ⟨r, es, ck, h1, hk _ _ (h2 _ _ (mone_self _ _)), h3⟩
theorem Ow.of : ∀ {t : Ty} {m m' : Mem} {cs : List Value} {d : t.Den}, t.flat = true → Rd t m cs d → Ow t m' cs d
  | .int _, _, _, _, _, _, h => h
  | .byte, _, _, _, _, _, h => h
  | .bool, _, _, _, _, _, h => h
  | .str, _, _, _, _, _, h => h
  | .pair a b, _, _, _, (x, y), hf, ⟨c1, c2, h1, h2, h3⟩ => by
    have hf' : (a.flat && b.flat) = true := hf
    rw [Bool.and_eq_true] at hf'
    exact ⟨c1, c2, mnil, mnil, h1, mdj_nil _, mle_nil _, mle_nil _, Ow.of hf'.1 h2, Ow.of hf'.2 h3⟩
  | .addr, _, _, _, _, _, h => h
  | .hdr, _, _, _, _, _, h => h
theorem Ow.flat {t : Ty} {m m' : Mem} {cs : List Value} {d : t.Den} (hf : t.flat = true) (h : Ow t m cs d) : Ow t m' cs d := Ow.of hf (h.rd (mle_refl _))
theorem Ow.nice {t : Ty} {m : Mem} {cs : List Value} {d : t.Den} (h : Ow t m cs d) : ∀ u ∈ cs, u.oneCell' = true := (h.rd (mle_refl _)).nice
theorem OwAll.rd {e : Ty} {m k : Mem} {cs : List Value} {xs : List e.Den} (h : OwAll (Ow e) m cs xs) (hk : mle m k) : All2c (Rd e k) cs xs := h.all fun m' c x hm hr => hr.rd (hm.trans hk)
theorem Ow.pair {a b : Ty} {m : Mem} {cs : List Value} {x : a.Den × b.Den} (h : Ow (.pair a b) m cs x) : ∃ c1 c2 m1 m2, cs = c1 ++ c2 ∧ mdj m1 m2 ∧ mle m1 m ∧ mle m2 m ∧ Ow a m1 c1 x.1 ∧ Ow b m2 c2 x.2 := h
theorem Ow.mkPair {a b : Ty} {m m1 m2 : Mem} {c1 c2 : List Value} {x : a.Den × b.Den} (hd : mdj m1 m2) (h1 : mle m1 m) (h2 : mle m2 m) (k1 : Ow a m1 c1 x.1) (k2 : Ow b m2 c2 x.2) : Ow (.pair a b) m (c1 ++ c2) x := ⟨c1, c2, m1, m2, rfl, hd, h1, h2, k1, k2⟩
/-- A slice, opened. -/
theorem Ow.slice {e : Ty} {m : Mem} {v : Value} {xs : List e.Den} (h : Ow (.sl e) m [v] xs) : ∃ A c, v = .slice A xs.length c ∧ xs.length ≤ c ∧ c ≤ maxLen := (h.rd (mle_refl _)).slice
theorem Ow.nil (e : Ty) (m : Mem) : Ow (.sl e) m [.slice none 0 0] [] := ⟨_, mnil, mnil, [], rfl, mdj_nil _, mle_nil _, mle_nil _, .nil none, rfl⟩
/-- A list of flat things: owned is owned. -/
theorem OwnL.ow {e : Ty} {m k : Mem} {v : Value} {xs : List e.Den} (h : OwnL e m k v xs) (hf : e.flat = true) : Ow (.sl e) m [v] xs :=
  let ⟨m0, cs, h0, h1, h2⟩ := h
  ⟨v, m0, mnil, cs, rfl, mdj_nil _, h0, mle_nil _, h1, OwAll.of h2 fun _ _ _ h => Ow.of hf h⟩
theorem Ow.ownl {e : Ty} {m : Mem} {v : Value} {xs : List e.Den} (h : Ow (.sl e) m [v] xs) (hf : e.flat = true) (k : Mem) : OwnL e m k v xs := by
  obtain ⟨v', m0, m1, rc, h1, h2, h3, h4, h5, h6⟩ := h
  simp only [List.cons.injEq, and_true] at h1
  subst h1
  exact ⟨m0, rc, h3, h5, h6.all fun m' c x hm hr => (hr.rd (mle_refl _)).flat hf k⟩
theorem Ow.slice1 {e : Ty} {m : Mem} {cs : List Value} {xs : List e.Den} (h : Ow (.sl e) m cs xs) : ∃ A c, cs = [.slice A xs.length c] ∧ xs.length ≤ c ∧ c ≤ maxLen := by
  obtain ⟨A, c, h1, h2, h3, _⟩ := h.rd (mle_refl _)
  exact ⟨A, c, h1, h2, h3⟩
theorem Rd.slice1 {e : Ty} {m : Mem} {cs : List Value} {xs : List e.Den} (h : Rd (.sl e) m cs xs) : ∃ A c, cs = [.slice A xs.length c] ∧ xs.length ≤ c ∧ c ≤ maxLen := by
  obtain ⟨A, c, h1, h2, h3, _⟩ := h
  exact ⟨A, c, h1, h2, h3⟩
/-- What a pointer owns. -/
theorem Ow.opnP {e : Ty} {m : Mem} {cs : List Value} {g : Nat} {x : e.Den} (h : Ow (.ptr e) m cs (g, x)) : cs = [.pointer (some ⟨g, 0, none⟩)] ∧ ∃ rc E m1, mdj (mone g (.cells rc.toArray E (0, 0))) m1 ∧ mle (mone g (.cells rc.toArray E (0, 0))) m ∧ mle m1 m ∧ Ow e m1 rc x := h
theorem All2c.map {α β : Type} {R : List Value → α → Prop} {S : List Value → β → Prop} (f : α → β) (hf : ∀ c x, R c x → S c (f x)) : ∀ {xs : List α} {cs : List Value}, All2c R cs xs → All2c S cs (xs.map f)
  | [], _, h => h
  | _ :: _, _, ⟨c1, c2, h1, h2, h3⟩ => ⟨c1, c2, h1, hf _ _ h2, h3.map f hf⟩
theorem OwnA.pre {sz len k : Nat} {m : Mem} {A : Option Addr} {l c : Nat} {cs : List Value} (h : OwnA sz m (.slice A l c) len cs) (hk : k ≤ len) : OwnA sz m (.slice A k c) k (cs.take (k * sz)) := by
  generalize hv : Value.slice A l c = v at h
  cases h with
  | nil B =>
    simp only [Value.slice.injEq] at hv
    obtain ⟨rfl, _, rfl⟩ := hv
    obtain rfl : k = 0 := by omega
    simpa using OwnA.nil (sz := sz) A
  | row g off len' cap E c' k1 k2 k3 =>
    simp only [Value.slice.injEq] at hv
    obtain ⟨rfl, _, rfl⟩ := hv
    have := OwnA.row (sz := sz) g off k c E c' k1 (by omega) k3
    rwa [show List.take (k * sz) (List.take (len * sz) (List.drop off c')) = List.take (k * sz) (List.drop off c') by rw [List.take_take, Nat.min_eq_left (Nat.mul_le_mul_right _ hk)]]
/-- x[i:] -/
theorem OwnA.drop {sz len k : Nat} {m : Mem} {A : Option Addr} {l c : Nat} {cs : List Value} (h : OwnA sz m (.slice A l c) len cs) (hk : k ≤ len) : OwnA sz m (.slice (if c = k then A else A.map (·.add (k * sz))) (len - k) (c - k)) (len - k) (cs.drop (k * sz)) := by
  generalize hv : Value.slice A l c = v at h
  cases h with
  | nil B =>
    simp only [Value.slice.injEq] at hv
    obtain ⟨rfl, _, rfl⟩ := hv
    obtain rfl : k = 0 := by omega
    simpa using OwnA.nil (sz := sz) A
  | row g off len' cap E c' k1 k2 k3 =>
    simp only [Value.slice.injEq] at hv
    obtain ⟨rfl, _, rfl⟩ := hv
    have e1 : (List.take (len * sz) (List.drop off c')).drop (k * sz) = List.take ((len - k) * sz) (List.drop (off + k * sz) c') := by
      rw [List.drop_take, List.drop_drop, Nat.sub_mul]
    rw [e1]
    by_cases hck : c = k
    · rw [if_pos hck]
      obtain rfl : len = k := by omega
      have := OwnA.row (sz := sz) g off (len - len) (c - len) E c' (by simp [hck]; have := Nat.zero_le (c * sz); omega) (by omega) (by omega)
      simpa using this
    · rw [if_neg hck]
      have hm : (c - k) * sz + k * sz = c * sz := by rw [← Nat.add_mul]; congr 1; omega
      have := OwnA.row (sz := sz) g (off + k * sz) (len - k) (c - k) E c' (by omega) (by omega) (by omega)
      simpa [add_off] using this
theorem Seps.cut {m : Mem} {l r : List Mem} (h : Seps m (l ++ r)) : mdj (muns l) (muns r) ∧ mle (muns l) m ∧ mle (muns r) m ∧ Seps (muns l) l ∧ Seps (muns r) r := by
  obtain ⟨h1, h2⟩ := h
  obtain ⟨k1, k2, k3⟩ := List.pairwise_append.1 h2
  exact ⟨mdj_muns fun x hx => (mdj_muns fun y hy => (k3 x hx y hy).symm).symm, muns_le fun x hx => h1 x (List.mem_append_left _ hx), muns_le fun x hx => h1 x (List.mem_append_right _ hx), seps_muns k1, seps_muns k2⟩
theorem Seps.grp {m : Mem} : ∀ {ls : List (List Mem)}, Seps m ls.flatten → Seps m (ls.map muns)
  | [], _ => Seps.nil _
  | l :: r, h => by
    have h' : Seps m (l ++ r.flatten) := h
    obtain ⟨_, k1, _, _, k2⟩ := h'.cut
    have h3 : Seps m r.flatten := ⟨fun x hx => h'.1 x (List.mem_append_right _ hx), (List.pairwise_append.1 h'.2).2.1⟩
    refine (Seps.grp h3).cons k1 fun x hx => ?_
    obtain ⟨y, hy, rfl⟩ := List.mem_map.1 hx
    exact mdj_muns fun a ha => (mdj_muns fun b hb => ((List.pairwise_append.1 h'.2).2.2 a ha b (List.mem_flatten.2 ⟨y, hy, hb⟩)).symm).symm
theorem Seps.grp1 {m a : Mem} {ls : List (List Mem)} (h : Seps m (a :: ls.flatten)) : Seps m (a :: ls.map muns) := by
  have h1 : Seps m ([a] :: ls).flatten := h
  have h2 : Seps m (muns [a] :: ls.map muns) := Seps.grp h1
  refine ⟨fun x hx => ?_, ?_⟩
  · rcases List.mem_cons.1 hx with rfl | hx
    · exact h.1 _ (.head _)
    · exact h2.1 _ (.tail _ hx)
  · obtain ⟨k1, k2⟩ := List.pairwise_cons.1 h2.2
    exact List.pairwise_cons.2 ⟨fun x hx => (k1 x hx).mono (mle_un_left _ _) (mle_refl _), k2⟩
theorem Seps.sub {m : Mem} {l l' : List Mem} (h : Seps m l) (hs : l'.Sublist l) : Seps m l' := ⟨fun x hx => h.1 x (hs.subset hx), h.2.sublist hs⟩
/-- A part that is nothing. -/
theorem Seps.nilAt {m : Mem} (i : Nat) {l : List Mem} (h : Seps m l) : Seps m (l.take i ++ mnil :: l.drop i) := by
  obtain ⟨h1, h2⟩ := h
  refine ⟨fun x hx => ?_, ?_⟩
  · rcases List.mem_append.1 hx with hx | hx
    · exact h1 x (List.mem_of_mem_take hx)
    · rcases List.mem_cons.1 hx with rfl | hx
      · exact mle_nil _
      · exact h1 x (List.mem_of_mem_drop hx)
  · rw [← List.take_append_drop i l] at h2
    obtain ⟨k1, k2, k3⟩ := List.pairwise_append.1 h2
    refine List.pairwise_append.2 ⟨k1, List.pairwise_cons.2 ⟨fun x _ => mdj_nil' _, k2⟩, fun x hx y hy => ?_⟩
    rcases List.mem_cons.1 hy with rfl | hy
    · exact mdj_nil _
    · exact k3 x hx y hy
/-- Elements, each with its own memory. -/
def OwAs {α : Type} (R : Mem → List Value → α → Prop) : List Mem → List Value → List α → Prop
  | [], cs, xs => cs = [] ∧ xs = []
  | m :: ms, cs, x :: r => ∃ c1 c2, cs = c1 ++ c2 ∧ R m c1 x ∧ OwAs R ms c2 r
  | _ :: _, _, [] => False
theorem OwAs.all {α : Type} {R : Mem → List Value → α → Prop} : ∀ {ms : List Mem} {M : Mem} {cs : List Value} {xs : List α}, Seps M ms → OwAs R ms cs xs → OwAll R M cs xs
  | [], _, _, _, _, h => by obtain ⟨rfl, rfl⟩ := h; rfl
  | m :: ms, M, cs, x :: r, hS, ⟨c1, c2, h1, h2, h3⟩ => by
    have hS' : Seps M ([m] ++ ms) := hS
    obtain ⟨k1, k2, k3, k4, k5⟩ := hS'.cut
    exact ⟨c1, c2, m, muns ms, h1, k1.mono (k4.1 _ (.head _)) (mle_refl _), hS.1 _ (.head _), k3, h2, OwAs.all k5 h3⟩
theorem OwAs.cons {α : Type} {R : Mem → List Value → α → Prop} {m : Mem} {ms : List Mem} {c1 c2 : List Value} {x : α} {r : List α} (h : R m c1 x) (h2 : OwAs R ms c2 r) : OwAs R (m :: ms) (c1 ++ c2) (x :: r) := ⟨c1, c2, rfl, h, h2⟩
theorem OwAs.nil {α : Type} {R : Mem → List Value → α → Prop} : OwAs R [] [] [] := ⟨rfl, rfl⟩
theorem Ow.lit {e : Ty} {E : TypeId} {g : Nat} {M : Mem} {ms : List Mem} {cs : List Value} {xs : List e.Den} (len : Nat) (hS : Seps M (mone g (.cells cs.toArray E (0, 0)) :: ms)) (h : OwAs (Ow e) ms cs xs) (hl : xs.length = len) (hm : Nat.ble len 1000 = true) :
    Ow (.sl e) M [.slice (some ⟨g, 0, none⟩) len len] xs := by
  subst hl
  have hS' : Seps M ([mone g (.cells cs.toArray E (0, 0))] ++ ms) := hS
  obtain ⟨k1, k2, k3, k4, k5⟩ := hS'.cut
  have ha := OwAs.all k5 h
  have hc : cs.length = xs.length * e.sz := (OwAll.all (Q := fun c (x : e.Den) => c.length = e.sz) ha fun _ _ _ _ h => h.len).len fun _ _ h => h
  refine ⟨_, _, muns ms, cs, rfl, k1.mono (k4.1 _ (.head _)) (mle_refl _), hS.1 _ (.head _), k3, ?_, ha⟩
  have := OwnA.row (sz := e.sz) g 0 xs.length xs.length E cs (by rw [hc]; omega) (Nat.le_refl _) (Nat.le_trans (Nat.le_of_ble_eq_true hm) (by decide))
  rwa [List.drop_zero, List.take_of_length_le (by rw [hc]; omega)] at this
theorem Ow.clsP {e : Ty} {M : Mem} {g : Nat} {E : TypeId} {rc : List Value} {ms : List Mem} {x : e.Den} (hS : Seps M (mone g (.cells rc.toArray E (0, 0)) :: ms)) (h : Seps (muns ms) ms → Ow e (muns ms) rc x) : Ow (.ptr e) M [.pointer (some ⟨g, 0, none⟩)] (g, x) := by
  have hS' : Seps M ([mone g (.cells rc.toArray E (0, 0))] ++ ms) := hS
  obtain ⟨k1, k2, k3, k4, k5⟩ := hS'.cut
  exact ⟨rfl, rc, E, muns ms, k1.mono (k4.1 _ (.head _)) (mle_refl _), hS.1 _ (.head _), k3, h k5⟩
theorem Seps.self {m : Mem} {l l' : List Mem} (h : Seps m l) (hs : l'.Sublist l) : Seps (muns l') l' := seps_muns (h.2.sublist hs)
/-- A list is owned in two parts: its row, and what its elements own. -/
theorem Ow.opn {e : Ty} {m : Mem} {v : Value} {xs : List e.Den} (h : Ow (.sl e) m [v] xs) : ∃ m0 m1 rc, Seps m [m0, m1] ∧ OwnA e.sz m0 v xs.length rc ∧ OwAll (Ow e) m1 rc xs := by
  obtain ⟨v', m0, m1, rc, h1, h2, h3, h4, h5, h6⟩ := h
  simp only [List.cons.injEq, and_true] at h1
  subst h1
  exact ⟨m0, m1, rc, .two h2 h3 h4, h5, h6⟩
theorem Ow.cls {e : Ty} {m m0 m1 : Mem} {v : Value} {xs : List e.Den} {rc : List Value} (hS : Seps m [m0, m1]) (h1 : OwnA e.sz m0 v xs.length rc) (h2 : OwAll (Ow e) m1 rc xs) : Ow (.sl e) m [v] xs :=
  ⟨v, m0, m1, rc, rfl, by have := hS.2; simpa using this, hS.1 _ (.head _), hS.1 _ (.tail _ (.head _)), h1, h2⟩
section
variable {P : Program} {n : Nat} {w0 : World} {σ : Env} {Ω : Ctx} {ops : Array Oper} {K : Env → Ctx → Prop}
variable {ty : TypeId} {pos : String} {af : Array Edge} {d : Option Tmp} {gd : Option (Nat × Bool)} {r : List Oper}
/-- One thing, owned in chunk j (it goes into the list's chunk), is appended to a list of chunk i. It lies in a literal. -/
theorem VO.appO {e : Ty} {s x : Operand} {t xt et xe : TypeId} {b dd g c : Nat} {v : Value} {xs : List e.Den} {y : e.Den} {yc z : List Value} (i j k : Nat) {m mj mk : Mem} (hd : Nat.blt dd n = true) (hsv : ev σ s = some v) (hxv : ev σ x = some (.slice (some ⟨g, 0, none⟩) 1 c)) (ht : tsl P t = some (et, e.sz, b)) (hz : tz P et = some z) (hzl : z.length = e.sz)
    (hm : cget Ω i = some m) (hj : cget (cdel Ω i) j = some mj) (hk : cget Ω k = some mk) (hown : Ow (.sl e) m [v] xs) (hy : Ow e mj yc y) (hxt : P.underlying xt = some (.slice xe)) (hc : cellsAt mk g 0 e.sz yc) (hml : xs.length + 1 ≤ maxLen) (hb : (xs.length + 1) * b ≤ 140737488355328) (hb0 : b ≠ 0)
    (h : ∀ v' m', Ow (.sl e) m' [v'] (xs ++ [y]) → VO P n w0 ops r ((dd, v') :: σ) ((i, m') :: cdel (cdel Ω i) j) K) :
    VO P n w0 ops (⟨some dd, .call { callee := .builtin .append, args := [s, x].toArray, argTypes := [t, xt].toArray }, ty, pos, af, none⟩ :: r) σ Ω K :=
  fun Q hQ a W he hi => wpList_plain rfl fun K' hK => by
    obtain ⟨m0, m1, rc, hS, hA, hL⟩ := hown.opn
    obtain ⟨q1, q2, q3, q4, _⟩ := hi.gets (ids := [i, j]) (l := [m, mj]) (by simp [cgets, hm, hj])
    have dmj : mdj m mj := by simpa using q1
    have d01 : mdj m0 m1 := by have := hS.2; simpa using this
    have l0 := hS.1 m0 (.head _)
    have l1 := hS.1 m1 (.tail _ (.head _))
    have d1j : mdj m1 mj := dmj.mono l1 (mle_refl _)
    have hnew : mdj m0 (mun m1 mj) := (mdj_un d01.symm (dmj.mono l0 (mle_refl _)).symm).symm
    have hΩ2 : Inv w0 ((i, m0) :: (j, mun m1 mj) :: cdel (cdel Ω i) j) W := by
      have hdel : Inv w0 (cdel (cdel Ω i) j) W := q4
      have f1 : ∀ p ∈ cdel (cdel Ω i) j, mdj m p.2 := fun p hp => q3 m (.head _) p hp
      have f2 : ∀ p ∈ cdel (cdel Ω i) j, mdj mj p.2 := fun p hp => q3 mj (.tail _ (.head _)) p hp
      refine ⟨hi.os, hi.tape, hi.output, hi.size, fun p hp => ?_, List.pairwise_cons.2 ⟨fun p hp => ?_, List.pairwise_cons.2 ⟨fun p hp => ?_, hdel.dj⟩⟩⟩
      · rcases List.mem_cons.1 hp with rfl | hp
        · exact l0.trans (hi.at hm)
        · rcases List.mem_cons.1 hp with rfl | hp
          · exact mun_le (l1.trans (hi.at hm)) (q2 mj (.tail _ (.head _)))
          · exact hdel.le p hp
      · rcases List.mem_cons.1 hp with rfl | hp
        · exact hnew
        · exact (f1 p hp).mono l0 (mle_refl _)
      · exact mdj_un ((f1 p hp).mono l1 (mle_refl _)) (f2 p hp)
    have hsrc : SrcW P W e.sz xt (.slice (some ⟨g, 0, none⟩) 1 c) 1 yc := by
      refine ⟨⟨_, hxt, by simp⟩, by rw [hy.len]; omega, fun W' hW => ?_, fun W' => by simp [Builtin.lenOf]⟩
      have hc2 : cellsAt (wm W') g 0 (1 * e.sz) yc := by
        rw [Nat.one_mul]
        refine hc.mono (fun q o ho => ?_)
        have := hi.at hk q o ho
        unfold wm at this ⊢
        rw [hW]; exact this
      exact firstCells_row hc2
    refine app_wp (i := i) (m := m0) (m0 := m0) he hΩ2 hsv hxv ht hz hzl (by simp [cget]) (mle_refl _) hA hsrc hy.nice hml hb hb0 fun v' m' W' hA' hi' => ?_
    have hc' : cset ((i, m0) :: (j, mun m1 mj) :: cdel (cdel Ω i) j) i m' = (i, m') :: (j, mun m1 mj) :: cdel (cdel Ω i) j := by simp [cset]
    rw [hc'] at hi'
    have hdj : mdj m' (mun m1 mj) := (List.pairwise_cons.1 hi'.dj).1 _ (.head _)
    have hall : OwAll (Ow e) (mun m1 mj) (rc ++ yc) (xs ++ [y]) := OwAll.app d1j (mle_un_left _ _) (mle_un_right d1j) hL (.one hy (mle_refl _))
    have how : Ow (.sl e) (mun m' (mun m1 mj)) [v'] (xs ++ [y]) := ⟨v', m', mun m1 mj, rc ++ yc, rfl, hdj, mle_un_left _ _, mle_un_right hdj, by simpa using hA', hall⟩
    refine hK _ _ (h v' _ how Q hQ _ _ (he.put hd v') ?_)
    refine ⟨hi'.os, hi'.tape, hi'.output, hi'.size, fun p hp => ?_, List.pairwise_cons.2 ⟨fun p hp => ?_, (List.pairwise_cons.1 (List.pairwise_cons.1 hi'.dj).2).2⟩⟩
    · rcases List.mem_cons.1 hp with rfl | hp
      · exact mun_le (hi'.le (i, m') (.head _)) (hi'.le (j, mun m1 mj) (.tail _ (.head _)))
      · exact hi'.le p (.tail _ (.tail _ hp))
    · exact mdj_un ((List.pairwise_cons.1 hi'.dj).1 p (.tail _ hp)) ((List.pairwise_cons.1 (List.pairwise_cons.1 hi'.dj).2).1 p hp)
end
section
variable {P : Program} {n : Nat} {w0 : World} {σ : Env} {Ω : Ctx} {ops : Array Oper} {K : Env → Ctx → Prop} {R : Exit → Env → Ctx → Prop}
variable {ty : TypeId} {pos : String} {af : Array Edge} {d : Option Tmp} {gd : Option (Nat × Bool)} {r : List Oper}
theorem eqGuard_pt (op : BinOp) (t : TypeId) (x y : Operand) (A B : Option Addr) (W : World) : (eqGuard op t x y (.pointer A) (.pointer B)).run P W = .ok () W := by
  unfold eqGuard; cases op <;> simp
theorem run_equalIn_pnil (W : World) (k : Nat) {t e : TypeId} (A : Option Addr) (ht : P.underlying t = some (.pointer e)) : (Op.equalIn (k + 1) t (.pointer A) (.pointer none)).run P W = .ok (decide (A = none)) W := by
  unfold Op.equalIn
  rw [Sem.run_bind, run_underlying' ht]
  cases A <;> rfl
theorem Yld.pnilA {x y : Operand} {t u e : TypeId} {A : Option Addr} (hx : ev σ x = some (.pointer A)) (hy : ev σ y = some (.pointer none)) (ht : P.underlying t = some (.pointer e)) :
    Yld P n w0 σ Ω ⟨d, .binOp .eql t x y u, ty, pos, af, gd⟩ (.bool (decide (A = none))) := fun a W he _ => by
  have h2 : (binOp .eql t (.pointer A) (.pointer none)).run P W = .ok (.bool (decide (A = none))) W := by
    have h3 : binOp .eql t (.pointer A) (.pointer none) = (do pure (.bool (← Op.equal t (.pointer A) (.pointer none)))) := by
      cases A <;> rfl
    rw [h3, Sem.run_bind]
    unfold Op.equal
    rw [show Op.maxDepth = 9999 + 1 from rfl, run_equalIn_pnil W 9999 A ht]
    rfl
  simp [execOp, he.eval hx, he.eval hy, eqGuard_pt, h2]
theorem Yld.pnilAN {x y : Operand} {t u e : TypeId} {A : Option Addr} (hx : ev σ x = some (.pointer A)) (hy : ev σ y = some (.pointer none)) (ht : P.underlying t = some (.pointer e)) :
    Yld P n w0 σ Ω ⟨d, .binOp .neq t x y u, ty, pos, af, gd⟩ (.bool (decide (¬ A = none))) := fun a W he _ => by
  have h2 : (binOp .neq t (.pointer A) (.pointer none)).run P W = .ok (.bool (decide (¬ A = none))) W := by
    have h3 : binOp .neq t (.pointer A) (.pointer none) = (do pure (.bool !(← Op.equal t (.pointer A) (.pointer none)))) := by
      cases A <;> rfl
    rw [h3, Sem.run_bind]
    unfold Op.equal
    rw [show Op.maxDepth = 9999 + 1 from rfl, run_equalIn_pnil W 9999 A ht]
    simp
  simp [execOp, he.eval hx, he.eval hy, eqGuard_pt, h2]
theorem Yld.pnil {x y : Operand} {t u e : TypeId} {A : Option Addr} {b : Bool} (hx : ev σ x = some (.pointer A)) (hy : ev σ y = some (.pointer none)) (ht : P.underlying t = some (.pointer e)) (hb : A.isNone = b) :
    Yld P n w0 σ Ω ⟨d, .binOp .eql t x y u, ty, pos, af, gd⟩ (.bool b) := by
  have := Yld.pnilA (P := P) (n := n) (w0 := w0) (Ω := Ω) (u := u) (ty := ty) (pos := pos) (af := af) (d := d) (gd := gd) hx hy ht
  rwa [show decide (A = none) = b by subst hb; cases A <;> rfl] at this
theorem Yld.pnilN {x y : Operand} {t u e : TypeId} {A : Option Addr} {b : Bool} (hx : ev σ x = some (.pointer A)) (hy : ev σ y = some (.pointer none)) (ht : P.underlying t = some (.pointer e)) (hb : A.isSome = b) :
    Yld P n w0 σ Ω ⟨d, .binOp .neq t x y u, ty, pos, af, gd⟩ (.bool b) := by
  have := Yld.pnilAN (P := P) (n := n) (w0 := w0) (Ω := Ω) (u := u) (ty := ty) (pos := pos) (af := af) (d := d) (gd := gd) hx hy ht
  rwa [show decide (¬ A = none) = b by subst hb; cases A <;> rfl] at this
theorem Yld.pnilO {x y : Operand} {t u e : TypeId} {A : Option Nat} (hx : ev σ x = some (.pointer (A.map fun g => ⟨g, 0, none⟩))) (hy : ev σ y = some (.pointer none)) (ht : P.underlying t = some (.pointer e)) :
    Yld P n w0 σ Ω ⟨d, .binOp .eql t x y u, ty, pos, af, gd⟩ (.bool (decide (A = none))) := by
  have := Yld.pnilA (P := P) (n := n) (w0 := w0) (Ω := Ω) (u := u) (ty := ty) (pos := pos) (af := af) (d := d) (gd := gd) hx hy ht
  rwa [show decide ((A.map fun g => (⟨g, 0, none⟩ : Addr)) = none) = decide (A = none) by cases A <;> rfl] at this
/-- an array type: length and cells of an element. -/
def tar (P : Program) (t : TypeId) : Option (Nat × Nat) := match P.underlying t with
  | some (.array l e) => match P.info? e with
    | some i => some (l, i.size)
    | none => none
  | _ => none
theorem tar_run {t l s : Nat} (h : tar P t = some (l, s)) : ∃ e, P.underlying t = some (.array l e) ∧ ∃ i, P.info? e = some i ∧ i.size = s := by
  unfold tar at h
  split at h
  · rename_i l' e he
    split at h
    · rename_i i hi
      simp only [Option.some.injEq, Prod.mk.injEq] at h
      obtain ⟨rfl, h2⟩ := h
      exact ⟨e, he, i, hi, h2⟩
    · cases h
  · cases h
theorem Yld.bar {t : TypeId} {l : List (Nat × Operand)} {ps : List (Nat × Value)} {q s : Nat} {z cs : List Value} (hl : evp σ l = some ps) (ht : tar P t = some (q, s)) (hz : tz P t = some z) (hb : bld (fun i => some (i * s, s)) z ps = some cs) :
    Yld P n w0 σ Ω ⟨d, .build t l.toArray, ty, pos, af, gd⟩ (.agg cs.toArray) := fun a W he _ => by
  obtain ⟨v, hv, hzr⟩ := tz_run hz
  obtain ⟨e, h1, i, h2, h3⟩ := tar_run ht
  have hf : Instr.fill (fun i => some (i * s, s)) v.cells ps = some cs.toArray := fill_eq _ ps v.cells cs (by rw [hv]; simpa using hb)
  have hm : (l.toArray.map fun (i, x) => (i, a.eval x)).toList = ps := by rw [← evp_map he hl]; simp
  simp only [execOp, Instr.build, Sem.run_bind, hzr, Result.andThen_ok, run_underlying' h1, run_sizeOf' h2, h3]
  rw [hm, hf]
  simp
/-- an element of an array: its place; by value. -/
theorem Yld.ixa {x y : Operand} {t : TypeId} {g off l s i o : Nat} {k : IntKind} {a : Int} (hx : ev σ x = some (.pointer (some ⟨g, off, none⟩))) (hy : ev σ y = some (.int k a)) (ht : tar P t = some (l, s)) (ha : a = i) (hi : Nat.blt i l = true) (ho : off + i * s = o) :
    Yld P n w0 σ Ω ⟨d, .indexAddr t x y, ty, pos, af, gd⟩ (.pointer (some ⟨g, o, none⟩)) := fun A W he _ => by
  obtain ⟨e, h1, i', h2, h3⟩ := tar_run ht
  subst ha; subst ho
  have hi' : i < l := by simpa using hi
  have e1 : (i : Int) < l := by omega
  simp [execOp, Instr.indexAt, asIntOf, he.eval hx, he.eval hy, run_underlying' h1, run_sizeOf' h2, h3, hi', add_off, Instr.sureAddr]
def tia (P : Program) (t : TypeId) : Option (Nat × TypeId × Nat) := match P.underlying t with
  | some (.array l e) => match P.info? e with
    | some i => some (l, e, i.size)
    | none => none
  | _ => none
theorem tia_run {t l e s : Nat} (h : tia P t = some (l, e, s)) : P.underlying t = some (.array l e) ∧ ∃ i, P.info? e = some i ∧ i.size = s := by
  unfold tia at h
  split at h
  · rename_i l' e he
    split at h
    · rename_i i hi
      simp only [Option.some.injEq, Prod.mk.injEq] at h
      obtain ⟨rfl, rfl, h2⟩ := h
      exact ⟨he, i, hi, h2⟩
    · cases h
  · cases h
theorem Yld.ix1V {x y : Operand} {t : TypeId} {l e s i : Nat} {k : IntKind} {a : Int} {cs : Array Value} {v : Value} (hx : ev σ x = some (.agg cs)) (hy : ev σ y = some (.int k a)) (ht : tia P t = some (l, e, s)) (hk : tk P e = some none) (ha : a = i) (hi : Nat.blt i l = true) (hv : cs[i * s]? = some v) :
    Yld P n w0 σ Ω ⟨d, .index t x y, ty, pos, af, gd⟩ v := fun A W he _ => by
  obtain ⟨h1, i', h2, h3⟩ := tia_run ht
  subst ha
  have hi' : i < l := by simpa using hi
  have e1 : (i : Int) < l := by omega
  obtain ⟨h4, _⟩ := tk_none hk W
  simp [execOp, Instr.index, asIntOf, he.eval hx, he.eval hy, run_underlying' h1, run_sizeOf' h2, h3, hi', part, h4, hv]
end
section
variable {e : Ty} {m n : Mem} {A : Option Addr} {l c : Nat} {xs : List e.Den}
theorem OwnL.pre {j : Nat} (h : OwnL e m n (.slice A l c) xs) (hj : j ≤ xs.length) : OwnL e m n (.slice A j c) (xs.take j) := by
  obtain ⟨m0, cs, h0, h1, h2⟩ := h
  refine ⟨m0, _, h0, ?_, h2.take (fun _ _ h => h.len) j⟩
  have hl : (xs.take j).length = j := by simp; omega
  rw [hl]
  exact h1.pre hj
theorem OwnL.drop' (h : OwnL e m n (.slice A l c) xs) (s i : Nat) (hs : e.sz = s) (hi : i ≤ xs.length) : ∃ A', (if c = i then A else A.map (·.add (i * s))) = A' ∧ OwnL e m n (.slice A' (xs.length - i) (c - i)) (xs.drop i) := by
  subst hs
  obtain ⟨m0, cs, h0, h1, h2⟩ := h
  refine ⟨_, rfl, m0, _, h0, ?_, h2.drop (fun _ _ h => h.len) i⟩
  rw [List.length_drop]
  exact h1.drop hi
theorem Ow.pre {j : Nat} (h : Ow (.sl e) m [.slice A l c] xs) (hj : j ≤ xs.length) : Ow (.sl e) m [.slice A j c] (xs.take j) := by
  obtain ⟨m0, m1, rc, hS, h1, h2⟩ := h.opn
  obtain ⟨a1, a2, d, l1, l2, k1, k2⟩ := h2.split (fun _ _ _ h => h.len) j
  have hl : (xs.take j).length = j := by simp; omega
  refine Ow.cls (m0 := m0) (m1 := m1) hS (rc := rc.take (j * e.sz)) ?_ (k1.up l1)
  rw [hl]; exact h1.pre hj
theorem Ow.drop' (h : Ow (.sl e) m [.slice A l c] xs) (s i : Nat) (hs : e.sz = s) (hi : i ≤ xs.length) : ∃ A', (if c = i then A else A.map (·.add (i * s))) = A' ∧ Ow (.sl e) m [.slice A' (xs.length - i) (c - i)] (xs.drop i) := by
  subst hs
  obtain ⟨m0, m1, rc, hS, h1, h2⟩ := h.opn
  obtain ⟨a1, a2, d, l1, l2, k1, k2⟩ := h2.split (fun _ _ _ h => h.len) i
  refine ⟨_, rfl, Ow.cls (m0 := m0) (m1 := m1) hS (rc := rc.drop (i * e.sz)) ?_ (k2.up l2)⟩
  rw [List.length_drop]; exact h1.drop hi
end
theorem splice_len (c : List Value) (off : Nat) (vs : List Value) (h : off + vs.length ≤ c.length) : (splice c off vs).length = c.length := by
  unfold splice; simp; omega
theorem splice_in {a b vs : List Value} {o : Nat} (h : o + vs.length ≤ b.length) : splice (a ++ b) (a.length + o) vs = a ++ splice b o vs := by
  unfold splice
  rw [List.take_length_add_append, show a.length + o + vs.length = a.length + (o + vs.length) by omega, List.drop_length_add_append, List.append_assoc]
theorem splice_pre {a b vs : List Value} {o : Nat} (h : o + vs.length ≤ a.length) : splice (a ++ b) o vs = splice a o vs ++ b := by
  unfold splice
  rw [List.take_append_of_le_length (by omega), List.drop_append_of_le_length (by omega)]
  simp
theorem splice_row' {A B D vs : List Value} {o : Nat} (h : o + vs.length ≤ B.length) : ((splice (A ++ (B ++ D)) (A.length + o) vs).drop A.length).take B.length = splice B o vs := by
  rw [splice_in (by simp; omega), splice_pre h, List.drop_left]
  have := List.take_left (l₁ := splice B o vs) (l₂ := D)
  rwa [splice_len _ _ _ h] at this
theorem splice_row {c vs : List Value} {off q o : Nat} (h : o + vs.length ≤ q) (hq : off + q ≤ c.length) : ((splice c (off + o) vs).drop off).take q = splice ((c.drop off).take q) o vs := by
  have l1 : (c.take off).length = off := by simp; omega
  have l2 : ((c.drop off).take q).length = q := by simp; omega
  have := splice_row' (A := c.take off) (B := (c.drop off).take q) (D := (c.drop off).drop q) (o := o) (vs := vs) (by rw [l2]; exact h)
  rw [List.take_append_drop, List.take_append_drop, l1, l2] at this
  exact this
theorem OwAll.upd {α : Type} {R : Mem → List Value → α → Prop} {k eo : Nat} {vc : List Value} {a x' : α} (hk : ∀ m c x, R m c x → c.length = k) (he : eo + vc.length ≤ k) (hup : ∀ mi ec, R mi ec a → R mi (splice ec eo vc) x') :
    ∀ {xs : List α} {m : Mem} {cs : List Value} {i : Nat}, OwAll R m cs xs → xs[i]? = some a → OwAll R m (splice cs (i * k + eo) vc) (xs.set i x')
  | y :: r, m, _, 0, ⟨c1, c2, m1, m2, h1, h2, h3, h4, h5, h6⟩, hi => by
    simp at hi; subst hi
    refine ⟨splice c1 eo vc, c2, m1, m2, ?_, h2, h3, h4, hup _ _ h5, h6⟩
    rw [h1, Nat.zero_mul, Nat.zero_add]
    exact splice_pre (by rw [hk _ _ _ h5]; exact he)
  | y :: r, m, _, i + 1, ⟨c1, c2, m1, m2, h1, h2, h3, h4, h5, h6⟩, hi => by
    have hi' : r[i]? = some a := by simpa using hi
    refine ⟨c1, _, m1, m2, ?_, h2, h3, h4, h5, OwAll.upd hk he hup h6 hi'⟩
    have hl : c2.length = r.length * k := (OwAll.all (Q := fun c (_ : α) => c.length = k) h6 fun _ _ _ _ h => hk _ _ _ h).len fun _ _ h => h
    have hlt : i < r.length := (List.getElem?_eq_some_iff.1 hi').1
    have hm := Nat.mul_le_mul_right k (Nat.succ_le_of_lt hlt)
    rw [Nat.succ_mul] at hm
    rw [h1, show (i + 1) * k + eo = c1.length + (i * k + eo) by rw [hk _ _ _ h5, Nat.add_mul]; omega]
    exact splice_in (by omega)
/-- an element gives way to another one, with memory of its own. -/
theorem OwAll.put {α : Type} {R : Mem → List Value → α → Prop} {k : Nat} {vc : List Value} {x' : α} (hk : ∀ m c x, R m c x → c.length = k) {mj : Mem} (hx : R mj vc x') :
    ∀ {xs : List α} {m : Mem} {cs : List Value} {i : Nat} {a : α}, OwAll R m cs xs → xs[i]? = some a → mdj m mj → OwAll R (mun m mj) (splice cs (i * k) vc) (xs.set i x')
  | y :: r, m, _, 0, a, ⟨c1, c2, m1, m2, h1, h2, h3, h4, h5, h6⟩, hi, hd => by
    refine ⟨vc, c2, mj, m2, ?_, (hd.mono h4 (mle_refl _)).symm, mle_un_right hd, h4.trans (mle_un_left _ _), hx, h6⟩
    rw [h1, Nat.zero_mul, splice_pre (by rw [hk _ _ _ h5, hk _ _ _ hx]; omega)]
    congr 1
    unfold splice
    rw [List.take_zero, List.nil_append, List.drop_of_length_le (by rw [hk _ _ _ h5, hk _ _ _ hx]; omega), List.append_nil]
  | y :: r, m, _, i + 1, a, ⟨c1, c2, m1, m2, h1, h2, h3, h4, h5, h6⟩, hi, hd => by
    have hi' : r[i]? = some a := by simpa using hi
    have hd2 := hd.mono h4 (mle_refl _)
    refine ⟨c1, _, m1, mun m2 mj, ?_, (mdj_un h2.symm (hd.mono h3 (mle_refl _)).symm).symm, h3.trans (mle_un_left _ _), mun_le (h4.trans (mle_un_left _ _)) (mle_un_right hd), h5, OwAll.put hk hx h6 hi' hd2⟩
    have hl : c2.length = r.length * k := (OwAll.all (Q := fun c (_ : α) => c.length = k) h6 fun _ _ _ _ h => hk _ _ _ h).len fun _ _ h => h
    have hlt : i < r.length := (List.getElem?_eq_some_iff.1 hi').1
    have hm := Nat.mul_le_mul_right k (Nat.succ_le_of_lt hlt)
    rw [Nat.succ_mul] at hm
    rw [h1, show (i + 1) * k = c1.length + i * k by rw [hk _ _ _ h5, Nat.add_mul]; omega]
    exact splice_in (by rw [hk _ _ _ hx]; omega)
section
variable {P : Program} {n : Nat} {w0 : World} {σ : Env} {Ω : Ctx} {ops : Array Oper} {K : Env → Ctx → Prop} {R : Exit → Env → Ctx → Prop}
variable {ty : TypeId} {pos : String} {af : Array Edge} {d : Option Tmp} {gd : Option (Nat × Bool)} {r : List Oper}
theorem store_wp {t : TypeId} {x y : Operand} {g off : Nat} {v : Value} {k : Nat} {i : Nat} {m : Mem} {c : Array Value} {E : TypeId} {a : Act} {W : World} (he : EnvOk n σ a) (hi : Inv w0 Ω W)
    (hx : ev σ x = some (.pointer (some ⟨g, off, none⟩))) (hy : ev σ y = some v) (ht : tk P t = some (some k) ∨ (tk P t = some none ∧ k = 1)) (hk : Nat.beq v.cells.size k = true) (hn : nice v = true)
    (hm : cget Ω i = some m) (hg : m g = some (.cells c E (0, 0))) (hl : off + k ≤ c.size) {K' : Act → World → Prop} {Q : Exit → Act → World → Prop}
    (hK : ∀ W', Inv w0 (cset Ω i (mset m g (.cells (splice c.toList off v.cells.toList).toArray E (0, 0)))) W' → K' (a.put d undef) W') :
    (⟨d, .store t x y, ty, pos, af, gd⟩ : Oper).wp P a W K' Q :=
  Stp.store (P := P) (n := n) (w0 := w0) (σ := σ) (Ω := Ω) (d := d) (ty := ty) (pos := pos) (af := af) (gd := gd) i hx hy ht hk hn hm hg (by simpa using hl) a W he hi K' Q fun u Ω' W' ⟨h1, h2⟩ hi' => by subst h1; subst h2; exact hK W' hi'
theorem put_none (a : Act) (v : Value) : a.put none v = a := rfl
/-- Cells of an element of a list of one's own are stored. -/
theorem VO.upd {e : Ty} {t : TypeId} {x y : Operand} {g off o l c k i : Nat} {v : Value} {xs : List e.Den} {a x' : e.Den} (cid eo : Nat) {m : Mem}
    (hx : ev σ x = some (.pointer (some ⟨g, o, none⟩))) (hy : ev σ y = some v) (ht : tk P t = some (some k) ∨ (tk P t = some none ∧ k = 1)) (hk : Nat.beq v.cells.size k = true) (hn : nice v = true)
    (hm : cget Ω cid = some m) (hown : Ow (.sl e) m [.slice (some ⟨g, off, none⟩) l c] xs) (ho : o = off + i * e.sz + eo) (hi : xs[i]? = some a) (hle : Nat.ble (eo + k) e.sz = true)
    (hup : ∀ mi ec, Ow e mi ec a → Ow e mi (splice ec eo v.cells.toList) x')
    (h : ∀ m', Ow (.sl e) m' [.slice (some ⟨g, off, none⟩) l c] (xs.set i x') → VO P n w0 ops r σ (cset Ω cid m') K) : VO P n w0 ops (⟨none, .store t x y, ty, pos, af, none⟩ :: r) σ Ω K :=
  fun Q hQ act W he hinv => wpList_plain rfl fun K' hK => by
    obtain ⟨m0, m1, rc, hS, hA, hL⟩ := hown.opn
    have d01 : mdj m0 m1 := by have := hS.2; simpa using this
    have l0 := hS.1 m0 (.head _)
    have l1 := hS.1 m1 (.tail _ (.head _))
    have hlt : i < xs.length := (List.getElem?_eq_some_iff.1 hi).1
    have hks : v.cells.toList.length = k := by simpa using Nat.eq_of_beq_eq_true hk
    have hle' := Nat.le_of_ble_eq_true hle
    have hm2 : i * e.sz + e.sz ≤ xs.length * e.sz := by
      have := Nat.mul_le_mul_right e.sz (Nat.succ_le_of_lt hlt)
      rwa [Nat.succ_mul] at this
    generalize hv : Value.slice (some ⟨g, off, none⟩) l c = sv at hA
    generalize hq : xs.length = q at hA
    cases hA with
    | nil B => omega
    | row g' off' len cap E c' k1 k2 k3 =>
      simp only [Value.slice.injEq, Option.some.injEq, Addr.mk.injEq, and_true] at hv
      obtain ⟨⟨rfl, rfl⟩, rfl, rfl⟩ := hv
      have k2' := Nat.mul_le_mul_right e.sz k2
      have hg : m g = some (.cells c'.toArray E (0, 0)) := l0 g _ (mone_self _ _)
      have hmx : xs.length * e.sz = l * e.sz := by rw [hq]
      refine store_wp he hinv hx hy ht hk hn hm hg (by simp only [List.size_toArray]; omega) fun W' hi' => ?_
      rw [put_none]
      have hsp := splice_row (c := c') (vs := v.cells.toList) (off := off) (q := l * e.sz) (o := i * e.sz + eo) (by rw [hks]; omega) (by omega)
      have hA' : OwnA e.sz (mone g (.cells (splice c' o v.cells.toList).toArray E (0, 0))) (.slice (some ⟨g, off, none⟩) l c) l (splice ((c'.drop off).take (l * e.sz)) (i * e.sz + eo) v.cells.toList) := by
        have := OwnA.row (sz := e.sz) g off l c E (splice c' o v.cells.toList) (by rw [splice_len _ _ _ (by rw [hks]; omega)]; exact k1) k2 k3
        rw [ho, show off + i * e.sz + eo = off + (i * e.sz + eo) by omega] at this ⊢
        rwa [hsp] at this
      have hL' := OwAll.upd (fun _ _ _ h => h.len) (by rw [hks]; exact hle') hup hL hi
      refine hK _ _ (h _ ?_ Q hQ _ _ he hi')
      have g1 : m1 g = none := by
        rcases d01 g with h | h
        · rw [mone_self] at h; cases h
        · exact h
      refine Ow.cls (m0 := mone g (.cells (splice c' o v.cells.toList).toArray E (0, 0))) (m1 := m1) (.two (fun q' => ?_) (fun q' o' hq' => ?_) (fun q' o' hq' => ?_)) (rc := splice ((c'.drop off).take (l * e.sz)) (i * e.sz + eo) v.cells.toList) (by rw [List.length_set, hq]; exact hA') hL'
      · by_cases hqg : q' = g
        · subst hqg; exact .inr g1
        · exact .inl (mone_ne _ hqg)
      · unfold mone at hq'
        split at hq'
        · rename_i hqg; subst hqg; simp [mset, ← hq']
        · cases hq'
      · have hqg : q' ≠ g := by rintro rfl; rw [g1] at hq'; cases hq'
        simp [mset, hqg, l1 q' o' hq']
end
theorem Inv.num {w0 W : World} {Ω : Ctx} (h : Inv w0 Ω W) (a b : Nat) {m : Mem} (ha : cget Ω a = some m) : Inv w0 ((b, m) :: cdel Ω a) W := by
  obtain ⟨h1, h2⟩ := cdel_dj ha h.dj
  refine ⟨h.os, h.tape, h.output, h.size, fun p hp => ?_, List.pairwise_cons.2 ⟨h1, h2⟩⟩
  rcases List.mem_cons.1 hp with rfl | hp
  · exact h.at ha
  · exact h.le p (cdel_mem hp)
theorem muns_one (m : Mem) : muns [m] = m := by
  funext g
  show (match m g with | some o => some o | none => none) = m g
  cases m g <;> rfl
theorem shlU {P : Program} (a k : Nat) {kk : IntKind} (hk : k ≤ 63) : ∀ W, (Op.shift .shl .u64 (a : Int) kk (k : Int)).run P W = .ok (.int .u64 ((a * 2 ^ k % 18446744073709551616 : Nat) : Int)) W := fun W => by
  unfold Op.shift
  rw [if_neg (by omega)]
  have e1 : min (k : Int).toNat IntKind.u64.bits = k := by simp [IntKind.bits]; omega
  simp only [e1]
  show Result.ok (Value.int .u64 (IntKind.u64.wrap ((a : Int) * 2 ^ k))) W = _
  have : (a : Int) * 2 ^ k = ((a * 2 ^ k : Nat) : Int) := by simp
  rw [this, IntKind.wrap_u64]
  generalize a * 2 ^ k = q
  congr 2
theorem orU {P : Program} (x y : Nat) (hx : x < 18446744073709551616) (hy : y < 18446744073709551616) : ∀ W, (Op.intBits .or .u64 (x : Int) (y : Int)).run P W = .ok (.int .u64 ((x ||| y : Nat) : Int)) W := fun W => by
  have e : (BitVec.ofInt IntKind.u64.bits (x : Int) ||| BitVec.ofInt IntKind.u64.bits (y : Int)).toNat = x ||| y := by
    rw [BitVec.toNat_or]
    show (BitVec.ofInt 64 (x : Int)).toNat ||| (BitVec.ofInt 64 (y : Int)).toNat = _
    have e1 : (BitVec.ofInt 64 (x : Int)).toNat = x := by simp; omega
    have e2 : (BitVec.ofInt 64 (y : Int)).toNat = y := by simp; omega
    rw [e1, e2]
  have hb : x ||| y < 18446744073709551616 := by
    have := Nat.or_lt_two_pow (n := 64) (by simpa using hx) (by simpa using hy)
    simpa using this
  show Result.ok (Value.int .u64 (IntKind.u64.wrap ((BitVec.ofInt IntKind.u64.bits (x : Int) ||| BitVec.ofInt IntKind.u64.bits (y : Int)).toNat : Int))) W = _
  rw [e, IntWalk.u64_in _ (by omega)]
theorem byV_nice (s : List UInt8) : ∀ u ∈ s.map byV, u.oneCell' = true := fun u hu => by
  obtain ⟨b, _, rfl⟩ := List.mem_map.1 hu; rfl
section
variable {P : Program} {n : Nat} {w0 : World} {σ : Env} {Ω ΩS : Ctx} {ops : Array Oper} {K : Env → Ctx → Prop} {R : Exit → Env → Ctx → Prop}
theorem VC.condKT {c : Operand} {x y : Code} {b : Bool} (hc : ev σ c = some (.bool b)) (hb : b = true) (h : VC P n w0 x R σ Ω) : VC P n w0 (.cond c x y) R σ Ω := VC.condT (by rw [hc, hb]) h
theorem VC.condKF {c : Operand} {x y : Code} {b : Bool} (hc : ev σ c = some (.bool b)) (hb : b = false) (h : VC P n w0 y R σ Ω) : VC P n w0 (.cond c x y) R σ Ω := VC.condF (by rw [hc, hb]) h
theorem VC.condBN {c : Operand} {x y : Code} {b : Bool} (hc : ev σ c = some (.bool (!b))) (h1 : b = false → VC P n w0 x R σ Ω) (h2 : b = true → VC P n w0 y R σ Ω) : VC P n w0 (.cond c x y) R σ Ω :=
  VC.condB hc (fun h => h1 (by simpa using h)) (fun h => h2 (by simpa using h))
theorem VO.decBN {r : List Oper} {t : Nat} {b : Bool} (ht : eget σ t = some (.bool (!b))) (h1 : b = false → VO P n w0 ops r ((t, .bool true) :: σ) Ω K)
    (h2 : b = true → VO P n w0 ops r ((t, .bool false) :: σ) Ω K) : VO P n w0 ops r σ Ω K := VO.decB ht (fun h => h1 (by simpa using h)) (fun h => h2 (by simpa using h))
theorem VD.decBN {tt : Nat} {l : List (Nat × Bool)} {s : Nat} {b : Bool} (ht : eget σ s = some (.bool (!b))) (h1 : b = false → VD P n w0 ops ΩS tt l ((s, .bool true) :: σ) Ω K)
    (h2 : b = true → VD P n w0 ops ΩS tt l ((s, .bool false) :: σ) Ω K) : VD P n w0 ops ΩS tt l σ Ω K := VD.decB ht (fun h => h1 (by simpa using h)) (fun h => h2 (by simpa using h))
theorem VD.alloc {tt i : Nat} {l : List (Nat × Bool)} {dd : Nat} {t : TypeId} {ty : TypeId} {pos : String} {af : Array Edge} {z : List Value} (j : Nat) (hd : Nat.blt dd n = true) (ho : ops[i]? = some ⟨some dd, .alloc t, ty, pos, af, none⟩) (hz : tz P t = some z) (hS : ∀ g W, Inv w0 ((j, mone g (.cells z.toArray t (0, 0))) :: Ω) W → Inv w0 ΩS W)
    (h : ∀ g, VD P n w0 ops ΩS tt l ((dd, .pointer (some ⟨g, 0, none⟩)) :: σ) ((j, mone g (.cells z.toArray t (0, 0))) :: Ω) K) : VD P n w0 ops ΩS tt ((i, false) :: l) σ Ω K :=
  VD.s (fun v => (dd, v) :: σ) ho (fun v _ he => he.put hd v) (.inl rfl) (Stp.alloc j hz) (fun _ _ ⟨g, _, hΩ⟩ W hW => hS g W (by subst hΩ; exact hW)) (fun _ _ ⟨g, hv, hΩ⟩ => hv ▸ hΩ ▸ h g)
theorem VD.box {tt i : Nat} {l : List (Nat × Bool)} {dd : Nat} {t : TypeId} {x : Operand} {v : Value} {ty : TypeId} {pos : String} {af : Array Edge} {cs : List Value} (j : Nat) (hd : Nat.blt dd n = true) (ho : ops[i]? = some ⟨some dd, .box t x, ty, pos, af, none⟩) (hx : ev σ x = some v) (hc : v.cells = cs.toArray) (hS : ∀ g W, Inv w0 ((j, mone g (.cells cs.toArray t (0, 0))) :: Ω) W → Inv w0 ΩS W)
    (h : ∀ g, VD P n w0 ops ΩS tt l ((dd, .pointer (some ⟨g, 0, none⟩)) :: σ) ((j, mone g (.cells cs.toArray t (0, 0))) :: Ω) K) : VD P n w0 ops ΩS tt ((i, false) :: l) σ Ω K :=
  VD.s (fun v => (dd, v) :: σ) ho (fun v _ he => he.put hd v) (.inl rfl) (Stp.box j hx) (fun _ _ ⟨g, _, hΩ⟩ W hW => hS g W (by subst hΩ; rw [hc] at hW; exact hW)) (fun _ _ ⟨g, hv, hΩ⟩ => by rw [hv, hΩ, hc]; exact h g)
theorem VD.app {tt q : Nat} {l : List (Nat × Bool)} {ty : TypeId} {pos : String} {af : Array Edge} {s x : Operand} {t xt e : TypeId} {sz b len k dd : Nat} {v xv : Value} {cs xs z : List Value} (i : Nat) {m m0 : Mem} (hd : Nat.blt dd n = true) (ho : ops[q]? = some ⟨some dd, .call { callee := .builtin .append, args := [s, x].toArray, argTypes := [t, xt].toArray }, ty, pos, af, none⟩) (hsv : ev σ s = some v) (hxv : ev σ x = some xv) (ht : tsl P t = some (e, sz, b)) (hz : tz P e = some z) (hzl : z.length = sz)
    (hm : cget Ω i = some m) (hm0 : mle m0 m) (hown : OwnA sz m0 v len cs) (hs : Src P Ω sz xt xv k xs) (h1 : ∀ u ∈ xs, u.oneCell' = true) (hml : len + k ≤ maxLen) (hb : (len + k) * b ≤ 140737488355328) (hb0 : b ≠ 0) (hS : ∀ m' W, Inv w0 (cset Ω i m') W → Inv w0 ΩS W)
    (h : ∀ v' m', OwnA sz m' v' (len + k) (cs ++ xs) → VD P n w0 ops ΩS tt l ((dd, v') :: σ) (cset Ω i m') K) : VD P n w0 ops ΩS tt ((q, false) :: l) σ Ω K :=
  VD.s (fun v => (dd, v) :: σ) ho (fun v _ he => he.put hd v) (.inl rfl) (Stp.app i hsv hxv ht hz hzl hm hm0 hown hs h1 hml hb hb0) (fun _ _ ⟨m', _, hΩ⟩ W hW => hS m' W (by subst hΩ; exact hW)) (fun v _ ⟨m', hp, hΩ⟩ => hΩ ▸ h v m' hp)
theorem VO.known {r : List Oper} {t : Nat} {b : Bool} (b' : Bool) (ht : eget σ t = some (.bool b)) (hb : b = b') (h : VO P n w0 ops r ((t, .bool b') :: σ) Ω K) : VO P n w0 ops r σ Ω K := VO.rw (.bool b') ht (by rw [hb]) h
theorem VD.known {tt : Nat} {l : List (Nat × Bool)} {t : Nat} {b : Bool} (b' : Bool) (ht : eget σ t = some (.bool b)) (hb : b = b') (h : VD P n w0 ops ΩS tt l ((t, .bool b') :: σ) Ω K) : VD P n w0 ops ΩS tt l σ Ω K :=
  fun Q hn hQ listed a W he => h Q hn hQ listed a W (he.dup (by rw [ht, hb]))
end
theorem bd {p : Prop} (h : p := by first | omega | (simp only [List.length_append, List.length_nil, List.length_cons, List.length_take, List.length_drop] at *; omega)) : p := h
theorem bdk {k : IntKind} {x : Int} (h : inK k x := by simp only [inK]; (first | omega | (simp only [List.length_append, List.length_nil, List.length_cons, List.length_take, List.length_drop] at *; omega))) : inK k x := h
theorem bdm {x : Nat} (h : x ≤ maxLen := by simp only [maxLen]; (first | omega | (simp only [List.length_append, List.length_nil, List.length_cons, List.length_take, List.length_drop] at *; omega))) : x ≤ maxLen := h
abbrev esb (a b : Env) : Prop := esub a b
section
variable {P : Program} {n : Nat} {w0 : World} {σ : Env} {Ω : Ctx} {ops : Array Oper} {K : Env → Ctx → Prop}
variable {ty : TypeId} {pos : String} {af : Array Edge} {r : List Oper}
theorem VO.gN {d : Nat} {op : Op} {j : Nat} {b : Bool} (h : VO P n w0 ops r ((d, undef) :: σ) Ω K) (hd : Nat.blt d n = true := by rfl) (hg : gyes σ ops j (!b) ∨ gund σ ops j := by exact .inl ⟨_, rfl, rfl⟩) : VO P n w0 ops (⟨some d, op, ty, pos, af, some (j, b)⟩ :: r) σ Ω K := VO.gn hd hg h
theorem VO.mv {d : Nat} {x : Operand} {v : Value} (h : VO P n w0 ops r ((d, v) :: σ) Ω K) (hd : Nat.blt d n = true := by rfl) (hx : ev σ x = some v := by rfl) : VO P n w0 ops (⟨some d, .move x, ty, pos, af, none⟩ :: r) σ Ω K := VO.y hd (.mv hx) h
theorem VO.as {d : Nat} {x : Operand} {v : Value} (h : VO P n w0 ops r ((d, v) :: σ) Ω K) (hd : Nat.blt d n = true := by rfl) (hx : ev σ x = some v := by rfl) : VO P n w0 ops (⟨some d, .assign x, ty, pos, af, none⟩ :: r) σ Ω K := VO.y hd (.as hx) h
theorem VO.k0 (h : K [] Ω) : VO P n w0 ops [] σ Ω K := VO.esub [] trivial (VO.nil h)
theorem VO.k1 (a0 : Nat) {v0 : Value} (h : K [(a0, v0)] Ω) (e : esb [(a0, v0)] σ := by exact ⟨rfl, trivial⟩) : VO P n w0 ops [] σ Ω K := VO.esub _ e (VO.nil h)
theorem VO.k2 (a0 a1 : Nat) {v0 v1 : Value} (h : K [(a0, v0), (a1, v1)] Ω) (e : esb [(a0, v0), (a1, v1)] σ := by exact ⟨rfl, rfl, trivial⟩) : VO P n w0 ops [] σ Ω K := VO.esub _ e (VO.nil h)
theorem VO.k3 (a0 a1 a2 : Nat) {v0 v1 v2 : Value} (h : K [(a0, v0), (a1, v1), (a2, v2)] Ω) (e : esb [(a0, v0), (a1, v1), (a2, v2)] σ := by exact ⟨rfl, rfl, rfl, trivial⟩) : VO P n w0 ops [] σ Ω K := VO.esub _ e (VO.nil h)
theorem VO.k4 (a0 a1 a2 a3 : Nat) {v0 v1 v2 v3 : Value} (h : K [(a0, v0), (a1, v1), (a2, v2), (a3, v3)] Ω) (e : esb [(a0, v0), (a1, v1), (a2, v2), (a3, v3)] σ := by exact ⟨rfl, rfl, rfl, rfl, trivial⟩) : VO P n w0 ops [] σ Ω K := VO.esub _ e (VO.nil h)
theorem VO.k5 (a0 a1 a2 a3 a4 : Nat) {v0 v1 v2 v3 v4 : Value} (h : K [(a0, v0), (a1, v1), (a2, v2), (a3, v3), (a4, v4)] Ω) (e : esb [(a0, v0), (a1, v1), (a2, v2), (a3, v3), (a4, v4)] σ := by exact ⟨rfl, rfl, rfl, rfl, rfl, trivial⟩) : VO P n w0 ops [] σ Ω K := VO.esub _ e (VO.nil h)
theorem VO.k6 (a0 a1 a2 a3 a4 a5 : Nat) {v0 v1 v2 v3 v4 v5 : Value} (h : K [(a0, v0), (a1, v1), (a2, v2), (a3, v3), (a4, v4), (a5, v5)] Ω) (e : esb [(a0, v0), (a1, v1), (a2, v2), (a3, v3), (a4, v4), (a5, v5)] σ := by exact ⟨rfl, rfl, rfl, rfl, rfl, rfl, trivial⟩) : VO P n w0 ops [] σ Ω K := VO.esub _ e (VO.nil h)
theorem VO.k7 (a0 a1 a2 a3 a4 a5 a6 : Nat) {v0 v1 v2 v3 v4 v5 v6 : Value} (h : K [(a0, v0), (a1, v1), (a2, v2), (a3, v3), (a4, v4), (a5, v5), (a6, v6)] Ω) (e : esb [(a0, v0), (a1, v1), (a2, v2), (a3, v3), (a4, v4), (a5, v5), (a6, v6)] σ := by exact ⟨rfl, rfl, rfl, rfl, rfl, rfl, rfl, trivial⟩) : VO P n w0 ops [] σ Ω K := VO.esub _ e (VO.nil h)
theorem VO.k8 (a0 a1 a2 a3 a4 a5 a6 a7 : Nat) {v0 v1 v2 v3 v4 v5 v6 v7 : Value} (h : K [(a0, v0), (a1, v1), (a2, v2), (a3, v3), (a4, v4), (a5, v5), (a6, v6), (a7, v7)] Ω) (e : esb [(a0, v0), (a1, v1), (a2, v2), (a3, v3), (a4, v4), (a5, v5), (a6, v6), (a7, v7)] σ := by exact ⟨rfl, rfl, rfl, rfl, rfl, rfl, rfl, rfl, trivial⟩) : VO P n w0 ops [] σ Ω K := VO.esub _ e (VO.nil h)
theorem VO.k9 (a0 a1 a2 a3 a4 a5 a6 a7 a8 : Nat) {v0 v1 v2 v3 v4 v5 v6 v7 v8 : Value} (h : K [(a0, v0), (a1, v1), (a2, v2), (a3, v3), (a4, v4), (a5, v5), (a6, v6), (a7, v7), (a8, v8)] Ω) (e : esb [(a0, v0), (a1, v1), (a2, v2), (a3, v3), (a4, v4), (a5, v5), (a6, v6), (a7, v7), (a8, v8)] σ := by exact ⟨rfl, rfl, rfl, rfl, rfl, rfl, rfl, rfl, rfl, trivial⟩) : VO P n w0 ops [] σ Ω K := VO.esub _ e (VO.nil h)
theorem VO.k10 (a0 a1 a2 a3 a4 a5 a6 a7 a8 a9 : Nat) {v0 v1 v2 v3 v4 v5 v6 v7 v8 v9 : Value} (h : K [(a0, v0), (a1, v1), (a2, v2), (a3, v3), (a4, v4), (a5, v5), (a6, v6), (a7, v7), (a8, v8), (a9, v9)] Ω) (e : esb [(a0, v0), (a1, v1), (a2, v2), (a3, v3), (a4, v4), (a5, v5), (a6, v6), (a7, v7), (a8, v8), (a9, v9)] σ := by exact ⟨rfl, rfl, rfl, rfl, rfl, rfl, rfl, rfl, rfl, rfl, trivial⟩) : VO P n w0 ops [] σ Ω K := VO.esub _ e (VO.nil h)
theorem VO.k11 (a0 a1 a2 a3 a4 a5 a6 a7 a8 a9 a10 : Nat) {v0 v1 v2 v3 v4 v5 v6 v7 v8 v9 v10 : Value} (h : K [(a0, v0), (a1, v1), (a2, v2), (a3, v3), (a4, v4), (a5, v5), (a6, v6), (a7, v7), (a8, v8), (a9, v9), (a10, v10)] Ω) (e : esb [(a0, v0), (a1, v1), (a2, v2), (a3, v3), (a4, v4), (a5, v5), (a6, v6), (a7, v7), (a8, v8), (a9, v9), (a10, v10)] σ := by exact ⟨rfl, rfl, rfl, rfl, rfl, rfl, rfl, rfl, rfl, rfl, rfl, trivial⟩) : VO P n w0 ops [] σ Ω K := VO.esub _ e (VO.nil h)
theorem VO.k12 (a0 a1 a2 a3 a4 a5 a6 a7 a8 a9 a10 a11 : Nat) {v0 v1 v2 v3 v4 v5 v6 v7 v8 v9 v10 v11 : Value} (h : K [(a0, v0), (a1, v1), (a2, v2), (a3, v3), (a4, v4), (a5, v5), (a6, v6), (a7, v7), (a8, v8), (a9, v9), (a10, v10), (a11, v11)] Ω) (e : esb [(a0, v0), (a1, v1), (a2, v2), (a3, v3), (a4, v4), (a5, v5), (a6, v6), (a7, v7), (a8, v8), (a9, v9), (a10, v10), (a11, v11)] σ := by exact ⟨rfl, rfl, rfl, rfl, rfl, rfl, rfl, rfl, rfl, rfl, rfl, rfl, trivial⟩) : VO P n w0 ops [] σ Ω K := VO.esub _ e (VO.nil h)
theorem VO.k13 (a0 a1 a2 a3 a4 a5 a6 a7 a8 a9 a10 a11 a12 : Nat) {v0 v1 v2 v3 v4 v5 v6 v7 v8 v9 v10 v11 v12 : Value} (h : K [(a0, v0), (a1, v1), (a2, v2), (a3, v3), (a4, v4), (a5, v5), (a6, v6), (a7, v7), (a8, v8), (a9, v9), (a10, v10), (a11, v11), (a12, v12)] Ω) (e : esb [(a0, v0), (a1, v1), (a2, v2), (a3, v3), (a4, v4), (a5, v5), (a6, v6), (a7, v7), (a8, v8), (a9, v9), (a10, v10), (a11, v11), (a12, v12)] σ := by exact ⟨rfl, rfl, rfl, rfl, rfl, rfl, rfl, rfl, rfl, rfl, rfl, rfl, rfl, trivial⟩) : VO P n w0 ops [] σ Ω K := VO.esub _ e (VO.nil h)
theorem VO.k14 (a0 a1 a2 a3 a4 a5 a6 a7 a8 a9 a10 a11 a12 a13 : Nat) {v0 v1 v2 v3 v4 v5 v6 v7 v8 v9 v10 v11 v12 v13 : Value} (h : K [(a0, v0), (a1, v1), (a2, v2), (a3, v3), (a4, v4), (a5, v5), (a6, v6), (a7, v7), (a8, v8), (a9, v9), (a10, v10), (a11, v11), (a12, v12), (a13, v13)] Ω) (e : esb [(a0, v0), (a1, v1), (a2, v2), (a3, v3), (a4, v4), (a5, v5), (a6, v6), (a7, v7), (a8, v8), (a9, v9), (a10, v10), (a11, v11), (a12, v12), (a13, v13)] σ := by exact ⟨rfl, rfl, rfl, rfl, rfl, rfl, rfl, rfl, rfl, rfl, rfl, rfl, rfl, rfl, trivial⟩) : VO P n w0 ops [] σ Ω K := VO.esub _ e (VO.nil h)
theorem VO.k15 (a0 a1 a2 a3 a4 a5 a6 a7 a8 a9 a10 a11 a12 a13 a14 : Nat) {v0 v1 v2 v3 v4 v5 v6 v7 v8 v9 v10 v11 v12 v13 v14 : Value} (h : K [(a0, v0), (a1, v1), (a2, v2), (a3, v3), (a4, v4), (a5, v5), (a6, v6), (a7, v7), (a8, v8), (a9, v9), (a10, v10), (a11, v11), (a12, v12), (a13, v13), (a14, v14)] Ω) (e : esb [(a0, v0), (a1, v1), (a2, v2), (a3, v3), (a4, v4), (a5, v5), (a6, v6), (a7, v7), (a8, v8), (a9, v9), (a10, v10), (a11, v11), (a12, v12), (a13, v13), (a14, v14)] σ := by exact ⟨rfl, rfl, rfl, rfl, rfl, rfl, rfl, rfl, rfl, rfl, rfl, rfl, rfl, rfl, rfl, trivial⟩) : VO P n w0 ops [] σ Ω K := VO.esub _ e (VO.nil h)
theorem VO.k16 (a0 a1 a2 a3 a4 a5 a6 a7 a8 a9 a10 a11 a12 a13 a14 a15 : Nat) {v0 v1 v2 v3 v4 v5 v6 v7 v8 v9 v10 v11 v12 v13 v14 v15 : Value} (h : K [(a0, v0), (a1, v1), (a2, v2), (a3, v3), (a4, v4), (a5, v5), (a6, v6), (a7, v7), (a8, v8), (a9, v9), (a10, v10), (a11, v11), (a12, v12), (a13, v13), (a14, v14), (a15, v15)] Ω) (e : esb [(a0, v0), (a1, v1), (a2, v2), (a3, v3), (a4, v4), (a5, v5), (a6, v6), (a7, v7), (a8, v8), (a9, v9), (a10, v10), (a11, v11), (a12, v12), (a13, v13), (a14, v14), (a15, v15)] σ := by exact ⟨rfl, rfl, rfl, rfl, rfl, rfl, rfl, rfl, rfl, rfl, rfl, rfl, rfl, rfl, rfl, rfl, trivial⟩) : VO P n w0 ops [] σ Ω K := VO.esub _ e (VO.nil h)
theorem VO.k17 (a0 a1 a2 a3 a4 a5 a6 a7 a8 a9 a10 a11 a12 a13 a14 a15 a16 : Nat) {v0 v1 v2 v3 v4 v5 v6 v7 v8 v9 v10 v11 v12 v13 v14 v15 v16 : Value} (h : K [(a0, v0), (a1, v1), (a2, v2), (a3, v3), (a4, v4), (a5, v5), (a6, v6), (a7, v7), (a8, v8), (a9, v9), (a10, v10), (a11, v11), (a12, v12), (a13, v13), (a14, v14), (a15, v15), (a16, v16)] Ω) (e : esb [(a0, v0), (a1, v1), (a2, v2), (a3, v3), (a4, v4), (a5, v5), (a6, v6), (a7, v7), (a8, v8), (a9, v9), (a10, v10), (a11, v11), (a12, v12), (a13, v13), (a14, v14), (a15, v15), (a16, v16)] σ := by exact ⟨rfl, rfl, rfl, rfl, rfl, rfl, rfl, rfl, rfl, rfl, rfl, rfl, rfl, rfl, rfl, rfl, rfl, trivial⟩) : VO P n w0 ops [] σ Ω K := VO.esub _ e (VO.nil h)
theorem VO.k18 (a0 a1 a2 a3 a4 a5 a6 a7 a8 a9 a10 a11 a12 a13 a14 a15 a16 a17 : Nat) {v0 v1 v2 v3 v4 v5 v6 v7 v8 v9 v10 v11 v12 v13 v14 v15 v16 v17 : Value} (h : K [(a0, v0), (a1, v1), (a2, v2), (a3, v3), (a4, v4), (a5, v5), (a6, v6), (a7, v7), (a8, v8), (a9, v9), (a10, v10), (a11, v11), (a12, v12), (a13, v13), (a14, v14), (a15, v15), (a16, v16), (a17, v17)] Ω) (e : esb [(a0, v0), (a1, v1), (a2, v2), (a3, v3), (a4, v4), (a5, v5), (a6, v6), (a7, v7), (a8, v8), (a9, v9), (a10, v10), (a11, v11), (a12, v12), (a13, v13), (a14, v14), (a15, v15), (a16, v16), (a17, v17)] σ := by exact ⟨rfl, rfl, rfl, rfl, rfl, rfl, rfl, rfl, rfl, rfl, rfl, rfl, rfl, rfl, rfl, rfl, rfl, rfl, trivial⟩) : VO P n w0 ops [] σ Ω K := VO.esub _ e (VO.nil h)
theorem VO.k19 (a0 a1 a2 a3 a4 a5 a6 a7 a8 a9 a10 a11 a12 a13 a14 a15 a16 a17 a18 : Nat) {v0 v1 v2 v3 v4 v5 v6 v7 v8 v9 v10 v11 v12 v13 v14 v15 v16 v17 v18 : Value} (h : K [(a0, v0), (a1, v1), (a2, v2), (a3, v3), (a4, v4), (a5, v5), (a6, v6), (a7, v7), (a8, v8), (a9, v9), (a10, v10), (a11, v11), (a12, v12), (a13, v13), (a14, v14), (a15, v15), (a16, v16), (a17, v17), (a18, v18)] Ω) (e : esb [(a0, v0), (a1, v1), (a2, v2), (a3, v3), (a4, v4), (a5, v5), (a6, v6), (a7, v7), (a8, v8), (a9, v9), (a10, v10), (a11, v11), (a12, v12), (a13, v13), (a14, v14), (a15, v15), (a16, v16), (a17, v17), (a18, v18)] σ := by exact ⟨rfl, rfl, rfl, rfl, rfl, rfl, rfl, rfl, rfl, rfl, rfl, rfl, rfl, rfl, rfl, rfl, rfl, rfl, rfl, trivial⟩) : VO P n w0 ops [] σ Ω K := VO.esub _ e (VO.nil h)
theorem VO.k20 (a0 a1 a2 a3 a4 a5 a6 a7 a8 a9 a10 a11 a12 a13 a14 a15 a16 a17 a18 a19 : Nat) {v0 v1 v2 v3 v4 v5 v6 v7 v8 v9 v10 v11 v12 v13 v14 v15 v16 v17 v18 v19 : Value} (h : K [(a0, v0), (a1, v1), (a2, v2), (a3, v3), (a4, v4), (a5, v5), (a6, v6), (a7, v7), (a8, v8), (a9, v9), (a10, v10), (a11, v11), (a12, v12), (a13, v13), (a14, v14), (a15, v15), (a16, v16), (a17, v17), (a18, v18), (a19, v19)] Ω) (e : esb [(a0, v0), (a1, v1), (a2, v2), (a3, v3), (a4, v4), (a5, v5), (a6, v6), (a7, v7), (a8, v8), (a9, v9), (a10, v10), (a11, v11), (a12, v12), (a13, v13), (a14, v14), (a15, v15), (a16, v16), (a17, v17), (a18, v18), (a19, v19)] σ := by exact ⟨rfl, rfl, rfl, rfl, rfl, rfl, rfl, rfl, rfl, rfl, rfl, rfl, rfl, rfl, rfl, rfl, rfl, rfl, rfl, rfl, trivial⟩) : VO P n w0 ops [] σ Ω K := VO.esub _ e (VO.nil h)
theorem VO.k21 (a0 a1 a2 a3 a4 a5 a6 a7 a8 a9 a10 a11 a12 a13 a14 a15 a16 a17 a18 a19 a20 : Nat) {v0 v1 v2 v3 v4 v5 v6 v7 v8 v9 v10 v11 v12 v13 v14 v15 v16 v17 v18 v19 v20 : Value} (h : K [(a0, v0), (a1, v1), (a2, v2), (a3, v3), (a4, v4), (a5, v5), (a6, v6), (a7, v7), (a8, v8), (a9, v9), (a10, v10), (a11, v11), (a12, v12), (a13, v13), (a14, v14), (a15, v15), (a16, v16), (a17, v17), (a18, v18), (a19, v19), (a20, v20)] Ω) (e : esb [(a0, v0), (a1, v1), (a2, v2), (a3, v3), (a4, v4), (a5, v5), (a6, v6), (a7, v7), (a8, v8), (a9, v9), (a10, v10), (a11, v11), (a12, v12), (a13, v13), (a14, v14), (a15, v15), (a16, v16), (a17, v17), (a18, v18), (a19, v19), (a20, v20)] σ := by exact ⟨rfl, rfl, rfl, rfl, rfl, rfl, rfl, rfl, rfl, rfl, rfl, rfl, rfl, rfl, rfl, rfl, rfl, rfl, rfl, rfl, rfl, trivial⟩) : VO P n w0 ops [] σ Ω K := VO.esub _ e (VO.nil h)
theorem VO.k23 (a0 a1 a2 a3 a4 a5 a6 a7 a8 a9 a10 a11 a12 a13 a14 a15 a16 a17 a18 a19 a20 a21 a22 : Nat) {v0 v1 v2 v3 v4 v5 v6 v7 v8 v9 v10 v11 v12 v13 v14 v15 v16 v17 v18 v19 v20 v21 v22 : Value} (h : K [(a0, v0), (a1, v1), (a2, v2), (a3, v3), (a4, v4), (a5, v5), (a6, v6), (a7, v7), (a8, v8), (a9, v9), (a10, v10), (a11, v11), (a12, v12), (a13, v13), (a14, v14), (a15, v15), (a16, v16), (a17, v17), (a18, v18), (a19, v19), (a20, v20), (a21, v21), (a22, v22)] Ω) (e : esb [(a0, v0), (a1, v1), (a2, v2), (a3, v3), (a4, v4), (a5, v5), (a6, v6), (a7, v7), (a8, v8), (a9, v9), (a10, v10), (a11, v11), (a12, v12), (a13, v13), (a14, v14), (a15, v15), (a16, v16), (a17, v17), (a18, v18), (a19, v19), (a20, v20), (a21, v21), (a22, v22)] σ := by exact ⟨rfl, rfl, rfl, rfl, rfl, rfl, rfl, rfl, rfl, rfl, rfl, rfl, rfl, rfl, rfl, rfl, rfl, rfl, rfl, rfl, rfl, rfl, rfl, trivial⟩) : VO P n w0 ops [] σ Ω K := VO.esub _ e (VO.nil h)
end
theorem VO.keep {P : Program} {n : Nat} {w0 : World} {σ : Env} {Ω : Ctx} {ops : Array Oper} {K : Env → Ctx → Prop} {r : List Oper} (ids : List Nat) (Ω' : Ctx) (hk : csub Ω ids = Ω') (h : VO P n w0 ops r σ Ω' K) : VO P n w0 ops r σ Ω K :=
  VO.inv _ (fun W hW => hk ▸ hW.sub ids) h
theorem VO.kp {P : Program} {n : Nat} {w0 : World} {σ : Env} {Ω : Ctx} {ops : Array Oper} {K : Env → Ctx → Prop} {r : List Oper} (ids : List Nat) (Ω' : Ctx) (h : VO P n w0 ops r σ Ω' K) (hk : csub Ω ids = Ω' := by kernel_rfl) : VO P n w0 ops r σ Ω K :=
  VO.inv _ (fun W hW => hk ▸ hW.sub ids) h
theorem Ow.rm {e : Ty} {m : Mem} {A : Option Addr} {n c : Nat} {xs : List e.Den} (h : Ow (.sl e) m [.slice A n c] xs) : n ≤ c ∧ c ≤ 9223372036854775807 := Rd.room (h.rd (mle_refl _))
abbrev TOp : Ty := .pair .bool (.pair .str .str)
abbrev DOp := Bool × (List UInt8) × (List UInt8)
instance decOp : DecidableEq DOp := (@instDecidableEqProd _ _ inferInstance (@instDecidableEqProd _ _ inferInstance inferInstance))
theorem open_Op {m : Mem} {cs : List Value} {x0 : Bool} {x1 : List UInt8} {x2 : List UInt8} (h : Rd TOp m cs (x0, x1, x2)) : cs = [(.bool x0 : Value), str x1, str x2] ∧ x1.length ≤ maxLen ∧ x2.length ≤ maxLen := by
  obtain ⟨p1, q1, rfl, u1, w1⟩ := Rd.pair h
  obtain rfl := (show _ = _ from u1)
  obtain ⟨p3, q3, rfl, u3, w3⟩ := Rd.pair w1
  obtain ⟨rfl, z4⟩ := (show _ = _ ∧ _ from u3)
  obtain ⟨rfl, z5⟩ := (show _ = _ ∧ _ from w3)
  exact ⟨rfl, z4, z5⟩
theorem mk_Op {m : Mem} (x0 : Bool) (x1 : List UInt8) (x2 : List UInt8) (h1 : x1.length ≤ maxLen) (h2 : x2.length ≤ maxLen) : Rd TOp m [.bool x0, str x1, str x2] (x0, x1, x2) := (Rd.mkPair (c1 := [_]) (show Rd .bool m [_] _ from rfl) (Rd.mkPair (c1 := [_]) (show Rd .str m [_] _ from ⟨rfl, h1⟩) (show Rd .str m [_] _ from ⟨rfl, h2⟩)))
abbrev TCommit : Ty := .pair (.int .i64) (.pair (.int .i64) (.sl TOp))
abbrev DCommit := Int × Int × (List DOp)
instance decCommit : DecidableEq DCommit := (@instDecidableEqProd _ _ inferInstance (@instDecidableEqProd _ _ inferInstance inferInstance))
theorem open_Commit {m : Mem} {cs : List Value} {x0 : Int} {x1 : Int} {x2 : List DOp} (h : Rd TCommit m cs (x0, x1, x2)) : ∃ (A2 : Option Addr), ∃ (c2 : Nat), cs = [(.int .i64 x0 : Value), .int .i64 x1, .slice A2 x2.length c2] ∧ inK .i64 x0 ∧ inK .i64 x1 ∧ Rd (.sl TOp) m [.slice A2 x2.length c2] x2 := by
  obtain ⟨p1, q1, rfl, u1, w1⟩ := Rd.pair h
  obtain ⟨rfl, z2⟩ := (show _ = _ ∧ _ from u1)
  obtain ⟨p3, q3, rfl, u3, w3⟩ := Rd.pair w1
  obtain ⟨rfl, z4⟩ := (show _ = _ ∧ _ from u3)
  have z5 := w3
  obtain ⟨A5, c5, rfl, _⟩ := Rd.slice1 w3
  exact ⟨A5, c5, rfl, z2, z4, z5⟩
theorem mk_Commit {m : Mem} (x0 : Int) (x1 : Int) (x2 : List DOp) (h0 : inK .i64 x0) (h1 : inK .i64 x1) {v2 : Value} (h2 : Rd (.sl TOp) m [v2] x2) : Rd TCommit m [.int .i64 x0, .int .i64 x1, v2] (x0, x1, x2) := (Rd.mkPair (c1 := [_]) (show Rd (.int .i64) m [_] _ from ⟨rfl, h0⟩) (Rd.mkPair (c1 := [_]) (show Rd (.int .i64) m [_] _ from ⟨rfl, h1⟩) h2))
theorem openO_Commit {m : Mem} {cs : List Value} {x0 : Int} {x1 : Int} {x2 : List DOp} (h : Ow TCommit m cs (x0, x1, x2)) : ∃ (A2 : Option Addr), ∃ (c2 : Nat), ∃ (n2 : Mem), cs = [(.int .i64 x0 : Value), .int .i64 x1, .slice A2 x2.length c2] ∧ Seps m [n2] ∧ inK .i64 x0 ∧ inK .i64 x1 ∧ Ow (.sl TOp) n2 [.slice A2 x2.length c2] x2 := by
  obtain ⟨p1, q1, ma1, mb1, rfl, dj1, la1, lb1, u1, w1⟩ := Ow.pair h
  obtain ⟨rfl, z2⟩ := (show _ = _ ∧ _ from u1)
  obtain ⟨p3, q3, ma3, mb3, rfl, dj3, la3, lb3, u3, w3⟩ := Ow.pair w1
  obtain ⟨rfl, z4⟩ := (show _ = _ ∧ _ from u3)
  have z5 := w3
  obtain ⟨A5, c5, rfl, _⟩ := Ow.slice1 w3
  exact ⟨A5, c5, _, rfl, (Seps.app dj1 la1 lb1 (Seps.nil _) (Seps.app dj3 la3 lb3 (Seps.nil _) (Seps.one (mle_refl _)))), z2, z4, z5⟩
theorem mkO_Commit {m : Mem} {n2 : Mem} (x0 : Int) (x1 : Int) (x2 : List DOp) (hS : Seps m [n2]) (h0 : inK .i64 x0) (h1 : inK .i64 x1) {v2 : Value} (h2 : Ow (.sl TOp) n2 [v2] x2) : Ow TCommit m [.int .i64 x0, .int .i64 x1, v2] (x0, x1, x2) := by
  obtain ⟨e1, la1, lb1, Sa1, Sb1⟩ := Seps.cut (l := []) (r := [n2]) hS
  obtain ⟨e2, la2, lb2, Sa2, Sb2⟩ := Seps.cut (l := []) (r := [n2]) Sb1
  exact (Ow.mkPair (c1 := [_]) e1 la1 lb1 (show Ow (.int .i64) _ [_] _ from ⟨rfl, h0⟩) (Ow.mkPair (c1 := [_]) e2 la2 lb2 (show Ow (.int .i64) _ [_] _ from ⟨rfl, h1⟩) (h2.up (Sb2.1 _ (.head _)))))
abbrev TFault : Ty := .pair (.int .i64) (.int .i64)
abbrev DFault := Int × Int
instance decFault : DecidableEq DFault := (@instDecidableEqProd _ _ inferInstance inferInstance)
theorem open_Fault {m : Mem} {cs : List Value} {x0 : Int} {x1 : Int} (h : Rd TFault m cs (x0, x1)) : cs = [(.int .i64 x0 : Value), .int .i64 x1] ∧ inK .i64 x0 ∧ inK .i64 x1 := by
  obtain ⟨p1, q1, rfl, u1, w1⟩ := Rd.pair h
  obtain ⟨rfl, z2⟩ := (show _ = _ ∧ _ from u1)
  obtain ⟨rfl, z3⟩ := (show _ = _ ∧ _ from w1)
  exact ⟨rfl, z2, z3⟩
theorem mk_Fault {m : Mem} (x0 : Int) (x1 : Int) (h0 : inK .i64 x0) (h1 : inK .i64 x1) : Rd TFault m [.int .i64 x0, .int .i64 x1] (x0, x1) := (Rd.mkPair (c1 := [_]) (show Rd (.int .i64) m [_] _ from ⟨rfl, h0⟩) (show Rd (.int .i64) m [_] _ from ⟨rfl, h1⟩))
abbrev DStart := Int × Int
instance decStart : DecidableEq DStart := (@instDecidableEqProd _ _ inferInstance inferInstance)
abbrev DMessage := Int × Int × Int × Int × (List DStart) × Int × Int × (List DCommit)
instance decMessage : DecidableEq DMessage := (@instDecidableEqProd _ _ inferInstance (@instDecidableEqProd _ _ inferInstance (@instDecidableEqProd _ _ inferInstance (@instDecidableEqProd _ _ inferInstance (@instDecidableEqProd _ _ inferInstance (@instDecidableEqProd _ _ inferInstance (@instDecidableEqProd _ _ inferInstance inferInstance)))))))
abbrev Dbatchreader := (List UInt8) × Int × Bool
instance decbatchreader : DecidableEq Dbatchreader := (@instDecidableEqProd _ _ inferInstance (@instDecidableEqProd _ _ inferInstance inferInstance))
abbrev Dletterreader := (List UInt8) × Bool
instance decletterreader : DecidableEq Dletterreader := (@instDecidableEqProd _ _ inferInstance inferInstance)
abbrev Dref01Reader := (List UInt8) × Int × Bool
instance decref01Reader : DecidableEq Dref01Reader := (@instDecidableEqProd _ _ inferInstance (@instDecidableEqProd _ _ inferInstance inferInstance))
abbrev Bytes := List UInt8
theorem len_ne {α : Type} {a b : List α} (h : ¬ (a.length : Int) = b.length) : ¬ a = b := fun e => h (by rw [e])
theorem take_all {α : Type} {a b : List α} {k : Nat} (h : a.take k = b.take k) (ha : ¬ (k : Int) < a.length) (hl : (a.length : Int) = b.length) : a = b := by
  rwa [List.take_of_length_le (by omega), List.take_of_length_le (by omega)] at h
theorem take_next {α : Type} {a b : List α} {k : Nat} {x y : α} (h : a.take k = b.take k) (hx : a[k]? = some x) (hy : b[k]? = some y) (hxy : x = y) : a.take (k + 1) = b.take (k + 1) := by
  rw [List.take_add_one, List.take_add_one, h, hx, hy, hxy]
theorem get_ne {α : Type} {a b : List α} {k : Nat} {x y : α} (hx : a[k]? = some x) (hy : b[k]? = some y) (h : ¬ x = y) : ¬ a = b := fun e => by
  subst e; rw [hx] at hy; exact h (Option.some.inj hy)
def opOk (o : DOp) : Prop := 1 ≤ o.2.1.length ∧ o.2.1.length ≤ 16 ∧ o.2.2.length ≤ 32 ∧ (o.1 = true ∨ o.2.2 = [])
instance (o : DOp) : Decidable (opOk o) := by unfold opOk; infer_instance
def opCheck (o : DOp) : Int := if opOk o then 0 else 2
theorem opCheck_bad {o : DOp} (h : ¬ opOk o) : opCheck o = 2 := if_neg h
theorem opCheck_good {o : DOp} (h : opOk o) : opCheck o = 0 := if_pos h
theorem opOk_of {o : DOp} (h : opCheck o = 0) : opOk o := by
  unfold opCheck at h
  split at h
  · assumption
  · cases h
def venc (x : Nat) : Bytes := if h : x < 128 then [UInt8.ofNat x] else UInt8.ofNat (x % 128 + 128) :: venc (x / 128)
  termination_by x
def vgo : Nat → Nat → Bytes → Option (Nat × Nat)
  | _, _, [] => none
  | i, x, c :: r => if i = 9 ∧ c.toNat > 1 then none else if c.toNat ≥ 128 then vgo (i + 1) (x + c.toNat % 128 * 2 ^ (7 * i)) r
    else if c.toNat = 0 ∧ i > 0 then none else some (x + c.toNat % 128 * 2 ^ (7 * i), i + 1)
def vread (b : Bytes) : Option (Nat × Nat) := vgo 0 0 b
def vsmall (b : Bytes) (most : Int) : Option (Nat × Nat) := match vread b with
  | some (x, n) => if (x : Int) ≤ most then some (x, n) else none
  | none => none
theorem venc_last {x : Nat} (h : x < 128) : venc x = [UInt8.ofNat (x % 256)] := by
  rw [venc, dif_pos h, Nat.mod_eq_of_lt (by omega)]
theorem venc_step {x : Nat} (h : ¬ x < 128) (out : Bytes) : out ++ venc x = (out ++ [UInt8.ofNat (x % 256 % 128 + 128)]) ++ venc (x / 128) := by
  rw [venc, dif_neg h]
  have : x % 256 % 128 = x % 128 := by omega
  rw [this]; simp
theorem venc_len_le : ∀ (k x : Nat), x < 128 ^ (k + 1) → (venc x).length ≤ k + 1
  | 0, x, h => by rw [venc, dif_pos (by omega)]; simp
  | k + 1, x, h => by
    rw [venc]
    split
    · simp
    · have := venc_len_le k (x / 128) (by rw [Nat.pow_succ] at h; omega)
      simp; omega
theorem venc_len {x : Nat} (h : x < 18446744073709551616) : (venc x).length ≤ 10 := venc_len_le 9 x (by omega)
theorem venc_pos (x : Nat) : 1 ≤ (venc x).length := by
  rw [venc]; split <;> simp
theorem venc_room {x y : Nat} {out b : Bytes} (hx : x < 18446744073709551616) (hy : y < 18446744073709551616) (h : out ++ venc x = b ++ venc y) : out.length ≤ b.length + 9 := by
  have h1 := congrArg List.length h
  have h2 := venc_len hy
  have h3 := venc_pos x
  simp at h1; omega
theorem op_eq {x y : DOp} (h : x.1 = y.1 ∧ x.2.1 = y.2.1 ∧ x.2.2 = y.2.2) : x = y := Prod.ext h.1 (Prod.ext h.2.1 h.2.2)
theorem op_ne {x y : DOp} (h : ¬ (x.1 = y.1 ∧ x.2.1 = y.2.1 ∧ x.2.2 = y.2.2)) : ¬ x = y := fun e => h (by rw [e]; exact ⟨rfl, rfl, rfl⟩)
def shared : Bytes → Bytes → Nat
  | a :: r, b :: s => if a = b then shared r s + 1 else 0
  | _, _ => 0
def batchCheck (l : List DOp) : Int := if l.length = 0 then 2 else if 8 < l.length then 3 else if ∀ o ∈ l, opOk o then 0 else 2
end Go.Proofs.YtonbpfncmlijnaaGreat
