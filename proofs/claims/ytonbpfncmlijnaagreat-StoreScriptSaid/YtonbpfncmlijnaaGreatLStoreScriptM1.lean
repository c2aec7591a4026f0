/- Part 1 of the proof of LStoreScript: what it needs of the library, the walks and the plain laws. Conditions: those named in each theorem. -/
import Derived.WalkKit
import Derived.OrdersHeld
import Derived.StillTail
import Derived.KernelRfl
import Derived.Deep.LoopGhost
import Derived.MapKept
import Derived.ProofKit
import Derived.OpenShut
import Derived.Carry
import Derived.LoopN
import Derived.Laws.MakeOwn
import Derived.Scope
import Derived.Test.YtonbpfncmlijnaaGreatChecked
import Derived.Shelf.SlIter.Sorted
import Derived.StringKeys
import Derived.Below
import Derived.RangeFuncSeq
import Derived.LoopIn
import Derived.LoopNIn
import Derived.Shelf.SlIter.Nil
import Derived.Shelf.SortM.Plain
import Derived.Shelf.SortM.SortNone
import Derived.Ground.GgzProg
import Derived.Ground.SlgmProg
import Derived.Test.YtonbpfncmlijnaaGreatFacts
set_option linter.unusedVariables false
set_option linter.unusedSimpArgs false
set_option maxRecDepth 4000
namespace Go.Proofs.YtonbpfncmlijnaaGreat
abbrev Mem := Nat → Option Obj
def wm (w : World) : Mem := fun g => w.heap[g]?
def mle (m n : Mem) : Prop := ∀ g o, m g = some o → n g = some o
def mdj (m n : Mem) : Prop := ∀ g, m g = none ∨ n g = none
def Ju (n m : Mem) : Mem := fun g => match m g with | some _ => none | none => n g
def Qo (g : Nat) (o : Obj) : Mem := fun k => if k = g then some o else none
def mun (m n : Mem) : Mem := fun g => match m g with | some o => some o | none => n g
def mnil : Mem := fun _ => none
theorem Qb (m:Mem):mle m m:=fun _ _ h=>h
theorem mle.trans {a b c:Mem} (h:mle a b) (k:mle b c):mle a c:=fun g o e=>k g o (h g o e)
theorem JW (m:Mem):mle mnil m:=fun _ _ h=>by cases h
theorem mdj.symm {m n:Mem} (h:mdj m n):mdj n m:=fun g=>(h g).symm
theorem Qbo (m:Mem):mdj m mnil:=fun _=>.inr rfl
theorem Qeo (m:Mem):mdj mnil m:=fun _=>.inl rfl
theorem mdj.mono {m n m' n':Mem} (h:mdj m n) (hm:mle m' m) (hn:mle n' n):mdj m' n':=fun g=>by
 rcases h g with h | h
 ·left
  cases e:m' g with
  | none=>rfl
  | some o=>rw [hm g o e] at h;cases h
 ·right
  cases e:n' g with
  | none=>rfl
  | some o=>rw [hn g o e] at h;cases h
theorem Js (m n:Mem):mle m (mun m n):=fun g o h=>by simp [mun,h]
theorem Jn {m n:Mem} (h:mdj m n):mle n (mun m n):=fun g o e=>by
 rcases h g with h | h
 ·simp [mun,h,e]
 ·rw [h] at e;cases e
theorem QcE {m n k:Mem} (hm:mle m k) (hn:mle n k):mle (mun m n) k:=fun g o e=>by
 unfold mun at e
 split at e
 ·rename_i o' h;exact hm g o (by rw [h,← e])
 ·exact hn g o e
theorem Y2 {m n k:Mem} (hm:mdj m k) (hn:mdj n k):mdj (mun m n) k:=fun g=>by
 rcases hm g with h | h
 ·rcases hn g with h' | h'
  ·exact .inl (by simp [mun,h,h'])
  ·exact .inr h'
 ·exact .inr h
theorem QbU (n m:Mem):mle (Ju n m) n:=fun g o h=>by
 unfold Ju at h
 split at h
 ·cases h
 ·exact h
theorem Qg4 (n m:Mem):mdj (Ju n m) m:=fun g=>by
 cases h:m g with
 | none=>exact .inr rfl
 | some o=>exact .inl (by simp [Ju,h])
theorem Qbn {n m k:Mem} (h:mle k n) (hd:mdj k m):mle k (Ju n m):=fun g o e=>by
 rcases hd g with h' | h'
 ·rw [h'] at e;cases e
 ·simp [Ju,h',h g o e]
theorem QjW (n:Mem):Ju n mnil=n:=rfl
theorem Qaq {g:Nat} {o:Obj} {m:Mem} (h:m g=some o):mle (Qo g o) m:=fun k x e=>by
 unfold Qo at e
 split at e
 ·rename_i hk;subst hk;rw [h,← e]
 ·cases e
theorem Qn (g:Nat) (o:Obj):Qo g o g=some o:=by simp [Qo]
theorem QdH {g k:Nat} (o:Obj) (h:k≠g):Qo g o k=none:=by simp [Qo,h]
abbrev Ctx := List (Nat × Mem)
def YA : Ctx → Nat → Option Mem
  | [], _ => none
  | (i, m) :: r, j => cond (Nat.beq i j) (some m) (YA r j)
def Qbz : Ctx → Nat → Mem → Ctx
  | [], _, _ => []
  | (i, m) :: r, j, m' => cond (Nat.beq i j) ((i, m') :: r) ((i, m) :: Qbz r j m')
def YZ : Ctx → Nat → Ctx
  | [], _ => []
  | (i, m) :: r, j => cond (Nat.beq i j) r ((i, m) :: YZ r j)
structure Inv (w0 : World) (Ω : Ctx) (W : World) : Prop where
  os : W.os = w0.os
  tape : W.tape = w0.tape
  output : W.output = w0.output
  size : w0.heap.size ≤ W.heap.size
  le : ∀ p ∈ Ω, mle p.2 (wm W)
  dj : Ω.Pairwise (fun p q => mdj p.2 q.2)
theorem X7 : ∀ {Ω : Ctx} {i : Nat} {m : Mem}, YA Ω i = some m → (i, m) ∈ Ω
  | (j, n) :: r, i, m, h => by
    unfold YA at h
    cases hb : Nat.beq j i with
    | true =>
      rw [hb] at h
      have := Nat.eq_of_beq_eq_true hb
      subst this
      simp only [cond_true, Option.some.injEq] at h
      subst h
      exact .head _
    | false => rw [hb] at h; exact .tail _ (X7 h)
theorem Inv.at {w0 W:World} {Ω:Ctx} (h:Inv w0 Ω W) {i:Nat} {m:Mem} (hi:YA Ω i=some m):mle m (wm W):=h.le _ (X7 hi)
theorem Qhj : ∀ {Ω : Ctx} {i : Nat} {m' : Mem} {p : Nat × Mem}, p ∈ Qbz Ω i m' → p = (i, m') ∨ p ∈ YZ Ω i
  | (j, n) :: r, i, m', p, h => by
    unfold Qbz at h
    unfold YZ
    cases hb : Nat.beq j i with
    | true =>
      have := Nat.eq_of_beq_eq_true hb
      subst this
      rw [hb] at h
      simp only [cond_true, List.mem_cons] at h ⊢
      exact h
    | false =>
      rw [hb] at h
      simp only [cond_false, List.mem_cons] at h ⊢
      rcases h with h | h
      · exact .inr (.inl h)
      · exact (Qhj h).imp id .inr
theorem YW : ∀ {Ω : Ctx} {i : Nat} {p : Nat × Mem}, p ∈ YZ Ω i → p ∈ Ω
  | (j, n) :: r, i, p, h => by
    unfold YZ at h
    cases hb : Nat.beq j i with
    | true => rw [hb] at h; exact .tail _ h
    | false =>
      rw [hb] at h
      rcases List.mem_cons.1 h with h | h
      · exact h ▸ .head _
      · exact .tail _ (YW h)
theorem Qb0 : ∀ {Ω : Ctx} {i : Nat} {m : Mem}, YA Ω i = some m → Ω.Pairwise (fun p q => mdj p.2 q.2) → (∀ p ∈ YZ Ω i, mdj m p.2) ∧ (YZ Ω i).Pairwise (fun p q => mdj p.2 q.2)
  | (j, n) :: r, i, m, hg, hp => by
    unfold YA at hg
    unfold YZ
    rw [List.pairwise_cons] at hp
    cases hb : Nat.beq j i with
    | true =>
      rw [hb] at hg
      simp only [cond_true, Option.some.injEq] at hg
      subst hg
      exact ⟨hp.1, hp.2⟩
    | false =>
      rw [hb] at hg
      obtain ⟨h1, h2⟩ := Qb0 hg hp.2
      refine ⟨fun p hm => ?_, ?_⟩
      · rcases List.mem_cons.1 hm with rfl | hm
        · exact (hp.1 _ (X7 hg)).symm
        · exact h1 p hm
      · exact List.pairwise_cons.2 ⟨fun p hm => hp.1 p (YW hm), h2⟩
theorem Qnr : ∀ {Ω : Ctx} {i : Nat} {m' : Mem}, (∀ p ∈ YZ Ω i, mdj m' p.2) → (YZ Ω i).Pairwise (fun p q => mdj p.2 q.2) → (Qbz Ω i m').Pairwise (fun p q => mdj p.2 q.2)
  | [], _, _, _, _ => .nil
  | (j, n) :: r, i, m', h1, h2 => by
    unfold YZ at h1 h2
    unfold Qbz
    cases hb : Nat.beq j i with
    | true =>
      rw [hb] at h1 h2
      exact List.pairwise_cons.2 ⟨h1, h2⟩
    | false =>
      rw [hb] at h1 h2
      simp only [cond_false] at h1 h2 ⊢
      rw [List.pairwise_cons] at h2
      refine List.pairwise_cons.2 ⟨fun p hm => ?_, Qnr (fun p hm => h1 p (.tail _ hm)) h2.2⟩
      rcases Qhj hm with rfl | hm
      · exact (h1 _ (.head _)).symm
      · exact h2.1 p hm
theorem Inv.set {w0 W W' : World} {Ω : Ctx} (h : Inv w0 Ω W) {i : Nat} {m m' : Mem} (hi : YA Ω i = some m)
    (ho : W'.os = W.os) (ht : W'.tape = W.tape) (hu : W'.output = W.output) (hs : W.heap.size ≤ W'.heap.size)
    (hk : mle (Ju (wm W) m) (wm W')) (hl : mle m' (wm W')) (hf : ∀ g, m' g = none ∨ m g ≠ none ∨ W.heap.size ≤ g) : Inv w0 (Qbz Ω i m') W' := by
  obtain ⟨h1, h2⟩ := Qb0 hi h.dj
  have hfar : ∀ p ∈ YZ Ω i, mdj m' p.2 := fun p hp g => by
    rcases hf g with h' | h' | h'
    · exact .inl h'
    · exact .inr ((h1 p hp g).resolve_left h')
    · right
      cases e : p.2 g with
      | none => rfl
      | some o =>
        have := h.le p (YW hp) g o e
        simp [wm, Array.getElem?_eq_none h'] at this
  refine ⟨ho.trans h.os, ht.trans h.tape, hu.trans h.output, Nat.le_trans h.size hs, fun p hp => ?_, Qnr hfar h2⟩
  rcases Qhj hp with rfl | hp
  · exact hl
  · exact (Qbn (h.le p (YW hp)) (h1 p hp).symm).trans hk
theorem Inv.new {w0 W W' : World} {Ω : Ctx} (h : Inv w0 Ω W) (i : Nat) {m' : Mem}
    (ho : W'.os = W.os) (ht : W'.tape = W.tape) (hu : W'.output = W.output) (hs : W.heap.size ≤ W'.heap.size)
    (hk : mle (wm W) (wm W')) (hl : mle m' (wm W')) (hf : ∀ g, m' g = none ∨ W.heap.size ≤ g) : Inv w0 ((i, m') :: Ω) W' := by
  refine ⟨ho.trans h.os, ht.trans h.tape, hu.trans h.output, Nat.le_trans h.size hs, fun p hp => ?_, List.pairwise_cons.2 ⟨fun p hp g => ?_, h.dj⟩⟩
  · rcases List.mem_cons.1 hp with rfl | hp
    · exact hl
    · exact (h.le p hp).trans hk
  · rcases hf g with h' | h'
    · exact .inl h'
    · right
      cases e : p.2 g with
      | none => rfl
      | some o =>
        have := h.le p hp g o e
        simp [wm, Array.getElem?_eq_none h'] at this
theorem Inv.keep {w0 W W':World} {Ω:Ctx} (h:Inv w0 Ω W) (ho:W'.os=W.os) (ht:W'.tape=W.tape) (hu:W'.output=W.output) (hs:W.heap.size≤W'.heap.size)
  (hk:mle (wm W) (wm W')):Inv w0 Ω W':=
 ⟨ho.trans h.os,ht.trans h.tape,hu.trans h.output,Nat.le_trans h.size hs,fun p hp=>(h.le p hp).trans hk,h.dj⟩
theorem Inv.drew {w0 W:World} {Ω:Ctx} (h:Inv w0 Ω W):Inv w0 Ω W.drew:=⟨h.os,h.tape,h.output,h.size,h.le,h.dj⟩
def Qhi (Ω : Ctx) : List Nat → Ctx
  | [] => []
  | i :: r => match YA Ω i with
    | some m => (i, m) :: Qhi (YZ Ω i) r
    | none => Qhi Ω r
theorem Qet : ∀ {l : List Nat} {Ω : Ctx} {p : Nat × Mem}, p ∈ Qhi Ω l → p ∈ Ω
  | i :: r, Ω, p, h => by
    unfold Qhi at h
    split at h
    · rename_i m hm
      rcases List.mem_cons.1 h with rfl | h
      · exact X7 hm
      · exact YW (Qet h)
    · exact Qet h
theorem Qjo : ∀ {l : List Nat} {Ω : Ctx}, Ω.Pairwise (fun p q => mdj p.2 q.2) → (Qhi Ω l).Pairwise (fun p q => mdj p.2 q.2)
  | [], _, _ => .nil
  | i :: r, Ω, h => by
    unfold Qhi
    split
    · rename_i m hm
      obtain ⟨h1, h2⟩ := Qb0 hm h
      exact List.pairwise_cons.2 ⟨fun p hp => h1 p (Qet hp), Qjo h2⟩
    · exact Qjo h
theorem Inv.sub {w0 W:World} {Ω:Ctx} (h:Inv w0 Ω W) (l:List Nat):Inv w0 (Qhi Ω l) W:=
 ⟨h.os,h.tape,h.output,h.size,fun p hp=>h.le p (Qet hp),Qjo h.dj⟩
theorem Inv.dj_of {w0 W:World} {Ω:Ctx} (h:Inv w0 Ω W) {i j:Nat} {m n:Mem} (hi:YA Ω i=some m) (hj:YA (YZ Ω i) j=some n):mdj m n:=
 (Qb0 hi h.dj).1 _ (X7 hj)
abbrev Env := List (Nat × Value)
def QbB : Env → Nat → Option Value
  | [], _ => none
  | (u, v) :: r, t => cond (Nat.beq u t) (some v) (QbB r t)
def ev (σ : Env) : Operand → Option Value
  | .tmp t => QbB σ t
  | .const v => some v
  | .global g => some (.pointer (some ⟨g, 0, none⟩))
  | .func f => some (.func (.func f) #[] #[])
def evs (σ : Env) : List Operand → Option (List Value)
  | [] => some []
  | x :: r => match ev σ x, evs σ r with
    | some v, some vs => some (v :: vs)
    | _, _ => none
structure Zk (n : Nat) (σ : Env) (a : Act) : Prop where
  size : a.tmps.size = n
  defers : a.defers = []
  get : ∀ t v, QbB σ t = some v → a.tmps.getD t undef = v
theorem Zk.eval {n:Nat} {σ:Env} {a:Act} (h:Zk n σ a) {x:Operand} {v:Value} (hx:ev σ x=some v):a.eval x=v:=by
 cases x with
 | tmp t=>exact h.get t v hx
 | const c=>simpa [ev,Act.eval] using hx
 | global g=>simpa [ev,Act.eval] using hx
 | func f=>simpa [ev,Act.eval] using hx
theorem Zk.evals {n : Nat} {σ : Env} {a : Act} (h : Zk n σ a) : ∀ {xs : List Operand} {vs : List Value}, evs σ xs = some vs → xs.map a.eval = vs
  | [], vs, hx => by simp [evs] at hx; simp [hx]
  | x :: r, vs, hx => by
    unfold evs at hx
    split at hx
    · rename_i v vs' h1 h2
      simp only [Option.some.injEq] at hx
      subst hx
      rw [List.map_cons, h.eval h1, h.evals h2]
    · cases hx
theorem Zk.put {n : Nat} {σ : Env} {a : Act} (h : Zk n σ a) {d : Nat} (hd : Nat.blt d n = true) (v : Value) : Zk n ((d, v) :: σ) (a.put (some d) v) := by
  have hlt : d < a.tmps.size := by rw [h.size]; simpa using hd
  refine ⟨by simp [Act.put, h.size], h.defers, fun t u e => ?_⟩
  unfold QbB at e
  cases hb : Nat.beq d t with
  | true =>
    have := Nat.eq_of_beq_eq_true hb
    subst this
    rw [hb] at e
    simp only [cond_true, Option.some.injEq] at e
    subst e
    simp [Act.put, hlt]
  | false =>
    rw [hb] at e
    have hne : d ≠ t := Nat.ne_of_beq_eq_false hb
    have := h.get t u e
    simpa [Act.put, Array.getElem?_setIfInBounds_ne hne] using this
def esub : Env → Env → Prop
  | [], _ => True
  | (t, v) :: r, σ => QbB σ t = some v ∧ esub r σ
theorem Qkh : ∀ {σ' σ : Env} {t : Nat} {v : Value}, esub σ' σ → QbB σ' t = some v → QbB σ t = some v
  | (u, x) :: r, σ, t, v, h, e => by
    unfold QbB at e
    cases hb : Nat.beq u t with
    | true =>
      have := Nat.eq_of_beq_eq_true hb
      subst this
      rw [hb] at e
      simp only [cond_true, Option.some.injEq] at e
      exact e ▸ h.1
    | false => rw [hb] at e; exact Qkh h.2 e
theorem Zk.sub {n:Nat} {σ σ':Env} {a:Act} (h:Zk n σ a) (hs:esub σ' σ):Zk n σ' a:=
 ⟨h.size,h.defers,fun t v e=>h.get t v (Qkh hs e)⟩
theorem Zk.mono {n:Nat} {σ σ':Env} {a:Act} (h:Zk n σ a) (hs:∀ t v,QbB σ' t=some v→QbB σ t=some v):Zk n σ' a:=
 ⟨h.size,h.defers,fun t v e=>h.get t v (hs t v e)⟩
def eres (σ : Env) : List Nat → Env
  | [] => []
  | t :: r => match QbB σ t with
    | some v => (t, v) :: eres σ r
    | none => eres σ r
theorem Qhe : ∀ (σ : Env) (l : List Nat), esub (eres σ l) σ
  | _, [] => trivial
  | σ, t :: r => by
    unfold eres
    split
    · rename_i v h; exact ⟨h, Qhe σ r⟩
    · exact Qhe σ r
section
variable (P : Program) (n : Nat) (w0 : World)
def Yld (σ : Env) (Ω : Ctx) (o : Oper) (v : Value) : Prop := ∀ a W, Zk n σ a → Inv w0 Ω W → (execOp a.eval o).run P W = .ok (.value v) W
def Stp (σ : Env) (Ω : Ctx) (o : Oper) (Φ : Value → Ctx → Prop) : Prop :=
  ∀ a W, Zk n σ a → Inv w0 Ω W → ∀ (K : Act → World → Prop) (Q : Exit → Act → World → Prop), (∀ v Ω' W', Φ v Ω' → Inv w0 Ω' W' → K (a.put o.dst v) W') → o.wp P a W K Q
def VO (ops : Array Oper) (l : List Oper) (σ : Env) (Ω : Ctx) (K : Env → Ctx → Prop) : Prop :=
  ∀ Q : Exit → Act → World → Prop, (∀ σ' Ω' a W, K σ' Ω' → Zk n σ' a → Inv w0 Ω' W → Q .normal a W) → ∀ a W, Zk n σ a → Inv w0 Ω W → wpList P ops Q l a W
def VC (c : Code) (R : Exit → Env → Ctx → Prop) (σ : Env) (Ω : Ctx) : Prop :=
  ∀ Q : Exit → Act → World → Prop, (∀ e σ' Ω' a W, R e σ' Ω' → Zk n σ' a → Inv w0 Ω' W → Q e a W) → ∀ a W, Zk n σ a → Inv w0 Ω W → c.wp P Q a W
end
section
variable {P : Program} {n : Nat} {w0 : World} {σ : Env} {Ω : Ctx} {ops : Array Oper} {K : Env → Ctx → Prop} {R : Exit → Env → Ctx → Prop}
theorem VO.nil (h:K σ Ω):VO P n w0 ops [] σ Ω K:=fun _ hQ a W he hi=>wpList_nil (hQ σ Ω a W h he hi)
theorem VO.drop (l:List Nat) {r:List Oper} (h:VO P n w0 ops r (eres σ l) Ω K):VO P n w0 ops r σ Ω K:=
 fun Q hQ a W he hi=>h Q hQ a W (he.sub (Qhe σ l)) hi
theorem VO.esub {r:List Oper} (σ':Env) (hs:esub σ' σ) (h:VO P n w0 ops r σ' Ω K):VO P n w0 ops r σ Ω K:=
 fun Q hQ a W he hi=>h Q hQ a W (he.sub hs) hi
theorem VO.inv {r:List Oper} (Ω':Ctx) (hs:∀ W,Inv w0 Ω W→Inv w0 Ω' W) (h:VO P n w0 ops r σ Ω' K):VO P n w0 ops r σ Ω K:=
 fun Q hQ a W he hi=>h Q hQ a W he (hs W hi)
theorem VO.y {r:List Oper} {d:Nat} {op:Op} {ty:TypeId} {pos:String} {af:Array Edge} {v:Value} (hd:Nat.blt d n=true)
  (hy:Yld P n w0 σ Ω ⟨some d,op,ty,pos,af,none⟩ v) (h:VO P n w0 ops r ((d,v)::σ) Ω K):VO P n w0 ops (⟨some d,op,ty,pos,af,none⟩::r) σ Ω K:=
 fun Q hQ a W he hi=>wpList_plain rfl fun K' hK=>by
  unfold Oper.wp
  rw [hy a W he hi]
  exact hK _ _ (h Q hQ _ _ (he.put hd v) hi)
theorem VO.s {r:List Oper} {d:Nat} {op:Op} {ty:TypeId} {pos:String} {af:Array Edge} {Φ:Value→Ctx→Prop} (hd:Nat.blt d n=true)
  (hs:Stp P n w0 σ Ω ⟨some d,op,ty,pos,af,none⟩ Φ) (h:∀ v Ω',Φ v Ω'→VO P n w0 ops r ((d,v)::σ) Ω' K):VO P n w0 ops (⟨some d,op,ty,pos,af,none⟩::r) σ Ω K:=
 fun Q hQ a W he hi=>wpList_plain rfl fun K' hK=>hs a W he hi K' Q fun v Ω' _ hv hi'=>hK _ _ (h v Ω' hv Q hQ _ _ (he.put hd v) hi')
theorem VO.u {r:List Oper} {op:Op} {ty:TypeId} {pos:String} {af:Array Edge} {Φ:Value→Ctx→Prop}
  (hs:Stp P n w0 σ Ω ⟨none,op,ty,pos,af,none⟩ Φ) (h:∀ v Ω',Φ v Ω'→VO P n w0 ops r σ Ω' K):VO P n w0 ops (⟨none,op,ty,pos,af,none⟩::r) σ Ω K:=
 fun Q hQ a W he hi=>wpList_plain rfl fun K' hK=>hs a W he hi K' Q fun v Ω' _ hv hi'=>hK _ _ (h v Ω' hv Q hQ _ _ he hi')
def Qff (σ : Env) (ops : Array Oper) (j : Nat) (b : Bool) : Prop := ∃ d, (ops[j]?).bind (·.dst) = some d ∧ QbB σ d = some (.bool b)
def gund (σ : Env) (ops : Array Oper) (j : Nat) : Prop := ∃ d, (ops[j]?).bind (·.dst) = some d ∧ QbB σ d = some undef
theorem getD_some {xs:Array Value} {d:Nat} {v:Value} (h:xs.getD d undef=v) (hv:v≠undef):xs[d]? =some v:=by
 rcases Nat.lt_or_ge d xs.size with hl | hl
 ·rw [Array.getElem?_eq_getElem hl];simpa [Array.getD,hl] using h
 ·simp [Array.getD,Nat.not_lt.2 hl] at h;exact absurd h.symm hv
theorem Z8 {a:Act} {j:Nat} {b:Bool} (he:Zk n σ a) (h:Qff σ ops j b):yielded ops a.tmps j=some b:=by
 obtain ⟨d,h1,h2⟩:=h
 have:=getD_some (he.get d _ h2) (by simp [undef])
 simp [yielded,h1,this]
theorem Qey {a:Act} {j:Nat} (he:Zk n σ a) (h:gund σ ops j):yielded ops a.tmps j=none:=by
 obtain ⟨d,h1,h2⟩:=h
 have h3:=he.get d _ h2
 unfold yielded
 rw [h1]
 show (match a.tmps[d]? with | some (.bool b)=>some b | _=>none)=none
 rcases Nat.lt_or_ge d a.tmps.size with hl | hl
 ·rw [Array.getElem?_eq_getElem hl]
  simp only [Array.getD,hl,dif_pos] at h3
  rw [show a.tmps[d]=undef from h3]
  rfl
 ·rw [Array.getElem?_eq_none hl]
theorem VO.gy {r:List Oper} {d:Nat} {op:Op} {ty:TypeId} {pos:String} {af:Array Edge} {j:Nat} {b:Bool} {v:Value} (hd:Nat.blt d n=true) (hg:Qff σ ops j b)
  (hy:Yld P n w0 σ Ω ⟨some d,op,ty,pos,af,some (j,b)⟩ v) (h:VO P n w0 ops r ((d,v)::σ) Ω K):VO P n w0 ops (⟨some d,op,ty,pos,af,some (j,b)⟩::r) σ Ω K:=
 fun Q hQ a W he hi=>wpList_step fun K' hK=>by
  rw [if_pos (by simp [Region.wanted,Z8 he hg])]
  unfold Oper.wp
  rw [hy a W he hi]
  exact hK _ _ (h Q hQ _ _ (he.put hd v) hi)
theorem VO.gs {r:List Oper} {d:Nat} {op:Op} {ty:TypeId} {pos:String} {af:Array Edge} {j:Nat} {b:Bool} {Φ:Value→Ctx→Prop} (hd:Nat.blt d n=true) (hg:Qff σ ops j b)
  (hs:Stp P n w0 σ Ω ⟨some d,op,ty,pos,af,some (j,b)⟩ Φ) (h:∀ v Ω',Φ v Ω'→VO P n w0 ops r ((d,v)::σ) Ω' K):VO P n w0 ops (⟨some d,op,ty,pos,af,some (j,b)⟩::r) σ Ω K:=
 fun Q hQ a W he hi=>wpList_step fun K' hK=>by
  rw [if_pos (by simp [Region.wanted,Z8 he hg])]
  exact hs a W he hi K' Q fun v Ω' W' hv hi'=>hK _ _ (h v Ω' hv Q hQ _ _ (he.put hd v) hi')
theorem VO.gn {r:List Oper} {d:Nat} {op:Op} {ty:TypeId} {pos:String} {af:Array Edge} {j:Nat} {b:Bool} (hd:Nat.blt d n=true) (hg:Qff σ ops j (!b)∨gund σ ops j)
  (h:VO P n w0 ops r ((d,undef)::σ) Ω K):VO P n w0 ops (⟨some d,op,ty,pos,af,some (j,b)⟩::r) σ Ω K:=
 fun Q hQ a W he hi=>wpList_step fun K' hK=>by
  have:yielded ops a.tmps j≠some b:=by
   rcases hg with hg | hg
   ·rw [Z8 he hg];cases b <;> simp
   ·rw [Qey he hg];simp
  rw [if_neg (by simpa [Region.wanted] using this)]
  exact hK _ _ (h Q hQ _ _ (he.put hd _) hi)
theorem Zk.dup {a : Act} {t : Nat} {v : Value} (he : Zk n σ a) (ht : QbB σ t = some v) : Zk n ((t, v) :: σ) a := by
  refine he.mono fun u x e => ?_
  unfold QbB at e
  cases hb' : Nat.beq t u with
  | true =>
    have := Nat.eq_of_beq_eq_true hb'
    subst this
    rw [hb'] at e
    simp only [cond_true, Option.some.injEq] at e
    rw [ht, e]
  | false => rw [hb'] at e; exact e
theorem VO.dec {r:List Oper} {t:Nat} {p:Prop} [Decidable p] (ht:QbB σ t=some (.bool (decide p))) (h1:p→VO P n w0 ops r ((t,.bool true)::σ) Ω K)
  (h2:¬ p→VO P n w0 ops r ((t,.bool false)::σ) Ω K):VO P n w0 ops r σ Ω K:=fun Q hQ a W he hi=>by
 by_cases hp:p
 ·exact h1 hp Q hQ a W (he.dup (by rw [ht,decide_eq_true hp])) hi
 ·exact h2 hp Q hQ a W (he.dup (by rw [ht,decide_eq_false hp])) hi
theorem VO.rw {r:List Oper} {t:Nat} {v:Value} (v':Value) (ht:QbB σ t=some v) (hv:v=v') (h:VO P n w0 ops r ((t,v')::σ) Ω K):VO P n w0 ops r σ Ω K:=
 fun Q hQ a W he hi=>h Q hQ a W (he.dup (by rw [ht,hv])) hi
end
def QgP (k : Env → Ctx → Prop) (R : Exit → Env → Ctx → Prop) : Exit → Env → Ctx → Prop
  | .normal => k
  | e => R e
def Qia (id : Nat) (R : Exit → Env → Ctx → Prop) : Exit → Env → Ctx → Prop
  | .exit i => cond (Nat.beq i id) (R .normal) (R (.exit i))
  | e => R e
section
variable {P : Program} {n : Nat} {w0 : World} {σ : Env} {Ω : Ctx} {R : Exit → Env → Ctx → Prop}
theorem VC.reg {id:Nat} {l:List Oper} (h:VO P n w0 l.toArray l σ Ω (R .normal)):VC P n w0 (.region id l.toArray false) R σ Ω:=
 fun Q hQ a W he hi=>wp_region_lit (h Q (fun σ' Ω' a W hk=>hQ _ σ' Ω' a W hk) a W he hi)
theorem VC.seq {x y:Code} (h:VC P n w0 x (QgP (fun σ' Ω'=>VC P n w0 y R σ' Ω') R) σ Ω):VC P n w0 (.seq x y) R σ Ω:=
 fun Q hQ a W he hi=>wp_seq (h (Exit.then (y.wp P Q) Q) (fun e σ' Ω' a W hr he hi=>by
  cases e with
  | normal=>exact hr Q hQ a W he hi
  | exit id=>exact hQ _ σ' Ω' a W hr he hi
  | goto l=>exact hQ _ σ' Ω' a W hr he hi
  | ret=>exact hQ _ σ' Ω' a W hr he hi
  | panic ch=>exact hQ _ σ' Ω' a W hr he hi
  | outgrown=>exact hQ _ σ' Ω' a W hr he hi) a W he hi)
theorem VC.rs {id:Nat} {l:List Oper} {y:Code} (h:VO P n w0 l.toArray l σ Ω (fun σ' Ω'=>VC P n w0 y R σ' Ω')):VC P n w0 (.seq (.region id l.toArray false) y) R σ Ω:=
 VC.seq (VC.reg h)
theorem VC.skip (h:R .normal σ Ω):VC P n w0 .skip R σ Ω:=fun _ hQ a W he hi=>wp_skip (hQ _ σ Ω a W h he hi)
theorem VC.exit {id:Nat} (h:R (.exit id) σ Ω):VC P n w0 (.exit id) R σ Ω:=fun _ hQ a W he hi=>wp_exit (hQ _ σ Ω a W h he hi)
theorem VC.ret (h:R .ret σ Ω):VC P n w0 .ret R σ Ω:=fun _ hQ a W he hi=>wp_ret (hQ _ σ Ω a W h he hi)
theorem VC.block {id : Nat} {c : Code} (h : VC P n w0 c (Qia id R) σ Ω) : VC P n w0 (.block id c) R σ Ω :=
  fun Q hQ a W he hi => wp_block (h (Exit.inBlock id Q) (fun e σ' Ω' a W hr he hi => by
    cases e with
    | exit i =>
      show if i = id then Q .normal a W else Q (.exit i) a W
      change cond (Nat.beq i id) (R .normal) (R (.exit i)) σ' Ω' at hr
      cases hb : Nat.beq i id with
      | true =>
        rw [if_pos (Nat.eq_of_beq_eq_true hb)]
        rw [hb] at hr
        exact hQ _ σ' Ω' a W hr he hi
      | false =>
        rw [if_neg (Nat.ne_of_beq_eq_false hb)]
        rw [hb] at hr
        exact hQ _ σ' Ω' a W hr he hi
    | normal => exact hQ _ σ' Ω' a W hr he hi
    | goto l => exact hQ _ σ' Ω' a W hr he hi
    | ret => exact hQ _ σ' Ω' a W hr he hi
    | panic ch => exact hQ _ σ' Ω' a W hr he hi
    | outgrown => exact hQ _ σ' Ω' a W hr he hi) a W he hi)
theorem VC.condT {c:Operand} {x y:Code} (hc:ev σ c=some (.bool true)) (h:VC P n w0 x R σ Ω):VC P n w0 (.cond c x y) R σ Ω:=
 fun Q hQ a W he hi=>wp_cond_true (he.eval hc) (h Q hQ a W he hi)
theorem VC.condF {c:Operand} {x y:Code} (hc:ev σ c=some (.bool false)) (h:VC P n w0 y R σ Ω):VC P n w0 (.cond c x y) R σ Ω:=
 fun Q hQ a W he hi=>wp_cond_false (he.eval hc) (h Q hQ a W he hi)
theorem VC.condB {c:Operand} {x y:Code} {b:Bool} (hc:ev σ c=some (.bool b)) (h1:b=true→VC P n w0 x R σ Ω) (h2:b=false→VC P n w0 y R σ Ω):VC P n w0 (.cond c x y) R σ Ω:=by
 cases b
 ·exact VC.condF hc (h2 rfl)
 ·exact VC.condT hc (h1 rfl)
theorem VC.cond {c:Operand} {x y:Code} {p:Prop} [Decidable p] (hc:ev σ c=some (.bool (decide p))) (h1:p→VC P n w0 x R σ Ω) (h2:¬ p→VC P n w0 y R σ Ω):VC P n w0 (.cond c x y) R σ Ω:=
 VC.condB hc (fun h=>h1 (of_decide_eq_true h)) (fun h=>h2 (of_decide_eq_false h))
theorem VC.inv {c:Code} (Ω':Ctx) (hs:∀ W,Inv w0 Ω W→Inv w0 Ω' W) (h:VC P n w0 c R σ Ω'):VC P n w0 c R σ Ω:=
 fun Q hQ a W he hi=>h Q hQ a W he (hs W hi)
theorem VC.esub {c:Code} (σ':Env) (hs:esub σ' σ) (h:VC P n w0 c R σ' Ω):VC P n w0 c R σ Ω:=
 fun Q hQ a W he hi=>h Q hQ a W (he.sub hs) hi
theorem VC.mono {c:Code} {R':Exit→Env→Ctx→Prop} (h:VC P n w0 c R' σ Ω) (hr:∀ e σ Ω,R' e σ Ω→R e σ Ω):VC P n w0 c R σ Ω:=
 fun Q hQ a W he hi=>h Q (fun e σ' Ω' a W hk=>hQ e σ' Ω' a W (hr _ _ _ hk)) a W he hi
theorem Qg {k:Env→Ctx→Prop} (h:k σ Ω):QgP k R .normal σ Ω:=h
theorem QK {k:Env→Ctx→Prop} (h:R .ret σ Ω):QgP k R .ret σ Ω:=h
theorem JU {k:Env→Ctx→Prop} {i:Nat} (h:R (.exit i) σ Ω):QgP k R (.exit i) σ Ω:=h
theorem Jh {i:Nat} (h:R .normal σ Ω):Qia i R .normal σ Ω:=h
theorem Jf {i:Nat} (h:R .ret σ Ω):Qia i R .ret σ Ω:=h
theorem QhV {i j:Nat} (hij:Nat.beq i j=false) (h:R (.exit i) σ Ω):Qia j R (.exit i) σ Ω:=by
 have:Qia j R (.exit i)=cond (Nat.beq i j) (R .normal) (R (.exit i)):=rfl
 rw [this,hij];exact h
theorem JT {i:Nat} (h:R .normal σ Ω):Qia i R (.exit i) σ Ω:=by
 have:Qia i R (.exit i)=cond (Nat.beq i i) (R .normal) (R (.exit i)):=rfl
 rw [this]
 cases hb:Nat.beq i i with
 | true=>exact h
 | false=>exact absurd rfl (Nat.ne_of_beq_eq_false hb)
structure To (w0 : World) (σ' : Env) (Ω' : Ctx) (σ : Env) (Ω : Ctx) : Prop where
  env : esub σ' σ
  inv : ∀ W, Inv w0 Ω W → Inv w0 Ω' W
theorem VC.loop {G : Type} {c : Code} (S : G → Env) (C : G → Ctx) (I : G → Prop) (μ : G → Nat) (g0 : G) (h0 : I g0) (h1 : To w0 (S g0) (C g0) σ Ω)
    (round : ∀ g, I g → VC P n w0 c (QgP (fun σ' Ω' => ∃ g', I g' ∧ μ g' < μ g ∧ To w0 (S g') (C g') σ' Ω') R) (S g) (C g)) : VC P n w0 (.loop c) R σ Ω :=
  fun Q hQ a W he hi => wp_loop_ghost (fun k a W => ∃ g, I g ∧ μ g = k ∧ Zk n (S g) a ∧ Inv w0 (C g) W) (μ g0) ⟨g0, h0, rfl, he.sub h1.env, h1.inv W hi⟩ (by
    rintro k a W ⟨g, hI, rfl, he, hi⟩
    refine round g hI _ (fun e σ' Ω' a W hr he hi => ?_) a W he hi
    cases e with
    | normal =>
      obtain ⟨g', hI', hlt, ht⟩ := hr
      exact ⟨μ g', hlt, g', hI', rfl, he.sub ht.env, ht.inv W hi⟩
    | exit id => exact hQ _ σ' Ω' a W hr he hi
    | goto l => exact hQ _ σ' Ω' a W hr he hi
    | ret => exact hQ _ σ' Ω' a W hr he hi
    | panic ch => exact hQ _ σ' Ω' a W hr he hi
    | outgrown => exact hQ _ σ' Ω' a W hr he hi)
end
structure Upd (W : World) (m : Mem) (W' : World) (m' : Mem) : Prop where
  os : W'.os = W.os
  tape : W'.tape = W.tape
  output : W'.output = W.output
  size : W.heap.size ≤ W'.heap.size
  keep : mle (Ju (wm W) m) (wm W')
  le : mle m' (wm W')
  dom : ∀ g, m' g = none ∨ m g ≠ none ∨ W.heap.size ≤ g
def Qc (P : Program) (f : FuncId) (args : List Value) (W : World) (m : Mem) (Post : Value → Mem → Prop) : Prop :=
  Calls P f args.toArray W fun e W' => ∃ v m', e = .returned v ∧ Post v m' ∧ Upd W m W' m'
def JE (P : Program) (f : FuncId) : Bool := match P.funcs[f]? with
  | some fn => !(fn.name == "runtime.NumGoroutine") && fn.body.isSome
  | none => false
theorem Y0 {P:Program} {f:FuncId} (h:JE P f=true) (args:Array Value) (w:World):(callFunc f args).run P w= .ok (.enter f args) w:=by
 unfold JE at h
 split at h
 ·rename_i fn hf
  simp only [Bool.and_eq_true,Bool.not_eq_true'] at h
  have h2:fn.body.isNone=false:=by cases hb:fn.body <;> simp_all
  simp only [callFunc,Sem.run_bind,run_program,Result.andThen_ok,hf,h.1,h2,Bool.false_eq_true,if_false,Sem.run_pure]
 ·cases h
section
variable {P : Program} {n : Nat} {w0 : World} {σ : Env} {Ω : Ctx} {ops : Array Oper} {K : Env → Ctx → Prop}
theorem Qc.mono {f:FuncId} {args:List Value} {W:World} {m:Mem} {Post Post':Value→Mem→Prop} (h:Qc P f args W m Post) (hp:∀ v m',Post v m'→Post' v m'):Qc P f args W m Post':=
 Calls.mono h fun _ _ ⟨v,m',h1,h2,h3⟩=>⟨v,m',h1,hp v m' h2,h3⟩
theorem Inv.upd {W W':World} {i:Nat} {m m':Mem} (h:Inv w0 Ω W) (hm:YA Ω i=some m) (hu:Upd W m W' m'):Inv w0 (Qbz Ω i m') W':=
 h.set hm hu.os hu.tape hu.output hu.size hu.keep hu.le hu.dom
theorem Inv.updN {W W':World} (i:Nat) {m':Mem} (h:Inv w0 Ω W) (hu:Upd W mnil W' m'):Inv w0 ((i,m')::Ω) W':=
 h.new i hu.os hu.tape hu.output hu.size hu.keep hu.le fun g=>(hu.dom g).imp id (fun h=>h.resolve_left (by simp [mnil]))
theorem Stp.call {f:FuncId} {xs:List Operand} {ats:Array TypeId} {ty:TypeId} {pos:String} {af:Array Edge} {dst:Option Tmp} {gd:Option (Nat × Bool)} {vs:List Value} {Post:Value→Mem→Prop}
  (i:Nat) {m:Mem} (hf:JE P f=true) (ha:evs σ xs=some vs) (hm:YA Ω i=some m) (hc:∀ W,Inv w0 Ω W→Qc P f vs W m Post):
  Stp P n w0 σ Ω ⟨dst,.call { callee:= .value (.func f),args:=xs.toArray,argTypes:=ats },ty,pos,af,gd⟩ (fun v Ω'=>∃ m',Post v m'∧Ω'=Qbz Ω i m'):=fun a W he hi K Q hK=>by
 unfold Oper.wp
 rw [execOp_call_go]
 rw [Y0 hf]
 have: #[]++Array.map a.eval xs.toArray++ #[]=vs.toArray:=by
  rw [← he.evals ha];simp
 rw [this,Oper.upon_enter]
 refine Calls.mono (hc W hi) fun e W' ⟨v,m',h1,h2,h3⟩=>?_
 subst h1
 exact hK v _ W' ⟨m',h2,rfl⟩ (hi.upd hm h3)
theorem Stp.callN {f:FuncId} {xs:List Operand} {ats:Array TypeId} {ty:TypeId} {pos:String} {af:Array Edge} {dst:Option Tmp} {gd:Option (Nat × Bool)} {vs:List Value} {Post:Value→Mem→Prop}
  (i:Nat) (hf:JE P f=true) (ha:evs σ xs=some vs) (hc:∀ W,Inv w0 Ω W→Qc P f vs W mnil Post):
  Stp P n w0 σ Ω ⟨dst,.call { callee:= .value (.func f),args:=xs.toArray,argTypes:=ats },ty,pos,af,gd⟩ (fun v Ω'=>∃ m',Post v m'∧Ω'=(i,m')::Ω):=fun a W he hi K Q hK=>by
 unfold Oper.wp
 rw [execOp_call_go]
 rw [Y0 hf]
 have: #[]++Array.map a.eval xs.toArray++ #[]=vs.toArray:=by
  rw [← he.evals ha];simp
 rw [this,Oper.upon_enter]
 refine Calls.mono (hc W hi) fun e W' ⟨v,m',h1,h2,h3⟩=>?_
 subst h1
 exact hK v _ W' ⟨m',h2,rfl⟩ (hi.updN i h3)
theorem VO.call {r:List Oper} {d:Nat} {f:FuncId} {xs:List Operand} {ats:Array TypeId} {ty:TypeId} {pos:String} {af:Array Edge} {vs:List Value} {Post:Value→Mem→Prop}
  (i:Nat) {m:Mem} (hd:Nat.blt d n=true) (hf:JE P f=true) (ha:evs σ xs=some vs) (hm:YA Ω i=some m) (hc:∀ W,Inv w0 Ω W→Qc P f vs W m Post)
  (h:∀ v m',Post v m'→VO P n w0 ops r ((d,v)::σ) (Qbz Ω i m') K):
  VO P n w0 ops (⟨some d,.call { callee:= .value (.func f),args:=xs.toArray,argTypes:=ats },ty,pos,af,none⟩::r) σ Ω K:=
 VO.s hd (Stp.call i hf ha hm hc) fun v _ ⟨m',hp,hΩ⟩=>hΩ ▸ h v m' hp
theorem VO.callN {r:List Oper} {d:Nat} {f:FuncId} {xs:List Operand} {ats:Array TypeId} {ty:TypeId} {pos:String} {af:Array Edge} {vs:List Value} {Post:Value→Mem→Prop}
  (i:Nat) (hd:Nat.blt d n=true) (hf:JE P f=true) (ha:evs σ xs=some vs) (hc:∀ W,Inv w0 Ω W→Qc P f vs W mnil Post)
  (h:∀ v m',Post v m'→VO P n w0 ops r ((d,v)::σ) ((i,m')::Ω) K):
  VO P n w0 ops (⟨some d,.call { callee:= .value (.func f),args:=xs.toArray,argTypes:=ats },ty,pos,af,none⟩::r) σ Ω K:=
 VO.s hd (Stp.callN i hf ha hc) fun v _ ⟨m',hp,hΩ⟩=>hΩ ▸ h v m' hp
def QpL : Nat → List Value → Env
  | _, [] => []
  | i, v :: r => (i, v) :: QpL (i + 1) r
theorem QgE : ∀ {vs : List Value} {i t : Nat} {v : Value}, QbB (QpL i vs) t = some v → i ≤ t ∧ vs[t - i]? = some v
  | x :: r, i, t, v, h => by
    unfold QpL QbB at h
    cases hb : Nat.beq i t with
    | true =>
      have := Nat.eq_of_beq_eq_true hb
      subst this
      rw [hb] at h
      simpa using h
    | false =>
      rw [hb] at h
      obtain ⟨h1, h2⟩ := QgE h
      refine ⟨by omega, ?_⟩
      rw [show t - i = (t - (i + 1)) + 1 by omega]
      simpa using h2
def Qk9 (P : Program) (n : Nat) (w0 : World) (fn : Func) (m : Mem) (Post : Value → Mem → Prop) : Exit → Env → Ctx → Prop
  | .ret, σ, Ω | .normal, σ, Ω => ∃ v m', (∀ a W, Zk n σ a → Inv w0 Ω W → (results fn a.tmps).run P W = .ok v W) ∧
      (∀ W, Inv w0 Ω W → Post v m' ∧ mle (Ju (wm w0) m) (wm W) ∧ mle m' (wm W) ∧ mdj m' (Ju (wm w0) m))
  | _, _, _ => False
theorem Qc.of {f : FuncId} {fn : Func} {c : Code} {args : List Value} {W : World} {m : Mem} {Post : Value → Mem → Prop} (hf : P.funcs[f]? = some fn) (hb : fn.body = some c) (hn : fn.ntmps = n)
    (hsz : Nat.ble args.length n = true) (hm : mle m (wm W)) (h : VC P n W c (Qk9 P n W fn m Post) (QpL 0 args) [(0, Ju (wm W) m), (1, m)]) : Qc P f args W m Post := by
  have hlen : args.length ≤ n := by simpa using hsz
  refine calls_of_wp hf hb (h _ (fun e σ' Ω' a W' hr he hi => ?_) _ W ⟨?_, rfl, fun t v hv => ?_⟩ ⟨rfl, rfl, rfl, Nat.le_refl _, ?_, ?_⟩)
  · cases e with
    | ret =>
      obtain ⟨v, m', h1, h3⟩ := hr
      obtain ⟨h2, k1, k2, k3⟩ := h3 W' hi
      refine ⟨he.defers, v, h1 a W' he hi, v, m', rfl, h2, hi.os, hi.tape, hi.output, hi.size, k1, k2, fun g => ?_⟩
      rcases k3 g with h | h
      · exact .inl h
      · refine .inr ?_
        unfold Ju wm at h
        split at h
        · rename_i o ho; exact .inl (by rw [ho]; simp)
        · exact .inr (Array.getElem?_eq_none_iff.1 h)
    | normal =>
      obtain ⟨v, m', h1, h3⟩ := hr
      obtain ⟨h2, k1, k2, k3⟩ := h3 W' hi
      refine ⟨he.defers, v, h1 a W' he hi, v, m', rfl, h2, hi.os, hi.tape, hi.output, hi.size, k1, k2, fun g => ?_⟩
      rcases k3 g with h | h
      · exact .inl h
      · refine .inr ?_
        unfold Ju wm at h
        split at h
        · rename_i o ho; exact .inl (by rw [ho]; simp)
        · exact .inr (Array.getElem?_eq_none_iff.1 h)
    | exit id => exact hr.elim
    | goto l => exact hr.elim
    | panic ch => exact hr.elim
    | outgrown => exact hr.elim
  · simp [hn]; omega
  · obtain ⟨_, h2⟩ := QgE hv
    have hlt : t < args.length := by
      have := (List.getElem?_eq_some_iff.1 h2).1; omega
    have h3 : (args.toArray ++ Array.replicate (fn.ntmps - args.toArray.size) undef)[t]? = some v := by
      rw [Array.getElem?_append_left (by simpa using hlt)]; simpa using h2
    simp only [Array.getD_eq_getD_getElem?, h3, Option.getD_some]
  · intro p hp
    rcases List.mem_cons.1 hp with rfl | hp
    · exact QbU _ _
    · rcases List.mem_cons.1 hp with rfl | hp
      · exact hm
      · cases hp
  · refine List.pairwise_cons.2 ⟨fun p hp => ?_, List.pairwise_cons.2 ⟨fun p hp => ?_, List.Pairwise.nil⟩⟩
    · rcases List.mem_cons.1 hp with rfl | hp
      · exact Qg4 _ _
      · cases hp
    · cases hp
theorem Qc.ofA {f:FuncId} {fn:Func} {c:Code} {args:List Value} {W:World} {Post:Value→Mem→Prop} (hf:P.funcs[f]? =some fn) (hb:fn.body=some c) (hn:fn.ntmps=n)
  (hsz:Nat.ble args.length n=true) (h:VC P n W c (Qk9 P n W fn mnil Post) (QpL 0 args) [(0,wm W)]):Qc P f args W mnil Post:=
 Qc.of hf hb hn hsz (JW _) (VC.inv [(0,wm W)] (fun W' h'=>⟨h'.os,h'.tape,h'.output,h'.size,fun p hp=>h'.le p (by simp at hp;subst hp;exact .head _),List.pairwise_singleton _ _⟩) h)
theorem Inv.out {Ω:Ctx} {W:World} (h:Inv w0 Ω W) {i j:Nat} {m k:Mem} (hi:YA Ω i=some m) (hj:YA (YZ Ω i) j=some k):mle k (Ju (wm W) m):=
 Qbn (h.le _ (YW (X7 hj))) (h.dj_of hi hj).symm
theorem own_of {Ω:Ctx} {b m':Mem} (i:Nat) (h0:YA Ω 0=some b) (hi:YA (YZ Ω 0) i=some m'):∀ W,Inv w0 Ω W→mle b (wm W)∧mle m' (wm W)∧mdj m' b:=
 fun _ h=>⟨h.at h0,h.le _ (YW (X7 hi)),(h.dj_of h0 hi).symm⟩
def tk (P : Program) (t : TypeId) : Option (Option Nat) := match P.underlying t, P.info? t with
  | some (.struct _), some i | some (.array _ _), some i => some (some i.size)
  | some _, some i => if i.size = 1 then some none else none
  | _, _ => none
def tz (P : Program) (t : TypeId) : Option (List Value) := match P.info? t with
  | some i => match i.zero with
    | some z => if z.cells.size = i.size then some z.cells.toList else none
    | none => none
  | none => none
def tsl (P : Program) (t : TypeId) : Option (TypeId × Nat × Nat) := match P.underlying t with
  | some (.slice e) => match P.info? e with
    | some i => some (e, i.size, i.bytes)
    | none => none
  | _ => none
def tst (P : Program) (t : TypeId) : Option (List (Nat × Nat)) := match P.underlying t with
  | some (.struct fs) => fs.toList.mapM fun f => (P.info? f.type).bind fun i => if i.size = 0 then none else some (f.offset, i.size)
  | _ => none
theorem Qj {t:TypeId} {d:TypeDesc} (h:P.underlying t=some d) (w:World):(underlying t).run P w= .ok d w:=by
 simp [underlying,h]
theorem Qbi {t:TypeId} {i:TypeInfo} (h:P.info? t=some i) (w:World):(typeInfo t).run P w= .ok i w:=by
 simp [typeInfo,h]
theorem J0 {t:TypeId} {i:TypeInfo} (h:P.info? t=some i) (w:World):(sizeOf t).run P w= .ok i.size w:=by
 simp [sizeOf,Qbi h]
theorem QiK {t:TypeId} {k:Nat} (h:tk P t=some (some k)) (w:World):(isAgg t).run P w= .ok true w∧(sizeOf t).run P w= .ok k w:=by
 unfold tk at h
 split at h
 ·rename_i fs i h1 h2
  simp only [Option.some.injEq] at h
  exact ⟨by simp [isAgg,Qj h1],by rw [J0 h2,h]⟩
 ·rename_i l e i h1 h2
  simp only [Option.some.injEq] at h
  exact ⟨by simp [isAgg,Qj h1],by rw [J0 h2,h]⟩
 ·split at h <;> simp at h
 ·cases h
theorem QgN {t:TypeId} (h:tk P t=some none) (w:World):(isAgg t).run P w= .ok false w∧(sizeOf t).run P w= .ok 1 w:=by
 unfold tk at h
 split at h
 ·simp at h
 ·simp at h
 ·rename_i d i h3 h4 h1 h2
  split at h
  ·rename_i hs
   refine ⟨?_,by rw [J0 h2,hs]⟩
   simp only [isAgg,Sem.run_bind,Qj h1,Result.andThen_ok]
   cases d <;> first | rfl | (exact absurd h1 (h3 _)) | (exact absurd h1 (h4 _ _))
  ·cases h
 ·cases h
theorem Qhy {t:TypeId} {z:List Value} (h:tz P t=some z):∃ v:Value,v.cells.toList=z∧∀ w,(zeroValue t).run P w= .ok v w:=by
 unfold tz at h
 split at h
 ·rename_i i hi
  split at h
  ·rename_i v hv
   split at h
   ·simp only [Option.some.injEq] at h
    exact ⟨v,h,fun w=>by simp [zeroValue,Qbi hi,hv]⟩
   ·cases h
  ·cases h
 ·cases h
theorem QbH {t e:TypeId} {s b:Nat} (h:tsl P t=some (e,s,b)):P.underlying t=some (.slice e)∧∃ i,P.info? e=some i∧i.size=s∧i.bytes=b:=by
 unfold tsl at h
 split at h
 ·rename_i e' he
  split at h
  ·rename_i i hi
   simp only [Option.some.injEq,Prod.mk.injEq] at h
   obtain ⟨rfl,h2,h3⟩:=h
   exact ⟨he,i,hi,h2,h3⟩
  ·cases h
 ·cases h
def Jp (m : Mem) (g off n : Nat) (cs : List Value) : Prop :=
  ∃ c E fz, m g = some (.cells c E fz) ∧ off + n ≤ c.size ∧ cs = (c.toList.drop off).take n
theorem Jp.mono {m m':Mem} {g off k:Nat} {cs:List Value} (h:Jp m g off k cs) (hm:mle m m'):Jp m' g off k cs:=by
 obtain ⟨c,E,fz,h1,h2⟩:=h
 exact ⟨c,E,fz,hm g _ h1,h2⟩
theorem Jp.len {m:Mem} {g off k:Nat} {cs:List Value} (h:Jp m g off k cs):cs.length=k:=by
 obtain ⟨c,E,fz,_,h2,rfl⟩:=h
 simp;omega
theorem Jp.cell {W:World} {g off k:Nat} {cs:List Value} (h:Jp (wm W) g off k cs) {i:Nat} (hi:i < k):W.cell? ⟨g,off+i,none⟩=cs[i]? :=by
 obtain ⟨c,E,fz,h1,h2,rfl⟩:=h
 unfold wm at h1
 simp only [World.cell?,h1]
 simp [hi]
theorem QaU (g off i:Nat):(Addr.mk g off none).add i=⟨g,off+i,none⟩:=by
 unfold Addr.add
 split
 ·rename_i h;subst h;rfl
 ·rfl
theorem QaC {W : World} {g off : Nat} : ∀ (k i : Nat) (cs : List Value) (acc : Array Value), (∀ j, j < k → W.cell? ⟨g, off + (i + j), none⟩ = cs[j]?) → cs.length = k →
    (loadCellsFrom ⟨g, off, none⟩ i k acc).run P W = .ok (acc ++ cs.toArray) W
  | 0, i, cs, acc, _, hl => by
    have : cs = [] := List.eq_nil_of_length_eq_zero hl
    subst this
    simp [loadCellsFrom]
  | k + 1, i, cs, acc, h, hl => by
    match cs, hl with
    | c :: r, hl =>
      have h0 := h 0 (by omega)
      simp only [Nat.add_zero, List.getElem?_cons_zero] at h0
      simp only [loadCellsFrom, Sem.run_bind, run_load, QaU, h0, Result.andThen_ok]
      rw [QaC k (i + 1) r (acc.push c) (fun j hj => by
        have := h (j + 1) (by omega)
        rw [show i + (j + 1) = i + 1 + j by omega] at this
        simpa using this) (by simpa using hl)]
      simp
theorem Yp {W:World} {g off k:Nat} {cs:List Value} (h:Jp (wm W) g off k cs):(loadCells ⟨g,off,none⟩ k).run P W= .ok cs.toArray W:=by
 have:=QaC (P:=P) (W:=W) (g:=g) (off:=off) k 0 cs #[] (fun j hj=>by rw [Nat.zero_add];exact h.cell hj) h.len
 simpa [loadCells] using this
theorem Yld.ldA {t:TypeId} {x:Operand} {ty:TypeId} {pos:String} {af:Array Edge} {d:Option Tmp} {gd:Option (Nat × Bool)} {g off k:Nat} {cs:List Value} (i:Nat) {m:Mem}
  (hx:ev σ x=some (.pointer (some ⟨g,off,none⟩))) (ht:tk P t=some (some k)) (hm:YA Ω i=some m) (hc:Jp m g off k cs):
  Yld P n w0 σ Ω ⟨d,.load t x,ty,pos,af,gd⟩ (.agg cs.toArray):=fun a W he hi=>by
 obtain ⟨h1,h2⟩:=QiK ht W
 simp [execOp,Instr.loadAt,he.eval hx,Instr.sureAddr,loadVar,h1,h2,Yp (hc.mono (hi.at hm))]
theorem Yld.ld1 {t:TypeId} {x:Operand} {ty:TypeId} {pos:String} {af:Array Edge} {d:Option Tmp} {gd:Option (Nat × Bool)} {g off:Nat} {v:Value} (i:Nat) {m:Mem}
  (hx:ev σ x=some (.pointer (some ⟨g,off,none⟩))) (ht:tk P t=some none) (hm:YA Ω i=some m) (hc:Jp m g off 1 [v]):
  Yld P n w0 σ Ω ⟨d,.load t x,ty,pos,af,gd⟩ v:=fun a W he hi=>by
 obtain ⟨h1,_⟩:=QgN ht W
 have:=(hc.mono (hi.at hm)).cell (i:=0) (by omega)
 simp at this
 simp [execOp,Instr.loadAt,he.eval hx,Instr.sureAddr,loadVar,h1,this]
theorem Qa {g off k:Nat} {c:Array Value} {E:TypeId} {fz:Nat × Nat} {cs:List Value} (h:Nat.ble (off+k) c.size=true) (hcs:(c.toList.drop off).take k=cs):Jp (Qo g (.cells c E fz)) g off k cs:=
 ⟨c,E,fz,Qn _ _,by simpa using h,hcs.symm⟩
inductive QnH (P : Program) (σ : Env) (Ω : Ctx) : List ResultVar → List Value → Prop
  | nil : QnH P σ Ω [] []
  | tmp {t : Nat} {v : Value} {r : List ResultVar} {vs : List Value} (h : QbB σ t = some v) (hr : QnH P σ Ω r vs) : QnH P σ Ω (.tmp t :: r) (v :: vs)
  | agg {a g off k : Nat} {T : TypeId} {cs : List Value} {r : List ResultVar} {vs : List Value} (i : Nat) {m : Mem} (h : QbB σ a = some (.pointer (some ⟨g, off, none⟩))) (ht : tk P T = some (some k)) (hm : YA Ω i = some m)
      (hc : ∃ c E fz, m g = some (.cells c E fz) ∧ off + k ≤ c.size ∧ cs = (c.toList.drop off).take k) (hr : QnH P σ Ω r vs) : QnH P σ Ω (.cell a T :: r) (.agg cs.toArray :: vs)
  | one {a g off : Nat} {T : TypeId} {v : Value} {r : List ResultVar} {vs : List Value} (i : Nat) {m : Mem} (h : QbB σ a = some (.pointer (some ⟨g, off, none⟩))) (ht : tk P T = some none) (hm : YA Ω i = some m)
      (hc : ∃ c E fz, m g = some (.cells c E fz) ∧ c[off]? = some v) (hr : QnH P σ Ω r vs) : QnH P σ Ω (.cell a T :: r) (v :: vs)
def Qu : List Value → Value
  | [v] => v
  | vs => .tuple vs.toArray
theorem QbM (x:Addr) (W:World):(asAddr (.pointer (some x))).run P W= .ok x W:=rfl
theorem QeU {T:TypeId} {k g off:Nat} {cs:List Value} {W:World} (ht:tk P T=some (some k)) (hc:Jp (wm W) g off k cs):(loadVar T ⟨g,off,none⟩).run P W= .ok (.agg cs.toArray) W:=by
 obtain ⟨h1,h2⟩:=QiK ht W
 simp [loadVar,h1,h2,Yp hc]
theorem QeT {T:TypeId} {g off:Nat} {v:Value} {W:World} (ht:tk P T=some none) (hc:W.cell? ⟨g,off,none⟩=some v):(loadVar T ⟨g,off,none⟩).run P W= .ok v W:=by
 obtain ⟨h1,_⟩:=QgN ht W
 simp [loadVar,h1,hc]
theorem QoQ {W:World} {g off:Nat} {c:Array Value} {E:TypeId} {fz:Nat × Nat} {v:Value} (h:wm W g=some (.cells c E fz)) (hv:c[off]? =some v):W.cell? ⟨g,off,none⟩=some v:=by
 unfold wm at h
 unfold World.cell?
 simp only [h]
 exact hv
def resV (tmps : Array Value) : ResultVar → Sem Value
  | .tmp t => pure (tmps.getD t undef)
  | .cell x t => do loadVar t (← asAddr (tmps.getD x undef))
theorem QkL (fn:Func) (tmps:Array Value):results fn tmps=(do
 let vs ← fn.results.mapM (resV tmps)
 pure (if h:vs.size=1 then vs[0] else .tuple vs)):=by
 unfold results
 congr 2
theorem QnH.run {rs : List ResultVar} {vs : List Value} (h : QnH P σ Ω rs vs) {a : Act} {W : World} (he : Zk n σ a) (hi : Inv w0 Ω W) :
    (rs.mapM (resV a.tmps)).run P W = .ok vs W := by
  induction h with
  | nil => rfl
  | tmp h hr ih => simp only [List.mapM_cons, resV, Sem.run_bind, Sem.run_pure, Result.andThen_ok, he.get _ _ h, ih]
  | agg i h ht hm hc hr ih =>
    have hc' : Jp _ _ _ _ _ := hc
    simp only [List.mapM_cons, resV, Sem.run_bind, he.get _ _ h, QbM, Result.andThen_ok, QeU ht (hc'.mono (hi.at hm)), ih, Sem.run_pure]
  | one i h ht hm hc hr ih =>
    obtain ⟨c, E, fz, k1, k2⟩ := hc
    have k3 := QoQ (hi.at hm _ _ k1) k2
    simp only [List.mapM_cons, resV, Sem.run_bind, he.get _ _ h, QbM, Result.andThen_ok, QeT ht k3, ih, Sem.run_pure]
theorem QE {fn:Func} {rs:List ResultVar} {vs:List Value} (hfn:fn.results=rs.toArray) (h:QnH P σ Ω rs vs):∀ a W,Zk n σ a→Inv w0 Ω W→(results fn a.tmps).run P W= .ok (Qu vs) W:=fun a W he hi=>by
 rw [QkL,hfn,List.mapM_toArray]
 simp only [Sem.run_bind,Sem.run_map,h.run he hi,Result.andThen_ok,Sem.run_pure]
 match vs with
 | []=>rfl
 | [v]=>rfl
 | v::u::r=>rfl
theorem Qjs (W:World) (o:Obj):mle (wm W) (wm (W.alloc o)):=fun g x h=>by
 unfold wm at h ⊢
 have hl:g < W.heap.size:=(Array.getElem?_eq_some_iff.1 h).1
 rw [RowKit.Below.heap_alloc W o g hl]
 exact h
theorem QdO (W:World) (o:Obj):(wm (W.alloc o)) W.heap.size=some o:=by simp only [wm];exact heap_alloc_new W o
theorem Inv.alloc {W:World} (h:Inv w0 Ω W) (i:Nat) (o:Obj):Inv w0 ((i,Qo W.heap.size o)::Ω) (W.alloc o):=
 h.new i rfl rfl rfl (by simp) (Qjs W o) (Qaq (QdO W o)) fun g=>by
  by_cases hg:g=W.heap.size
  ·exact .inr (Nat.le_of_eq hg.symm)
  ·exact .inl (QdH _ hg)
theorem Stp.alloc {t:TypeId} {ty:TypeId} {pos:String} {af:Array Edge} {d:Option Tmp} {gd:Option (Nat × Bool)} {z:List Value} (i:Nat) (hz:tz P t=some z):
  Stp P n w0 σ Ω ⟨d,.alloc t,ty,pos,af,gd⟩ (fun v Ω'=>∃ g,v= .pointer (some ⟨g,0,none⟩)∧Ω'=(i,Qo g (.cells z.toArray t (0,0)))::Ω):=fun a W he hi K Q hK=>by
 obtain ⟨v,hv,hr⟩:=Qhy hz
 have hv':v.cells=z.toArray:=by rw [← hv]
 unfold Oper.wp
 have:(execOp a.eval ⟨d,.alloc t,ty,pos,af,gd⟩).run P W= .ok (.value (.pointer (some ⟨W.heap.size,0,none⟩))) (W.alloc (.cells z.toArray t (0,0))):=by
  simp [execOp,Instr.alloc,hr,newVar,newRow,hv']
 rw [this]
 exact hK _ _ _ ⟨_,rfl,rfl⟩ (hi.alloc i _)
theorem VO.alloc {r:List Oper} {d:Nat} {t:TypeId} {ty:TypeId} {pos:String} {af:Array Edge} {z:List Value} (i:Nat) (hd:Nat.blt d n=true) (hz:tz P t=some z)
  (h:∀ g,VO P n w0 ops r ((d,.pointer (some ⟨g,0,none⟩))::σ) ((i,Qo g (.cells z.toArray t (0,0)))::Ω) K):VO P n w0 ops (⟨some d,.alloc t,ty,pos,af,none⟩::r) σ Ω K:=
 VO.s hd (Stp.alloc i hz) fun _ _ ⟨g,hv,hΩ⟩=>hv ▸ hΩ ▸ h g
def Qla (m : Mem) (g : Nat) (o : Obj) : Mem := fun k => if k = g then some o else m k
theorem Qdc (g:Nat) (o o':Obj):Qla (Qo g o) g o'=Qo g o':=by
 funext k;unfold Qla Qo;split <;> rfl
def J8 (c : List Value) (off : Nat) (vs : List Value) : List Value := c.take off ++ (vs ++ c.drop (off + vs.length))
theorem QfZ (c:List Value) (off:Nat) (v:Value) (r:List Value) (h:off < c.length):J8 (c.set off v) (off+1) r=J8 c off (v::r):=by
 unfold J8
 rw [List.drop_set_of_lt (by omega),List.take_set,List.take_succ_eq_append_getElem h,List.set_append_right _ _ (by simp;omega)]
 have:off - (List.take off c).length=0:=by simp;omega
 rw [this]
 simp [Nat.add_assoc,Nat.add_comm 1]
theorem Qbd : ∀ (vs : List Value) (W : World) (g off : Nat) (c : Array Value) (E : TypeId) (fz : Nat × Nat), W.heap[g]? = some (.cells c E fz) → off + vs.length ≤ c.size → (fz.2 ≤ fz.1) → (∀ v ∈ vs, v.oneCell' = true) →
    ∀ i off', off = off' + i → ∃ W', (storeCells ⟨g, off', none⟩ vs i).run P W = .ok () W' ∧ W'.os = W.os ∧ W'.tape = W.tape ∧ W'.output = W.output ∧ W'.heap.size = W.heap.size ∧
      (∀ k, k ≠ g → W'.heap[k]? = W.heap[k]?) ∧ W'.heap[g]? = some (.cells (J8 c.toList off vs).toArray E fz)
  | [], W, g, off, c, E, fz, h, _, _, _, i, off', _ => ⟨W, by simp [storeCells], rfl, rfl, rfl, rfl, fun _ _ => rfl, by rw [h]; simp [J8]⟩
  | v :: r, W, g, off, c, E, fz, h, hl, hfz, h1, i, off', ho => by
    simp only [List.length_cons] at hl
    have hoff : off < c.size := by omega
    have hcell : W.cell? ⟨g, off, none⟩ = some c[off] := by simp [World.cell?, h, hoff]
    have hfr : W.frozen? ⟨g, off, none⟩ = false := by
      obtain ⟨lo, hi⟩ := fz
      simp only at hfz
      simp [World.frozen?, h]; omega
    have hset : (W.setCell ⟨g, off, none⟩ v).heap[g]? = some (.cells (c.setIfInBounds off v) E fz) := by
      simp [World.setCell, Array.getElem?_modify, h]
    obtain ⟨W', hrun, ho', ht, hu, hs, hk, hg⟩ := Qbd r (W.setCell ⟨g, off, none⟩ v) g (off + 1) (c.setIfInBounds off v) E fz hset (by simp; omega) hfz (fun x hx => h1 x (.tail _ hx)) (i + 1) off' (by omega)
    refine ⟨W', ?_, ho', ht, hu, by rw [hs]; simp, fun k hk' => ?_, ?_⟩
    · simp only [storeCells, Sem.run_bind, QaU, ← ho]
      rw [run_store P W _ v _ (h1 v (.head _)), hcell]
      simp only [hfr, Bool.false_eq_true, if_false, Result.andThen_ok]
      exact hrun
    · rw [hk k hk']
      simp only [World.setCell, Array.getElem?_modify]
      rw [if_neg (by simpa using (Ne.symm hk'))]
    · rw [hg]
      congr 2
      rw [Array.toList_setIfInBounds]
      exact congrArg _ (QfZ c.toList off v r (by simpa using hoff))
end
section
variable {P : Program} {n : Nat} {w0 : World} {σ : Env} {Ω : Ctx} {ops : Array Oper} {K : Env → Ctx → Prop}
variable {ty : TypeId} {pos : String} {af : Array Edge} {d : Option Tmp} {gd : Option (Nat × Bool)} {r : List Oper}
def nice (v : Value) : Bool := v.cells.toList.all (·.oneCell')
theorem Stp.store {t:TypeId} {x y:Operand} {g off:Nat} {v:Value} {k:Nat} (i:Nat) {m:Mem} {c:Array Value} {E:TypeId}
  (hx:ev σ x=some (.pointer (some ⟨g,off,none⟩))) (hy:ev σ y=some v) (ht:tk P t=some (some k)∨(tk P t=some none∧k=1)) (hk:Nat.beq v.cells.size k=true) (hn:nice v=true)
  (hm:YA Ω i=some m) (hg:m g=some (.cells c E (0,0))) (hl:Nat.ble (off+k) c.size=true):
  Stp P n w0 σ Ω ⟨d,.store t x y,ty,pos,af,gd⟩ (fun u Ω'=>u=undef∧Ω'=Qbz Ω i (Qla m g (.cells (J8 c.toList off v.cells.toList).toArray E (0,0)))):=fun a W he hi K' Q hK=>by
 have hsz:(sizeOf t).run P W= .ok k W:=by
  rcases ht with h | ⟨h,rfl⟩
  ·exact (QiK h W).2
  ·exact (QgN h W).2
 have hks:=Nat.eq_of_beq_eq_true hk
 have hwm:W.heap[g]? =some (.cells c E (0,0)):=hi.at hm g _ hg
 obtain ⟨W',hrun,ho,htp,hu,hs,hfar,hgg⟩:=Qbd (P:=P) v.cells.toList W g off c E (0,0) hwm (by simp [hks];simpa using hl) (Nat.le_refl _)
  (fun u hu=>by unfold nice at hn;rw [List.all_eq_true] at hn;exact hn u hu) 0 off rfl
 unfold Oper.wp
 have hex:(execOp a.eval ⟨d,.store t x y,ty,pos,af,gd⟩).run P W= .ok .skip W':=by
  simp [execOp,Instr.storeAt,he.eval hx,he.eval hy,Instr.sureAddr,storeVar,hsz,hks,hrun]
 rw [hex]
 refine hK undef _ W' ⟨rfl,rfl⟩ (hi.set hm ho htp hu (Nat.le_of_eq hs.symm) (fun k o h=>?_) (fun k o h=>?_) (fun k=>?_))
 ·unfold Ju at h
  split at h
  ·cases h
  ·rename_i hn
   have hkg:k≠g:=by rintro rfl;rw [hg] at hn;cases hn
   unfold wm at h ⊢
   rw [hfar k hkg];exact h
 ·unfold Qla at h
  split at h
  ·rename_i hkg;subst hkg;unfold wm;rw [hgg];exact h
  ·rename_i hkg;unfold wm;rw [hfar k hkg];exact hi.at hm k o h
 ·by_cases hkg:k=g
  ·subst hkg;right;left;rw [hg];simp
  ·cases hmk:m k with
   | none=>left;simp [Qla,hkg,hmk]
   | some o=>right;left;simp
theorem VO.store {t:TypeId} {x y:Operand} {g off:Nat} {v:Value} {k:Nat} (i:Nat) {c:Array Value} {E:TypeId} {c':List Value}
  (hx:ev σ x=some (.pointer (some ⟨g,off,none⟩))) (hy:ev σ y=some v) (ht:tk P t=some (some k)∨(tk P t=some none∧k=1)) (hk:Nat.beq v.cells.size k=true) (hn:nice v=true)
  (hm:YA Ω i=some (Qo g (.cells c E (0,0)))) (hl:Nat.ble (off+k) c.size=true) (hc:J8 c.toList off v.cells.toList=c')
  (h:VO P n w0 ops r σ (Qbz Ω i (Qo g (.cells c'.toArray E (0,0)))) K):VO P n w0 ops (⟨none,.store t x y,ty,pos,af,none⟩::r) σ Ω K:=
 VO.u (Stp.store i hx hy ht hk hn hm (Qn _ _) hl) fun _ _ ⟨_,hΩ⟩=>by rw [hΩ,Qdc,hc];exact h
theorem Yld.mv {x:Operand} {v:Value} (hx:ev σ x=some v):Yld P n w0 σ Ω ⟨d,.move x,ty,pos,af,gd⟩ v:=fun a W he _=>by
 simp [execOp,he.eval hx]
theorem Yld.as {x:Operand} {v:Value} (hx:ev σ x=some v):Yld P n w0 σ Ω ⟨d,.assign x,ty,pos,af,gd⟩ v:=fun a W he _=>by
 simp [execOp,he.eval hx]
theorem Yld.pT {c x y:Operand} {v:Value} (hc:ev σ c=some (.bool true)) (hx:ev σ x=some v):Yld P n w0 σ Ω ⟨d,.pick c x y,ty,pos,af,gd⟩ v:=fun a W he _=>by
 simp [execOp,he.eval hc,he.eval hx,asBool]
theorem Yld.pF {c x y:Operand} {v:Value} (hc:ev σ c=some (.bool false)) (hy:ev σ y=some v):Yld P n w0 σ Ω ⟨d,.pick c x y,ty,pos,af,gd⟩ v:=fun a W he _=>by
 simp [execOp,he.eval hc,he.eval hy,asBool]
theorem Yld.not {x:Operand} {t:TypeId} {b:Bool} (hx:ev σ x=some (.bool b)):Yld P n w0 σ Ω ⟨d,.unOp .not t x,ty,pos,af,gd⟩ (.bool (!b)):=fun a W he _=>by
 simp [execOp,he.eval hx,Op.unary]
theorem Yld.notD {x:Operand} {t:TypeId} {p:Prop} [Decidable p] (hx:ev σ x=some (.bool (decide p))):Yld P n w0 σ Ω ⟨d,.unOp .not t x,ty,pos,af,gd⟩ (.bool (decide (¬ p))):=by
 have:=Yld.not (P:=P) (n:=n) (w0:=w0) (Ω:=Ω) (ty:=ty) (pos:=pos) (af:=af) (d:=d) (gd:=gd) (t:=t) hx
 simpa using this
theorem Yld.nilp {x:Operand} {a:Addr} (hx:ev σ x=some (.pointer (some a))):Yld P n w0 σ Ω ⟨d,.nilCheck x,ty,pos,af,gd⟩ (.pointer (some a)):=fun a W he _=>by
 simp [execOp,he.eval hx]
theorem Yld.ext {x:Operand} {vs:Array Value} {i:Nat} {v:Value} (hx:ev σ x=some (.tuple vs)) (hv:vs[i]? =some v):Yld P n w0 σ Ω ⟨d,.extract x i,ty,pos,af,gd⟩ v:=fun a W he _=>by
 simp [execOp,he.eval hx,Instr.extract,hv]
section
variable {x y : Operand} {t u : TypeId} {k : IntKind} {a b : Int}
theorem ZE (op:BinOp) (t:TypeId) (x y:Operand) (k k':IntKind) (a b:Int) (W:World):(eqGuard op t x y (.int k a) (.int k' b)).run P W= .ok () W:=by
 unfold eqGuard;cases op <;> simp
theorem Yld.lss (hx:ev σ x=some (.int k a)) (hy:ev σ y=some (.int k b)):Yld P n w0 σ Ω ⟨d,.binOp .lss t x y u,ty,pos,af,gd⟩ (.bool (decide (a < b))):=fun A W he _=>by
 simp [execOp,he.eval hx,he.eval hy,ZE,binOp,Op.intCmp]
theorem Yld.leq (hx:ev σ x=some (.int k a)) (hy:ev σ y=some (.int k b)):Yld P n w0 σ Ω ⟨d,.binOp .leq t x y u,ty,pos,af,gd⟩ (.bool (decide (a≤b))):=fun A W he _=>by
 simp [execOp,he.eval hx,he.eval hy,ZE,binOp,Op.intCmp]
theorem Yld.gtr (hx:ev σ x=some (.int k a)) (hy:ev σ y=some (.int k b)):Yld P n w0 σ Ω ⟨d,.binOp .gtr t x y u,ty,pos,af,gd⟩ (.bool (decide (b < a))):=fun A W he _=>by
 simp [execOp,he.eval hx,he.eval hy,ZE,binOp,Op.intCmp]
theorem Yld.geq (hx:ev σ x=some (.int k a)) (hy:ev σ y=some (.int k b)):Yld P n w0 σ Ω ⟨d,.binOp .geq t x y u,ty,pos,af,gd⟩ (.bool (decide (b≤a))):=fun A W he _=>by
 simp [execOp,he.eval hx,he.eval hy,ZE,binOp,Op.intCmp]
theorem Yld.eql (hx:ev σ x=some (.int k a)) (hy:ev σ y=some (.int k b)):Yld P n w0 σ Ω ⟨d,.binOp .eql t x y u,ty,pos,af,gd⟩ (.bool (decide (a=b))):=fun A W he _=>by
 simp [execOp,he.eval hx,he.eval hy,ZE,binOp,Op.intCmp];rfl
theorem Yld.neq (hx:ev σ x=some (.int k a)) (hy:ev σ y=some (.int k b)):Yld P n w0 σ Ω ⟨d,.binOp .neq t x y u,ty,pos,af,gd⟩ (.bool (decide (¬ a=b))):=fun A W he _=>by
 simp [execOp,he.eval hx,he.eval hy,ZE,binOp,Op.intCmp,bne];rfl
theorem Yld.addW (hx:ev σ x=some (.int k a)) (hy:ev σ y=some (.int k b)):Yld P n w0 σ Ω ⟨d,.binOp .add t x y u,ty,pos,af,gd⟩ (.int k (k.wrap (a+b))):=fun A W he _=>by
 simp [execOp,he.eval hx,he.eval hy,ZE,binOp,Op.intArith]
theorem Yld.subW (hx:ev σ x=some (.int k a)) (hy:ev σ y=some (.int k b)):Yld P n w0 σ Ω ⟨d,.binOp .sub t x y u,ty,pos,af,gd⟩ (.int k (k.wrap (a - b))):=fun A W he _=>by
 simp [execOp,he.eval hx,he.eval hy,ZE,binOp,Op.intArith]
theorem Yld.mulW (hx:ev σ x=some (.int k a)) (hy:ev σ y=some (.int k b)):Yld P n w0 σ Ω ⟨d,.binOp .mul t x y u,ty,pos,af,gd⟩ (.int k (k.wrap (a*b))):=fun A W he _=>by
 simp [execOp,he.eval hx,he.eval hy,ZE,binOp,Op.intArith]
theorem Yld.add {c:Int} (hx:ev σ x=some (.int .i64 a)) (hy:ev σ y=some (.int .i64 b)) (hc:a+b=c) (h: -9223372036854775808≤c∧c≤9223372036854775807):
  Yld P n w0 σ Ω ⟨d,.binOp .add t x y u,ty,pos,af,gd⟩ (.int .i64 c):=by
 have:=Yld.addW (P:=P) (n:=n) (w0:=w0) (Ω:=Ω) (ty:=ty) (pos:=pos) (af:=af) (d:=d) (gd:=gd) (t:=t) (u:=u) hx hy
 rwa [hc,IntWalk.i64_in c h] at this
theorem Yld.sub {c:Int} (hx:ev σ x=some (.int .i64 a)) (hy:ev σ y=some (.int .i64 b)) (hc:a - b=c) (h: -9223372036854775808≤c∧c≤9223372036854775807):
  Yld P n w0 σ Ω ⟨d,.binOp .sub t x y u,ty,pos,af,gd⟩ (.int .i64 c):=by
 have:=Yld.subW (P:=P) (n:=n) (w0:=w0) (Ω:=Ω) (ty:=ty) (pos:=pos) (af:=af) (d:=d) (gd:=gd) (t:=t) (u:=u) hx hy
 rwa [hc,IntWalk.i64_in c h] at this
theorem Yld.mul {c:Int} (hx:ev σ x=some (.int .i64 a)) (hy:ev σ y=some (.int .i64 b)) (hc:a*b=c) (h: -9223372036854775808≤c∧c≤9223372036854775807):
  Yld P n w0 σ Ω ⟨d,.binOp .mul t x y u,ty,pos,af,gd⟩ (.int .i64 c):=by
 have:=Yld.mulW (P:=P) (n:=n) (w0:=w0) (Ω:=Ω) (ty:=ty) (pos:=pos) (af:=af) (d:=d) (gd:=gd) (t:=t) (u:=u) hx hy
 rwa [hc,IntWalk.i64_in c h] at this
end
theorem Yld.lenS {x:Operand} {t e:TypeId} {A:Option Addr} {l c s b:Nat} (hx:ev σ x=some (.slice A l c)) (ht:tsl P t=some (e,s,b)):
  Yld P n w0 σ Ω ⟨d,.call { callee:= .builtin .len,args:=[x].toArray,argTypes:=[t].toArray },ty,pos,af,gd⟩ (.int .i64 l):=fun a W he _=>by
 obtain ⟨h1,_⟩:=QbH ht
 simp [execOp,resolve,invoke,builtin,Builtin.len_,he.eval hx,Qj h1,goInt]
theorem Yld.lenT {x:Operand} {t:TypeId} {s:List UInt8} (hx:ev σ x=some (.string ⟨s.toArray⟩)) (ht:P.underlying t=some .string):
  Yld P n w0 σ Ω ⟨d,.call { callee:= .builtin .len,args:=[x].toArray,argTypes:=[t].toArray },ty,pos,af,gd⟩ (.int .i64 s.length):=fun a W he _=>by
 have e:(⟨s.toArray⟩:ByteArray).size=s.length:=by show s.toArray.size=_;simp
 simp [execOp,resolve,invoke,builtin,Builtin.len_,he.eval hx,Qj ht,goInt,e]
theorem Yld.min {x y:Operand} {t u:TypeId} {k:IntKind} {a b:Int} (hx:ev σ x=some (.int k a)) (hy:ev σ y=some (.int k b)):
  Yld P n w0 σ Ω ⟨d,.call { callee:= .builtin .min,args:=[x,y].toArray,argTypes:=[t,u].toArray },ty,pos,af,gd⟩ (.int k (if b < a then b else a)):=fun A W he _=>by
 simp [execOp,resolve,invoke,builtin,Builtin.min_,Builtin.min2,he.eval hx,he.eval hy]
theorem Yld.max {x y:Operand} {t u:TypeId} {k:IntKind} {a b:Int} (hx:ev σ x=some (.int k a)) (hy:ev σ y=some (.int k b)):
  Yld P n w0 σ Ω ⟨d,.call { callee:= .builtin .max,args:=[x,y].toArray,argTypes:=[t,u].toArray },ty,pos,af,gd⟩ (.int k (if b > a then b else a)):=fun A W he _=>by
 simp [execOp,resolve,invoke,builtin,Builtin.max_,Builtin.max2,he.eval hx,he.eval hy]
theorem Yld.sl {x lo hi:Operand} {t e:TypeId} {A:Option Addr} {l c s b i j:Nat} {k k':IntKind} (hx:ev σ x=some (.slice A l c)) (hlo:ev σ lo=some (.int k i)) (hhi:ev σ hi=some (.int k' j)) (ht:tsl P t=some (e,s,b))
  (hij:i≤j) (hjc:j≤c):
  Yld P n w0 σ Ω ⟨d,.slice t x (some lo) (some hi) none,ty,pos,af,gd⟩ (.slice (if c=i then A else A.map (·.add (i*s))) (j - i) (c - i)):=fun a W he _=>by
 obtain ⟨h1,i',h2,h3,_⟩:=QbH ht
 have e1:(j:Int)≤c:=by omega
 have e2:(i:Int)≤j:=by omega
 simp [execOp,Instr.sliceAt,Instr.slice,Instr.sliceBounds,Instr.sliceBound,asIntOf,he.eval hx,he.eval hlo,he.eval hhi,Qj h1,J0 h2,h3,hij,hjc]
theorem Yld.slL {x lo:Operand} {t e:TypeId} {A:Option Addr} {l c s b i:Nat} {k:IntKind} (hx:ev σ x=some (.slice A l c)) (hlo:ev σ lo=some (.int k i)) (ht:tsl P t=some (e,s,b))
  (hil:i≤l):
  Yld P n w0 σ Ω ⟨d,.slice t x (some lo) none none,ty,pos,af,gd⟩ (.slice (if c=i then A else A.map (·.add (i*s))) (l - i) (c - i)):=fun a W he _=>by
 obtain ⟨h1,i',h2,h3,_⟩:=QbH ht
 simp [execOp,Instr.sliceAt,Instr.slice,Instr.sliceBounds,Instr.sliceBound,asIntOf,he.eval hx,he.eval hlo,Qj h1,J0 h2,h3,hil]
theorem Yld.slH {x hi:Operand} {t e:TypeId} {A:Option Addr} {l c s b j:Nat} {k:IntKind} (hx:ev σ x=some (.slice A l c)) (hhi:ev σ hi=some (.int k j)) (ht:tsl P t=some (e,s,b))
  (hjc:j≤c):
  Yld P n w0 σ Ω ⟨d,.slice t x none (some hi) none,ty,pos,af,gd⟩ (.slice A j c):=fun a W he _=>by
 obtain ⟨h1,i',h2,h3,_⟩:=QbH ht
 have e0:(if c=0 then A else A.map (fun z=>z.add 0))=A:=by
  split
  ·rfl
  ·cases A <;> simp [Addr.add]
 simp [execOp,Instr.sliceAt,Instr.slice,Instr.sliceBounds,Instr.sliceBound,asIntOf,he.eval hx,he.eval hhi,Qj h1,J0 h2,hjc,e0]
theorem Yld.ix {x y:Operand} {t e:TypeId} {g off l c s b i:Nat} {k:IntKind} (hx:ev σ x=some (.slice (some ⟨g,off,none⟩) l c)) (hy:ev σ y=some (.int k i)) (ht:tsl P t=some (e,s,b)) (hi:i < l):
  Yld P n w0 σ Ω ⟨d,.indexAddr t x y,ty,pos,af,gd⟩ (.pointer (some ⟨g,off+i*s,none⟩)):=fun a W he _=>by
 obtain ⟨h1,i',h2,h3,_⟩:=QbH ht
 have e1:(i:Int) < l:=by omega
 simp [execOp,Instr.indexAt,asIntOf,he.eval hx,he.eval hy,Qj h1,J0 h2,h3,hi,QaU]
theorem Yld.ixI {x y:Operand} {t e:TypeId} {g off l c s b:Nat} {k:IntKind} {a:Int} (i:Nat) (hx:ev σ x=some (.slice (some ⟨g,off,none⟩) l c)) (hy:ev σ y=some (.int k a)) (ht:tsl P t=some (e,s,b)) (ha:a=i) (hi:i < l):
  Yld P n w0 σ Ω ⟨d,.indexAddr t x y,ty,pos,af,gd⟩ (.pointer (some ⟨g,off+i*s,none⟩)):=by
 subst ha;exact Yld.ix hx hy ht hi
theorem QjY {α β : Type} {f : α → Option β} : ∀ {l : List α} {r : List β} {i : Nat} {y : β}, l.mapM f = some r → r[i]? = some y → ∃ x, l[i]? = some x ∧ f x = some y
  | [], r, i, y, h, hi => by simp at h; subst h; simp at hi
  | x :: l, r, i, y, h, hi => by
    simp only [List.mapM_cons, Option.bind_eq_bind, Option.bind_eq_some_iff] at h
    obtain ⟨z, hz, r', hr', h⟩ := h
    simp only [Option.pure_def, Option.some.injEq] at h
    subst h
    cases i with
    | zero => simp at hi; subst hi; exact ⟨x, rfl, hz⟩
    | succ i => simpa using QjY hr' (by simpa using hi)
theorem Qlw {t:TypeId} {fs:List (Nat × Nat)} (h:tst P t=some fs) {i o z:Nat} (hi:fs[i]? =some (o,z)):
  ∃ F:Array Field,P.underlying t=some (.struct F)∧∃ f,F[i]? =some f∧f.offset=o∧∃ j,P.info? f.type=some j∧j.size=z∧z≠0:=by
 unfold tst at h
 split at h
 ·rename_i F hF
  refine ⟨F,hF,?_⟩
  obtain ⟨f,hf,hfi⟩:=QjY h hi
  simp only [Option.bind_eq_some_iff] at hfi
  obtain ⟨j,hj,hj2⟩:=hfi
  split at hj2
  ·cases hj2
  ·rename_i hz
   simp only [Option.some.injEq,Prod.mk.injEq] at hj2
   exact ⟨f,by simpa using hf,hj2.1,j,hj,hj2.2,hj2.2 ▸ hz⟩
 ·cases h
theorem Yld.fa {x:Operand} {t:TypeId} {g off i o z:Nat} {fs:List (Nat × Nat)} (hx:ev σ x=some (.pointer (some ⟨g,off,none⟩))) (ht:tst P t=some fs) (hi:fs[i]? =some (o,z)):
  Yld P n w0 σ Ω ⟨d,.fieldAddr t x i,ty,pos,af,gd⟩ (.pointer (some ⟨g,off+o,none⟩)):=fun a W he _=>by
 obtain ⟨F,h1,f,h2,h3,j,h4,h5,h6⟩:=Qlw ht hi
 simp [execOp,Instr.fieldAt,he.eval hx,Qj h1,h2,Instr.sureAddr,fieldPlace,J0 h4,h5,h6,h3,QaU]
end
def Qj2 (ops : Array Oper) (k : Nat) : Bool := match ops[k]? with
  | some ⟨none, .store _ _ _, _, _, _, _⟩ => true
  | _ => false
def QdN (ops : Array Oper) (L : Array Bool) : Bool := (List.range ops.size).any fun k => L.getD k false && Qj2 ops k
def QfB (ΩS : Ctx) : Ctx := ΩS.filter fun p => Nat.blt p.1 2000
def Qd3 (ops : Array Oper) (ΩS : Ctx) (L : Array Bool) : Ctx := cond (QdN ops L) (QfB ΩS) ΩS
theorem Qnz {ops:Array Oper} {i:Nat} {L:Array Bool} (h:Qj2 ops i=false):QdN ops (L.setIfInBounds i true)=QdN ops L:=by
 unfold QdN
 congr 1
 funext k
 by_cases hk:i=k
 ·subst hk;rw [h,Bool.and_false,Bool.and_false]
 ·rw [getD_set_ne false hk]
theorem Inv.low {w0 W:World} {Ω:Ctx} (h:Inv w0 Ω W):Inv w0 (QfB Ω) W:=
 ⟨h.os,h.tape,h.output,h.size,fun p hp=>h.le p (List.mem_filter.1 hp).1,h.dj.filter _⟩
theorem Inv.cur {w0 W:World} {Ω:Ctx} {ops:Array Oper} {L:Array Bool} (h:Inv w0 Ω W):Inv w0 (Qd3 ops Ω L) W:=by
 unfold Qd3;cases QdN ops L
 ·exact h
 ·exact h.low
theorem Inv.curLow {w0 W:World} {Ω:Ctx} {ops:Array Oper} {L:Array Bool} (h:Inv w0 (Qd3 ops Ω L) W):Inv w0 (QfB Ω) W:=by
 unfold Qd3 at h;cases hb:QdN ops L
 ·rw [hb] at h;exact h.low
 ·rw [hb] at h;exact h
theorem QaL {ops:Array Oper} {i:Nat} {L:Array Bool} {Ω:Ctx} (h:Qj2 ops i=false):Qd3 ops Ω (L.setIfInBounds i true)=Qd3 ops Ω L:=by unfold Qd3;rw [Qnz h]
section
variable {P : Program} {ops : Array Oper} {Q : Exit → Act → World → Prop} {S : Array Bool → World → Prop} {T : World → Prop}
def QbD (P : Program) (ops : Array Oper) (Q : Exit → Act → World → Prop) (S : Array Bool → World → Prop) (t : Nat) : Nat → Array Bool → Act → World → Prop
  | 0, listed, a, w => Region.ready .any ops listed = [] ∧ Q .normal a w
  | fuel + 1, listed, a, w =>
    (Region.ready .any ops listed = [] → Q .normal a w) ∧
    ∀ i ∈ Region.ready .any ops listed, wpOp P ops Q i (fun a' w' => (i < t → S (listed.setIfInBounds i true) w') ∧ QbD P ops Q S t fuel (listed.setIfInBounds i true) a' w') a w
theorem Qb3 {t:Nat}:∀ (fuel:Nat) (listed:Array Bool) (a:Act) (w:World),QbD P ops Q S t fuel listed a w→wpAny P .any ops Q fuel listed a w
 | 0,_,_,_,h=>h
 | fuel+1,_,_,_,h=>⟨h.1,fun i hi=>wpOp_mono (fun a' w' h'=>Qb3 fuel _ a' w' h'.2) (h.2 i hi)⟩
theorem Qaz {t i : Nat} {oi : Oper} {v : Value} (hi : ops[i]? = some oi) (hit : i < t) (htn : t < ops.size ∨ ops.size ≤ t) (hsel : ∀ (j : Nat) (o : Oper) cs b, ops[j]? = some o → o.op ≠ .select cs b)
    (hT : ∀ L w, HeadInv .any ops t L → L.getD i true = false → S L w → T w) (hset : ∀ L w, S (L.setIfInBounds i true) w ↔ S L w)
    (hQ : ∀ c a w, Q (.panic c) (a.put oi.dst v) w → Q (.panic c) a w) (hs : t < ops.size → Region.sinkB .any ops t = true) (hc : t < ops.size → Region.chainB .any ops t = true) :
    ∀ (fuel : Nat) (listed : Array Bool) (a : Act) (w : World), HeadInv .any ops t listed →
      (∀ j oj, ops[j]? = some oj → j ≠ i → listed.getD j true = false → (∀ e ∈ oj.after, Region.binds .any e = true → e.on ≠ i) → oi.apart ops oj = true) →
      i ∈ Region.ready .any ops listed → YieldsIf P ops T oi v a → S listed w →
      QbD P ops Q S t fuel (listed.setIfInBounds i true) (a.put oi.dst v) w → QbD P ops Q S t (fuel + 1) listed a w := by
  intro fuel
  induction fuel with
  | zero =>
    intro listed a w inv _ hr hy hS H
    refine ⟨fun h => (by rw [h] at hr; cases hr), fun j hj => ?_⟩
    by_cases hji : j = i
    · subst hji; exact hy.wpOp hi (hT _ _ inv (mem_ready.1 hr).1 hS) ⟨fun _ => (hset _ _).2 hS, H⟩
    · have := ready_mono hj hji
      rw [H.1] at this
      cases this
  | succ fuel ih =>
    intro listed a w inv hfree hr hy hS H
    have hun := (mem_ready.1 hr).1
    refine ⟨fun h => (by rw [h] at hr; cases hr), fun j hj => ?_⟩
    by_cases hji : j = i
    · subst hji; exact hy.wpOp hi (hT _ _ inv (mem_ready.1 hr).1 hS) ⟨fun _ => (hset _ _).2 hS, H⟩
    · have hjt : j < t := by
        rcases htn with htn | htn
        · rcases Nat.lt_or_ge j t with h | h
          · exact h
          · exact absurd hj (tail_waits (hs htn) (hc htn) htn inv _ i rfl hit hun j h)
        · obtain ⟨_, oj, hoj, _⟩ := mem_ready.1 hj
          exact Nat.lt_of_lt_of_le (Array.getElem?_eq_some_iff.1 hoj).1 htn
      have h1 := H.2 j (ready_mono hj hji)
      obtain ⟨hjun, oj, hoj, hall⟩ := mem_ready.1 hj
      have hnot : ∀ e ∈ oj.after, Region.binds .any e = true → e.on ≠ i := fun e he hb heq => by
        have h1 := hall e he hb
        rw [heq, getD_both hun] at h1
        cases h1
      have h2 := wpOp_putIf hoj (hfree j oj hoj hji hjun hnot) (fun cs b => hsel i oi cs b hi) (fun cs b => hsel j oj cs b hoj) hQ hy h1
      have hfree' : ∀ k ok, ops[k]? = some ok → k ≠ i → (listed.setIfInBounds j true).getD k true = false →
          (∀ e ∈ ok.after, Region.binds .any e = true → e.on ≠ i) → oi.apart ops ok = true := fun k ok hk hki hun hno => by
        refine hfree k ok hk hki ?_ hno
        by_cases hjk : j = k
        · subst hjk; exact hjun
        · rw [getD_set_ne true hjk] at hun; exact hun
      refine wpOp_mono (fun a' w' h3 => ⟨fun _ => (hset _ _).1 (by have := h3.2.1 hjt; rwa [Array.setIfInBounds_comm _ _ (Ne.symm hji)] at this), ih (listed.setIfInBounds j true) a' w' (inv.set hj hjt) hfree' (ready_mono hr (Ne.symm hji)) h3.1 ((hset _ _).1 (by have := h3.2.1 hjt; rwa [Array.setIfInBounds_comm _ _ (Ne.symm hji)] at this)) ?_⟩) h2
      rw [Array.setIfInBounds_comm _ _ hji]
      exact h3.2.2
def Qbu (ops : Array Oper) (t : Nat) : List (Nat × Bool) → Array Bool → Bool
  | [], listed => okTail ops (ops.size - t) t listed
  | (i, mv) :: r, listed => Nat.blt i t && (bif mv then (Region.ready .any ops listed).contains i && Region.free .any ops listed i else Region.ready .any ops listed == [i]) && Qbu ops t r (listed.setIfInBounds i true)
where
  okTail (ops : Array Oper) : Nat → Nat → Array Bool → Bool
  | 0, _, listed => Region.ready .any ops listed == []
  | f + 1, k, listed => Region.ready .any ops listed == [k] && okTail ops f (k + 1) (listed.setIfInBounds k true)
def Qg1 (ops : Array Oper) (t : Nat) (l : List (Nat × Bool)) : Bool :=
  Nat.beq (l.length + (ops.size - t)) ops.size && Region.noSelect ops && (Nat.ble ops.size t || (Region.sinkB .any ops t && Region.chainB .any ops t)) && Qbu ops t l (Array.replicate ops.size false)
theorem QcH {t : Nat} : ∀ (f k : Nat) (listed : Array Bool) (a : Act) (w : World), Qbu.okTail ops f k listed = true → t ≤ k → k + f = ops.size → wpList P ops Q (ops.toList.drop k) a w → QbD P ops Q S t f listed a w
  | 0, k, listed, a, w, ho, _, hk, h => by
    have hr : Region.ready .any ops listed = [] := by simpa [Qbu.okTail] using ho
    refine ⟨hr, ?_⟩
    rw [List.drop_of_length_le (by simp; omega)] at h
    exact h
  | f + 1, k, listed, a, w, ho, htk, hk, h => by
    simp only [Qbu.okTail, Bool.and_eq_true, beq_iff_eq] at ho
    obtain ⟨hr, ho⟩ := ho
    refine ⟨fun h0 => (by rw [hr] at h0; cases h0), fun i hi => ?_⟩
    rw [hr, List.mem_singleton] at hi
    subst hi
    have hlt : i < ops.size := by omega
    rw [List.drop_eq_getElem_cons (by simpa using hlt)] at h
    have hoi : ops[i]? = some ops[i] := Array.getElem?_eq_getElem hlt
    simp only [wpList, Array.getElem_toList] at h
    simp only [wpOp, hoi]
    have hK : ∀ a' w', wpList P ops Q (List.drop (i + 1) ops.toList) a' w' → (i < t → S (listed.setIfInBounds i true) w') ∧ QbD P ops Q S t f (listed.setIfInBounds i true) a' w' :=
      fun a' w' h' => ⟨fun hlt' => by omega, QcH f (i + 1) _ a' w' ho (by omega) (by omega) h'⟩
    split
    · rename_i hw; rw [if_pos hw] at h; exact h.imp (Oper.wp_mono hK) id
    · rename_i hw; rw [if_neg hw] at h; exact hK _ _ h
end
section
variable (P : Program) (n : Nat) (w0 : World)
def VD (ops : Array Oper) (ΩS : Ctx) (t : Nat) (l : List (Nat × Bool)) (σ : Env) (Ω : Ctx) (K : Env → Ctx → Prop) : Prop :=
  ∀ Q : Exit → Act → World → Prop, (∀ c a w, ¬ Q (.panic c) a w) → (∀ σ' Ω' a W, K σ' Ω' → Zk n σ' a → Inv w0 Ω' W → Q .normal a W) →
    ∀ (listed : Array Bool) a W, Zk n σ a → Inv w0 Ω W → Inv w0 (Qd3 ops ΩS listed) W → Qbu ops t l listed = true → HeadInv .any ops t listed → Region.noSelect ops = true → (t < ops.size → Region.sinkB .any ops t = true ∧ Region.chainB .any ops t = true) → QbD P ops Q (fun L w => Inv w0 (Qd3 ops ΩS L) w) t (l.length + (ops.size - t)) listed a W
end
section
variable {P : Program} {n : Nat} {w0 : World} {σ : Env} {Ω ΩS : Ctx} {ops : Array Oper} {t : Nat} {K : Env → Ctx → Prop} {R : Exit → Env → Ctx → Prop}
theorem HeadInv.start (ops:Array Oper) (t:Nat):HeadInv .any ops t (Array.replicate ops.size false):=
 ⟨by simp,fun j oj _ h=>(by rw [getD_replicate_false] at h;cases h),fun k _ hk=>by simp [hk]⟩
theorem VC.regD {id:Nat} {l:List Oper} (ΩS:Ctx) (t:Nat) (sched:List (Nat × Bool)) (hm:P.follows .mixedOrders=true) (hs:Qg1 l.toArray t sched=true) (hΩ:∀ W,Inv w0 Ω W→Inv w0 ΩS W)
  (h:VD P n w0 l.toArray ΩS t sched σ Ω (R .normal)):VC P n w0 (.region id l.toArray true) R σ Ω:=
 fun Q hQ a W he hi=>by
  unfold Qg1 at hs
  simp only [Bool.and_eq_true,Bool.or_eq_true] at hs
  obtain ⟨⟨⟨h0,h1⟩,h2⟩,h3⟩:=hs
  have h4:t < l.toArray.size→Region.sinkB .any l.toArray t=true∧Region.chainB .any l.toArray t=true:=fun hlt=>by
   rcases h2 with h2 | h2
   ·have:=Nat.le_of_ble_eq_true h2;omega
   ·exact h2
  let Q':Exit→Act→World→Prop:=fun e a w=>match e with | .normal=>Q .normal a w | _=>False
  refine wp_mono (Q:=Q') ?_ (fun e a w hq=>by cases e <;> first | exact hq | exact hq.elim)
  have:=h Q' (fun _ _ _ hq=>hq) (fun σ' Ω' a W hk=>hQ _ σ' Ω' a W hk) (Array.replicate l.toArray.size false) a W.drew he hi.drew (hΩ W hi).drew.cur h3 (HeadInv.start _ _) h1 h4
  refine wp_region_any hm (Qb3 (S:=fun L w=>Inv w0 (Qd3 l.toArray ΩS L) w) (t:=t) _ _ _ _ ?_)
  rw [Nat.eq_of_beq_eq_true h0] at this
  exact this
theorem VD.nil {l:List Oper} (hl:ops.toList.drop t=l) (h:VO P n w0 ops l σ Ω K) (ht:Nat.ble t ops.size=true):VD P n w0 ops ΩS t [] σ Ω K:=
 fun Q _ hQ listed a W he hi _ ho _ _ _=>by
  have htl:=Nat.le_of_ble_eq_true ht
  subst hl
  have:=QcH (P:=P) (Q:=Q) (S:=fun L w=>Inv w0 (Qd3 ops ΩS L) w) (ops.size - t) t listed a W ho (Nat.le_refl _) (by omega) (h Q hQ a W he hi)
  simpa using this
theorem VD.y {i:Nat} {r:List (Nat × Bool)} {d:Nat} {op:Op} {ty:TypeId} {pos:String} {af:Array Edge} {gd:Option (Nat × Bool)} {v:Value} (hd:Nat.blt d n=true) (ho:ops[i]? =some ⟨some d,op,ty,pos,af,gd⟩)
  (hg:gd=none∨∃ j b,gd=some (j,b)∧Qff σ ops j b) (hy:Yld P n w0 σ (QfB ΩS) ⟨some d,op,ty,pos,af,gd⟩ v) (h:VD P n w0 ops ΩS t r ((d,v)::σ) Ω K):VD P n w0 ops ΩS t ((i,true)::r) σ Ω K:=
 fun Q hn hQ listed a W he hi hiS hok hh hsel hsc=>by
  unfold Qbu at hok
  simp only [cond_true,Bool.and_eq_true] at hok
  obtain ⟨⟨hit,hr,hf⟩,hok⟩:=hok
  have hit':i < t:=by simpa using hit
  have hr':i∈Region.ready .any ops listed:=by simpa using hr
  have hyi:YieldsIf P ops (Inv w0 (QfB ΩS)) ⟨some d,op,ty,pos,af,gd⟩ v a:=by
   refine .inl ⟨?_,fun w hw=>hy a w he hw⟩
   rcases hg with rfl | ⟨j,b,rfl,hg⟩
   ·simp [Region.wanted]
   ·simp [Region.wanted,Z8 he hg]
  have hlen:(((i,true)::r).length+(ops.size - t))=(r.length+(ops.size - t))+1:=by simp only [List.length_cons];omega
  rw [hlen]
  have hns:Qj2 ops i=false:=by unfold Qj2;rw [ho]
  exact Qaz ho hit' (Nat.lt_or_ge t ops.size) (Region.noSelect_spec hsel) (fun _ _ _ _ q=>q.curLow) (fun L w=>by rw [QaL hns]) (fun c a w hq=>absurd hq (hn c _ w)) (fun h=>(hsc h).1) (fun h=>(hsc h).2) _ listed a W hh (Region.free_spec ho hf) hr' hyi hiS
   (h Q hn hQ _ _ W (he.put hd v) hi (by rw [QaL hns];exact hiS) hok (hh.set hr' hit') hsel hsc)
theorem VD.gn {i:Nat} {r:List (Nat × Bool)} {d:Nat} {op:Op} {ty:TypeId} {pos:String} {af:Array Edge} {j:Nat} {b:Bool} (hd:Nat.blt d n=true) (ho:ops[i]? =some ⟨some d,op,ty,pos,af,some (j,b)⟩)
  (hg:Qff σ ops j (!b)∨gund σ ops j) (h:VD P n w0 ops ΩS t r ((d,undef)::σ) Ω K):VD P n w0 ops ΩS t ((i,true)::r) σ Ω K:=
 fun Q hn hQ listed a W he hi hiS hok hh hsel hsc=>by
  unfold Qbu at hok
  simp only [cond_true,Bool.and_eq_true] at hok
  obtain ⟨⟨hit,hr,hf⟩,hok⟩:=hok
  have hit':i < t:=by simpa using hit
  have hr':i∈Region.ready .any ops listed:=by simpa using hr
  have hyi:YieldsIf P ops (Inv w0 (QfB ΩS)) ⟨some d,op,ty,pos,af,some (j,b)⟩ undef a:=by
   refine .inr ⟨?_,rfl⟩
   have:yielded ops a.tmps j≠some b:=by
    rcases hg with hg | hg
    ·rw [Z8 he hg];cases b <;> simp
    ·rw [Qey he hg];simp
   simpa [Region.wanted] using this
  have hlen:(((i,true)::r).length+(ops.size - t))=(r.length+(ops.size - t))+1:=by simp only [List.length_cons];omega
  rw [hlen]
  have hns:Qj2 ops i=false:=by unfold Qj2;rw [ho]
  exact Qaz ho hit' (Nat.lt_or_ge t ops.size) (Region.noSelect_spec hsel) (fun _ _ _ _ q=>q.curLow) (fun L w=>by rw [QaL hns]) (fun c a w hq=>absurd hq (hn c _ w)) (fun h=>(hsc h).1) (fun h=>(hsc h).2) _ listed a W hh (Region.free_spec ho hf) hr' hyi hiS
   (h Q hn hQ _ _ W (he.put hd _) hi (by rw [QaL hns];exact hiS) hok (hh.set hr' hit') hsel hsc)
theorem VD.s {i:Nat} {r:List (Nat × Bool)} {o:Oper} {Φ:Value→Ctx→Prop} (σ':Value→Env) (ho:ops[i]? =some o) (hσ:∀ v a,Zk n σ a→Zk n (σ' v) (a.put o.dst v))
  (hg:o.guard=none∨∃ j b,o.guard=some (j,b)∧Qff σ ops j b) (hs:Stp P n w0 σ Ω o Φ) (hS:∀ v Ω',Φ v Ω'→∀ W,Inv w0 Ω' W→Inv w0 ΩS W)
  (h:∀ v Ω',Φ v Ω'→VD P n w0 ops ΩS t r (σ' v) Ω' K):VD P n w0 ops ΩS t ((i,false)::r) σ Ω K:=
 fun Q hn hQ listed a W he hi _ hok hh hsel hsc=>by
  unfold Qbu at hok
  simp only [cond_false,Bool.and_eq_true,beq_iff_eq] at hok
  obtain ⟨⟨hit,hr⟩,hok⟩:=hok
  have hit':i < t:=by simpa using hit
  have hr':i∈Region.ready .any ops listed:=by rw [hr];exact .head _
  have hlen:(((i,false)::r).length+(ops.size - t))=(r.length+(ops.size - t))+1:=by simp only [List.length_cons];omega
  rw [hlen]
  refine ⟨fun h0=>(by rw [hr] at h0;cases h0),fun j hj=>?_⟩
  rw [hr,List.mem_singleton] at hj
  subst hj
  unfold wpOp
  simp only [ho]
  have hw:Region.wanted o (yielded ops a.tmps)=true:=by
   rcases hg with hg | ⟨k,b,hg,hy⟩
   ·simp [Region.wanted,hg]
   ·simp [Region.wanted,hg,Z8 he hy]
  rw [if_pos hw]
  exact .inl (hs a W he hi _ Q fun v Ω' W' hv hi'=>⟨fun _=>(hS v Ω' hv W' hi').cur,h v Ω' hv Q hn hQ _ _ W' (hσ v a he) hi' (hS v Ω' hv W' hi').cur hok (hh.set hr' hit') hsel hsc⟩)
def QjN (ops : Array Oper) : Nat → Nat → Nat → Bool
  | 0, _, _ => false
  | f + 1, k, i => ((ops[k]?).map fun o => o.after.any fun e => Region.binds .any e && (Nat.beq e.on i || QjN ops f e.on i)).getD false
def precB (ops : Array Oper) (i : Nat) : Bool := (List.range ops.size).all fun k => !Qj2 ops k || QjN ops ops.size k i
theorem QdW {t : Nat} {L : Array Bool} (hh : HeadInv .any ops t L) : ∀ {f k i : Nat}, QjN ops f k i = true → L.getD k false = true → L.getD i false = true
  | f + 1, k, i, h, hl => by
    unfold QjN at h
    cases ho : ops[k]? with
    | none => rw [ho] at h; cases h
    | some o =>
      rw [ho] at h
      simp only [Option.map_some, Option.getD_some, Array.any_eq_true', Bool.and_eq_true, Bool.or_eq_true] at h
      obtain ⟨e, he, hb, hr⟩ := h
      have h1 := hh.closed k o ho hl e he hb
      rcases hr with hr | hr
      · rw [← Nat.eq_of_beq_eq_true hr]; exact h1
      · exact QdW hh hr h1
theorem Qmi {t i : Nat} {L : Array Bool} (hp : precB ops i = true) (hh : HeadInv .any ops t L) (hi : L.getD i true = false) : QdN ops L = false := by
  cases ha : QdN ops L with
  | false => rfl
  | true =>
    exfalso
    obtain ⟨k, hk, h2⟩ := List.any_eq_true.1 ha
    simp only [Bool.and_eq_true] at h2
    have := List.all_eq_true.1 hp k hk
    rw [h2.2] at this
    have h3 := QdW hh (by simpa using this) h2.1
    rw [getD_both hi] at h3
    cases h3
theorem VD.yH {i:Nat} {r:List (Nat × Bool)} {d:Nat} {op:Op} {ty:TypeId} {pos:String} {af:Array Edge} {gd:Option (Nat × Bool)} {v:Value} (hd:Nat.blt d n=true) (ho:ops[i]? =some ⟨some d,op,ty,pos,af,gd⟩)
  (hg:gd=none∨∃ j b,gd=some (j,b)∧Qff σ ops j b) (hp:precB ops i=true) (hy:Yld P n w0 σ ΩS ⟨some d,op,ty,pos,af,gd⟩ v) (h:VD P n w0 ops ΩS t r ((d,v)::σ) Ω K):VD P n w0 ops ΩS t ((i,true)::r) σ Ω K:=
 fun Q hn hQ listed a W he hi hiS hok hh hsel hsc=>by
  unfold Qbu at hok
  simp only [cond_true,Bool.and_eq_true] at hok
  obtain ⟨⟨hit,hr,hf⟩,hok⟩:=hok
  have hit':i < t:=by simpa using hit
  have hr':i∈Region.ready .any ops listed:=by simpa using hr
  have hyi:YieldsIf P ops (Inv w0 ΩS) ⟨some d,op,ty,pos,af,gd⟩ v a:=by
   refine .inl ⟨?_,fun w hw=>hy a w he hw⟩
   rcases hg with rfl | ⟨j,b,rfl,hg⟩
   ·simp [Region.wanted]
   ·simp [Region.wanted,Z8 he hg]
  have hlen:(((i,true)::r).length+(ops.size - t))=(r.length+(ops.size - t))+1:=by simp only [List.length_cons];omega
  rw [hlen]
  have hns:Qj2 ops i=false:=by unfold Qj2;rw [ho]
  exact Qaz ho hit' (Nat.lt_or_ge t ops.size) (Region.noSelect_spec hsel) (fun L w hhL hu q=>by unfold Qd3 at q;rw [Qmi hp hhL hu] at q;exact q) (fun L w=>by rw [QaL hns]) (fun c a w hq=>absurd hq (hn c _ w)) (fun h=>(hsc h).1) (fun h=>(hsc h).2) _ listed a W hh (Region.free_spec ho hf) hr' hyi hiS
   (h Q hn hQ _ _ W (he.put hd v) hi (by rw [QaL hns];exact hiS) hok (hh.set hr' hit') hsel hsc)
theorem QgB {L:Array Bool} {j:Nat} (h:QdN ops L=true):QdN ops (L.setIfInBounds j true)=true:=by
 obtain ⟨k,hk,h2⟩:=List.any_eq_true.1 h
 simp only [Bool.and_eq_true] at h2
 exact List.any_eq_true.2 ⟨k,hk,by rw [h2.2,getD_set_true h2.1];rfl⟩
theorem QmC (Ω:Ctx):QfB (QfB Ω)=QfB Ω:=by unfold QfB;rw [List.filter_filter];congr 1;funext p;simp
theorem Qir {L:Array Bool}:Qd3 ops (QfB ΩS) L=QfB ΩS:=by unfold Qd3;rw [QmC];cases QdN ops L <;> rfl
theorem QfR {Q:Exit→Act→World→Prop}:∀ (fuel:Nat) (L:Array Bool) (a:Act) (w:World),QdN ops L=true→QbD P ops Q (fun L w=>Inv w0 (Qd3 ops (QfB ΩS) L) w) t fuel L a w→QbD P ops Q (fun L w=>Inv w0 (Qd3 ops ΩS L) w) t fuel L a w
 | 0,_,_,_,_,h=>h
 | fuel+1,L,a,w,hL,h=>⟨h.1,fun i hi=>wpOp_mono (fun a' w' h'=>⟨fun hlt=>by
   have this:Inv w0 (Qd3 ops (QfB ΩS) (L.setIfInBounds i true)) w':=h'.1 hlt
   rw [Qir] at this
   show Inv w0 (Qd3 ops ΩS (L.setIfInBounds i true)) w'
   unfold Qd3;rw [QgB hL];exact this,QfR fuel _ _ _ (QgB hL) h'.2⟩) (h.2 i hi)⟩
theorem VD.sH {i:Nat} {r:List (Nat × Bool)} {o:Oper} {Φ:Value→Ctx→Prop} (σ':Value→Env) (ho:ops[i]? =some o) (hσ:∀ v a,Zk n σ a→Zk n (σ' v) (a.put o.dst v))
  (hg:o.guard=none) (hst:Qj2 ops i=true) (hs:Stp P n w0 σ Ω o Φ) (hS:∀ v Ω',Φ v Ω'→∀ W,Inv w0 Ω' W→Inv w0 (QfB ΩS) W)
  (h:∀ v Ω',Φ v Ω'→VD P n w0 ops (QfB ΩS) t r (σ' v) Ω' K):VD P n w0 ops ΩS t ((i,false)::r) σ Ω K:=
 fun Q hn hQ listed a W he hi _ hok hh hsel hsc=>by
  unfold Qbu at hok
  simp only [cond_false,Bool.and_eq_true,beq_iff_eq] at hok
  obtain ⟨⟨hit,hr⟩,hok⟩:=hok
  have hit':i < t:=by simpa using hit
  have hr':i∈Region.ready .any ops listed:=by rw [hr];exact .head _
  have hlen:(((i,false)::r).length+(ops.size - t))=(r.length+(ops.size - t))+1:=by simp only [List.length_cons];omega
  rw [hlen]
  refine ⟨fun h0=>(by rw [hr] at h0;cases h0),fun j hj=>?_⟩
  rw [hr,List.mem_singleton] at hj
  subst hj
  unfold wpOp
  simp only [ho]
  have hw:Region.wanted o (yielded ops a.tmps)=true:=by simp [Region.wanted,hg]
  rw [if_pos hw]
  have hsz:j < listed.size:=by rw [hh.size];exact (Array.getElem?_eq_some_iff.1 ho).1
  have hany:QdN ops (listed.setIfInBounds j true)=true:=List.any_eq_true.2 ⟨j,List.mem_range.2 (Array.getElem?_eq_some_iff.1 ho).1,by rw [hst];simp [hsz]⟩
  exact .inl (hs a W he hi _ Q fun v Ω' W' hv hi'=>⟨fun _=>by unfold Qd3;rw [hany];exact hS v Ω' hv W' hi',QfR _ _ _ _ hany (h v Ω' hv Q hn hQ _ _ W' (hσ v a he) hi' (by rw [Qir];exact hS v Ω' hv W' hi') hok (hh.set hr' hit') hsel hsc)⟩)
theorem Inv.tl {p:Nat × Mem} {W:World} (h:Inv w0 (p::Ω) W):Inv w0 Ω W:=
 ⟨h.os,h.tape,h.output,h.size,fun q hq=>h.le q (.tail _ hq),(List.pairwise_cons.1 h.dj).2⟩
theorem VD.callN {i:Nat} {r:List (Nat × Bool)} {d:Nat} {f:FuncId} {xs:List Operand} {ats:Array TypeId} {ty:TypeId} {pos:String} {af:Array Edge} {gd:Option (Nat × Bool)} {vs:List Value} {Post:Value→Mem→Prop}
  (j:Nat) (hd:Nat.blt d n=true) (ho:ops[i]? =some ⟨some d,.call { callee:= .value (.func f),args:=xs.toArray,argTypes:=ats },ty,pos,af,gd⟩) (hg:gd=none∨∃ j b,gd=some (j,b)∧Qff σ ops j b) (hf:JE P f=true)
  (ha:evs σ xs=some vs) (hS:∀ W,Inv w0 Ω W→Inv w0 ΩS W) (hc:∀ W,Inv w0 Ω W→Qc P f vs W mnil Post) (h:∀ v m',Post v m'→VD P n w0 ops ΩS t r ((d,v)::σ) ((j,m')::Ω) K):VD P n w0 ops ΩS t ((i,false)::r) σ Ω K:=
 VD.s (fun v=>(d,v)::σ) ho (fun v _ he=>he.put hd v) hg (Stp.callN j hf ha hc) (fun _ _ ⟨_,_,hΩ⟩ W hW=>hS W (by subst hΩ;exact hW.tl)) (fun v _ ⟨m',hp,hΩ⟩=>hΩ ▸ h v m' hp)
theorem VD.dec {l:List (Nat × Bool)} {s:Nat} {p:Prop} [Decidable p] (ht:QbB σ s=some (.bool (decide p))) (h1:p→VD P n w0 ops ΩS t l ((s,.bool true)::σ) Ω K)
  (h2:¬ p→VD P n w0 ops ΩS t l ((s,.bool false)::σ) Ω K):VD P n w0 ops ΩS t l σ Ω K:=fun Q hn hQ listed a W he=>by
 by_cases hp:p
 ·exact h1 hp Q hn hQ listed a W (he.dup (by rw [ht,decide_eq_true hp]))
 ·exact h2 hp Q hn hQ listed a W (he.dup (by rw [ht,decide_eq_false hp]))
end
abbrev str (l : List UInt8) : Value := .string ⟨l.toArray⟩
abbrev byV (b : UInt8) : Value := .int .u8 (b.toNat : Int)
theorem Yd (l:List UInt8):(⟨l.toArray⟩:ByteArray).toList=l:=by rw [ByteArray.toList_eq]
theorem QrA (l:List UInt8):(⟨l.toArray⟩:ByteArray).size=l.length:=by show l.toArray.size=_;simp
theorem Qk6 (l:List UInt8) (i j:Nat):(⟨l.toArray⟩:ByteArray).extract i j=⟨((l.take j).drop i).toArray⟩:=by
 apply ByteArray.ext
 rw [ByteArray.data_extract]
 apply Array.toList_inj.1
 simp [List.drop_take]
theorem Qjp {α:Type} [BEq α] [LawfulBEq α] [DecidableEq α] (a b:α):(a==b)=decide (a=b):=by
 by_cases h:a=b
 ·subst h;simp
 ·rw [decide_eq_false h];exact beq_eq_false_iff_ne.2 h
theorem QpI (a b:List UInt8):((⟨a.toArray⟩:ByteArray)==⟨b.toArray⟩)=decide (a=b):=by
 rw [beq_toListBytes,Yd,Yd]
 exact Qjp a b
section
variable {P : Program} {n : Nat} {w0 : World} {σ : Env} {Ω : Ctx} {ops : Array Oper} {K : Env → Ctx → Prop}
variable {ty : TypeId} {pos : String} {af : Array Edge} {d : Option Tmp} {gd : Option (Nat × Bool)} {r : List Oper}
section
variable {x y : Operand} {t u : TypeId} {a b : List UInt8}
theorem Qaw (op:BinOp) (t:TypeId) (x y:Operand) (a b:ByteArray) (W:World):(eqGuard op t x y (.string a) (.string b)).run P W= .ok () W:=by
 unfold eqGuard;cases op <;> simp
theorem Yld.seql (hx:ev σ x=some (str a)) (hy:ev σ y=some (str b)):Yld P n w0 σ Ω ⟨d,.binOp .eql t x y u,ty,pos,af,gd⟩ (.bool (decide (a=b))):=fun A W he _=>by
 simp [execOp,he.eval hx,he.eval hy,Qaw,binOp,Op.stringOp]
 exact Qjp a b
theorem Yld.sneq (hx:ev σ x=some (str a)) (hy:ev σ y=some (str b)):Yld P n w0 σ Ω ⟨d,.binOp .neq t x y u,ty,pos,af,gd⟩ (.bool (decide (¬ a=b))):=fun A W he _=>by
 simp [execOp,he.eval hx,he.eval hy,Qaw,binOp,Op.stringOp]
 exact Qjp a b
end
theorem Qio (op:BinOp) (t:TypeId) (x y:Operand) (a b:Bool) (W:World):(eqGuard op t x y (.bool a) (.bool b)).run P W= .ok () W:=by
 unfold eqGuard;cases op <;> simp
theorem Yld.bneq {x y:Operand} {t u:TypeId} {a b:Bool} (hx:ev σ x=some (.bool a)) (hy:ev σ y=some (.bool b)) (ht:P.underlying t=some .bool):Yld P n w0 σ Ω ⟨d,.binOp .neq t x y u,ty,pos,af,gd⟩ (.bool (decide (¬ a=b))):=fun A W he _=>by
 simp [execOp,he.eval hx,he.eval hy,Qio,binOp,Op.equal,Op.maxDepth,run_equalIn_bool' W 9999 t a b ht]
 cases a <;> cases b <;> rfl
theorem Yld.cvI {x:Operand} {s t:TypeId} {k k':IntKind} {a:Int} {c:Int} (hx:ev σ x=some (.int k a)) (hs:∃ k0,P.underlying s=some (.int k0)) (ht:P.underlying t=some (.int k')) (hc:k'.wrap a=c):
  Yld P n w0 σ Ω ⟨d,.convert s t x,ty,pos,af,gd⟩ (.int k' c):=fun A W he _=>by
 obtain ⟨k0,hs⟩:=hs
 simp [execOp,convert,he.eval hx,Qj hs,Qj ht,Conv.intToInt,hc]
theorem Yld.bit {op:BinOp} {x y:Operand} {t u:TypeId} {k:IntKind} {a b c:Int} (hop:op= .and∨op= .or∨op= .xor∨op= .andNot) (hx:ev σ x=some (.int k a)) (hy:ev σ y=some (.int k b)) (hc:∀ W,(Op.intBits op k a b).run P W= .ok (.int k c) W):
  Yld P n w0 σ Ω ⟨d,.binOp op t x y u,ty,pos,af,gd⟩ (.int k c):=fun A W he _=>by
 rcases hop with rfl | rfl | rfl | rfl <;> simp [execOp,he.eval hx,he.eval hy,ZE,binOp,hc]
theorem Yld.shf {op:BinOp} {x y:Operand} {t u:TypeId} {k k':IntKind} {a b c:Int} (hop:op= .shl∨op= .shr) (hx:ev σ x=some (.int k a)) (hy:ev σ y=some (.int k' b)) (hc:∀ W,(Op.shift op k a k' b).run P W= .ok (.int k c) W):
  Yld P n w0 σ Ω ⟨d,.binOp op t x y u,ty,pos,af,gd⟩ (.int k c):=fun A W he _=>by
 rcases hop with rfl | rfl <;> simp [execOp,he.eval hx,he.eval hy,ZE,binOp,hc]
theorem Yld.quo {op:BinOp} {x y:Operand} {t u:TypeId} {k:IntKind} {a b c:Int} (hop:op= .quo∨op= .rem) (hx:ev σ x=some (.int k a)) (hy:ev σ y=some (.int k b)) (hc:∀ W,(Op.intDiv op k a b).run P W= .ok (.int k c) W):
  Yld P n w0 σ Ω ⟨d,.binOp op t x y u,ty,pos,af,gd⟩ (.int k c):=fun A W he _=>by
 rcases hop with rfl | rfl <;> simp [execOp,he.eval hx,he.eval hy,ZE,binOp,hc]
def bld (place : Nat → Option (Nat × Nat)) (cells : List Value) : List (Nat × Value) → Option (List Value)
  | [] => some cells
  | (i, v) :: rest => match place i with
    | none => none
    | some (off, size) => bif Nat.beq v.cells.size size && Nat.ble (off + v.cells.size) cells.length then bld place (J8 cells off v.cells.toList) rest else none
theorem Qih : ∀ (l : List Value) (off k : Nat) (cs : Array Value), off + k + l.length ≤ cs.size →
    (l.zipIdx k).foldl (fun (cs : Array Value) (p : Value × Nat) => cs.setIfInBounds (off + p.2) p.1) cs = (J8 cs.toList (off + k) l).toArray
  | [], off, k, cs, _ => by simp [J8]
  | v :: l, off, k, cs, h => by
    simp only [List.length_cons] at h
    simp only [List.zipIdx_cons, List.foldl_cons]
    rw [Qih l off (k + 1) _ (by simp; omega), Array.toList_setIfInBounds, ← Nat.add_assoc]
    exact congrArg _ (QfZ cs.toList (off + k) v l (by simp; omega))
theorem Qfu (place : Nat → Option (Nat × Nat)) : ∀ (ps : List (Nat × Value)) (cells : Array Value) (out : List Value), bld place cells.toList ps = some out → Instr.fill place cells ps = some out.toArray
  | [], cells, out, h => by simp [bld] at h; simp [Instr.fill, ← h]
  | (i, v) :: rest, cells, out, h => by
    unfold bld at h
    unfold Instr.fill
    split at h
    · cases h
    · rename_i off size hp
      cases hb : (Nat.beq v.cells.size size && Nat.ble (off + v.cells.size) cells.toList.length) with
      | false => rw [hb] at h; cases h
      | true =>
        rw [hb] at h
        simp only [Bool.and_eq_true] at hb
        have h1 := Nat.eq_of_beq_eq_true hb.1
        have h2 : off + v.cells.size ≤ cells.size := by simpa using Nat.le_of_ble_eq_true hb.2
        simp only [hp]
        rw [if_neg (by simp [h1]; omega)]
        have e : v.cells.zipIdx.foldl (fun cs (x : Value × Nat) => match x with | (c, j) => cs.setIfInBounds (off + j) c) cells = (J8 cells.toList off v.cells.toList).toArray := by
          rw [← Array.foldl_toList, Array.toList_zipIdx]
          exact Qih v.cells.toList off 0 cells (by simpa using h2)
        rw [e]
        exact Qfu place rest _ out (by simpa using h)
def evp (σ : Env) : List (Nat × Operand) → Option (List (Nat × Value))
  | [] => some []
  | (i, x) :: r => match ev σ x, evp σ r with
    | some v, some vs => some ((i, v) :: vs)
    | _, _ => none
theorem Qhd {a : Act} (he : Zk n σ a) : ∀ {l : List (Nat × Operand)} {ps : List (Nat × Value)}, evp σ l = some ps → l.map (fun (i, x) => (i, a.eval x)) = ps
  | [], ps, h => by simp [evp] at h; simp [h]
  | (i, x) :: r, ps, h => by
    unfold evp at h
    split at h
    · rename_i v vs h1 h2
      simp only [Option.some.injEq] at h
      subst h
      simp only [List.map_cons, he.eval h1]
      rw [Qhd he h2]
    · cases h
theorem Qfc {t : TypeId} {fs : List (Nat × Nat)} (h : tst P t = some fs) (W : World) : ∃ F : Array Field, P.underlying t = some (.struct F) ∧ (F.mapM (m := Sem) fun f => do pure (f.offset, ← sizeOf f.type)).run P W = .ok fs.toArray W := by
  unfold tst at h
  split at h
  · rename_i F hF
    refine ⟨F, hF, ?_⟩
    rw [← Array.toArray_toList (xs := F), List.mapM_toArray]
    have key : ∀ (l : List Field) (r : List (Nat × Nat)), l.mapM (fun f => (P.info? f.type).bind fun i => if i.size = 0 then none else some (f.offset, i.size)) = some r →
        (l.mapM (m := Sem) fun f => do pure (f.offset, ← sizeOf f.type)).run P W = .ok r W := by
      intro l
      induction l with
      | nil => intro r hr; simp at hr; subst hr; rfl
      | cons f l ih =>
        intro r hr
        simp only [List.mapM_cons, Option.bind_eq_bind, Option.bind_eq_some_iff] at hr
        obtain ⟨z, ⟨i, hi, hz⟩, r', hr', hr⟩ := hr
        split at hz
        · cases hz
        · simp only [Option.some.injEq] at hz
          simp only [Option.pure_def, Option.some.injEq] at hr
          subst hz; subst hr
          simp only [List.mapM_cons, Sem.run_bind, J0 hi, Result.andThen_ok, Sem.run_pure, ih r' hr']
    rw [Sem.run_map, key _ _ h]
    rfl
  · cases h
theorem Yld.bst {t:TypeId} {l:List (Nat × Operand)} {ps:List (Nat × Value)} {fs:List (Nat × Nat)} {z cs:List Value} (hl:evp σ l=some ps) (ht:tst P t=some fs) (hz:tz P t=some z) (hb:bld (fun i=>fs[i]?) z ps=some cs):
  Yld P n w0 σ Ω ⟨d,.build t l.toArray,ty,pos,af,gd⟩ (.agg cs.toArray):=fun a W he _=>by
 obtain ⟨v,hv,hzr⟩:=Qhy hz
 obtain ⟨F,h1,h2⟩:=Qfc ht W
 have hf:Instr.fill (fun i=>fs.toArray[i]?) v.cells ps=some cs.toArray:=Qfu _ ps v.cells cs (by rw [hv];simpa using hb)
 have hm:(l.toArray.map fun (i,x)=>(i,a.eval x)).toList=ps:=by rw [← Qhd he hl];simp
 simp only [execOp,Instr.build,Sem.run_bind,hzr,Result.andThen_ok,Qj h1,h2]
 rw [hm,hf]
 simp
theorem Stp.bsl {t e:TypeId} {s b len:Nat} {l:List (Nat × Operand)} {ps:List (Nat × Value)} {z cs:List Value} (i:Nat) (hl:evp σ l=some ps) (ht:tsl P t=some (e,s,b)) (hz:tz P e=some z)
  (hsmall:Nat.ble (len*s) 16777216=true) (hb:bld (fun i=>some (i*s,s)) ((List.range (len*s)).map fun j=>z.toArray[j % z.toArray.size]!) ps=some cs):
  Stp P n w0 σ Ω ⟨d,.buildSlice t len l.toArray,ty,pos,af,gd⟩ (fun v Ω'=>∃ g,v= .slice (some ⟨g,0,none⟩) len len∧Ω'=(i,Qo g (.cells cs.toArray e (0,0)))::Ω):=fun a W he hi K' Q hK=>by
 obtain ⟨h1,i',h2,h3,_⟩:=QbH ht
 obtain ⟨v,hv,hzr⟩:=Qhy hz
 have hv':v.cells=z.toArray:=by rw [← hv]
 have hm:(l.toArray.map fun (i,x)=>(i,a.eval x)).toList=ps:=by rw [← Qhd he hl];simp
 have hsm:¬ (len*s > 2 ^ 24):=by have:=Nat.le_of_ble_eq_true hsmall;omega
 unfold Oper.wp
 have hex:(execOp a.eval ⟨d,.buildSlice t len l.toArray,ty,pos,af,gd⟩).run P W= .ok (.value (.slice (some ⟨W.heap.size,0,none⟩) len len)) (W.alloc (.cells cs.toArray e (0,0))):=by
  simp only [execOp,Instr.buildSlice,Sem.run_bind,Qj h1,Result.andThen_ok,J0 h2,h3,hsm,if_false,hm]
  by_cases h0:len*s=0
  ·have hf:Instr.fill (fun i=>some (i*s,s)) ((Array.range (len*s)).map (fun x=>(#[]:Array Value)[x % (#[]:Array Value).size]!)) ps=some cs.toArray:=by
    refine Qfu _ ps _ cs ?_
    rw [h0] at hb ⊢
    simpa using hb
   simp [h0,newRow] at hf ⊢
   simp [hf]
  ·have hf:Instr.fill (fun i=>some (i*s,s)) ((Array.range (len*s)).map (fun x=>v.cells[x % v.cells.size]!)) ps=some cs.toArray:=by
    refine Qfu _ ps _ cs ?_
    rw [hv',Array.toList_map,Array.toList_range]
    exact hb
   simp only [h0,if_false,Sem.run_bind,hzr,Result.andThen_ok,Sem.run_pure,hf,newRow,run_newObj]
   rfl
 rw [hex]
 exact hK _ _ _ ⟨_,rfl,rfl⟩ (hi.alloc i _)
theorem VO.bsl {dd:Nat} {t e:TypeId} {s b len:Nat} {l:List (Nat × Operand)} {ps:List (Nat × Value)} {z cs:List Value} (i:Nat) (hd:Nat.blt dd n=true) (hl:evp σ l=some ps) (ht:tsl P t=some (e,s,b)) (hz:tz P e=some z)
  (hsmall:Nat.ble (len*s) 16777216=true) (hb:bld (fun i=>some (i*s,s)) ((List.range (len*s)).map fun j=>z.toArray[j % z.toArray.size]!) ps=some cs)
  (h:∀ g,VO P n w0 ops r ((dd,.slice (some ⟨g,0,none⟩) len len)::σ) ((i,Qo g (.cells cs.toArray e (0,0)))::Ω) K):VO P n w0 ops (⟨some dd,.buildSlice t len l.toArray,ty,pos,af,none⟩::r) σ Ω K:=
 VO.s hd (Stp.bsl i hl ht hz hsmall hb) fun _ _ ⟨g,hv,hΩ⟩=>hv ▸ hΩ ▸ h g
end
inductive QaM (sz : Nat) : Mem → Value → Nat → List Value → Prop
  | nil (A : Option Addr) : QaM sz mnil (.slice A 0 0) 0 []
  | row (g off len cap : Nat) (e : TypeId) (c : List Value) (h1 : off + cap * sz ≤ c.length) (h2 : len ≤ cap) (h3 : cap ≤ maxLen) :
      QaM sz (Qo g (.cells c.toArray e (0, 0))) (.slice (some ⟨g, off, none⟩) len cap) len ((c.drop off).take (len * sz))
inductive Src (P : Program) (Ω : Ctx) (sz : Nat) (xt : TypeId) : Value → Nat → List Value → Prop
  | str (s : List UInt8) (h : P.underlying xt = some .string) (h1 : sz = 1) : Src P Ω sz xt (str s) s.length (s.map byV)
  | zero (A : Option Addr) (c : Nat) (e : TypeId) (h : P.underlying xt = some (.slice e)) : Src P Ω sz xt (.slice A 0 c) 0 []
  | row (i : Nat) (m : Mem) (g off k c : Nat) (xs : List Value) (e : TypeId) (h : P.underlying xt = some (.slice e)) (hm : YA Ω i = some m) (hc : Jp m g off (k * sz) xs) : Src P Ω sz xt (.slice (some ⟨g, off, none⟩) k c) k xs
section
variable {P : Program} {n : Nat} {w0 : World} {σ : Env} {Ω : Ctx} {ops : Array Oper} {K : Env → Ctx → Prop}
variable {ty : TypeId} {pos : String} {af : Array Edge} {d : Option Tmp} {gd : Option (Nat × Bool)} {r : List Oper}
theorem QaM.len_eq {sz len : Nat} {m : Mem} {v : Value} {cs : List Value} (h : QaM sz m v len cs) : cs.length = len * sz := by
  cases h with
  | nil => simp
  | row g off len cap e c h1 h2 h3 =>
    have := Nat.mul_le_mul_right sz h2
    simp; omega
theorem Qdx {W : World} {sz : Nat} {xt : TypeId} {x : Value} {k : Nat} {xs : List Value} (h : Src P Ω sz xt x k xs) (hi : Inv w0 Ω W) : (Builtin.firstCells sz k x).run P W = .ok xs.toArray W := by
  cases h with
  | str s h1 h2 =>
    have : (⟨s.toArray⟩ : ByteArray).extract 0 s.length = ⟨s.toArray⟩ := by rw [Qk6]; simp
    simp [Builtin.firstCells, this]
  | zero A c e h =>
    cases A with
    | none => simp [Builtin.firstCells]
    | some a => simp [Builtin.firstCells, loadCells, loadCellsFrom]
  | row i m g off k c xs e h hm hc => exact Yp (hc.mono (hi.at hm))
theorem QhO {W:World} {sz:Nat} {xt:TypeId} {x:Value} {k:Nat} {xs:List Value} (h:Src P Ω sz xt x k xs):(Builtin.lenOf x).run P W= .ok k W:=by
 cases h with
 | str s h1 h2=>simp [Builtin.lenOf,QrA]
 | zero A c e h=>simp [Builtin.lenOf]
 | row i m g off k c xs e h hm hc=>simp [Builtin.lenOf]
theorem Src.type {sz:Nat} {xt:TypeId} {x:Value} {k:Nat} {xs:List Value} (h:Src P Ω sz xt x k xs):∃ D,P.underlying xt=some D∧(∀ k,D≠.int k):=by
 cases h with
 | str s h1 h2=>exact ⟨_,h1,by simp⟩
 | zero A c e h=>exact ⟨_,h,by simp⟩
 | row i m g off k c xs e h hm hc=>exact ⟨_,h,by simp⟩
theorem Src.len {sz:Nat} {xt:TypeId} {x:Value} {k:Nat} {xs:List Value} (h:Src P Ω sz xt x k xs):xs.length=k*sz:=by
 cases h with
 | str s h1 h2=>simp [h2]
 | zero A c e h=>simp
 | row i m g off k c xs e h hm hc=>exact hc.len
structure QrK (P : Program) (W : World) (sz : Nat) (xt : TypeId) (x : Value) (k : Nat) (xs : List Value) : Prop where
  type : ∃ D, P.underlying xt = some D ∧ (∀ k, D ≠ .int k)
  len : xs.length = k * sz
  fc : ∀ W', W'.heap = W.heap → (Builtin.firstCells sz k x).run P W' = .ok xs.toArray W'
  ln : ∀ W' : World, (Builtin.lenOf x).run P W' = .ok k W'
theorem QcF {W:World} {sz g off k c:Nat} {xs:List Value} (h:Jp (wm W) g off (k*sz) xs):(Builtin.firstCells sz k (.slice (some ⟨g,off,none⟩) k c)).run P W= .ok xs.toArray W:=Yp h
theorem Src.w {W:World} {sz:Nat} {xt:TypeId} {x:Value} {k:Nat} {xs:List Value} (h:Src P Ω sz xt x k xs) (hi:Inv w0 Ω W):QrK P W sz xt x k xs:=
 ⟨h.type,h.len,fun W' hW=>Qdx h ⟨rfl,rfl,rfl,Nat.le_refl _,fun p hp=>by have:=hi.le p hp;unfold wm at this ⊢;rw [hW];exact this,hi.dj⟩,fun W'=>QhO h⟩
theorem Qiw {t xt e:TypeId} {sz b:Nat} {A:Option Addr} {len cap k:Nat} {x:Value} {xs:List Value} {W:World} (ht:tsl P t=some (e,sz,b)) (hs:QrK P W sz xt x k xs) (ty:TypeId)
  (hle:len+k≤cap):(Builtin.append_ #[t,xt] ty #[.slice A len cap,x]).run P W=(match A with
   | some a=>(storeCells (a.add (len*sz)) xs).run P W
   | none=>.ok () W).andThen fun _ W'=>.ok (.slice A (len+k) cap) W':=by
 obtain ⟨h1,i,h2,h3,h4⟩:=QbH ht
 obtain ⟨D,hD,hne⟩:=hs.type
 cases A with
 | none=>simp [Builtin.append_,Qj h1,Qj hD,J0 h2,hs.ln,hle,h3,hs.fc W rfl]
 | some a=>simp [Builtin.append_,Qj h1,Qj hD,J0 h2,hs.ln,hle,h3,hs.fc W rfl]
theorem Qjq {t xt e:TypeId} {sz b:Nat} {A:Option Addr} {len cap k:Nat} {x:Value} {xs cs z:List Value} {W:World} (ht:tsl P t=some (e,sz,b)) (hz:tz P e=some z) (hs:QrK P W sz xt x k xs) (ty:TypeId)
  (hold:∀ W',W'.heap=W.heap→(Builtin.firstCells sz len (.slice A len cap)).run P W'= .ok cs.toArray W')
  (hgt:cap < len+k) (hml:len+k≤maxLen) (hb:(len+k)*b≤140737488355328) (hb0:b≠0):
  ∃ ncap rest,len+k≤ncap∧ncap≤maxLen∧rest.length=(ncap - (len+k))*z.length∧(Builtin.append_ #[t,xt] ty #[.slice A len cap,x]).run P W=
   .ok (.slice (some ⟨W.heap.size,0,none⟩) (len+k) ncap) (W.drew.alloc (.cells (cs++xs++rest).toArray e (0,0))):=by
 obtain ⟨h1,i,h2,h3,h4⟩:=QbH ht
 obtain ⟨D,hD,hne⟩:=hs.type
 obtain ⟨v,hv,hzr⟩:=Qhy hz
 have hge:=grownCap_ge W (len+k) cap e
 have hcm:=grownCap_le_maxLen W (len+k) cap e hml
 refine ⟨grownCap W (len+k) cap e,(Builtin.zeroCells v.cells (grownCap W (len+k) cap e - (len+k))).toList,hge,hcm,by simp [size_zeroCells,← hv],?_⟩
 have hnot:¬ (len+k≤cap):=by omega
 have hfit:¬ (Builtin.nextslicecap (len+k) cap*i.bytes > 2 ^ 48):=by
  have:=growslice_fits (need:=len+k) (old:=cap) (bytes:=i.bytes) hgt (by rw [h4];exact hb)
  omega
 have hsrc:(Builtin.firstCells sz k x).run P W.drew= .ok xs.toArray W.drew:=hs.fc _ rfl
 have hb0':i.bytes≠0:=by rw [h4];exact hb0
 simp [Builtin.append_,Qj h1,Qj hD,J0 h2,Qbi h2,hs.ln,hnot,h3,hfit,hb0',hzr,hold W.drew rfl,hsrc,newRow]
 rw [if_neg (by simp [Question.forced])]
 simp
 refine ⟨rfl,?_⟩
 congr 2
 apply Array.toList_inj.1
 simp
 rfl
theorem Qny {s x : Operand} {t xt e : TypeId} {sz b len k : Nat} {v xv : Value} {cs xs z : List Value} {i : Nat} {m m0 : Mem} {a : Act} {W : World} (he : Zk n σ a) (hi : Inv w0 Ω W) (hsv : ev σ s = some v) (hxv : ev σ x = some xv) (ht : tsl P t = some (e, sz, b)) (hz : tz P e = some z) (hzl : z.length = sz)
    (hm : YA Ω i = some m) (hm0 : mle m0 m) (hown : QaM sz m0 v len cs) (hs : QrK P W sz xt xv k xs) (h1 : ∀ u ∈ xs, u.oneCell' = true) (hml : len + k ≤ maxLen) (hb : (len + k) * b ≤ 140737488355328) (hb0 : b ≠ 0)
    {K' : Act → World → Prop} {Q : Exit → Act → World → Prop} (hK : ∀ v' m' W', QaM sz m' v' (len + k) (cs ++ xs) → Inv w0 (Qbz Ω i m') W' → K' (a.put d v') W') :
    (⟨d, .call { callee := .builtin .append, args := [s, x].toArray, argTypes := [t, xt].toArray }, ty, pos, af, gd⟩ : Oper).wp P a W K' Q := by
  have hex : ∀ (res : Value) (W' : World), (Builtin.append_ #[t, xt] ty #[v, xv]).run P W = .ok res W' → (execOp a.eval ⟨d, .call { callee := .builtin .append, args := [s, x].toArray, argTypes := [t, xt].toArray }, ty, pos, af, gd⟩).run P W = .ok (.value res) W' := by
    intro res W' h
    simp [execOp, resolve, invoke, builtin, he.eval hsv, he.eval hxv, h]
  have grow : ∀ (A : Option Addr) (cap : Nat), v = .slice A len cap → (∀ W', W'.heap = W.heap → (Builtin.firstCells sz len (.slice A len cap)).run P W' = .ok cs.toArray W') → cap < len + k →
      (⟨d, .call { callee := .builtin .append, args := [s, x].toArray, argTypes := [t, xt].toArray }, ty, pos, af, gd⟩ : Oper).wp P a W K' Q := by
    intro A cap hv hold hgt
    subst hv
    obtain ⟨ncap, rest, hn1, hn2, hr, hrun⟩ := Qjq ht hz hs ty hold hgt hml hb hb0
    unfold Oper.wp
    rw [hex _ _ hrun]
    have hl1 := hown.len_eq
    have hl2 := hs.len
    refine hK _ (Qo W.heap.size (.cells (cs ++ xs ++ rest).toArray e (0, 0))) _ ?_ (hi.set hm rfl rfl rfl (by simp) ?_ (Qaq ?_) fun g => ?_)
    · have hlen : (cs ++ xs ++ rest).length = ncap * sz := by
        simp only [List.length_append, hl1, hl2, hr, hzl, ← Nat.add_mul]
        congr 1; omega
      have := QaM.row (sz := sz) W.heap.size 0 (len + k) ncap e (cs ++ xs ++ rest) (by rw [hlen]; omega) hn1 hn2
      rw [List.drop_zero, List.take_append_of_le_length (by simp [hl1, hl2, Nat.add_mul]), List.take_of_length_le (by simp [hl1, hl2, Nat.add_mul])] at this
      exact this
    · exact (QbU _ _).trans (Qjs W.drew _)
    · exact QdO W.drew _
    · by_cases hg : g = W.heap.size
      · exact .inr (.inr (Nat.le_of_eq hg.symm))
      · exact .inl (QdH _ hg)
  cases hown with
  | nil A =>
    by_cases hk : k = 0
    · subst hk
      have hx : xs = [] := List.eq_nil_of_length_eq_zero (by simpa using hs.len)
      subst hx
      unfold Oper.wp
      rw [hex (.slice A 0 0) W (by rw [Qiw ht hs ty (by omega)]; cases A <;> rfl)]
      exact hK _ mnil _ (.nil A) (hi.set hm rfl rfl rfl (Nat.le_refl _) (QbU _ _) (JW _) fun g => .inl rfl)
    · exact grow A 0 rfl (fun W' _ => by cases A <;> simp [Builtin.firstCells, loadCells, loadCellsFrom]) (by omega)
  | row g off len cap E c h1' h2' h3' =>
    by_cases hle : len + k ≤ cap
    · have hg := hi.at hm g _ (hm0 g _ (Qn _ _))
      have hmul := Nat.mul_le_mul_right sz hle
      have hl2 := hs.len
      obtain ⟨W', hrun, ho, htp, hu, hsz, hfar, hgg⟩ := Qbd (P := P) xs W g (off + len * sz) c.toArray E (0, 0) hg (by simp [hl2]; rw [Nat.add_mul] at hmul; omega) (Nat.le_refl _) h1 0 (off + len * sz) rfl
      unfold Oper.wp
      rw [hex (.slice (some ⟨g, off, none⟩) (len + k) cap) W' (by rw [Qiw ht hs ty hle]; simp only [QaU, hrun]; rfl)]
      have hsl : J8 c (off + len * sz) xs = c.take (off + len * sz) ++ (xs ++ c.drop (off + len * sz + xs.length)) := rfl
      have hlc : (J8 c (off + len * sz) xs).length = c.length := by rw [hsl]; simp [hl2]; rw [Nat.add_mul] at hmul; omega
      refine hK _ (Qo g (.cells (J8 c (off + len * sz) xs).toArray E (0, 0))) _ ?_ (hi.set hm ho htp hu (Nat.le_of_eq hsz.symm) ?_ (Qaq hgg) fun g' => ?_)
      · have := QaM.row (sz := sz) g off (len + k) cap E (J8 c (off + len * sz) xs) (by rw [hlc]; exact h1') hle h3'
        have e1 : List.take ((len + k) * sz) (List.drop off (J8 c (off + len * sz) xs)) = List.take (len * sz) (List.drop off c) ++ xs := by
          rw [hsl, List.drop_append_of_le_length (by simp; rw [Nat.add_mul] at hmul; omega), ← List.append_assoc]
          have e2 : List.drop off (List.take (off + len * sz) c) = List.take (len * sz) (List.drop off c) := by
            rw [List.drop_take]; congr 1; omega
          rw [e2]
          have e3 : (List.take (len * sz) (List.drop off c) ++ xs).length = (len + k) * sz := by
            rw [Nat.add_mul] at hmul ⊢
            simp [hl2]; omega
          rw [← e3]
          exact List.take_left
        rw [e1] at this
        exact this
      · intro q o h
        unfold Ju at h
        split at h
        · cases h
        · rename_i hn
          have hne : q ≠ g := by rintro rfl; rw [hm0 _ _ (Qn _ _)] at hn; cases hn
          unfold wm at h ⊢
          rw [hfar q hne]; exact h
      · by_cases hgg' : g' = g
        · subst hgg'; right; left; rw [hm0 _ _ (Qn _ _)]; simp
        · exact .inl (QdH _ hgg')
    · refine grow (some ⟨g, off, none⟩) cap rfl (fun W' hW' => ?_) (by omega)
      have hg := hi.at hm g _ (hm0 g _ (Qn _ _))
      have hmul := Nat.mul_le_mul_right sz h2'
      refine Yp ⟨c.toArray, E, (0, 0), ?_, by simp; omega, rfl⟩
      unfold wm at hg ⊢
      rw [hW']; exact hg
theorem Stp.app {s x:Operand} {t xt e:TypeId} {sz b len k:Nat} {v xv:Value} {cs xs z:List Value} (i:Nat) {m m0:Mem} (hsv:ev σ s=some v) (hxv:ev σ x=some xv) (ht:tsl P t=some (e,sz,b)) (hz:tz P e=some z) (hzl:z.length=sz)
  (hm:YA Ω i=some m) (hm0:mle m0 m) (hown:QaM sz m0 v len cs) (hs:Src P Ω sz xt xv k xs) (h1:∀ u∈xs,u.oneCell'=true) (hml:len+k≤maxLen) (hb:(len+k)*b≤140737488355328) (hb0:b≠0):
  Stp P n w0 σ Ω ⟨d,.call { callee:= .builtin .append,args:=[s,x].toArray,argTypes:=[t,xt].toArray },ty,pos,af,gd⟩ (fun v' Ω'=>∃ m',QaM sz m' v' (len+k) (cs++xs)∧Ω'=Qbz Ω i m'):=fun a W he hi K' Q hK=>
 Qny he hi hsv hxv ht hz hzl hm hm0 hown (hs.w hi) h1 hml hb hb0 fun v' m' W' h1 h2=>hK v' _ W' ⟨m',h1,rfl⟩ h2
theorem VO.app {s x:Operand} {t xt e:TypeId} {sz b len k dd:Nat} {v xv:Value} {cs xs z:List Value} (i:Nat) {m m0:Mem} (hd:Nat.blt dd n=true) (hsv:ev σ s=some v) (hxv:ev σ x=some xv) (ht:tsl P t=some (e,sz,b)) (hz:tz P e=some z) (hzl:z.length=sz)
  (hm:YA Ω i=some m) (hm0:mle m0 m) (hown:QaM sz m0 v len cs) (hs:Src P Ω sz xt xv k xs) (h1:∀ u∈xs,u.oneCell'=true) (hml:len+k≤maxLen) (hb:(len+k)*b≤140737488355328) (hb0:b≠0)
  (h:∀ v' m',QaM sz m' v' (len+k) (cs++xs)→VO P n w0 ops r ((dd,v')::σ) (Qbz Ω i m') K):
  VO P n w0 ops (⟨some dd,.call { callee:= .builtin .append,args:=[s,x].toArray,argTypes:=[t,xt].toArray },ty,pos,af,none⟩::r) σ Ω K:=
 VO.s hd (Stp.app i hsv hxv ht hz hzl hm hm0 hown hs h1 hml hb hb0) fun v' _ ⟨m',hp,hΩ⟩=>hΩ ▸ h v' m' hp
def ceq : List Value → List Value → Bool
  | [], [] => true
  | .int _ a :: r, .int _ b :: s => decide (a = b) && ceq r s
  | .bool a :: r, .bool b :: s => decide (a = b) && ceq r s
  | .string a :: r, .string b :: s => decide (a.toList = b.toList) && ceq r s
  | _, _ => false
def QdX (P : Program) : List Field → Nat → List Value → Bool
  | [], _, [] => true
  | f :: r, o, v :: s => decide (f.name ≠ "_") && decide (f.offset = o) && (match P.underlying f.type, v with
      | some (.int k), .int k' _ => decide (k = k')
      | some .bool, .bool _ => true
      | some .string, .string _ => true
      | _, _ => false) && QdX P r (o + 1) s
  | _, _, _ => false
def Qe2 (P : Program) (t : TypeId) (cs : List Value) : Bool := match P.underlying t with
  | some (.struct F) => QdX P F.toList 0 cs && !P.stoodInHeld t && !P.eqGuardType P.depth t
  | _ => false
end
def inK : IntKind → Int → Prop
  | .i64, n => -9223372036854775808 ≤ n ∧ n ≤ 9223372036854775807
  | .u64, n => 0 ≤ n ∧ n ≤ 18446744073709551615
  | .i32, n => -2147483648 ≤ n ∧ n ≤ 2147483647
  | .u32, n => 0 ≤ n ∧ n ≤ 4294967295
  | .i16, n => -32768 ≤ n ∧ n ≤ 32767
  | .u16, n => 0 ≤ n ∧ n ≤ 65535
  | .i8, n => -128 ≤ n ∧ n ≤ 127
  | .u8, n => 0 ≤ n ∧ n ≤ 255
inductive Ty where
  | int (k : IntKind)
  | byte
  | bool
  | str
  | pair (a b : Ty)
  | sl (e : Ty)
  | spl (e : Ty)
  | ptr (e : Ty)
  | addr
  | hdr
  | tmap
namespace Ty
@[reducible] def Den : Ty → Type
  | .int _ => Int
  | .byte => UInt8
  | .bool => Bool
  | .str => List UInt8
  | .pair a b => a.Den × b.Den
  | .sl e => List e.Den
  | .spl e => List e.Den × List e.Den
  | .ptr e => Nat × e.Den
  | .addr => Option Nat
  | .hdr => Option Addr × Nat × Nat
  | .tmap => List (List UInt8 × List UInt8 × Bool)
def sz : Ty → Nat
  | .pair a b => a.sz + b.sz
  | _ => 1
def flat : Ty → Bool
  | .pair a b => a.flat && b.flat
  | .sl _ => false
  | .spl _ => false
  | .ptr _ => false
  | .tmap => false
  | _ => true
end Ty
def Q8 {α : Type} (R : List Value → α → Prop) : List Value → List α → Prop
  | cs, [] => cs = []
  | cs, x :: r => ∃ c1 c2, cs = c1 ++ c2 ∧ R c1 x ∧ Q8 R c2 r
def entV (x : List UInt8 × List UInt8 × Bool) : Value × Value := (str x.1, .agg [str x.2.1, .bool x.2.2].toArray)
def Qg5 (es : Array MapEntry) (ck : Nat) (xs : List (List UInt8 × List UInt8 × Bool)) : Prop := es.toList.map (fun e => (e.key, e.val)) = xs.map entV ∧ (∀ x ∈ xs, x.1.length ≤ maxLen ∧ x.2.1.length ≤ maxLen) ∧ MapKept.Stamped es ck
def Rd : (t : Ty) → Mem → List Value → t.Den → Prop
  | .int k, _, cs, (n : Int) => cs = [.int k n] ∧ inK k n
  | .byte, _, cs, (b : UInt8) => cs = [byV b]
  | .bool, _, cs, (b : Bool) => cs = [.bool b]
  | .str, _, cs, (s : List UInt8) => cs = [str s] ∧ s.length ≤ maxLen
  | .pair a b, m, cs, (x, y) => ∃ c1 c2, cs = c1 ++ c2 ∧ Rd a m c1 x ∧ Rd b m c2 y
  | .sl e, m, cs, (xs : List e.Den) => ∃ A c, cs = [.slice A xs.length c] ∧ xs.length ≤ c ∧ c ≤ maxLen ∧
      (xs.length = 0 ∨ ∃ g off all, A = some ⟨g, off, none⟩ ∧ Jp m g off (xs.length * e.sz) all ∧ Q8 (Rd e m) all xs)
  | .spl e, m, cs, ((xs, ys) : List e.Den × List e.Den) => ∃ A c, cs = [.slice A xs.length c] ∧ (xs ++ ys).length ≤ c ∧ c ≤ maxLen ∧
      ((xs ++ ys).length = 0 ∨ ∃ g off all, A = some ⟨g, off, none⟩ ∧ Jp m g off ((xs ++ ys).length * e.sz) all ∧ Q8 (Rd e m) all (xs ++ ys))
  | .ptr e, m, cs, ((g, d) : Nat × e.Den) => cs = [.pointer (some ⟨g, 0, none⟩)] ∧ ∃ rc E, m g = some (.cells rc.toArray E (0, 0)) ∧ Rd e m rc d
  | .addr, _, cs, (g : Option Nat) => cs = [.pointer (g.map fun g => ⟨g, 0, none⟩)]
  | .hdr, _, cs, (h : Option Addr × Nat × Nat) => cs = [.slice h.1 h.2.1 h.2.2]
  | .tmap, m, cs, (xs : List (List UInt8 × List UInt8 × Bool)) => ∃ r es ck, cs = [.map (some r)] ∧ m r = some (.map es ck) ∧ Qg5 es ck xs
section
variable {α : Type} {R R' : List Value → α → Prop} {k : Nat}
theorem Q8.mono:∀ {xs:List α} {cs:List Value},Q8 R cs xs→(∀ c x,R c x→R' c x)→Q8 R' cs xs
 | [],_,h,_=>h
 | _::_,_,⟨c1,c2,h1,h2,h3⟩,hr=>⟨c1,c2,h1,hr _ _ h2,Q8.mono h3 hr⟩
theorem Q8.len (hk : ∀ c x, R c x → c.length = k) : ∀ {xs : List α} {cs : List Value}, Q8 R cs xs → cs.length = xs.length * k
  | [], _, h => by rw [show _ = [] from h]; simp
  | _ :: r, _, ⟨c1, c2, h1, h2, h3⟩ => by
    rw [h1, List.length_append, hk _ _ h2, Q8.len hk h3, List.length_cons, Nat.add_mul]; omega
theorem Q8.app:∀ {xs ys:List α} {cs ds:List Value},Q8 R cs xs→Q8 R ds ys→Q8 R (cs++ds) (xs++ys)
 | [],_,_,_,h,h'=>by rw [show _=[] from h];exact h'
 | _::_,_,_,_,⟨c1,c2,h1,h2,h3⟩,h'=>⟨c1,c2++_,by rw [h1,List.append_assoc],h2,Q8.app h3 h'⟩
theorem Q8.one {c:List Value} {x:α} (h:R c x):Q8 R c [x]:=⟨c,[],by simp,h,rfl⟩
theorem Q8.get (hk : ∀ c x, R c x → c.length = k) : ∀ {xs : List α} {cs : List Value} {i : Nat} {x : α}, Q8 R cs xs → xs[i]? = some x → R ((cs.drop (i * k)).take k) x
  | y :: r, _, 0, x, ⟨c1, c2, h1, h2, h3⟩, hi => by
    simp at hi; subst hi
    rw [h1, Nat.zero_mul, List.drop_zero, ← hk _ _ h2, List.take_left]
    exact h2
  | y :: r, _, i + 1, x, ⟨c1, c2, h1, h2, h3⟩, hi => by
    have := Q8.get hk h3 (i := i) (by simpa using hi)
    rw [h1, show (i + 1) * k = c1.length + i * k by rw [hk _ _ h2, Nat.add_mul]; omega, List.drop_append, List.drop_of_length_le (by omega), List.nil_append]
    simpa using this
theorem Q8.take (hk : ∀ c x, R c x → c.length = k) : ∀ {xs : List α} {cs : List Value} (j : Nat), Q8 R cs xs → Q8 R (cs.take (j * k)) (xs.take j)
  | [], _, j, h => by rw [show _ = [] from h]; simp [Q8]
  | y :: r, _, 0, h => by simp [Q8]
  | y :: r, _, j + 1, ⟨c1, c2, h1, h2, h3⟩ => by
    refine ⟨c1, c2.take (j * k), ?_, h2, Q8.take hk j h3⟩
    rw [h1, show (j + 1) * k = c1.length + j * k by rw [hk _ _ h2, Nat.add_mul]; omega, List.take_length_add_append]
theorem Q8.drop (hk : ∀ c x, R c x → c.length = k) : ∀ {xs : List α} {cs : List Value} (j : Nat), Q8 R cs xs → Q8 R (cs.drop (j * k)) (xs.drop j)
  | [], _, j, h => by rw [show _ = [] from h]; simp [Q8]
  | y :: r, _, 0, h => by simpa using h
  | y :: r, _, j + 1, ⟨c1, c2, h1, h2, h3⟩ => by
    rw [h1, show (j + 1) * k = c1.length + j * k by rw [hk _ _ h2, Nat.add_mul]; omega, List.drop_length_add_append]
    exact Q8.drop hk j h3
end
theorem Rd.len:∀ {t:Ty} {m:Mem} {cs:List Value} {d:t.Den},Rd t m cs d→cs.length=t.sz
 | .int _,_,_,_,h=>by rw [h.1];rfl
 | .byte,_,_,_,h=>by rw [show _=_ from h];rfl
 | .bool,_,_,_,h=>by rw [show _=_ from h];rfl
 | .str,_,_,_,h=>by rw [h.1];rfl
 | .pair a b,_,_,(x,y),⟨c1,c2,h1,h2,h3⟩=>by rw [h1,List.length_append,Rd.len h2,Rd.len h3];rfl
 | .sl e,_,_,_,⟨A,c,h1,_⟩=>by rw [h1];rfl
 | .spl e,_,_,(_,_),⟨A,c,h1,_⟩=>by rw [h1];rfl
 | .ptr e,_,_,(_,_),⟨h1,_⟩=>by rw [h1];rfl
 | .addr,_,_,_,h=>by rw [show _=_ from h];rfl
 | .hdr,_,_,_,h=>by rw [show _=_ from h];rfl
 | .tmap,_,_,_,⟨r,es,ck,h1,_⟩=>by rw [h1];rfl
theorem Rd.mono:∀ {t:Ty} {m m':Mem} {cs:List Value} {d:t.Den},Rd t m cs d→mle m m'→Rd t m' cs d
 | .int _,_,_,_,_,h,_=>h
 | .byte,_,_,_,_,h,_=>h
 | .bool,_,_,_,_,h,_=>h
 | .str,_,_,_,_,h,_=>h
 | .pair a b,_,_,_,(x,y),⟨c1,c2,h1,h2,h3⟩,hm=>⟨c1,c2,h1,Rd.mono h2 hm,Rd.mono h3 hm⟩
 | .sl e,_,_,_,_,⟨A,c,h1,h2,h3,h4⟩,hm=>⟨A,c,h1,h2,h3,h4.imp id fun ⟨g,off,all,k1,k2,k3⟩=>⟨g,off,all,k1,k2.mono hm,k3.mono fun _ _ h=>Rd.mono h hm⟩⟩
 | .spl e,_,_,_,(_,_),⟨A,c,h1,h2,h3,h4⟩,hm=>⟨A,c,h1,h2,h3,h4.imp id fun ⟨g,off,all,k1,k2,k3⟩=>⟨g,off,all,k1,k2.mono hm,k3.mono fun _ _ h=>Rd.mono h hm⟩⟩
 | .ptr e,_,_,_,(_,_),⟨h1,rc,E,h2,h3⟩,hm=>⟨h1,rc,E,hm _ _ h2,Rd.mono h3 hm⟩
 | .addr,_,_,_,_,h,_=>h
 | .hdr,_,_,_,_,h,_=>h
 | .tmap,_,_,_,_,⟨r,es,ck,h1,h2,h3⟩,hm=>⟨r,es,ck,h1,hm _ _ h2,h3⟩
theorem Rd.flat : ∀ {t : Ty} {m : Mem} {cs : List Value} {d : t.Den}, t.flat = true → Rd t m cs d → ∀ m', Rd t m' cs d
  | .int _, _, _, _, _, h, _ => h
  | .byte, _, _, _, _, h, _ => h
  | .bool, _, _, _, _, h, _ => h
  | .str, _, _, _, _, h, _ => h
  | .pair a b, _, _, (x, y), hf, ⟨c1, c2, h1, h2, h3⟩, m' => by
    have hf' : (a.flat && b.flat) = true := hf
    rw [Bool.and_eq_true] at hf'
    exact ⟨c1, c2, h1, Rd.flat hf'.1 h2 m', Rd.flat hf'.2 h3 m'⟩
  | .addr, _, _, _, _, h, _ => h
  | .hdr, _, _, _, _, h, _ => h
theorem Rd.nice : ∀ {t : Ty} {m : Mem} {cs : List Value} {d : t.Den}, Rd t m cs d → ∀ u ∈ cs, u.oneCell' = true
  | .int _, _, _, _, h, u, hu => by rw [h.1] at hu; simp at hu; subst hu; rfl
  | .byte, _, _, _, h, u, hu => by rw [show _ = _ from h] at hu; simp at hu; subst hu; rfl
  | .bool, _, _, _, h, u, hu => by rw [show _ = _ from h] at hu; simp at hu; subst hu; rfl
  | .str, _, _, _, h, u, hu => by rw [h.1] at hu; simp at hu; subst hu; rfl
  | .pair a b, _, _, (x, y), ⟨c1, c2, h1, h2, h3⟩, u, hu => by
    rw [h1] at hu
    rcases List.mem_append.1 hu with hu | hu
    · exact Rd.nice h2 u hu
    · exact Rd.nice h3 u hu
  | .sl e, _, _, _, ⟨A, c, h1, _⟩, u, hu => by rw [h1] at hu; simp at hu; subst hu; rfl
  | .spl e, _, _, (_, _), ⟨A, c, h1, _⟩, u, hu => by rw [h1] at hu; simp at hu; subst hu; rfl
  | .ptr e, _, _, (_, _), ⟨h1, _⟩, u, hu => by rw [h1] at hu; simp at hu; subst hu; rfl
  | .addr, _, _, _, h, u, hu => by rw [show _ = _ from h] at hu; simp at hu; subst hu; rfl
  | .hdr, _, _, _, h, u, hu => by rw [show _ = _ from h] at hu; simp at hu; subst hu; rfl
  | .tmap, _, _, _, ⟨r, es, ck, h1, _⟩, u, hu => by rw [h1] at hu; simp at hu; subst hu; rfl
theorem Q8.nice {t : Ty} {m : Mem} : ∀ {xs : List t.Den} {cs : List Value}, Q8 (Rd t m) cs xs → ∀ u ∈ cs, u.oneCell' = true
  | [], _, h, u, hu => by rw [show _ = [] from h] at hu; cases hu
  | _ :: _, _, ⟨c1, c2, h1, h2, h3⟩, u, hu => by
    rw [h1] at hu
    rcases List.mem_append.1 hu with hu | hu
    · exact h2.nice u hu
    · exact Q8.nice h3 u hu
theorem Rd.slice {e:Ty} {m:Mem} {v:Value} {xs:List e.Den} (h:Rd (.sl e) m [v] xs):∃ A c,v= .slice A xs.length c∧xs.length≤c∧c≤maxLen:=by
 obtain ⟨A,c,h1,h2,h3,_⟩:=h
 exact ⟨A,c,by simpa using h1,h2,h3⟩
theorem Rd.elem {e:Ty} {m:Mem} {A:Option Addr} {l c i:Nat} {xs:List e.Den} {x:e.Den} (h:Rd (.sl e) m [.slice A l c] xs) (hi:xs[i]? =some x):
  ∃ g off ec,A=some ⟨g,off,none⟩∧Jp m g (off+i*e.sz) e.sz ec∧Rd e m ec x:=by
 obtain ⟨A',c',h1,h2,h3,h4⟩:=h
 have hlt:i < xs.length:=(List.getElem?_eq_some_iff.1 hi).1
 simp only [List.cons.injEq,Value.slice.injEq,and_true] at h1
 obtain ⟨rfl,rfl,rfl⟩:=h1
 rcases h4 with h4 | ⟨g,off,all,k1,k2,k3⟩
 ·omega
 ·refine ⟨g,off,(all.drop (i*e.sz)).take e.sz,k1,?_,k3.get (fun _ _ h=>h.len) hi⟩
  obtain ⟨cs,E,fz,q1,q2,rfl⟩:=k2
  have hm:i*e.sz+e.sz≤xs.length*e.sz:=by
   have:=Nat.mul_le_mul_right e.sz (Nat.succ_le_of_lt hlt)
   rw [Nat.succ_mul] at this;exact this
  refine ⟨cs,E,fz,q1,by omega,?_⟩
  rw [List.drop_take,List.take_take,List.drop_drop]
  congr 1
  omega
theorem Rd.row {e:Ty} {m:Mem} {A:Option Addr} {l c:Nat} {xs:List e.Den} (h:Rd (.sl e) m [.slice A l c] xs) (h0:xs≠[]):
  ∃ g off all,A=some ⟨g,off,none⟩∧Jp m g off (xs.length*e.sz) all∧Q8 (Rd e m) all xs:=by
 obtain ⟨A',c',h1,h2,h3,h4⟩:=h
 simp only [List.cons.injEq,Value.slice.injEq,and_true] at h1
 obtain ⟨rfl,rfl,rfl⟩:=h1
 rcases h4 with h4 | h4
 ·exact absurd (List.eq_nil_of_length_eq_zero h4) h0
 ·exact h4
theorem Rd.nil (e:Ty) (m:Mem) (A:Option Addr) (c:Nat) (hc:c≤maxLen):Rd (.sl e) m [.slice A 0 c] ([]:List e.Den):=⟨A,c,rfl,Nat.zero_le _,hc,.inl rfl⟩
theorem Jp.sub {m:Mem} {g off k:Nat} {all:List Value} (h:Jp m g off k all) {i j:Nat} (hij:i+j≤k):Jp m g (off+i) j ((all.drop i).take j):=by
 obtain ⟨cs,E,fz,q1,q2,rfl⟩:=h
 refine ⟨cs,E,fz,q1,by omega,?_⟩
 rw [List.drop_take,List.take_take,List.drop_drop]
 congr 1
 omega
theorem Rd.sub {e:Ty} {m:Mem} {A:Option Addr} {l c i j:Nat} {xs:List e.Den} (h:Rd (.sl e) m [.slice A l c] xs) (hij:i≤j) (hj:j≤xs.length):
  Rd (.sl e) m [.slice (if c=i then A else A.map (·.add (i*e.sz))) (j - i) (c - i)] ((xs.take j).drop i):=by
 have h':=h
 obtain ⟨A',c',h1,h2,h3,h4⟩:=h'
 simp only [List.cons.injEq,Value.slice.injEq,and_true] at h1
 obtain ⟨rfl,rfl,rfl⟩:=h1
 have hl:((xs.take j).drop i).length=j - i:=by simp;omega
 refine ⟨_,_,by rw [hl],by rw [hl];omega,by omega,?_⟩
 rw [hl]
 by_cases h0:j - i=0
 ·exact .inl h0
 ·right
  rcases h4 with h4 | ⟨g,off,all,k1,k2,k3⟩
  ·omega
  ·subst k1
   rw [if_neg (by omega)]
   have hm1:i*e.sz+(j - i)*e.sz=j*e.sz:=by rw [← Nat.add_mul];congr 1;omega
   have hm2:=Nat.mul_le_mul_right e.sz hj
   refine ⟨g,off+i*e.sz,(all.drop (i*e.sz)).take ((j - i)*e.sz),by simp [QaU],k2.sub (by omega),?_⟩
   have:=(k3.take (fun _ _ h=>h.len) j).drop (fun _ _ h=>h.len) i
   rwa [List.drop_take,← Nat.sub_mul] at this
def Qz (e : Ty) (m n : Mem) (v : Value) (xs : List e.Den) : Prop := ∃ m0 cs, mle m0 m ∧ QaM e.sz m0 v xs.length cs ∧ Q8 (Rd e n) cs xs
section
variable {e : Ty} {m n : Mem} {v : Value} {xs : List e.Den}
theorem Qz.nil (e:Ty) (m n:Mem):Qz e m n (.slice none 0 0) []:=⟨mnil,[],JW _,.nil none,rfl⟩
theorem Qz.mono {n':Mem} (h:Qz e m n v xs) (hn:mle n n'):Qz e m n' v xs:=
 let ⟨m0,cs,h0,h1,h2⟩:=h
 ⟨m0,cs,h0,h1,h2.mono fun _ _ h=>h.mono hn⟩
theorem Qz.flat {n':Mem} (h:Qz e m n v xs) (hf:e.flat=true):Qz e m n' v xs:=
 let ⟨m0,cs,h0,h1,h2⟩:=h
 ⟨m0,cs,h0,h1,h2.mono fun _ _ h=>h.flat hf _⟩
theorem QaM.slice {sz len:Nat} {cs:List Value} (h:QaM sz m v len cs):∃ A c,v= .slice A len c∧len≤c∧c≤maxLen:=by
 cases h with
 | nil A=>exact ⟨A,0,rfl,Nat.le_refl _,Nat.zero_le _⟩
 | row g off len cap E c k1 k2 k3=>exact ⟨_,_,rfl,k2,k3⟩
theorem Qz.slice (h:Qz e m n v xs):∃ A c,v= .slice A xs.length c∧xs.length≤c∧c≤maxLen:=by
 obtain ⟨m0,cs,h0,h1,h2⟩:=h
 exact h1.slice
theorem QaM.cells {sz len : Nat} {cs : List Value} (h : QaM sz m v len cs) (h0 : len ≠ 0) : ∃ g off c, v = .slice (some ⟨g, off, none⟩) len c ∧ Jp m g off (len * sz) cs := by
  cases h with
  | nil => exact absurd rfl h0
  | row g off len cap E c k1 k2 k3 =>
    have := Nat.mul_le_mul_right sz k2
    exact ⟨g, off, cap, rfl, c.toArray, E, (0, 0), Qn _ _, by simp; omega, rfl⟩
theorem QaM.rd {cs:List Value} (h1:QaM e.sz m v xs.length cs) (h2:Q8 (Rd e n) cs xs) {k:Mem} (hm:mle m k) (hn:mle n k):Rd (.sl e) k [v] xs:=by
 obtain ⟨A,c,rfl,q2,q3⟩:=h1.slice
 refine ⟨A,c,rfl,q2,q3,?_⟩
 by_cases h0:xs.length=0
 ·exact .inl h0
 ·right
  obtain ⟨g,off,c',hv,hc⟩:=h1.cells h0
  simp only [Value.slice.injEq,true_and] at hv
  exact ⟨g,off,cs,hv.1,hc.mono hm,h2.mono fun _ _ h=>h.mono hn⟩
theorem Qz.rd (h:Qz e m n v xs) {k:Mem} (hm:mle m k) (hn:mle n k):Rd (.sl e) k [v] xs:=by
 obtain ⟨m0,cs,h0,k1,k2⟩:=h
 exact k1.rd k2 (h0.trans hm) hn
theorem Qz.one {m':Mem} {v':Value} {cs xc:List Value} {x:e.Den} (hc:Q8 (Rd e n) cs xs) (h:QaM e.sz m' v' (xs.length+1) (cs++xc)) (hx:Rd e n xc x):Qz e m' n v' (xs++[x]):=
 ⟨m',cs++xc,Qb _,by simpa using h,hc.app (.one hx)⟩
theorem Qz.more {m':Mem} {v':Value} {cs xc:List Value} {ys:List e.Den} (hc:Q8 (Rd e n) cs xs) (h:QaM e.sz m' v' (xs.length+ys.length) (cs++xc)) (hx:Q8 (Rd e n) xc ys):Qz e m' n v' (xs++ys):=
 ⟨m',cs++xc,Qb _,by simpa using h,hc.app hx⟩
end
theorem Jp.at1 {m:Mem} {g off k:Nat} {cs:List Value} {j:Nat} {v:Value} (h:Jp m g off k cs) (hj:cs[j]? =some v):Jp m g (off+j) 1 [v]:=by
 have hlt:j < cs.length:=(List.getElem?_eq_some_iff.1 hj).1
 have:=h.sub (i:=j) (j:=1) (by rw [← h.len];omega)
 rwa [List.drop_eq_getElem_cons hlt,show cs[j]=v from (List.getElem?_eq_some_iff.1 hj).2] at this
theorem Rd.pair {a b:Ty} {m:Mem} {cs:List Value} {x:a.Den × b.Den} (h:Rd (.pair a b) m cs x):∃ c1 c2,cs=c1++c2∧Rd a m c1 x.1∧Rd b m c2 x.2:=h
theorem Rd.mkPair {a b:Ty} {m:Mem} {c1 c2:List Value} {x:a.Den × b.Den} (h1:Rd a m c1 x.1) (h2:Rd b m c2 x.2):Rd (.pair a b) m (c1++c2) x:=⟨c1,c2,rfl,h1,h2⟩
section
variable {P : Program} {n : Nat} {w0 : World} {σ : Env} {Ω ΩS : Ctx} {ops : Array Oper} {K : Env → Ctx → Prop} {t : Nat}
variable {ty : TypeId} {pos : String} {af : Array Edge} {d : Option Tmp} {gd : Option (Nat × Bool)} {r : List Oper}
theorem VO.decB {t:Nat} {b:Bool} (ht:QbB σ t=some (.bool b)) (h1:b=true→VO P n w0 ops r ((t,.bool true)::σ) Ω K)
  (h2:b=false→VO P n w0 ops r ((t,.bool false)::σ) Ω K):VO P n w0 ops r σ Ω K:=fun Q hQ a W he hi=>by
 cases hb:b with
 | true=>exact h1 hb Q hQ a W (he.dup (by rw [ht,hb])) hi
 | false=>exact h2 hb Q hQ a W (he.dup (by rw [ht,hb])) hi
theorem VD.decB {l:List (Nat × Bool)} {s:Nat} {b:Bool} (ht:QbB σ s=some (.bool b)) (h1:b=true→VD P n w0 ops ΩS t l ((s,.bool true)::σ) Ω K)
  (h2:b=false→VD P n w0 ops ΩS t l ((s,.bool false)::σ) Ω K):VD P n w0 ops ΩS t l σ Ω K:=fun Q hn hQ listed a W he=>by
 cases hb:b with
 | true=>exact h1 hb Q hn hQ listed a W (he.dup (by rw [ht,hb]))
 | false=>exact h2 hb Q hn hQ listed a W (he.dup (by rw [ht,hb]))
theorem VD.bsl {i:Nat} {rr:List (Nat × Bool)} {dd:Nat} {t' e:TypeId} {s b len:Nat} {l:List (Nat × Operand)} {ps:List (Nat × Value)} {z cs:List Value} (j:Nat) (hd:Nat.blt dd n=true) (ho:ops[i]? =some ⟨some dd,.buildSlice t' len l.toArray,ty,pos,af,none⟩)
  (hl:evp σ l=some ps) (ht:tsl P t'=some (e,s,b)) (hz:tz P e=some z)
  (hsmall:Nat.ble (len*s) 16777216=true) (hb:bld (fun i=>some (i*s,s)) ((List.range (len*s)).map fun j=>z.toArray[j % z.toArray.size]!) ps=some cs) (hS:∀ W,Inv w0 Ω W→Inv w0 ΩS W)
  (h:∀ g,VD P n w0 ops ΩS t rr ((dd,.slice (some ⟨g,0,none⟩) len len)::σ) ((j,Qo g (.cells cs.toArray e (0,0)))::Ω) K):VD P n w0 ops ΩS t ((i,false)::rr) σ Ω K:=
 VD.s (fun v=>(dd,v)::σ) ho (fun v _ he=>he.put hd v) (.inl rfl) (Stp.bsl j hl ht hz hsmall hb) (fun _ _ ⟨_,_,hΩ⟩ W hW=>hS W (by subst hΩ;exact hW.tl)) (fun _ _ ⟨g,hv,hΩ⟩=>hv ▸ hΩ ▸ h g)
theorem Inv.nilc {W:World} (h:Inv w0 Ω W) (i:Nat):Inv w0 ((i,mnil)::Ω) W:=
 h.new i rfl rfl rfl (Nat.le_refl _) (Qb _) (JW _) fun g=>.inl rfl
theorem VO.gcallN {dd:Nat} {f:FuncId} {xs:List Operand} {ats:Array TypeId} {j:Nat} {b:Bool} {vs:List Value} {Post:Value→Mem→Prop}
  (i:Nat) (hd:Nat.blt dd n=true) (hg:Qff σ ops j b) (hf:JE P f=true) (ha:evs σ xs=some vs) (hc:∀ W,Inv w0 Ω W→Qc P f vs W mnil Post)
  (h:∀ v m',Post v m'→VO P n w0 ops r ((dd,v)::σ) ((i,m')::Ω) K):
  VO P n w0 ops (⟨some dd,.call { callee:= .value (.func f),args:=xs.toArray,argTypes:=ats },ty,pos,af,some (j,b)⟩::r) σ Ω K:=
 VO.gs hd hg (Stp.callN i hf ha hc) fun v _ ⟨m',hp,hΩ⟩=>hΩ ▸ h v m' hp
theorem QjO (s:List UInt8) (m:Mem):Q8 (Rd .byte m) (s.map byV) s:=by
 induction s with
 | nil=>rfl
 | cons b s ih=>exact ⟨[byV b],s.map byV,rfl,rfl,ih⟩
theorem Rd.srcI {e:Ty} {xt et:TypeId} {m:Mem} {v:Value} {xs:List e.Den} (h:Rd (.sl e) m [v] xs) (ht:P.underlying xt=some (.slice et)):
  ∃ all,(∀ (Ω:Ctx) (i:Nat),YA Ω i=some m→Src P Ω e.sz xt v xs.length all)∧Q8 (Rd e m) all xs:=by
 obtain ⟨A,c,rfl,h2,h3⟩:=h.slice
 by_cases h0:xs=[]
 ·subst h0;exact ⟨[],fun _ _ _=>.zero A c et ht,rfl⟩
 ·obtain ⟨g,off,all,rfl,k2,k3⟩:=h.row h0
  exact ⟨all,fun Ω i hm=>.row i m g off xs.length c all et ht hm k2,k3⟩
theorem Stp.box {t:TypeId} {x:Operand} {v:Value} (i:Nat) (hx:ev σ x=some v):
  Stp P n w0 σ Ω ⟨d,.box t x,ty,pos,af,gd⟩ (fun u Ω'=>∃ g,u= .pointer (some ⟨g,0,none⟩)∧Ω'=(i,Qo g (.cells v.cells t (0,0)))::Ω):=fun a W he hi K Q hK=>by
 unfold Oper.wp
 have:(execOp a.eval ⟨d,.box t x,ty,pos,af,gd⟩).run P W= .ok (.value (.pointer (some ⟨W.heap.size,0,none⟩))) (W.alloc (.cells v.cells t (0,0))):=by
  simp [execOp,Instr.box,he.eval hx,newVar,newRow]
 rw [this]
 exact hK _ _ _ ⟨_,rfl,rfl⟩ (hi.alloc i _)
theorem VO.box {dd:Nat} {t:TypeId} {x:Operand} {v:Value} {cs:List Value} (i:Nat) (hd:Nat.blt dd n=true) (hx:ev σ x=some v) (hc:v.cells=cs.toArray)
  (h:∀ g,VO P n w0 ops r ((dd,.pointer (some ⟨g,0,none⟩))::σ) ((i,Qo g (.cells cs.toArray t (0,0)))::Ω) K):VO P n w0 ops (⟨some dd,.box t x,ty,pos,af,none⟩::r) σ Ω K:=
 VO.s hd (Stp.box i hx) fun _ _ ⟨g,hv,hΩ⟩=>by rw [hv,hΩ,hc];exact h g
theorem Yld.slI {x lo hi:Operand} {t e:TypeId} {A:Option Addr} {l c s b:Nat} {k k':IntKind} {a1 a2:Int} (i j:Nat) (A':Option Addr) (hx:ev σ x=some (.slice A l c)) (hlo:ev σ lo=some (.int k a1)) (hhi:ev σ hi=some (.int k' a2)) (ht:tsl P t=some (e,s,b))
  (h1:a1=i) (h2:a2=j) (hA:(if c=i then A else A.map (·.add (i*s)))=A') (hij:i≤j) (hjc:j≤c):
  Yld P n w0 σ Ω ⟨d,.slice t x (some lo) (some hi) none,ty,pos,af,gd⟩ (.slice A' (j - i) (c - i)):=by
 subst h1 h2 hA;exact Yld.sl hx hlo hhi ht hij hjc
theorem Yld.slLI {x lo:Operand} {t e:TypeId} {A:Option Addr} {l c s b:Nat} {k:IntKind} {a1:Int} (i:Nat) (A':Option Addr) (hx:ev σ x=some (.slice A l c)) (hlo:ev σ lo=some (.int k a1)) (ht:tsl P t=some (e,s,b))
  (h1:a1=i) (hA:(if c=i then A else A.map (·.add (i*s)))=A') (hil:i≤l):
  Yld P n w0 σ Ω ⟨d,.slice t x (some lo) none none,ty,pos,af,gd⟩ (.slice A' (l - i) (c - i)):=by
 subst h1 hA;exact Yld.slL hx hlo ht hil
theorem Yld.slHI {x hi:Operand} {t e:TypeId} {A:Option Addr} {l c s b:Nat} {k:IntKind} {a2:Int} (j:Nat) (hx:ev σ x=some (.slice A l c)) (hhi:ev σ hi=some (.int k a2)) (ht:tsl P t=some (e,s,b))
  (h2:a2=j) (hjc:j≤c):Yld P n w0 σ Ω ⟨d,.slice t x none (some hi) none,ty,pos,af,gd⟩ (.slice A j c):=by
 subst h2;exact Yld.slH hx hhi ht hjc
theorem Rd.sub' {e:Ty} {m:Mem} {A:Option Addr} {l c:Nat} {xs:List e.Den} (h:Rd (.sl e) m [.slice A l c] xs) (s i j:Nat) (hs:e.sz=s) (hij:i≤j) (hj:j≤xs.length):
  ∃ A',(if c=i then A else A.map (·.add (i*s)))=A'∧Rd (.sl e) m [.slice A' (j - i) (c - i)] ((xs.take j).drop i):=by
 subst hs;exact ⟨_,rfl,h.sub hij hj⟩
theorem Rd.pre {e:Ty} {m:Mem} {A:Option Addr} {l c j:Nat} {xs:List e.Den} (h:Rd (.sl e) m [.slice A l c] xs) (hj:j≤xs.length):Rd (.sl e) m [.slice A j c] (xs.take j):=by
 have h':=h
 obtain ⟨A',c',h1,h2,h3,h4⟩:=h'
 simp only [List.cons.injEq,Value.slice.injEq,and_true] at h1
 obtain ⟨rfl,rfl,rfl⟩:=h1
 have hl:(xs.take j).length=j:=by simp;omega
 refine ⟨A,c,by rw [hl],by omega,h3,?_⟩
 rw [hl]
 rcases h4 with h4 | ⟨g,off,all,k1,k2,k3⟩
 ·exact .inl (by omega)
 ·refine .inr ⟨g,off,all.take (j*e.sz),k1,?_,k3.take (fun _ _ h=>h.len) j⟩
  have:=k2.sub (i:=0) (j:=j*e.sz) (by rw [Nat.zero_add];exact Nat.mul_le_mul_right _ hj)
  simpa using this
theorem Rd.drop {e:Ty} {m:Mem} {A:Option Addr} {l c:Nat} {xs:List e.Den} (h:Rd (.sl e) m [.slice A l c] xs) (s i:Nat) (hs:e.sz=s) (hi:i≤xs.length):
  ∃ A',(if c=i then A else A.map (·.add (i*s)))=A'∧Rd (.sl e) m [.slice A' (xs.length - i) (c - i)] (xs.drop i):=by
 obtain ⟨A',h1,h2⟩:=h.sub' s i xs.length hs hi (Nat.le_refl _)
 rw [List.take_length] at h2
 exact ⟨A',h1,h2⟩
theorem eqF {F : List Field} : ∀ {o : Nat} {xs ys : List Value} (cs ds : Array Value), QdX P F o xs = true → QdX P F o ys = true → (∀ i v, xs[i]? = some v → cs[o + i]? = some v) → (∀ i v, ys[i]? = some v → ds[o + i]? = some v) →
    ∀ (W : World) (dd : Nat), (Op.eqFields (dd + 1) cs ds F).run P W = .ok (ceq xs ys) W := by
  induction F with
  | nil =>
    intro o xs ys cs ds h1 h2 _ _ W dd
    cases xs <;> cases ys <;> simp_all [QdX, Op.eqFields, ceq]
  | cons f F ih =>
    intro o xs ys cs ds h1 h2 hx hy W dd
    cases xs with
    | nil => simp [QdX] at h1
    | cons x xs =>
      cases ys with
      | nil => simp [QdX] at h2
      | cons y ys =>
        simp only [QdX, Bool.and_eq_true, decide_eq_true_eq] at h1 h2
        obtain ⟨⟨⟨k1, k2⟩, k3⟩, k4⟩ := h1
        obtain ⟨⟨⟨_, _⟩, k5⟩, k6⟩ := h2
        have hx0 := hx 0 x rfl
        have hy0 := hy 0 y rfl
        have ihh := ih cs ds k4 k6 (fun i v h => by have := hx (i + 1) v (by simpa using h); rw [← this]; congr 1; omega) (fun i v h => by have := hy (i + 1) v (by simpa using h); rw [← this]; congr 1; omega) W dd
        simp only [Nat.add_zero] at hx0 hy0
        have pt : ∀ (D : TypeDesc) (v : Value) (c : Array Value), P.underlying f.type = some D → (∀ F, D ≠ .struct F) → (∀ l e, D ≠ .array l e) → c[o]? = some v → (part f.type c f.offset).run P W = .ok v W := by
          intro D v c hD h1 h2 hc
          have hag : (isAgg f.type).run P W = .ok false W := by
            simp only [isAgg, Sem.run_bind, Qj hD, Result.andThen_ok]
            cases D <;> first | rfl | exact absurd rfl (h1 _) | exact absurd rfl (h2 _ _)
          simp [part, hag, k2, hc]
        unfold Op.eqFields
        rw [if_pos k1]
        cases hu : P.underlying f.type with
        | none => rw [hu] at k3; simp at k3
        | some D =>
          rw [hu] at k3 k5
          have hcase : (∃ k a b, D = .int k ∧ x = .int k a ∧ y = .int k b) ∨ (∃ a b, D = .bool ∧ x = .bool a ∧ y = .bool b) ∨ (∃ a b, D = .string ∧ x = .string a ∧ y = .string b) := by
            cases D <;> cases x <;> simp at k3 <;> cases y <;> simp at k5 <;> simp_all
          rcases hcase with ⟨k, a, b, rfl, rfl, rfl⟩ | ⟨a, b, rfl, rfl, rfl⟩ | ⟨a, b, rfl, rfl, rfl⟩
          · rw [Sem.run_bind, pt _ _ _ hu (by simp) (by simp) hx0, Result.andThen_ok, Sem.run_bind, pt _ _ _ hu (by simp) (by simp) hy0, Result.andThen_ok, Sem.run_bind,
              run_equalIn_int W dd f.type _ _ a b hu, Result.andThen_ok]
            by_cases hab : a = b
            · subst hab; simp [ceq, ihh]
            · simp [ceq, hab]
          · rw [Sem.run_bind, pt _ _ _ hu (by simp) (by simp) hx0, Result.andThen_ok, Sem.run_bind, pt _ _ _ hu (by simp) (by simp) hy0, Result.andThen_ok, Sem.run_bind,
              run_equalIn_bool' W dd f.type a b hu, Result.andThen_ok]
            by_cases hab : a = b
            · subst hab; simp [ceq, ihh]
            · simp [ceq, hab]
          · rw [Sem.run_bind, pt _ _ _ hu (by simp) (by simp) hx0, Result.andThen_ok, Sem.run_bind, pt _ _ _ hu (by simp) (by simp) hy0, Result.andThen_ok, Sem.run_bind,
              run_equalIn_string W dd f.type a b hu, Result.andThen_ok]
            by_cases hab : a.toList = b.toList
            · simp [ceq, hab, ihh]
            · simp [ceq, hab]
theorem eqS {t:TypeId} {xs ys:List Value} (h1:Qe2 P t xs=true) (h2:Qe2 P t ys=true) (W:World):(Op.equalIn 10000 t (.agg xs.toArray) (.agg ys.toArray)).run P W= .ok (ceq xs ys) W∧P.eqGuardType P.depth t=false:=by
 unfold Qe2 at h1 h2
 split at h1
 ·rename_i F hF
  rw [hF] at h2
  simp only [Bool.and_eq_true,Bool.not_eq_true'] at h1 h2
  have hfs:P.fieldsOf t=F:=by simp [Program.fieldsOf,hF]
  refine ⟨?_,h1.2⟩
  rw [run_equalIn_struct W 9999 t _ _ (by rw [hfs];exact hF) h1.1.2,hfs]
  exact eqF _ _ h1.1.1 h2.1.1 (fun i v h=>by simpa using h) (fun i v h=>by simpa using h) W 9998
 ·cases h1
theorem Yld.stneq {x y:Operand} {t u:TypeId} {xs ys:List Value} {p:Prop} [Decidable p] (hx:ev σ x=some (.agg xs.toArray)) (hy:ev σ y=some (.agg ys.toArray)) (h1:Qe2 P t xs=true) (h2:Qe2 P t ys=true) (hp:ceq xs ys=decide p):
  Yld P n w0 σ Ω ⟨d,.binOp .neq t x y u,ty,pos,af,gd⟩ (.bool (decide (¬ p))):=fun A W he _=>by
 obtain ⟨k1,k2⟩:=eqS h1 h2 W
 simp only [execOp,he.eval hx,he.eval hy,Sem.run_bind,run_eqGuard_agg W .neq t x y _ _ k2,Result.andThen_ok,run_neq_struct,k1,hp,Sem.run_pure]
 simp
theorem Rd.bytes {m:Mem}:∀ {l:List UInt8} {cs:List Value},Q8 (Rd .byte m) cs l→cs=l.map byV
 | [],_,h=>h
 | b::l,_,⟨c1,c2,h1,h2,h3⟩=>by rw [h1,show c1=[byV b] from h2,Rd.bytes h3];rfl
theorem QhT : ∀ (l acc : List UInt8), (l.map fun b => (b.toNat : Int)).foldl (fun (r : ByteArray) n => r.push (UInt8.ofNat n.toNat)) ⟨acc.toArray⟩ = ⟨(acc ++ l).toArray⟩
  | [], acc => by simp
  | b :: l, acc => by
    have e : (⟨acc.toArray⟩ : ByteArray).push (UInt8.ofNat ((b.toNat : Int).toNat)) = ⟨(acc ++ [b]).toArray⟩ := by
      apply ByteArray.ext
      simp [ByteArray.push]
    rw [List.map_cons, List.foldl_cons, e, QhT l (acc ++ [b])]
    simp
theorem QrC (W:World) (l:List UInt8) (g off:Nat) (c:Nat) (h:(loadCells ⟨g,off,none⟩ l.length).run P W= .ok (l.map byV).toArray W):
  (Conv.bytesToString (.slice (some ⟨g,off,none⟩) l.length c)).run P W= .ok (str l) W:=by
 have h':(loadCells ⟨g,off,none⟩ l.length).run P W= .ok ((l.map fun b=>(b.toNat:Int)).map (Value.int .u8)).toArray W:=by
  rw [h,List.map_map];rfl
 rw [run_bytesToString W _ _ c _ h']
 have:=QhT l []
 rw [show (⟨([]:List UInt8).toArray⟩:ByteArray)=ByteArray.empty from rfl] at this
 rw [this]
 simp
theorem Yld.b2s {x : Operand} {s t e : TypeId} {m : Mem} {v : Value} {l : List UInt8} (i : Nat) (hx : ev σ x = some v) (hs : P.underlying s = some (.slice e)) (ht : P.underlying t = some .string) (he' : P.underlying e = some (.int .u8)) (hm : YA Ω i = some m) (h : Rd (.sl .byte) m [v] l) :
    Yld P n w0 σ Ω ⟨d, .convert s t x, ty, pos, af, gd⟩ (str l) := fun a W he hi => by
  obtain ⟨A, c, rfl, h2, h3⟩ := h.slice
  have key : (Conv.bytesToString (.slice A l.length c)).run P W = .ok (str l) W := by
    by_cases h0 : l = []
    · subst h0
      cases A with
      | none => rfl
      | some a0 =>
        simp only [Conv.bytesToString, loadCells, loadCellsFrom, Sem.run_bind, List.length_nil, Sem.run_pure, Result.andThen_ok]
        rfl
    · obtain ⟨g, off, all, rfl, k2, k3⟩ := h.row h0
      have k2' : Jp m g off l.length all := by simpa [Ty.sz] using k2
      have hall := Rd.bytes k3
      subst hall
      exact QrC W l g off c (Yp (k2'.mono (hi.at hm)))
  simp only [execOp, convert, he.eval hx, Sem.run_bind, Qj hs, Qj ht, Result.andThen_ok, Qj he', key, Sem.run_pure]
end
section
open Go.ChangeShapes Go.WideShapes Go.ChangeAt Go.RowKit
theorem Ty.sz_pos:∀ t:Ty,0 < t.sz
 | .int _ | .byte | .bool | .str | .sl _ | .spl _ | .ptr _ | .addr | .hdr | .tmap=>Nat.one_pos
 | .pair a b=>Nat.add_pos_left (sz_pos a) _
def Ty.wt : Ty → Nat
  | .int .u8 | .byte => 1
  | .str => 16
  | .sl _ | .spl _ | .hdr => 24
  | .pair a b => a.wt + b.wt
  | _ => 8
def QfW (P : Program) : Nat → Ty → TypeId ⊕ (List Field × Nat) → Bool
  | 0, _, _ => false
  | n + 1, ty, .inl t => match P.underlying t, ty with
    | some .bool, .bool => true
    | some .string, .str => true
    | some (.int .u8), .byte => true
    | some (.int k), .int k' => k == k'
    | some (.slice u), .sl e => QfW P n e (.inl u) && P.cellsOf u == e.sz && Nat.ble e.wt (P.bytesOf u)
    | some (.struct fs), ty => P.cellsOf t == ty.sz && QfW P n ty (.inr (fs.toList, 0))
    | _, _ => false
  | n + 1, ty, .inr ([f], off) => f.offset == off && P.cellsOf f.type == ty.sz && QfW P n ty (.inl f.type)
  | n + 1, .pair a b, .inr (f :: r, off) => f.offset == off && P.cellsOf f.type == a.sz && QfW P n a (.inl f.type) && QfW P n b (.inr (r, off + a.sz))
  | _, _, _ => false
theorem QmL {k:IntKind} {n:Int} (h:(Lit.int k n).wf=true):inK k n:=by
 cases k <;> simp [Lit.wf,IntKind.min,IntKind.max,IntKind.signed,IntKind.bits] at h <;> simp [inK] <;> omega
theorem Qhk {w:World} {a:Addr} {k:Nat} {ci:List Value} (h:w.cells? 0 a k=some ci):ci.length=k∧∀ j,j < k→w.cell? (a.add j)=ci[j]? :=by
 unfold World.cells? at h
 rw [if_pos (Nat.zero_le _)] at h
 exact ⟨by simpa using mapM_some_length h,fun j hj=>mapM_some_get h j j (by simp [hj])⟩
theorem Qku {α : Type} {R : List Value → α → Prop} {k : Nat} {c : List Value} : ∀ (len off : Nat), (∀ i, i < len → ∃ x, R ((c.drop (off + i * k)).take k) x) → off + len * k ≤ c.length →
    ∃ xs : List α, xs.length = len ∧ Q8 R ((c.drop off).take (len * k)) xs
  | 0, off, _, _ => ⟨[], rfl, by simp [Q8]⟩
  | len + 1, off, h, hl => by
    have e : (len + 1) * k = k + len * k := by rw [Nat.add_mul]; omega
    obtain ⟨x, hx⟩ := h 0 (by omega)
    obtain ⟨xs, h1, h2⟩ := Qku (c := c) (k := k) len (off + k) (fun i hi => by
      have := h (i + 1) (by omega)
      rwa [show off + (i + 1) * k = off + k + i * k by rw [Nat.add_mul]; omega] at this) (by omega)
    refine ⟨x :: xs, by simp [h1], _, _, ?_, by simpa using hx, h2⟩
    rw [e, List.take_add, List.drop_drop]
section
variable {H : Type} {enc : TypeId × Value → H} {P : Program} {w : World} {spare : Nat → Bool} {held : Bool}
theorem Qac : ∀ (n : Nat) (ty : Ty), (∀ (t : TypeId) (fuel : Nat) (cs : List Value) (x : DataW H × List MemPlace), QfW P n ty (.inl t) = true → DataW.trod enc P w 0 spare held fuel t cs = some x → ∃ d, Rd ty (wm w) cs d) ∧
    (∀ (fs : List Field) (off : Nat) (cs : List Value), QfW P n ty (.inr (fs, off)) = true → off + ty.sz ≤ cs.length → (∀ f ∈ fs, ∃ fuel x, DataW.trod enc P w 0 spare held fuel f.type ((cs.drop f.offset).take (P.cellsOf f.type)) = some x) → ∃ d, Rd ty (wm w) ((cs.drop off).take ty.sz) d)
  | 0, ty => ⟨fun _ _ _ _ h => by simp [QfW] at h, fun _ _ _ h => by simp [QfW] at h⟩
  | n + 1, ty => by
    constructor
    · intro t fuel cs x ht hx
      unfold QfW at ht
      split at ht
      · rename_i hu
        obtain ⟨b, rfl, _⟩ := DataW.trod_bool hu hx
        exact ⟨b, rfl⟩
      · rename_i hu
        obtain ⟨s, rfl, _, hs⟩ := DataW.trod_string hu hx
        exact ⟨s.data.toList, by cases s; rfl, hs⟩
      · rename_i hu
        obtain ⟨q, rfl, _, hq⟩ := DataW.trod_int hu hx
        have := QmL hq
        simp only [inK] at this
        refine ⟨UInt8.ofNat q.toNat, ?_⟩
        show _ = [byV _]
        simp only [byV, List.cons.injEq, Value.int.injEq, and_true, true_and]
        simp
        omega
      · rename_i k k' hu
        have ek : k = k' := eq_of_beq ht
        subst ek
        obtain ⟨q, rfl, _, hq⟩ := DataW.trod_int hu hx
        exact ⟨q, rfl, QmL hq⟩
      · rename_i u e hu
        simp only [Bool.and_eq_true, beq_iff_eq] at ht
        obtain ⟨⟨ht1, ht2⟩, ht3⟩ := ht
        rcases DataW.trod_slice hu hx with ⟨rfl, _⟩ | ⟨a, len, cap, elems, rest, m, _, rfl, _, _, hl, hc, hel, hget, _⟩
        · exact ⟨[], Rd.nil _ _ _ _ (Nat.zero_le _)⟩
        · rcases Nat.eq_zero_or_pos len with h0 | h0
          · subst h0; exact ⟨[], Rd.nil _ _ _ _ hc⟩
          · rw [ht2] at hget
            have hk := e.sz_pos
            have hcell : ∀ i, i < len → ∃ ci, w.cells? 0 (a.add (i * e.sz)) e.sz = some ci ∧ ∃ x, Rd e (wm w) ci x := fun i hi => by
              have := hget i hi
              rw [List.getElem?_eq_getElem (by omega), Option.bind_eq_some_iff] at this
              obtain ⟨ci, h1, h2⟩ := this
              exact ⟨ci, h1, (Qac n e).1 u _ _ _ ht1 h2⟩
            obtain ⟨c0, h1, x0, _⟩ := hcell 0 h0
            obtain ⟨hl0, hg0⟩ := Qhk h1
            have h00 := hg0 0 hk
            rw [List.getElem?_eq_getElem (by omega), Nat.zero_mul] at h00
            have ha0 : (a.add 0).add 0 = a := by simp [Addr.add]
            rw [ha0] at h00
            obtain ⟨g, off, spot⟩ := a
            unfold World.cell? at h00
            dsimp only at h00
            split at h00
            · rename_i c E fz hheap
              split at h00
              · cases h00
              · rename_i hs
                have hs' : spot = none := by cases spot <;> simp_all
                subst hs'
                have hget2 : ∀ i, i < len → ∀ j, j < e.sz → off + i * e.sz + j < c.size ∧ ∀ ci, w.cells? 0 ((Addr.mk g off none).add (i * e.sz)) e.sz = some ci → c[off + i * e.sz + j]? = ci[j]? := fun i hi j hj => by
                  obtain ⟨ci, q1, _⟩ := hcell i hi
                  obtain ⟨q2, q3⟩ := Qhk q1
                  have := q3 j hj
                  rw [QaU, QaU] at this
                  simp only [World.cell?, hheap, Option.isSome_none, Bool.false_eq_true, if_false] at this
                  refine ⟨?_, fun ci' h => ?_⟩
                  · rw [List.getElem?_eq_getElem (by omega)] at this
                    exact (Array.getElem?_eq_some_iff.1 this).1
                  · rw [q1] at h; cases h; exact this
                have hsz : off + len * e.sz ≤ c.size := by
                  have := (hget2 (len - 1) (by omega) (e.sz - 1) (by omega)).1
                  have e1 : len * e.sz = (len - 1) * e.sz + e.sz := by
                    conv => lhs; rw [show len = len - 1 + 1 by omega, Nat.add_mul, Nat.one_mul]
                  omega
                obtain ⟨xs, k1, k2⟩ := Qku (R := Rd e (wm w)) (k := e.sz) (c := c.toList) len off (fun i hi => by
                  obtain ⟨ci, q1, x, q2⟩ := hcell i hi
                  refine ⟨x, ?_⟩
                  rwa [show (c.toList.drop (off + i * e.sz)).take e.sz = ci from ?_]
                  have := (Qhk q1).1
                  have e2 : i * e.sz + e.sz ≤ len * e.sz := by
                    have := Nat.mul_le_mul_right e.sz (Nat.succ_le_of_lt hi)
                    rwa [Nat.succ_mul] at this
                  apply List.ext_getElem?
                  intro j
                  by_cases hj : j < e.sz
                  · rw [List.getElem?_take_of_lt hj, List.getElem?_drop, ← (hget2 i hi j hj).2 ci q1]
                    simp
                  · rw [List.getElem?_eq_none (by simp; omega), List.getElem?_eq_none (by omega)]) (by simpa using hsz)
                refine ⟨xs, some ⟨g, off, none⟩, cap, by rw [k1], by omega, hc, .inr ⟨g, off, _, rfl, ⟨c, E, fz, hheap, by rw [k1]; exact hsz, rfl⟩, ?_⟩⟩
                rw [k1]; exact k2
            · cases h00
      · rename_i fs hu
        simp only [Bool.and_eq_true, beq_iff_eq] at ht
        obtain ⟨ht1, ht2⟩ := ht
        obtain ⟨xs, m, _, _, hcl, hxl, hf⟩ := DataW.trod_struct hu hx
        have := (Qac n _).2 fs.toList 0 cs ht2 (by rw [hcl, ht1]; omega) (fun f hm => by
          obtain ⟨i, hi, rfl⟩ := List.getElem_of_mem hm
          have := hf i fs.toList[i] (by simp at hi; simp [hi])
          rw [List.getElem?_eq_getElem (by simp at hi; omega)] at this
          exact ⟨_, _, this⟩)
        rwa [List.drop_zero, List.take_of_length_le (by omega)] at this
      · cases ht
    · intro fs off cs ht hl hf
      match fs, ht, hf with
      | [], ht, _ => cases ty <;> simp [QfW] at ht
      | [f], ht, hf =>
        have ht' : (f.offset == off && P.cellsOf f.type == ty.sz && QfW P n ty (.inl f.type)) = true := by cases ty <;> simpa [QfW] using ht
        simp only [Bool.and_eq_true, beq_iff_eq] at ht'
        obtain ⟨⟨h1, h2⟩, h3⟩ := ht'
        obtain ⟨fuel, x, hx⟩ := hf f (.head _)
        rw [h1, h2] at hx
        exact (Qac n ty).1 _ _ _ _ h3 hx
      | f :: g :: r, ht, hf =>
        match ty, ht, hl with
        | .pair a b, ht, hl =>
          have ht' : (f.offset == off && P.cellsOf f.type == a.sz && QfW P n a (.inl f.type) && QfW P n b (.inr (g :: r, off + a.sz))) = true := ht
          simp only [Bool.and_eq_true, beq_iff_eq] at ht'
          obtain ⟨⟨⟨h1, h2⟩, h3⟩, h4⟩ := ht'
          obtain ⟨fuel, x, hx⟩ := hf f (.head _)
          rw [h1, h2] at hx
          have hs : (Ty.pair a b).sz = a.sz + b.sz := rfl
          rw [hs] at hl
          obtain ⟨d1, k1⟩ := (Qac n a).1 _ _ _ _ h3 hx
          obtain ⟨d2, k2⟩ := (Qac n b).2 (g :: r) (off + a.sz) cs h4 (by omega) (fun q hq => hf q (.tail _ hq))
          refine ⟨(d1, d2), _, _, ?_, k1, k2⟩
          rw [hs, List.take_add, List.drop_drop]
theorem arg_rd {ty:Ty} {t:TypeId} {v:Value} {d:DataW H} {ps:List MemPlace} {cs:List Value} (n:Nat) (ht:QfW P n ty (.inl t)=true) (hv:v.cells.toList=cs) (h:DataW.Trod enc P w 0 spare held t v d ps):∃ d,Rd ty (wm w) cs d:=by
 obtain ⟨fuel,hf⟩:=h
 rw [hv] at hf
 exact (Qac n ty).1 t fuel cs _ ht hf
variable {b0 : Nat} {t : TypeId} {v : Value} {d : DataW H} {ps : List MemPlace} {r : Reach}
theorem QrE {k:IntKind} (hu:P.underlying t=some (.int k)) (hv:Value.okWide P w r b0 t v) (h:DataW.Trod enc P w 0 spare held t v d ps):∃ n,v= .int k n∧inK k n:=by
 obtain ⟨n,rfl,_,_,hw⟩:=open_int hu hv h
 exact ⟨n,rfl,QmL hw⟩
theorem Qnx {u:TypeId} {e:Ty} (n:Nat) (ht:QfW P n (.sl e) (.inl t)=true) (hu:P.underlying t=some (.slice u)) (hv:Value.okWide P w r b0 t v) (h:DataW.Trod enc P w 0 spare held t v d ps):∃ d,Rd (.sl e) (wm w) [v] d:=by
 obtain ⟨a,l,c,rfl⟩:=okWide_slice hu hv
 exact arg_rd n ht rfl h
theorem stay : ∀ {ts : List TypeId} {vs : List Value} {ds : List (DataW H)} {ps : List MemPlace} {W' : World} {sp : Nat → Bool}, laidOutB P = true → ts.all (fun t => P.readableRec t && Nat.blt t P.types.size) = true →
    DataW.TrodAll enc P w 0 (fun _ => true) true ts vs ds ps → Below w.heap.size w W' → (∀ x ∈ ps, x.block < w.heap.size) → (∀ x ∈ ps, sp x.block = true) → DataW.TrodAll enc P W' 0 sp true ts vs ds ps
  | [], [], [], _, _, _, _, _, h, _, _, _ => h
  | t :: ts, v :: vs, d :: ds, _, W', sp, hl, ha, ⟨p, q, h1, h2, rfl⟩, hb, hlt, hs => by
    rw [List.all_cons, Bool.and_eq_true, Bool.and_eq_true] at ha
    refine ⟨p, q, WideElems.Trod_stays hl ha.1.1 (Nat.le_of_ble_eq_true ha.1.2) h1 (fun x hx => hb.same (hlt x (List.mem_append_left _ hx))) (fun x hx => hs x (List.mem_append_left _ hx)), ?_, rfl⟩
    exact stay hl ha.2 h2 hb (fun x hx => hlt x (List.mem_append_right _ hx)) (fun x hx => hs x (List.mem_append_right _ hx))
end
theorem QoR {P:Program} {f:FuncId} {args:List Value} {W:World} {b:Bool} (h:Qc P f args W mnil (fun v _=>v= .bool b)):Calls P f args.toArray W fun e W'=>e= .returned (.bool b)∧Below W.heap.size W W':=
 Calls.mono h fun e W' ⟨v,m',h1,h2,h3⟩=>⟨by rw [h1,h2],h3.os,h3.tape,h3.output,h3.size,fun k hk=>by
  have:=h3.keep k W.heap[k] (by simp [Ju,mnil,wm,hk])
  simp only [wm] at this
  rw [this,Array.getElem?_eq_getElem hk]⟩
theorem Qoy {H : Type} {enc : TypeId × Value → H} {P : Program} {f : Func} {s : ChangeSpec} {apart fresh handsOn again : Bool} {W W' : World} {args : List Value} {ds gs : List (DataW H)} {before : List MemPlace} {tb : TypeId} {b : Bool}
    (hW : DataW.Whole enc P f.params.toList s.vars apart W args ds gs before) (hb : Below W.heap.size W W') (hl : laidOutB P = true) (ha : f.params.toList.all (fun t => P.readableRec t && Nat.blt t P.types.size) = true)
    (hrt : f.resultTypes = #[tb]) (hub : P.underlying tb = some .bool) (hv : s.vars = []) (hr : (s.fn H ds).results = [.lit (.bool b)]) (hs : (s.fn H ds).args = ds) (hv2 : (s.fn H ds).vars = []) :
    s.post enc P f apart fresh handsOn again W args.toArray (.bool b) W' := by
  have hW' := hW
  have hlt : ∀ p ∈ before, p.block < W.heap.size := fun p hp => by simpa using hW.lt p hp
  obtain ⟨p, q, hA, hV, rfl, hz, hn⟩ := hW
  rw [hv] at hV
  obtain ⟨rfl, rfl⟩ := trodVars_none hV
  simp only [List.append_nil] at hlt hz hn hW'
  have hargs : ∀ sp : Nat → Bool, (∀ x ∈ p, sp x.block = true) → DataW.TrodAll enc P W' 0 sp true f.params.toList args (s.fn H ds).args p := fun sp h => by
    rw [hs]; exact stay hl ha hA hb hlt h
  have hres : ∀ (n : Nat) (sp : Nat → Bool) (hd : Bool), DataW.TrodAll enc P W' n sp hd f.resultTypes.toList ((Value.bool b).resultList f.resultTypes.size) (s.fn H ds).results [] := fun n sp hd => by
    rw [hr, hrt]; exact trodAll_mk1 (shut_bool hub _)
  have hold : ∀ x ∈ p, (fun n => decide (n < W.heap.size)) x.block = true := fun x hx => by simpa using hlt x hx
  have hvs : ∀ sp, DataW.TrodVars enc P W' sp s.vars (s.fn H ds).vars [] := fun sp => by rw [hv, hv2]; rfl
  have e : args.toArray.toList = args := by simp
  refine ⟨ds, [], p, [], p, [], by rw [e]; exact hW', ?_, ?_, ?_, ?_, fun _ => ⟨?_, ?_⟩⟩
  · rw [List.append_nil]; exact hres _ _ _
  · rw [List.append_nil, e]; exact hargs _ hold
  · rw [List.append_nil]; exact hvs _
  · exact hb.frame _
  · rw [hrt]
    intro j t r h1 h2
    match j, h1, h2 with
    | 0, h1, h2 =>
      simp [Value.resultList] at h1 h2
      subst h1; subst h2
      exact okWide_bool_mk hub _
  · refine ⟨_, _, ([] ++ p) ++ [], ⟨[] ++ p, [], trodAll_append (by rw [e]; exact hargs (fun _ => true) (fun _ _ => rfl)) (hres _ _ _), hvs (fun _ => true), rfl, ?_, ?_⟩, ?_⟩
    · intro k off hp
      have hp' : MemPlace.cell k off ∈ p := by simpa using hp
      rw [hb.frozen (hlt _ hp')]
      exact hz k off hp'
    · intro ha'
      simpa using hn ha'
    · intro x hx _
      simpa using hx
end
theorem QcU (n:Nat):IntKind.u8.wrap (n:Int)=((n % 256:Nat):Int):=by rw [IntKind.wrap_u8];omega
theorem Qbj {n:Nat} {m:Mem} (h:n < 256):Rd .byte m [.int .u8 ((n:Nat):Int)] (UInt8.ofNat n):=by
 show [Value.int .u8 _]=[byV _]
 simp only [byV]
 congr 2
 simp
 omega
section
variable {P : Program} {n : Nat} {w0 : World} {σ : Env} {Ω : Ctx}
variable {ty : TypeId} {pos : String} {af : Array Edge} {d : Option Tmp} {gd : Option (Nat × Bool)}
theorem Ql8 (k:IntKind) (a b:Nat) (hb:b≠0):∀ W,(Op.intDiv .rem k (a:Int) (b:Int)).run P W= .ok (.int k ((a % b:Nat):Int)) W:=fun W=>by
 unfold Op.intDiv
 rw [if_neg (by omega)]
 rfl
theorem Qi7 (a b:Nat) (ha:a < 18446744073709551616) (hb:b≠0):∀ W,(Op.intDiv .quo .u64 (a:Int) (b:Int)).run P W= .ok (.int .u64 ((a / b:Nat):Int)) W:=fun W=>by
 unfold Op.intDiv
 rw [if_neg (by omega)]
 have h:=Nat.div_le_self a b
 have e:((a:Int).tdiv b)=((a / b:Nat):Int):=rfl
 show Result.ok (Value.int .u64 (IntKind.u64.wrap ((a:Int).tdiv b))) W=_
 rw [e]
 generalize a / b=q at h ⊢
 rw [IntWalk.u64_in _ (by omega)]
theorem or_all:∀ a:Fin 256,(a.val ||| 128)=a.val % 128+128:=by decide+kernel
theorem QrF:∀ a:Fin 256,(a.val &&& 127)=a.val % 128:=by decide+kernel
theorem or128 (a:Nat) (h:a < 256):∀ W,(Op.intBits .or .u8 (a:Int) 128).run P W= .ok (.int .u8 ((a % 128+128:Nat):Int)) W:=fun W=>by
 have e:(BitVec.ofInt IntKind.u8.bits (a:Int) ||| BitVec.ofInt IntKind.u8.bits 128).toNat=a % 128+128:=by
  have:=or_all ⟨a,h⟩
  simp only at this
  rw [BitVec.toNat_or]
  show (BitVec.ofInt 8 (a:Int)).toNat ||| (BitVec.ofInt 8 128).toNat=_
  have e1:(BitVec.ofInt 8 (a:Int)).toNat=a:=by simp;omega
  rw [e1]
  exact this
 show Result.ok (Value.int .u8 (IntKind.u8.wrap ((BitVec.ofInt IntKind.u8.bits (a:Int) ||| BitVec.ofInt IntKind.u8.bits 128).toNat:Int))) W=_
 rw [e,IntWalk.u8_in _ (by omega)]
theorem QpJ (a:Nat) (h:a < 256):∀ W,(Op.intBits .and .u8 (a:Int) 127).run P W= .ok (.int .u8 ((a % 128:Nat):Int)) W:=fun W=>by
 have e:(BitVec.ofInt IntKind.u8.bits (a:Int) &&& BitVec.ofInt IntKind.u8.bits 127).toNat=a % 128:=by
  have:=QrF ⟨a,h⟩
  simp only at this
  rw [BitVec.toNat_and]
  show (BitVec.ofInt 8 (a:Int)).toNat &&& (BitVec.ofInt 8 127).toNat=_
  have e1:(BitVec.ofInt 8 (a:Int)).toNat=a:=by simp;omega
  rw [e1]
  exact this
 show Result.ok (Value.int .u8 (IntKind.u8.wrap ((BitVec.ofInt IntKind.u8.bits (a:Int) &&& BitVec.ofInt IntKind.u8.bits 127).toNat:Int))) W=_
 rw [e,IntWalk.u8_in _ (by omega)]
theorem shr7 (a:Nat) {k:IntKind}:∀ W,(Op.shift .shr .u64 (a:Int) k 7).run P W= .ok (.int .u64 ((a / 128:Nat):Int)) W:=fun W=>by
 show Result.ok (Value.int .u64 ((a:Int).fdiv (2 ^ (min 7 64)))) W=_
 have e:((a:Int).fdiv (2 ^ (min 7 64)))=((a / 128:Nat):Int):=by
  rw [Int.fdiv_eq_ediv_of_nonneg _ (by decide)]
  rfl
 rw [e]
theorem Yld.addN {x y:Operand} {t u:TypeId} {k:IntKind} {a b c:Nat} (hx:ev σ x=some (.int k (a:Int))) (hy:ev σ y=some (.int k (b:Int))) (hc:a+b=c) (h:(k= .u8∧c < 256)∨(k= .u64∧c < 18446744073709551616)):
  Yld P n w0 σ Ω ⟨d,.binOp .add t x y u,ty,pos,af,gd⟩ (.int k (c:Int)):=by
 have:=Yld.addW (P:=P) (n:=n) (w0:=w0) (Ω:=Ω) (ty:=ty) (pos:=pos) (af:=af) (d:=d) (gd:=gd) (t:=t) (u:=u) hx hy
 have e:(a:Int)+b=(c:Int):=by omega
 rw [e] at this
 rcases h with ⟨rfl,h⟩ | ⟨rfl,h⟩
 ·rwa [IntWalk.u8_in _ (by omega)] at this
 ·rwa [IntWalk.u64_in _ (by omega)] at this
end
theorem Q8.cons {α:Type} {R:List Value→α→Prop} {c1 c2:List Value} {x:α} {xs:List α} (h:R c1 x) (h2:Q8 R c2 xs):Q8 R (c1++c2) (x::xs):=⟨c1,c2,rfl,h,h2⟩
theorem Q8.nil {α:Type} {R:List Value→α→Prop}:Q8 R [] []:=rfl
theorem Qz.lit {e:Ty} {E:TypeId} {g:Nat} {k:Mem} {cs:List Value} {xs:List e.Den} (len:Nat) (h:Q8 (Rd e k) cs xs) (hl:xs.length=len) (hm:Nat.ble len 1000=true):
  Qz e (Qo g (.cells cs.toArray E (0,0))) k (.slice (some ⟨g,0,none⟩) len len) xs:=by
 subst hl
 have hc:=h.len (fun _ _ h=>h.len)
 refine ⟨_,cs,Qb _,?_,h⟩
 have:=QaM.row (sz:=e.sz) g 0 xs.length xs.length E cs (by rw [hc];omega) (Nat.le_refl _) (Nat.le_trans (Nat.le_of_ble_eq_true hm) (by decide))
 rwa [List.drop_zero,List.take_of_length_le (by rw [hc];omega)] at this
theorem Qz.elem {e:Ty} {m n:Mem} {A:Option Addr} {l c i:Nat} {xs:List e.Den} {x:e.Den} (h:Qz e m n (.slice A l c) xs) (hi:xs[i]? =some x):
  ∃ g off ec,A=some ⟨g,off,none⟩∧Jp m g (off+i*e.sz) e.sz ec∧Rd e n ec x:=by
 obtain ⟨m0,cs,k0,k1,k2⟩:=h
 have hlt:i < xs.length:=(List.getElem?_eq_some_iff.1 hi).1
 obtain ⟨g,off,c',hv,hc⟩:=k1.cells (by omega)
 simp only [Value.slice.injEq] at hv
 have hm:i*e.sz+e.sz≤xs.length*e.sz:=by
  have:=Nat.mul_le_mul_right e.sz (Nat.succ_le_of_lt hlt)
  rw [Nat.succ_mul] at this;exact this
 exact ⟨g,off,_,hv.1,(hc.sub hm).mono k0,k2.get (fun _ _ h=>h.len) hi⟩
theorem Rd.room {e:Ty} {m:Mem} {A:Option Addr} {l c:Nat} {xs:List e.Den} (h:Rd (.sl e) m [.slice A l c] xs):l≤c∧c≤9223372036854775807:=by
 obtain ⟨A',c',he,h1,h2⟩:=h.slice
 simp only [Value.slice.injEq,maxLen] at he h2
 omega
section
variable {P : Program} {n : Nat} {w0 : World} {σ : Env} {Ω : Ctx} {ops : Array Oper} {K : Env → Ctx → Prop} {R : Exit → Env → Ctx → Prop}
variable {ty : TypeId} {pos : String} {af : Array Edge} {d : Option Tmp} {gd : Option (Nat × Bool)} {r : List Oper}
theorem Yld.minM {x y:Operand} {t u:TypeId} {k:IntKind} {a b:Int} (hx:ev σ x=some (.int k a)) (hy:ev σ y=some (.int k b)):
  Yld P n w0 σ Ω ⟨d,.call { callee:= .builtin .min,args:=[x,y].toArray,argTypes:=[t,u].toArray },ty,pos,af,gd⟩ (.int k (Min.min a b)):=by
 have h:=Yld.min (P:=P) (n:=n) (w0:=w0) (Ω:=Ω) (t:=t) (u:=u) (ty:=ty) (pos:=pos) (af:=af) (d:=d) (gd:=gd) hx hy
 rwa [show (if b < a then b else a)=Min.min a b by split <;> omega] at h
theorem Qk3 (op:BinOp) (t:TypeId) (x y:Operand) (A B:Option Addr) (l c l' c':Nat) (W:World):(eqGuard op t x y (.slice A l c) (.slice B l' c')).run P W= .ok () W:=by
 unfold eqGuard;cases op <;> simp
theorem Qd7 (W:World) (k:Nat) {t e:TypeId} (A:Option Addr) (l c:Nat) (ht:P.underlying t=some (.slice e)):(Op.equalIn (k+1) t (.slice A l c) (.slice none 0 0)).run P W= .ok (decide (A=none)) W:=by
 unfold Op.equalIn
 rw [Sem.run_bind,Qj ht]
 cases A <;> rfl
theorem Yld.snil {x y:Operand} {t u e:TypeId} {A:Option Addr} {l c:Nat} (hx:ev σ x=some (.slice A l c)) (hy:ev σ y=some (.slice none 0 0)) (ht:P.underlying t=some (.slice e)):
  Yld P n w0 σ Ω ⟨d,.binOp .eql t x y u,ty,pos,af,gd⟩ (.bool (decide (A=none))):=fun a W he _=>by
 have h2:(binOp .eql t (.slice A l c) (.slice none 0 0)).run P W= .ok (.bool (decide (A=none))) W:=by
  have h3:binOp .eql t (.slice A l c) (.slice none 0 0)=(do pure (.bool (← Op.equal t (.slice A l c) (.slice none 0 0)))):=by
   cases A <;> rfl
  rw [h3,Sem.run_bind]
  unfold Op.equal
  rw [show Op.maxDepth=9999+1 from rfl,Qd7 W 9999 A l c ht]
  rfl
 simp [execOp,he.eval hx,he.eval hy,Qk3,h2]
theorem VO.gbsl {b':Bool} {jj dd:Nat} {t e:TypeId} {s b len:Nat} {l:List (Nat × Operand)} {ps:List (Nat × Value)} {z cs:List Value} (i:Nat) (hd:Nat.blt dd n=true) (hg:Qff σ ops jj b') (hl:evp σ l=some ps) (ht:tsl P t=some (e,s,b)) (hz:tz P e=some z)
  (hsmall:Nat.ble (len*s) 16777216=true) (hb:bld (fun i=>some (i*s,s)) ((List.range (len*s)).map fun j=>z.toArray[j % z.toArray.size]!) ps=some cs)
  (h:∀ g,VO P n w0 ops r ((dd,.slice (some ⟨g,0,none⟩) len len)::σ) ((i,Qo g (.cells cs.toArray e (0,0)))::Ω) K):VO P n w0 ops (⟨some dd,.buildSlice t len l.toArray,ty,pos,af,some (jj,b')⟩::r) σ Ω K:=
 VO.gs hd hg (Stp.bsl i hl ht hz hsmall hb) fun _ _ ⟨g,hv,hΩ⟩=>hv ▸ hΩ ▸ h g
theorem Qc.ofB {f:FuncId} {fn:Func} {c:Code} {args:List Value} {W:World} {m:Mem} {Post:Value→Mem→Prop} (hm:mle m (wm W)) (hf:P.funcs[f]? =some fn) (hb:fn.body=some c) (hn:fn.ntmps=n)
  (hsz:Nat.ble args.length n=true) (h:VC P n W c (Qk9 P n W fn m Post) (QpL 0 args) [(0,Ju (wm W) m),(1,m)]):Qc P f args W m Post:=Qc.of hf hb hn hsz hm h
theorem VO.gcall {b:Bool} {dd j:Nat} {f:FuncId} {xs:List Operand} {ats:Array TypeId} {vs:List Value} {Post:Value→Mem→Prop}
  (i:Nat) {m:Mem} (hd:Nat.blt dd n=true) (hg:Qff σ ops j b) (hf:JE P f=true) (ha:evs σ xs=some vs) (hm:YA Ω i=some m) (hc:∀ W,Inv w0 Ω W→Qc P f vs W m Post)
  (h:∀ v m',Post v m'→VO P n w0 ops r ((dd,v)::σ) (Qbz Ω i m') K):
  VO P n w0 ops (⟨some dd,.call { callee:= .value (.func f),args:=xs.toArray,argTypes:=ats },ty,pos,af,some (j,b)⟩::r) σ Ω K:=
 VO.gs hd hg (Stp.call i hf ha hm hc) fun v _ ⟨m',hp,hΩ⟩=>hΩ ▸ h v m' hp
end
theorem Qqh {P:Program} (k:IntKind) (a b:Int) (hb:0 < b):∀ W,(Op.intDiv .rem k a b).run P W= .ok (.int k (a.tmod b)) W:=fun W=>by
 unfold Op.intDiv
 rw [if_neg (by omega)]
 rfl
theorem QeL (a b:Int) (hb:0 < b): -b < a.tmod b∧a.tmod b < b:=⟨Int.lt_tmod_of_pos a hb,Int.tmod_lt_of_pos a hb⟩
def JZ (x n : Int) : Int := if x.tmod n < 0 then x.tmod n + n else x.tmod n
theorem QaE (x n:Int) (h:0 < n):0≤JZ x n∧JZ x n < n:=by
 have:=QeL x n h
 unfold JZ
 split <;> omega
def Qt (m : Mem) (l : List Mem) : Prop := (∀ x ∈ l, mle x m) ∧ l.Pairwise mdj
def Zs : List Mem → Mem
  | [] => mnil
  | m :: r => mun m (Zs r)
theorem Qt.nil (m:Mem):Qt m []:=⟨fun _ h=>(by cases h),.nil⟩
theorem Qt.one {m a:Mem} (h:mle a m):Qt m [a]:=⟨fun x hx=>by simp at hx;exact hx ▸ h,by simp⟩
theorem Qt.two {m a b:Mem} (h:mdj a b) (h1:mle a m) (h2:mle b m):Qt m [a,b]:=⟨fun x hx=>by simp at hx;rcases hx with rfl | rfl <;> assumption,by simpa using h⟩
theorem Qt.up {m m':Mem} {l:List Mem} (h:Qt m l) (hm:mle m m'):Qt m' l:=⟨fun x hx=>(h.1 x hx).trans hm,h.2⟩
theorem Qt.cons {m a:Mem} {l:List Mem} (h:Qt m l) (ha:mle a m) (hd:∀ x∈l,mdj a x):Qt m (a::l):=
 ⟨fun x hx=>by rcases List.mem_cons.1 hx with rfl | hx <;> first | exact ha | exact h.1 x hx,List.pairwise_cons.2 ⟨hd,h.2⟩⟩
theorem Qt.app {m a b:Mem} {l r:List Mem} (hd:mdj a b) (ha:mle a m) (hb:mle b m) (hl:Qt a l) (hr:Qt b r):Qt m (l++r):=
 ⟨fun x hx=>by rcases List.mem_append.1 hx with h | h <;> first | exact (hl.1 x h).trans ha | exact (hr.1 x h).trans hb,List.pairwise_append.2 ⟨hl.2,hr.2,fun x hx y hy=>hd.mono (hl.1 x hx) (hr.1 y hy)⟩⟩
theorem QcN {k:Mem}:∀ {l:List Mem},(∀ x∈l,mle x k)→mle (Zs l) k
 | [],_=>JW _
 | m::r,h=>QcE (h m (.head _)) (QcN fun x hx=>h x (.tail _ hx))
theorem XP {k:Mem}:∀ {l:List Mem},(∀ x∈l,mdj x k)→mdj (Zs l) k
 | [],_=>Qeo _
 | m::r,h=>Y2 (h m (.head _)) (XP fun x hx=>h x (.tail _ hx))
theorem Qak : ∀ {l : List Mem}, l.Pairwise mdj → Qt (Zs l) l
  | [], _ => Qt.nil _
  | m :: r, h => by
    obtain ⟨h1, h2⟩ := List.pairwise_cons.1 h
    have hd : mdj m (Zs r) := (XP fun x hx => (h1 x hx).symm).symm
    exact ((Qak h2).up (Jn hd)).cons (Js _ _) h1
section
variable {P : Program} {n : Nat} {w0 : World} {σ : Env} {Ω : Ctx} {ops : Array Oper} {K : Env → Ctx → Prop} {R : Exit → Env → Ctx → Prop}
theorem Inv.parts {W : World} (h : Inv w0 Ω W) {i : Nat} {m : Mem} (hi : YA Ω i = some m) {l : List Mem} (hl : Qt m l) (ids : List Nat) : Inv w0 (ids.zip l ++ YZ Ω i) W := by
  obtain ⟨h1, h2⟩ := Qb0 hi h.dj
  have hz : ∀ p ∈ ids.zip l, p.2 ∈ l := fun p hp => (List.of_mem_zip (a := p.1) (b := p.2) hp).2
  have hp : ∀ (ids : List Nat) (l : List Mem), l.Pairwise mdj → (ids.zip l).Pairwise (fun p q => mdj p.2 q.2) := by
    intro ids
    induction ids with
    | nil => intro l _; simp
    | cons a ids ih =>
      intro l hl
      cases l with
      | nil => simp
      | cons m l =>
        obtain ⟨k1, k2⟩ := List.pairwise_cons.1 hl
        refine List.pairwise_cons.2 ⟨fun p hp => k1 _ ?_, ih l k2⟩
        exact (List.of_mem_zip (a := p.1) (b := p.2) hp).2
  refine ⟨h.os, h.tape, h.output, h.size, fun p hp => ?_, List.pairwise_append.2 ⟨hp ids l hl.2, h2, fun p hp q hq => (h1 q hq).mono (hl.1 _ (hz p hp)) (Qb _)⟩⟩
  rcases List.mem_append.1 hp with hp | hp
  · exact (hl.1 _ (hz p hp)).trans (h.at hi)
  · exact h.le p (YW hp)
def QbZ : Ctx → List Nat → Option (List Mem)
  | _, [] => some []
  | Ω, i :: r => match YA Ω i, QbZ (YZ Ω i) r with
    | some m, some l => some (m :: l)
    | _, _ => none
def QcB : Ctx → List Nat → Ctx
  | Ω, [] => Ω
  | Ω, i :: r => QcB (YZ Ω i) r
theorem Inv.gets : ∀ {ids : List Nat} {Ω : Ctx} {W : World} {l : List Mem}, Inv w0 Ω W → QbZ Ω ids = some l → l.Pairwise mdj ∧ (∀ x ∈ l, mle x (wm W)) ∧ (∀ x ∈ l, ∀ p ∈ QcB Ω ids, mdj x p.2) ∧ Inv w0 (QcB Ω ids) W ∧ ∀ x ∈ l, ∃ i, (i, x) ∈ Ω
  | [], Ω, W, l, h, hg => by
    simp [QbZ] at hg; subst hg
    exact ⟨.nil, fun _ h => (by cases h), fun _ h => (by cases h), h, fun _ h => (by cases h)⟩
  | i :: r, Ω, W, l, h, hg => by
    unfold QbZ at hg
    split at hg
    · rename_i m l' h1 h2
      simp only [Option.some.injEq] at hg
      subst hg
      obtain ⟨d1, d2⟩ := Qb0 h1 h.dj
      have hd : Inv w0 (YZ Ω i) W := ⟨h.os, h.tape, h.output, h.size, fun p hp => h.le p (YW hp), d2⟩
      obtain ⟨k1, k2, k3, k4, k5⟩ := Inv.gets hd h2
      have hsub : ∀ p ∈ QcB (YZ Ω i) r, p ∈ YZ Ω i := by
        have : ∀ (r : List Nat) (Ω : Ctx) (p : Nat × Mem), p ∈ QcB Ω r → p ∈ Ω := by
          intro r
          induction r with
          | nil => intro Ω p hp; exact hp
          | cons a r ih => intro Ω p hp; exact YW (ih _ _ hp)
        exact fun p hp => this r _ p hp
      refine ⟨List.pairwise_cons.2 ⟨fun x hx => ?_, k1⟩, fun x hx => ?_, fun x hx p hp => ?_, k4, fun x hx => ?_⟩
      · obtain ⟨j, hj⟩ := k5 x hx; exact d1 _ hj
      · rcases List.mem_cons.1 hx with rfl | hx
        · exact h.at h1
        · exact k2 x hx
      · rcases List.mem_cons.1 hx with rfl | hx
        · exact d1 _ (hsub p hp)
        · exact k3 x hx p hp
      · rcases List.mem_cons.1 hx with rfl | hx
        · exact ⟨i, X7 h1⟩
        · obtain ⟨j, hj⟩ := k5 x hx; exact ⟨j, YW hj⟩
    · cases hg
theorem Inv.gather {W:World} (h:Inv w0 Ω W) (k:Nat) {ids:List Nat} {l:List Mem} (hg:QbZ Ω ids=some l):Inv w0 ((k,Zs l)::QcB Ω ids) W∧Qt (Zs l) l:=by
 obtain ⟨h1,h2,h3,h4,_⟩:=h.gets hg
 refine ⟨⟨h4.os,h4.tape,h4.output,h4.size,fun p hp=>?_,List.pairwise_cons.2 ⟨fun p hp=>XP fun x hx=>h3 x hx p hp,h4.dj⟩⟩,Qak h1⟩
 rcases List.mem_cons.1 hp with rfl | hp
 ·exact QcN h2
 ·exact h4.le p hp
theorem VO.gather {r:List Oper} (k:Nat) (ids:List Nat) {l:List Mem} (hg:QbZ Ω ids=some l) (h:Qt (Zs l) l→VO P n w0 ops r σ ((k,Zs l)::QcB Ω ids) K):VO P n w0 ops r σ Ω K:=
 fun Q hQ a W he hi=>h (hi.gather k hg).2 Q hQ a W he (hi.gather k hg).1
theorem VC.gather {c:Code} (k:Nat) (ids:List Nat) {l:List Mem} (hg:QbZ Ω ids=some l) (h:Qt (Zs l) l→VC P n w0 c R σ ((k,Zs l)::QcB Ω ids)):VC P n w0 c R σ Ω:=
 fun Q hQ a W he hi=>h (hi.gather k hg).2 Q hQ a W he (hi.gather k hg).1
theorem Q2 {W:World} (hI:Inv w0 Ω W) (ids:List Nat) {l:List Mem} {b:Mem} (hg:QbZ Ω ids=some l) (hb:YA (QcB Ω ids) 0=some b) {b0:Mem} (h0:mle b0 b) {p:Prop} (hp:Qt (Zs l) l→p):
  p∧mle b0 (wm W)∧mle (Zs l) (wm W)∧mdj (Zs l) b0:=by
 obtain ⟨h1,h2,h3,h4,_⟩:=hI.gets hg
 exact ⟨hp (Qak h1),h0.trans (h4.at hb),QcN h2,XP fun x hx=>(h3 x hx _ (X7 hb)).mono (Qb _) h0⟩
theorem VD.inv {ΩS:Ctx} {t:Nat} {l:List (Nat × Bool)} (Ω':Ctx) (hs:∀ W,Inv w0 Ω W→Inv w0 Ω' W) (h:VD P n w0 ops ΩS t l σ Ω' K):VD P n w0 ops ΩS t l σ Ω K:=
 fun Q hn hQ listed a W he hi=>h Q hn hQ listed a W he (hs W hi)
theorem VD.call {ΩS:Ctx} {t:Nat} {i:Nat} {r:List (Nat × Bool)} {d:Nat} {f:FuncId} {xs:List Operand} {ats:Array TypeId} {ty:TypeId} {pos:String} {af:Array Edge} {gd:Option (Nat × Bool)} {vs:List Value} {Post:Value→Mem→Prop}
  (j:Nat) {m:Mem} (hd:Nat.blt d n=true) (ho:ops[i]? =some ⟨some d,.call { callee:= .value (.func f),args:=xs.toArray,argTypes:=ats },ty,pos,af,gd⟩) (hg:gd=none∨∃ j b,gd=some (j,b)∧Qff σ ops j b) (hf:JE P f=true)
  (ha:evs σ xs=some vs) (hm:YA Ω j=some m) (hS:∀ m' W,Inv w0 (Qbz Ω j m') W→Inv w0 ΩS W) (hc:∀ W,Inv w0 Ω W→Qc P f vs W m Post) (h:∀ v m',Post v m'→VD P n w0 ops ΩS t r ((d,v)::σ) (Qbz Ω j m') K):VD P n w0 ops ΩS t ((i,false)::r) σ Ω K:=
 VD.s (fun v=>(d,v)::σ) ho (fun v _ he=>he.put hd v) hg (Stp.call j hf ha hm hc) (fun _ _ ⟨m',_,hΩ⟩ W hW=>hS m' W (by subst hΩ;exact hW)) (fun v _ ⟨m',hp,hΩ⟩=>hΩ ▸ h v m' hp)
def XM (P : Program) (n : Nat) (w0 : World) (c : Code) (R : Exit → Env → Ctx → Prop) : Nat → Env → Ctx → Prop
  | 0, _, _ => False
  | k + 1, σ, Ω => VC P n w0 c (QgP (fun σ' Ω' => XM P n w0 c R k σ' Ω') R) σ Ω
theorem VC.rounds {c : Code} (k : Nat) (h : XM P n w0 c R k σ Ω) : VC P n w0 (.loop c) R σ Ω := fun Q hQ a W he hi => by
  refine wp_loop_rounds k ?_
  induction k generalizing σ Ω a W with
  | zero => exact h.elim
  | succ k ih =>
    rw [rounds_succ]
    refine h _ (fun e σ' Ω' a W hr he hi => ?_) a W he hi
    cases e with
    | normal => exact ih hr a W he hi
    | exit id => exact hQ _ σ' Ω' a W hr he hi
    | goto l => exact hQ _ σ' Ω' a W hr he hi
    | ret => exact hQ _ σ' Ω' a W hr he hi
    | panic ch => exact hQ _ σ' Ω' a W hr he hi
    | outgrown => exact hQ _ σ' Ω' a W hr he hi
theorem XM.step {c:Code} {k:Nat} (h:VC P n w0 c (QgP (fun σ' Ω'=>XM P n w0 c R k σ' Ω') R) σ Ω):XM P n w0 c R (k+1) σ Ω:=h
end
def ZN {α : Type} (R : Mem → List Value → α → Prop) : Mem → List Value → List α → Prop
  | _, cs, [] => cs = []
  | m, cs, x :: r => ∃ c1 c2 m1 m2, cs = c1 ++ c2 ∧ mdj m1 m2 ∧ mle m1 m ∧ mle m2 m ∧ R m1 c1 x ∧ ZN R m2 c2 r
def Ow : (t : Ty) → Mem → List Value → t.Den → Prop
  | .int k, _, cs, (n : Int) => cs = [.int k n] ∧ inK k n
  | .byte, _, cs, (b : UInt8) => cs = [byV b]
  | .bool, _, cs, (b : Bool) => cs = [.bool b]
  | .str, _, cs, (s : List UInt8) => cs = [str s] ∧ s.length ≤ maxLen
  | .pair a b, m, cs, (x, y) => ∃ c1 c2 m1 m2, cs = c1 ++ c2 ∧ mdj m1 m2 ∧ mle m1 m ∧ mle m2 m ∧ Ow a m1 c1 x ∧ Ow b m2 c2 y
  | .sl e, m, cs, (xs : List e.Den) => ∃ v m0 m1 rc, cs = [v] ∧ mdj m0 m1 ∧ mle m0 m ∧ mle m1 m ∧ QaM e.sz m0 v xs.length rc ∧ ZN (Ow e) m1 rc xs
  | .spl e, m, cs, ((xs, ys) : List e.Den × List e.Den) => ∃ A c m0 m1 rc, cs = [.slice A xs.length c] ∧ mdj m0 m1 ∧ mle m0 m ∧ mle m1 m ∧ QaM e.sz m0 (.slice A (xs ++ ys).length c) (xs ++ ys).length rc ∧ ZN (Ow e) m1 rc (xs ++ ys)
  | .ptr e, m, cs, ((g, d) : Nat × e.Den) => cs = [.pointer (some ⟨g, 0, none⟩)] ∧ ∃ rc E m1, mdj (Qo g (.cells rc.toArray E (0, 0))) m1 ∧ mle (Qo g (.cells rc.toArray E (0, 0))) m ∧ mle m1 m ∧ Ow e m1 rc d
  | .addr, _, cs, (g : Option Nat) => cs = [.pointer (g.map fun g => ⟨g, 0, none⟩)]
  | .hdr, _, cs, (h : Option Addr × Nat × Nat) => cs = [.slice h.1 h.2.1 h.2.2]
  | .tmap, m, cs, (xs : List (List UInt8 × List UInt8 × Bool)) => ∃ r es ck, cs = [.map (some r)] ∧ mle (Qo r (.map es ck)) m ∧ Qg5 es ck xs
section
variable {α : Type} {R : Mem → List Value → α → Prop}
theorem ZN.up:∀ {xs:List α} {m m':Mem} {cs:List Value},ZN R m cs xs→mle m m'→ZN R m' cs xs
 | [],_,_,_,h,_=>h
 | _::_,_,_,_,⟨c1,c2,m1,m2,h1,h2,h3,h4,h5⟩,hm=>⟨c1,c2,m1,m2,h1,h2,h3.trans hm,h4.trans hm,h5⟩
theorem ZN.all {Q:List Value→α→Prop}:∀ {xs:List α} {m:Mem} {cs:List Value},ZN R m cs xs→(∀ m' c x,mle m' m→R m' c x→Q c x)→Q8 Q cs xs
 | [],_,_,h,_=>h
 | _::_,_,_,⟨c1,c2,m1,m2,h1,h2,h3,h4,h5,h6⟩,hq=>⟨c1,c2,h1,hq _ _ _ h3 h5,h6.all fun m' c x hm=>hq m' c x (hm.trans h4)⟩
theorem ZN.app : ∀ {xs ys : List α} {m m1 m2 : Mem} {cs ds : List Value}, mdj m1 m2 → mle m1 m → mle m2 m → ZN R m1 cs xs → ZN R m2 ds ys → ZN R m (cs ++ ds) (xs ++ ys)
  | [], _, _, _, _, _, _, hd, h1, h2, h, h' => by rw [show _ = [] from h]; exact h'.up h2
  | _ :: _, _, m, m1, m2, _, _, hd, h1, h2, ⟨c1, c2, k1, k2, e1, e2, e3, e4, e5, e6⟩, h' =>
    ⟨c1, c2 ++ _, k1, mun k2 m2, by rw [e1, List.append_assoc], (Y2 e2.symm (hd.symm.mono (Qb _) e3)).symm, e3.trans h1, QcE (e4.trans h1) h2, e5,
      ZN.app (hd.mono e4 (Qb _)) (Js _ _) (Jn (hd.mono e4 (Qb _))) e6 h'⟩
theorem ZN.one {m m1:Mem} {c:List Value} {x:α} (h:R m1 c x) (hm:mle m1 m):ZN R m c [x]:=⟨c,[],m1,mnil,by simp,Qbo _,hm,JW _,h,rfl⟩
theorem ZN.of {Q:List Value→α→Prop}:∀ {xs:List α} {m:Mem} {cs:List Value},Q8 Q cs xs→(∀ m' c x,Q c x→R m' c x)→ZN R m cs xs
 | [],_,_,h,_=>h
 | _::_,_,_,⟨c1,c2,h1,h2,h3⟩,hq=>⟨c1,c2,mnil,mnil,h1,Qbo _,JW _,JW _,hq _ _ _ h2,ZN.of h3 hq⟩
theorem ZN.split {k : Nat} (hk : ∀ m c x, R m c x → c.length = k) : ∀ {xs : List α} {m : Mem} {cs : List Value} (j : Nat), ZN R m cs xs → ∃ m1 m2, mdj m1 m2 ∧ mle m1 m ∧ mle m2 m ∧ ZN R m1 (cs.take (j * k)) (xs.take j) ∧ ZN R m2 (cs.drop (j * k)) (xs.drop j)
  | [], m, _, j, h => by rw [show _ = [] from h]; exact ⟨mnil, mnil, Qbo _, JW _, JW _, by simp [ZN], by simp [ZN]⟩
  | y :: r, m, cs, 0, h => ⟨mnil, m, Qeo _, JW _, Qb _, by simp [ZN], by simpa using h⟩
  | y :: r, m, cs, j + 1, ⟨c1, c2, m1, m2, h1, h2, h3, h4, h5, h6⟩ => by
    obtain ⟨k1, k2, d, e1, e2, f1, f2⟩ := ZN.split hk j h6
    have el : (j + 1) * k = c1.length + j * k := by rw [hk _ _ _ h5, Nat.add_mul]; omega
    refine ⟨mun m1 k1, k2, Y2 (h2.mono (Qb _) e2) d, QcE h3 (e1.trans h4), e2.trans h4, ?_, ?_⟩
    · rw [h1, el, List.take_length_add_append]
      exact ⟨c1, _, m1, k1, rfl, h2.mono (Qb _) e1, Js _ _, Jn (h2.mono (Qb _) e1), h5, f1⟩
    · rw [h1, el, List.drop_length_add_append]
      exact f2
end
theorem Ow.len:∀ {t:Ty} {m:Mem} {cs:List Value} {d:t.Den},Ow t m cs d→cs.length=t.sz
 | .int _,_,_,_,h=>by rw [h.1];rfl
 | .byte,_,_,_,h=>by rw [show _=_ from h];rfl
 | .bool,_,_,_,h=>by rw [show _=_ from h];rfl
 | .str,_,_,_,h=>by rw [h.1];rfl
 | .pair a b,_,_,(x,y),⟨c1,c2,m1,m2,h1,_,_,_,h2,h3⟩=>by rw [h1,List.length_append,Ow.len h2,Ow.len h3];rfl
 | .sl e,_,_,_,⟨v,m0,m1,rc,h1,_⟩=>by rw [h1];rfl
 | .spl e,_,_,(_,_),⟨A,c,m0,m1,rc,h1,_⟩=>by rw [h1];rfl
 | .ptr e,_,_,(_,_),⟨h1,_⟩=>by rw [h1];rfl
 | .addr,_,_,_,h=>by rw [show _=_ from h];rfl
 | .hdr,_,_,_,h=>by rw [show _=_ from h];rfl
 | .tmap,_,_,_,⟨r,es,ck,h1,_⟩=>by rw [h1];rfl
theorem Ow.up:∀ {t:Ty} {m m':Mem} {cs:List Value} {d:t.Den},Ow t m cs d→mle m m'→Ow t m' cs d
 | .int _,_,_,_,_,h,_=>h
 | .byte,_,_,_,_,h,_=>h
 | .bool,_,_,_,_,h,_=>h
 | .str,_,_,_,_,h,_=>h
 | .pair a b,_,_,_,(x,y),⟨c1,c2,m1,m2,h1,h2,h3,h4,h5⟩,hm=>⟨c1,c2,m1,m2,h1,h2,h3.trans hm,h4.trans hm,h5⟩
 | .sl e,_,_,_,_,⟨v,m0,m1,rc,h1,h2,h3,h4,h5⟩,hm=>⟨v,m0,m1,rc,h1,h2,h3.trans hm,h4.trans hm,h5⟩
 | .spl e,_,_,_,(_,_),⟨A,c,m0,m1,rc,h1,h2,h3,h4,h5⟩,hm=>⟨A,c,m0,m1,rc,h1,h2,h3.trans hm,h4.trans hm,h5⟩
 | .ptr e,_,_,_,(_,_),⟨h1,rc,E,m1,h2,h3,h4,h5⟩,hm=>⟨h1,rc,E,m1,h2,h3.trans hm,h4.trans hm,h5⟩
 | .addr,_,_,_,_,h,_=>h
 | .hdr,_,_,_,_,h,_=>h
 | .tmap,_,_,_,_,⟨r,es,ck,h1,h2,h3⟩,hm=>⟨r,es,ck,h1,h2.trans hm,h3⟩
theorem Ow.rd : ∀ {t : Ty} {m : Mem} {cs : List Value} {d : t.Den}, Ow t m cs d → ∀ {k : Mem}, mle m k → Rd t k cs d
  | .int _, _, _, _, h, _, _ => h
  | .byte, _, _, _, h, _, _ => h
  | .bool, _, _, _, h, _, _ => h
  | .str, _, _, _, h, _, _ => h
  | .pair a b, _, _, (x, y), ⟨c1, c2, m1, m2, h1, h2, h3, h4, h5, h6⟩, k, hk => ⟨c1, c2, h1, Ow.rd h5 (h3.trans hk), Ow.rd h6 (h4.trans hk)⟩
  | .sl e, _, _, _, ⟨v, m0, m1, rc, h1, h2, h3, h4, h5, h6⟩, k, hk => by
    subst h1
    exact h5.rd (n := k) (h6.all fun m' c x hm hr => Ow.rd hr ((hm.trans h4).trans hk)) (h3.trans hk) (Qb _)
  | .spl e, _, _, (xs, ys), ⟨A, c, m0, m1, rc, h1, h2, h3, h4, h5, h6⟩, k, hk => by
    obtain ⟨A', c', e1, e2, e3, e4⟩ := h5.rd (e := e) (n := k) (h6.all fun m' c x hm hr => Ow.rd hr ((hm.trans h4).trans hk)) (h3.trans hk) (Qb _)
    simp only [List.cons.injEq, Value.slice.injEq, true_and, and_true] at e1
    obtain ⟨rfl, rfl⟩ := e1
    exact ⟨A, c, h1, e2, e3, e4⟩
  | .ptr e, _, _, (_, _), ⟨h1, rc, E, m1, h2, h3, h4, h5⟩, k, hk => ⟨h1, rc, E, hk _ _ (h3 _ _ (Qn _ _)), Ow.rd h5 (h4.trans hk)⟩
  | .addr, _, _, _, h, _, _ => h
  | .hdr, _, _, _, h, _, _ => h
  | .tmap, _, _, _, ⟨r, es, ck, h1, h2, h3⟩, k, hk => ⟨r, es, ck, h1, hk _ _ (h2 _ _ (Qn _ _)), h3⟩
theorem Ow.of : ∀ {t : Ty} {m m' : Mem} {cs : List Value} {d : t.Den}, t.flat = true → Rd t m cs d → Ow t m' cs d
  | .int _, _, _, _, _, _, h => h
  | .byte, _, _, _, _, _, h => h
  | .bool, _, _, _, _, _, h => h
  | .str, _, _, _, _, _, h => h
  | .pair a b, _, _, _, (x, y), hf, ⟨c1, c2, h1, h2, h3⟩ => by
    have hf' : (a.flat && b.flat) = true := hf
    rw [Bool.and_eq_true] at hf'
    exact ⟨c1, c2, mnil, mnil, h1, Qbo _, JW _, JW _, Ow.of hf'.1 h2, Ow.of hf'.2 h3⟩
  | .addr, _, _, _, _, _, h => h
  | .hdr, _, _, _, _, _, h => h
theorem Ow.flat {t:Ty} {m m':Mem} {cs:List Value} {d:t.Den} (hf:t.flat=true) (h:Ow t m cs d):Ow t m' cs d:=Ow.of hf (h.rd (Qb _))
theorem Ow.nice {t:Ty} {m:Mem} {cs:List Value} {d:t.Den} (h:Ow t m cs d):∀ u∈cs,u.oneCell'=true:=(h.rd (Qb _)).nice
theorem ZN.rd {e:Ty} {m k:Mem} {cs:List Value} {xs:List e.Den} (h:ZN (Ow e) m cs xs) (hk:mle m k):Q8 (Rd e k) cs xs:=h.all fun m' c x hm hr=>hr.rd (hm.trans hk)
theorem Ow.pair {a b:Ty} {m:Mem} {cs:List Value} {x:a.Den × b.Den} (h:Ow (.pair a b) m cs x):∃ c1 c2 m1 m2,cs=c1++c2∧mdj m1 m2∧mle m1 m∧mle m2 m∧Ow a m1 c1 x.1∧Ow b m2 c2 x.2:=h
theorem Ow.mkPair {a b:Ty} {m m1 m2:Mem} {c1 c2:List Value} {x:a.Den × b.Den} (hd:mdj m1 m2) (h1:mle m1 m) (h2:mle m2 m) (k1:Ow a m1 c1 x.1) (k2:Ow b m2 c2 x.2):Ow (.pair a b) m (c1++c2) x:=⟨c1,c2,m1,m2,rfl,hd,h1,h2,k1,k2⟩
theorem Ow.slice {e:Ty} {m:Mem} {v:Value} {xs:List e.Den} (h:Ow (.sl e) m [v] xs):∃ A c,v= .slice A xs.length c∧xs.length≤c∧c≤maxLen:=(h.rd (Qb _)).slice
theorem Ow.nil (e:Ty) (m:Mem):Ow (.sl e) m [.slice none 0 0] []:=⟨_,mnil,mnil,[],rfl,Qbo _,JW _,JW _,.nil none,rfl⟩
theorem Qz.ow {e:Ty} {m k:Mem} {v:Value} {xs:List e.Den} (h:Qz e m k v xs) (hf:e.flat=true):Ow (.sl e) m [v] xs:=
 let ⟨m0,cs,h0,h1,h2⟩:=h
 ⟨v,m0,mnil,cs,rfl,Qbo _,h0,JW _,h1,ZN.of h2 fun _ _ _ h=>Ow.of hf h⟩
theorem Ow.ownl {e:Ty} {m:Mem} {v:Value} {xs:List e.Den} (h:Ow (.sl e) m [v] xs) (hf:e.flat=true) (k:Mem):Qz e m k v xs:=by
 obtain ⟨v',m0,m1,rc,h1,h2,h3,h4,h5,h6⟩:=h
 simp only [List.cons.injEq,and_true] at h1
 subst h1
 exact ⟨m0,rc,h3,h5,h6.all fun m' c x hm hr=>(hr.rd (Qb _)).flat hf k⟩
theorem Ow.slice1 {e:Ty} {m:Mem} {cs:List Value} {xs:List e.Den} (h:Ow (.sl e) m cs xs):∃ A c,cs=[.slice A xs.length c]∧xs.length≤c∧c≤maxLen:=by
 obtain ⟨A,c,h1,h2,h3,_⟩:=h.rd (Qb _)
 exact ⟨A,c,h1,h2,h3⟩
theorem Ow.spl1 {e:Ty} {m:Mem} {cs:List Value} {x:List e.Den × List e.Den} (h:Ow (.spl e) m cs x):∃ A c,cs=[.slice A x.1.length c]∧(x.1++x.2).length≤c∧c≤maxLen:=by
 obtain ⟨A,c,h1,h2,h3,_⟩:=h.rd (Qb _)
 exact ⟨A,c,h1,h2,h3⟩
theorem Rd.slice1 {e:Ty} {m:Mem} {cs:List Value} {xs:List e.Den} (h:Rd (.sl e) m cs xs):∃ A c,cs=[.slice A xs.length c]∧xs.length≤c∧c≤maxLen:=by
 obtain ⟨A,c,h1,h2,h3,_⟩:=h
 exact ⟨A,c,h1,h2,h3⟩
theorem Rd.spl1 {e:Ty} {m:Mem} {cs:List Value} {x:List e.Den × List e.Den} (h:Rd (.spl e) m cs x):∃ A c,cs=[.slice A x.1.length c]∧(x.1++x.2).length≤c∧c≤maxLen:=by
 obtain ⟨A,c,h1,h2,h3,_⟩:=h
 exact ⟨A,c,h1,h2,h3⟩
theorem Ow.opnP {e:Ty} {m:Mem} {cs:List Value} {g:Nat} {x:e.Den} (h:Ow (.ptr e) m cs (g,x)):cs=[.pointer (some ⟨g,0,none⟩)]∧∃ rc E m1,mdj (Qo g (.cells rc.toArray E (0,0))) m1∧mle (Qo g (.cells rc.toArray E (0,0))) m∧mle m1 m∧Ow e m1 rc x:=h
theorem Rd.full {e:Ty} {m:Mem} {A:Option Addr} {l c:Nat} {x:List e.Den × List e.Den} (h:Rd (.spl e) m [.slice A l c] x):l=x.1.length∧Rd (.sl e) m [.slice A (x.1++x.2).length c] (x.1++x.2):=by
 obtain ⟨A',c',h1,h2⟩:=h
 simp only [List.cons.injEq,Value.slice.injEq,and_true] at h1
 obtain ⟨rfl,rfl,rfl⟩:=h1
 exact ⟨rfl,_,_,rfl,h2⟩
theorem Rd.mkSpl {e:Ty} {m:Mem} {A:Option Addr} {c l k:Nat} {xs ys:List e.Den} (h:Rd (.sl e) m [.slice A l c] (xs++ys)) (hk:k=xs.length):Rd (.spl e) m [.slice A k c] (xs,ys):=by
 obtain ⟨A',c',h1,h2⟩:=h
 simp only [List.cons.injEq,Value.slice.injEq,and_true] at h1
 obtain ⟨rfl,rfl,rfl⟩:=h1
 exact ⟨_,_,by rw [hk],h2⟩
theorem Rd.pre2 {e:Ty} {m:Mem} {A:Option Addr} {l c:Nat} {xs ys:List e.Den} (h:Rd (.sl e) m [.slice A l c] (xs++ys)):Rd (.sl e) m [.slice A xs.length c] xs:=by
 have hl:l=(xs++ys).length:=by
  obtain ⟨A',c',h1,h2⟩:=h
  simp only [List.cons.injEq,Value.slice.injEq,and_true] at h1
  exact h1.2.1
 have:=h.pre (j:=xs.length) (by simp)
 rwa [List.take_left] at this
theorem Q8.map {α β:Type} {R:List Value→α→Prop} {S:List Value→β→Prop} (f:α→β) (hf:∀ c x,R c x→S c (f x)):∀ {xs:List α} {cs:List Value},Q8 R cs xs→Q8 S cs (xs.map f)
 | [],_,h=>h
 | _::_,_,⟨c1,c2,h1,h2,h3⟩=>⟨c1,c2,h1,hf _ _ h2,h3.map f hf⟩
theorem QaM.pre {sz len k : Nat} {m : Mem} {A : Option Addr} {l c : Nat} {cs : List Value} (h : QaM sz m (.slice A l c) len cs) (hk : k ≤ len) : QaM sz m (.slice A k c) k (cs.take (k * sz)) := by
  generalize hv : Value.slice A l c = v at h
  cases h with
  | nil B =>
    simp only [Value.slice.injEq] at hv
    obtain ⟨rfl, _, rfl⟩ := hv
    obtain rfl : k = 0 := by omega
    simpa using QaM.nil (sz := sz) A
  | row g off len' cap E c' k1 k2 k3 =>
    simp only [Value.slice.injEq] at hv
    obtain ⟨rfl, _, rfl⟩ := hv
    have := QaM.row (sz := sz) g off k c E c' k1 (by omega) k3
    rwa [show List.take (k * sz) (List.take (len * sz) (List.drop off c')) = List.take (k * sz) (List.drop off c') by rw [List.take_take, Nat.min_eq_left (Nat.mul_le_mul_right _ hk)]]
theorem QaM.drop {sz len k : Nat} {m : Mem} {A : Option Addr} {l c : Nat} {cs : List Value} (h : QaM sz m (.slice A l c) len cs) (hk : k ≤ len) : QaM sz m (.slice (if c = k then A else A.map (·.add (k * sz))) (len - k) (c - k)) (len - k) (cs.drop (k * sz)) := by
  generalize hv : Value.slice A l c = v at h
  cases h with
  | nil B =>
    simp only [Value.slice.injEq] at hv
    obtain ⟨rfl, _, rfl⟩ := hv
    obtain rfl : k = 0 := by omega
    simpa using QaM.nil (sz := sz) A
  | row g off len' cap E c' k1 k2 k3 =>
    simp only [Value.slice.injEq] at hv
    obtain ⟨rfl, _, rfl⟩ := hv
    have e1 : (List.take (len * sz) (List.drop off c')).drop (k * sz) = List.take ((len - k) * sz) (List.drop (off + k * sz) c') := by
      rw [List.drop_take, List.drop_drop, Nat.sub_mul]
    rw [e1]
    by_cases hck : c = k
    · rw [if_pos hck]
      obtain rfl : len = k := by omega
      have := QaM.row (sz := sz) g off (len - len) (c - len) E c' (by simp [hck]; have := Nat.zero_le (c * sz); omega) (by omega) (by omega)
      simpa using this
    · rw [if_neg hck]
      have hm : (c - k) * sz + k * sz = c * sz := by rw [← Nat.add_mul]; congr 1; omega
      have := QaM.row (sz := sz) g (off + k * sz) (len - k) (c - k) E c' (by omega) (by omega) (by omega)
      simpa [QaU] using this
theorem Qt.cut {m:Mem} {l r:List Mem} (h:Qt m (l++r)):mdj (Zs l) (Zs r)∧mle (Zs l) m∧mle (Zs r) m∧Qt (Zs l) l∧Qt (Zs r) r:=by
 obtain ⟨h1,h2⟩:=h
 obtain ⟨k1,k2,k3⟩:=List.pairwise_append.1 h2
 exact ⟨XP fun x hx=>(XP fun y hy=>(k3 x hx y hy).symm).symm,QcN fun x hx=>h1 x (List.mem_append_left _ hx),QcN fun x hx=>h1 x (List.mem_append_right _ hx),Qak k1,Qak k2⟩
theorem Qt.grp {m : Mem} : ∀ {ls : List (List Mem)}, Qt m ls.flatten → Qt m (ls.map Zs)
  | [], _ => Qt.nil _
  | l :: r, h => by
    have h' : Qt m (l ++ r.flatten) := h
    obtain ⟨_, k1, _, _, k2⟩ := h'.cut
    have h3 : Qt m r.flatten := ⟨fun x hx => h'.1 x (List.mem_append_right _ hx), (List.pairwise_append.1 h'.2).2.1⟩
    refine (Qt.grp h3).cons k1 fun x hx => ?_
    obtain ⟨y, hy, rfl⟩ := List.mem_map.1 hx
    exact XP fun a ha => (XP fun b hb => ((List.pairwise_append.1 h'.2).2.2 a ha b (List.mem_flatten.2 ⟨y, hy, hb⟩)).symm).symm
theorem Qt.grp1 {m a:Mem} {ls:List (List Mem)} (h:Qt m (a::ls.flatten)):Qt m (a::ls.map Zs):=by
 have h1:Qt m ([a]::ls).flatten:=h
 have h2:Qt m (Zs [a]::ls.map Zs):=Qt.grp h1
 refine ⟨fun x hx=>?_,?_⟩
 ·rcases List.mem_cons.1 hx with rfl | hx
  ·exact h.1 _ (.head _)
  ·exact h2.1 _ (.tail _ hx)
 ·obtain ⟨k1,k2⟩:=List.pairwise_cons.1 h2.2
  exact List.pairwise_cons.2 ⟨fun x hx=>(k1 x hx).mono (Js _ _) (Qb _),k2⟩
theorem Qt.sub {m:Mem} {l l':List Mem} (h:Qt m l) (hs:l'.Sublist l):Qt m l':=⟨fun x hx=>h.1 x (hs.subset hx),h.2.sublist hs⟩
theorem Qt.nilAt {m:Mem} (i:Nat) {l:List Mem} (h:Qt m l):Qt m (l.take i++mnil::l.drop i):=by
 obtain ⟨h1,h2⟩:=h
 refine ⟨fun x hx=>?_,?_⟩
 ·rcases List.mem_append.1 hx with hx | hx
  ·exact h1 x (List.mem_of_mem_take hx)
  ·rcases List.mem_cons.1 hx with rfl | hx
   ·exact JW _
   ·exact h1 x (List.mem_of_mem_drop hx)
 ·rw [← List.take_append_drop i l] at h2
  obtain ⟨k1,k2,k3⟩:=List.pairwise_append.1 h2
  refine List.pairwise_append.2 ⟨k1,List.pairwise_cons.2 ⟨fun x _=>Qeo _,k2⟩,fun x hx y hy=>?_⟩
  rcases List.mem_cons.1 hy with rfl | hy
  ·exact Qbo _
  ·exact k3 x hx y hy
def Qkw {α : Type} (R : Mem → List Value → α → Prop) : List Mem → List Value → List α → Prop
  | [], cs, xs => cs = [] ∧ xs = []
  | m :: ms, cs, x :: r => ∃ c1 c2, cs = c1 ++ c2 ∧ R m c1 x ∧ Qkw R ms c2 r
  | _ :: _, _, [] => False
theorem Qkw.all {α : Type} {R : Mem → List Value → α → Prop} : ∀ {ms : List Mem} {M : Mem} {cs : List Value} {xs : List α}, Qt M ms → Qkw R ms cs xs → ZN R M cs xs
  | [], _, _, _, _, h => by obtain ⟨rfl, rfl⟩ := h; rfl
  | m :: ms, M, cs, x :: r, hS, ⟨c1, c2, h1, h2, h3⟩ => by
    have hS' : Qt M ([m] ++ ms) := hS
    obtain ⟨k1, k2, k3, k4, k5⟩ := hS'.cut
    exact ⟨c1, c2, m, Zs ms, h1, k1.mono (k4.1 _ (.head _)) (Qb _), hS.1 _ (.head _), k3, h2, Qkw.all k5 h3⟩
theorem Qkw.cons {α:Type} {R:Mem→List Value→α→Prop} {m:Mem} {ms:List Mem} {c1 c2:List Value} {x:α} {r:List α} (h:R m c1 x) (h2:Qkw R ms c2 r):Qkw R (m::ms) (c1++c2) (x::r):=⟨c1,c2,rfl,h,h2⟩
theorem Qkw.nil {α:Type} {R:Mem→List Value→α→Prop}:Qkw R [] [] []:=⟨rfl,rfl⟩
theorem Ow.lit {e:Ty} {E:TypeId} {g:Nat} {M:Mem} {ms:List Mem} {cs:List Value} {xs:List e.Den} (len:Nat) (hS:Qt M (Qo g (.cells cs.toArray E (0,0))::ms)) (h:Qkw (Ow e) ms cs xs) (hl:xs.length=len) (hm:Nat.ble len 1000=true):
  Ow (.sl e) M [.slice (some ⟨g,0,none⟩) len len] xs:=by
 subst hl
 have hS':Qt M ([Qo g (.cells cs.toArray E (0,0))]++ms):=hS
 obtain ⟨k1,k2,k3,k4,k5⟩:=hS'.cut
 have ha:=Qkw.all k5 h
 have hc:cs.length=xs.length*e.sz:=(ZN.all (Q:=fun c (x:e.Den)=>c.length=e.sz) ha fun _ _ _ _ h=>h.len).len fun _ _ h=>h
 refine ⟨_,_,Zs ms,cs,rfl,k1.mono (k4.1 _ (.head _)) (Qb _),hS.1 _ (.head _),k3,?_,ha⟩
 have:=QaM.row (sz:=e.sz) g 0 xs.length xs.length E cs (by rw [hc];omega) (Nat.le_refl _) (Nat.le_trans (Nat.le_of_ble_eq_true hm) (by decide))
 rwa [List.drop_zero,List.take_of_length_le (by rw [hc];omega)] at this
theorem Ow.clsP {e:Ty} {M:Mem} {g:Nat} {E:TypeId} {rc:List Value} {ms:List Mem} {x:e.Den} (hS:Qt M (Qo g (.cells rc.toArray E (0,0))::ms)) (h:Qt (Zs ms) ms→Ow e (Zs ms) rc x):Ow (.ptr e) M [.pointer (some ⟨g,0,none⟩)] (g,x):=by
 have hS':Qt M ([Qo g (.cells rc.toArray E (0,0))]++ms):=hS
 obtain ⟨k1,k2,k3,k4,k5⟩:=hS'.cut
 exact ⟨rfl,rc,E,Zs ms,k1.mono (k4.1 _ (.head _)) (Qb _),hS.1 _ (.head _),k3,h k5⟩
theorem Qt.self {m:Mem} {l l':List Mem} (h:Qt m l) (hs:l'.Sublist l):Qt (Zs l') l':=Qak (h.2.sublist hs)
theorem Ow.opn {e:Ty} {m:Mem} {v:Value} {xs:List e.Den} (h:Ow (.sl e) m [v] xs):∃ m0 m1 rc,Qt m [m0,m1]∧QaM e.sz m0 v xs.length rc∧ZN (Ow e) m1 rc xs:=by
 obtain ⟨v',m0,m1,rc,h1,h2,h3,h4,h5,h6⟩:=h
 simp only [List.cons.injEq,and_true] at h1
 subst h1
 exact ⟨m0,m1,rc,.two h2 h3 h4,h5,h6⟩
theorem Ow.cls {e:Ty} {m m0 m1:Mem} {v:Value} {xs:List e.Den} {rc:List Value} (hS:Qt m [m0,m1]) (h1:QaM e.sz m0 v xs.length rc) (h2:ZN (Ow e) m1 rc xs):Ow (.sl e) m [v] xs:=
 ⟨v,m0,m1,rc,rfl,by have:=hS.2;simpa using this,hS.1 _ (.head _),hS.1 _ (.tail _ (.head _)),h1,h2⟩
section
variable {P : Program} {n : Nat} {w0 : World} {σ : Env} {Ω : Ctx} {ops : Array Oper} {K : Env → Ctx → Prop}
variable {ty : TypeId} {pos : String} {af : Array Edge} {d : Option Tmp} {gd : Option (Nat × Bool)} {r : List Oper}
theorem VO.appO {e:Ty} {s x:Operand} {t xt et xe:TypeId} {b dd g c:Nat} {v:Value} {xs:List e.Den} {y:e.Den} {yc z:List Value} (i j k:Nat) {m mj mk:Mem} (hd:Nat.blt dd n=true) (hsv:ev σ s=some v) (hxv:ev σ x=some (.slice (some ⟨g,0,none⟩) 1 c)) (ht:tsl P t=some (et,e.sz,b)) (hz:tz P et=some z) (hzl:z.length=e.sz)
  (hm:YA Ω i=some m) (hj:YA (YZ Ω i) j=some mj) (hk:YA Ω k=some mk) (hown:Ow (.sl e) m [v] xs) (hy:Ow e mj yc y) (hxt:P.underlying xt=some (.slice xe)) (hc:Jp mk g 0 e.sz yc) (hml:xs.length+1≤maxLen) (hb:(xs.length+1)*b≤140737488355328) (hb0:b≠0)
  (h:∀ v' m',Ow (.sl e) m' [v'] (xs++[y])→VO P n w0 ops r ((dd,v')::σ) ((i,m')::YZ (YZ Ω i) j) K):
  VO P n w0 ops (⟨some dd,.call { callee:= .builtin .append,args:=[s,x].toArray,argTypes:=[t,xt].toArray },ty,pos,af,none⟩::r) σ Ω K:=
 fun Q hQ a W he hi=>wpList_plain rfl fun K' hK=>by
  obtain ⟨m0,m1,rc,hS,hA,hL⟩:=hown.opn
  obtain ⟨q1,q2,q3,q4,_⟩:=hi.gets (ids:=[i,j]) (l:=[m,mj]) (by simp [QbZ,hm,hj])
  have dmj:mdj m mj:=by simpa using q1
  have d01:mdj m0 m1:=by have:=hS.2;simpa using this
  have l0:=hS.1 m0 (.head _)
  have l1:=hS.1 m1 (.tail _ (.head _))
  have d1j:mdj m1 mj:=dmj.mono l1 (Qb _)
  have hnew:mdj m0 (mun m1 mj):=(Y2 d01.symm (dmj.mono l0 (Qb _)).symm).symm
  have hΩ2:Inv w0 ((i,m0)::(j,mun m1 mj)::YZ (YZ Ω i) j) W:=by
   have hdel:Inv w0 (YZ (YZ Ω i) j) W:=q4
   have f1:∀ p∈YZ (YZ Ω i) j,mdj m p.2:=fun p hp=>q3 m (.head _) p hp
   have f2:∀ p∈YZ (YZ Ω i) j,mdj mj p.2:=fun p hp=>q3 mj (.tail _ (.head _)) p hp
   refine ⟨hi.os,hi.tape,hi.output,hi.size,fun p hp=>?_,List.pairwise_cons.2 ⟨fun p hp=>?_,List.pairwise_cons.2 ⟨fun p hp=>?_,hdel.dj⟩⟩⟩
   ·rcases List.mem_cons.1 hp with rfl | hp
    ·exact l0.trans (hi.at hm)
    ·rcases List.mem_cons.1 hp with rfl | hp
     ·exact QcE (l1.trans (hi.at hm)) (q2 mj (.tail _ (.head _)))
     ·exact hdel.le p hp
   ·rcases List.mem_cons.1 hp with rfl | hp
    ·exact hnew
    ·exact (f1 p hp).mono l0 (Qb _)
   ·exact Y2 ((f1 p hp).mono l1 (Qb _)) (f2 p hp)
  have hsrc:QrK P W e.sz xt (.slice (some ⟨g,0,none⟩) 1 c) 1 yc:=by
   refine ⟨⟨_,hxt,by simp⟩,by rw [hy.len];omega,fun W' hW=>?_,fun W'=>by simp [Builtin.lenOf]⟩
   have hc2:Jp (wm W') g 0 (1*e.sz) yc:=by
    rw [Nat.one_mul]
    refine hc.mono (fun q o ho=>?_)
    have:=hi.at hk q o ho
    unfold wm at this ⊢
    rw [hW];exact this
   exact QcF hc2
  refine Qny (i:=i) (m:=m0) (m0:=m0) he hΩ2 hsv hxv ht hz hzl (by simp [YA]) (Qb _) hA hsrc hy.nice hml hb hb0 fun v' m' W' hA' hi'=>?_
  have hc':Qbz ((i,m0)::(j,mun m1 mj)::YZ (YZ Ω i) j) i m'=(i,m')::(j,mun m1 mj)::YZ (YZ Ω i) j:=by simp [Qbz]
  rw [hc'] at hi'
  have hdj:mdj m' (mun m1 mj):=(List.pairwise_cons.1 hi'.dj).1 _ (.head _)
  have hall:ZN (Ow e) (mun m1 mj) (rc++yc) (xs++[y]):=ZN.app d1j (Js _ _) (Jn d1j) hL (.one hy (Qb _))
  have how:Ow (.sl e) (mun m' (mun m1 mj)) [v'] (xs++[y]):=⟨v',m',mun m1 mj,rc++yc,rfl,hdj,Js _ _,Jn hdj,by simpa using hA',hall⟩
  refine hK _ _ (h v' _ how Q hQ _ _ (he.put hd v') ?_)
  refine ⟨hi'.os,hi'.tape,hi'.output,hi'.size,fun p hp=>?_,List.pairwise_cons.2 ⟨fun p hp=>?_,(List.pairwise_cons.1 (List.pairwise_cons.1 hi'.dj).2).2⟩⟩
  ·rcases List.mem_cons.1 hp with rfl | hp
   ·exact QcE (hi'.le (i,m') (.head _)) (hi'.le (j,mun m1 mj) (.tail _ (.head _)))
   ·exact hi'.le p (.tail _ (.tail _ hp))
  ·exact Y2 ((List.pairwise_cons.1 hi'.dj).1 p (.tail _ hp)) ((List.pairwise_cons.1 (List.pairwise_cons.1 hi'.dj).2).1 p hp)
end
section
variable {P : Program} {n : Nat} {w0 : World} {σ : Env} {Ω : Ctx} {ops : Array Oper} {K : Env → Ctx → Prop} {R : Exit → Env → Ctx → Prop}
variable {ty : TypeId} {pos : String} {af : Array Edge} {d : Option Tmp} {gd : Option (Nat × Bool)} {r : List Oper}
theorem Qk4 (op:BinOp) (t:TypeId) (x y:Operand) (A B:Option Addr) (W:World):(eqGuard op t x y (.pointer A) (.pointer B)).run P W= .ok () W:=by
 unfold eqGuard;cases op <;> simp
theorem Qd8 (W:World) (k:Nat) {t e:TypeId} (A:Option Addr) (ht:P.underlying t=some (.pointer e)):(Op.equalIn (k+1) t (.pointer A) (.pointer none)).run P W= .ok (decide (A=none)) W:=by
 unfold Op.equalIn
 rw [Sem.run_bind,Qj ht]
 cases A <;> rfl
theorem Yld.pnilA {x y:Operand} {t u e:TypeId} {A:Option Addr} (hx:ev σ x=some (.pointer A)) (hy:ev σ y=some (.pointer none)) (ht:P.underlying t=some (.pointer e)):
  Yld P n w0 σ Ω ⟨d,.binOp .eql t x y u,ty,pos,af,gd⟩ (.bool (decide (A=none))):=fun a W he _=>by
 have h2:(binOp .eql t (.pointer A) (.pointer none)).run P W= .ok (.bool (decide (A=none))) W:=by
  have h3:binOp .eql t (.pointer A) (.pointer none)=(do pure (.bool (← Op.equal t (.pointer A) (.pointer none)))):=by
   cases A <;> rfl
  rw [h3,Sem.run_bind]
  unfold Op.equal
  rw [show Op.maxDepth=9999+1 from rfl,Qd8 W 9999 A ht]
  rfl
 simp [execOp,he.eval hx,he.eval hy,Qk4,h2]
theorem Yld.pnil {x y:Operand} {t u e:TypeId} {A:Option Addr} {b:Bool} (hx:ev σ x=some (.pointer A)) (hy:ev σ y=some (.pointer none)) (ht:P.underlying t=some (.pointer e)) (hb:A.isNone=b):
  Yld P n w0 σ Ω ⟨d,.binOp .eql t x y u,ty,pos,af,gd⟩ (.bool b):=by
 have:=Yld.pnilA (P:=P) (n:=n) (w0:=w0) (Ω:=Ω) (u:=u) (ty:=ty) (pos:=pos) (af:=af) (d:=d) (gd:=gd) hx hy ht
 rwa [show decide (A=none)=b by subst hb;cases A <;> rfl] at this
theorem Yld.pnilO {x y:Operand} {t u e:TypeId} {A:Option Nat} (hx:ev σ x=some (.pointer (A.map fun g=>⟨g,0,none⟩))) (hy:ev σ y=some (.pointer none)) (ht:P.underlying t=some (.pointer e)):
  Yld P n w0 σ Ω ⟨d,.binOp .eql t x y u,ty,pos,af,gd⟩ (.bool (decide (A=none))):=by
 have:=Yld.pnilA (P:=P) (n:=n) (w0:=w0) (Ω:=Ω) (u:=u) (ty:=ty) (pos:=pos) (af:=af) (d:=d) (gd:=gd) hx hy ht
 rwa [show decide ((A.map fun g=>(⟨g,0,none⟩:Addr))=none)=decide (A=none) by cases A <;> rfl] at this
def tar (P : Program) (t : TypeId) : Option (Nat × Nat) := match P.underlying t with
  | some (.array l e) => match P.info? e with
    | some i => some (l, i.size)
    | none => none
  | _ => none
theorem QlC {t l s:Nat} (h:tar P t=some (l,s)):∃ e,P.underlying t=some (.array l e)∧∃ i,P.info? e=some i∧i.size=s:=by
 unfold tar at h
 split at h
 ·rename_i l' e he
  split at h
  ·rename_i i hi
   simp only [Option.some.injEq,Prod.mk.injEq] at h
   obtain ⟨rfl,h2⟩:=h
   exact ⟨e,he,i,hi,h2⟩
  ·cases h
 ·cases h
theorem Yld.bar {t:TypeId} {l:List (Nat × Operand)} {ps:List (Nat × Value)} {q s:Nat} {z cs:List Value} (hl:evp σ l=some ps) (ht:tar P t=some (q,s)) (hz:tz P t=some z) (hb:bld (fun i=>some (i*s,s)) z ps=some cs):
  Yld P n w0 σ Ω ⟨d,.build t l.toArray,ty,pos,af,gd⟩ (.agg cs.toArray):=fun a W he _=>by
 obtain ⟨v,hv,hzr⟩:=Qhy hz
 obtain ⟨e,h1,i,h2,h3⟩:=QlC ht
 have hf:Instr.fill (fun i=>some (i*s,s)) v.cells ps=some cs.toArray:=Qfu _ ps v.cells cs (by rw [hv];simpa using hb)
 have hm:(l.toArray.map fun (i,x)=>(i,a.eval x)).toList=ps:=by rw [← Qhd he hl];simp
 simp only [execOp,Instr.build,Sem.run_bind,hzr,Result.andThen_ok,Qj h1,J0 h2,h3]
 rw [hm,hf]
 simp
theorem Yld.ixa {x y:Operand} {t:TypeId} {g off l s i o:Nat} {k:IntKind} {a:Int} (hx:ev σ x=some (.pointer (some ⟨g,off,none⟩))) (hy:ev σ y=some (.int k a)) (ht:tar P t=some (l,s)) (ha:a=i) (hi:Nat.blt i l=true) (ho:off+i*s=o):
  Yld P n w0 σ Ω ⟨d,.indexAddr t x y,ty,pos,af,gd⟩ (.pointer (some ⟨g,o,none⟩)):=fun A W he _=>by
 obtain ⟨e,h1,i',h2,h3⟩:=QlC ht
 subst ha;subst ho
 have hi':i < l:=by simpa using hi
 have e1:(i:Int) < l:=by omega
 simp [execOp,Instr.indexAt,asIntOf,he.eval hx,he.eval hy,Qj h1,J0 h2,h3,hi',QaU,Instr.sureAddr]
def tia (P : Program) (t : TypeId) : Option (Nat × TypeId × Nat) := match P.underlying t with
  | some (.array l e) => match P.info? e with
    | some i => some (l, e, i.size)
    | none => none
  | _ => none
theorem Qp4 {t l e s:Nat} (h:tia P t=some (l,e,s)):P.underlying t=some (.array l e)∧∃ i,P.info? e=some i∧i.size=s:=by
 unfold tia at h
 split at h
 ·rename_i l' e he
  split at h
  ·rename_i i hi
   simp only [Option.some.injEq,Prod.mk.injEq] at h
   obtain ⟨rfl,rfl,h2⟩:=h
   exact ⟨he,i,hi,h2⟩
  ·cases h
 ·cases h
theorem Yld.ix1V {x y:Operand} {t:TypeId} {l e s i:Nat} {k:IntKind} {a:Int} {cs:Array Value} {v:Value} (hx:ev σ x=some (.agg cs)) (hy:ev σ y=some (.int k a)) (ht:tia P t=some (l,e,s)) (hk:tk P e=some none) (ha:a=i) (hi:Nat.blt i l=true) (hv:cs[i*s]? =some v):
  Yld P n w0 σ Ω ⟨d,.index t x y,ty,pos,af,gd⟩ v:=fun A W he _=>by
 obtain ⟨h1,i',h2,h3⟩:=Qp4 ht
 subst ha
 have hi':i < l:=by simpa using hi
 have e1:(i:Int) < l:=by omega
 obtain ⟨h4,_⟩:=QgN hk W
 simp [execOp,Instr.index,asIntOf,he.eval hx,he.eval hy,Qj h1,J0 h2,h3,hi',part,h4,hv]
end
theorem QbK {e:Ty} {m:Mem} {A:Option Addr} {l c:Nat} {xs:List e.Den} (h:Ow (.sl e) m [.slice A l c] xs):xs.length=l:=by
 obtain ⟨A',c',he,_⟩:=h.slice
 simp only [Value.slice.injEq] at he
 exact he.2.1.symm
section
variable {e : Ty} {m n : Mem} {A : Option Addr} {l c : Nat} {xs : List e.Den}
theorem Qz.pre {j:Nat} (h:Qz e m n (.slice A l c) xs) (hj:j≤xs.length):Qz e m n (.slice A j c) (xs.take j):=by
 obtain ⟨m0,cs,h0,h1,h2⟩:=h
 refine ⟨m0,_,h0,?_,h2.take (fun _ _ h=>h.len) j⟩
 have hl:(xs.take j).length=j:=by simp;omega
 rw [hl]
 exact h1.pre hj
theorem Ow.pre {j:Nat} (h:Ow (.sl e) m [.slice A l c] xs) (hj:j≤xs.length):Ow (.sl e) m [.slice A j c] (xs.take j):=by
 obtain ⟨m0,m1,rc,hS,h1,h2⟩:=h.opn
 obtain ⟨a1,a2,d,l1,l2,k1,k2⟩:=h2.split (fun _ _ _ h=>h.len) j
 have hl:(xs.take j).length=j:=by simp;omega
 refine Ow.cls (m0:=m0) (m1:=m1) hS (rc:=rc.take (j*e.sz)) ?_ (k1.up l1)
 rw [hl];exact h1.pre hj
theorem Ow.drop' (h:Ow (.sl e) m [.slice A l c] xs) (s i:Nat) (hs:e.sz=s) (hi:i≤xs.length):∃ A',(if c=i then A else A.map (·.add (i*s)))=A'∧Ow (.sl e) m [.slice A' (xs.length - i) (c - i)] (xs.drop i):=by
 subst hs
 obtain ⟨m0,m1,rc,hS,h1,h2⟩:=h.opn
 obtain ⟨a1,a2,d,l1,l2,k1,k2⟩:=h2.split (fun _ _ _ h=>h.len) i
 refine ⟨_,rfl,Ow.cls (m0:=m0) (m1:=m1) hS (rc:=rc.drop (i*e.sz)) ?_ (k2.up l2)⟩
 rw [List.length_drop];exact h1.drop hi
end
theorem Qf1 (c:List Value) (off:Nat) (vs:List Value) (h:off+vs.length≤c.length):(J8 c off vs).length=c.length:=by
 unfold J8;simp;omega
theorem QhB {a b vs:List Value} {o:Nat} (h:o+vs.length≤b.length):J8 (a++b) (a.length+o) vs=a++J8 b o vs:=by
 unfold J8
 rw [List.take_length_add_append,show a.length+o+vs.length=a.length+(o+vs.length) by omega,List.drop_length_add_append,List.append_assoc]
theorem Qf0 {a b vs:List Value} {o:Nat} (h:o+vs.length≤a.length):J8 (a++b) o vs=J8 a o vs++b:=by
 unfold J8
 rw [List.take_append_of_le_length (by omega),List.drop_append_of_le_length (by omega)]
 simp
theorem QiQ {A B D vs:List Value} {o:Nat} (h:o+vs.length≤B.length):((J8 (A++(B++D)) (A.length+o) vs).drop A.length).take B.length=J8 B o vs:=by
 rw [QhB (by simp;omega),Qf0 h,List.drop_left]
 have:=List.take_left (l₁:=J8 B o vs) (l₂:=D)
 rwa [Qf1 _ _ _ h] at this
theorem QkE {c vs:List Value} {off q o:Nat} (h:o+vs.length≤q) (hq:off+q≤c.length):((J8 c (off+o) vs).drop off).take q=J8 ((c.drop off).take q) o vs:=by
 have l1:(c.take off).length=off:=by simp;omega
 have l2:((c.drop off).take q).length=q:=by simp;omega
 have:=QiQ (A:=c.take off) (B:=(c.drop off).take q) (D:=(c.drop off).drop q) (o:=o) (vs:=vs) (by rw [l2];exact h)
 rw [List.take_append_drop,List.take_append_drop,l1,l2] at this
 exact this
theorem ZN.upd {α : Type} {R : Mem → List Value → α → Prop} {k eo : Nat} {vc : List Value} {a x' : α} (hk : ∀ m c x, R m c x → c.length = k) (he : eo + vc.length ≤ k) (hup : ∀ mi ec, R mi ec a → R mi (J8 ec eo vc) x') :
    ∀ {xs : List α} {m : Mem} {cs : List Value} {i : Nat}, ZN R m cs xs → xs[i]? = some a → ZN R m (J8 cs (i * k + eo) vc) (xs.set i x')
  | y :: r, m, _, 0, ⟨c1, c2, m1, m2, h1, h2, h3, h4, h5, h6⟩, hi => by
    simp at hi; subst hi
    refine ⟨J8 c1 eo vc, c2, m1, m2, ?_, h2, h3, h4, hup _ _ h5, h6⟩
    rw [h1, Nat.zero_mul, Nat.zero_add]
    exact Qf0 (by rw [hk _ _ _ h5]; exact he)
  | y :: r, m, _, i + 1, ⟨c1, c2, m1, m2, h1, h2, h3, h4, h5, h6⟩, hi => by
    have hi' : r[i]? = some a := by simpa using hi
    refine ⟨c1, _, m1, m2, ?_, h2, h3, h4, h5, ZN.upd hk he hup h6 hi'⟩
    have hl : c2.length = r.length * k := (ZN.all (Q := fun c (_ : α) => c.length = k) h6 fun _ _ _ _ h => hk _ _ _ h).len fun _ _ h => h
    have hlt : i < r.length := (List.getElem?_eq_some_iff.1 hi').1
    have hm := Nat.mul_le_mul_right k (Nat.succ_le_of_lt hlt)
    rw [Nat.succ_mul] at hm
    rw [h1, show (i + 1) * k + eo = c1.length + (i * k + eo) by rw [hk _ _ _ h5, Nat.add_mul]; omega]
    exact QhB (by omega)
section
variable {P : Program} {n : Nat} {w0 : World} {σ : Env} {Ω : Ctx} {ops : Array Oper} {K : Env → Ctx → Prop} {R : Exit → Env → Ctx → Prop}
variable {ty : TypeId} {pos : String} {af : Array Edge} {d : Option Tmp} {gd : Option (Nat × Bool)} {r : List Oper}
theorem Qn2 {t:TypeId} {x y:Operand} {g off:Nat} {v:Value} {k:Nat} {i:Nat} {m:Mem} {c:Array Value} {E:TypeId} {a:Act} {W:World} (he:Zk n σ a) (hi:Inv w0 Ω W)
  (hx:ev σ x=some (.pointer (some ⟨g,off,none⟩))) (hy:ev σ y=some v) (ht:tk P t=some (some k)∨(tk P t=some none∧k=1)) (hk:Nat.beq v.cells.size k=true) (hn:nice v=true)
  (hm:YA Ω i=some m) (hg:m g=some (.cells c E (0,0))) (hl:off+k≤c.size) {K':Act→World→Prop} {Q:Exit→Act→World→Prop}
  (hK:∀ W',Inv w0 (Qbz Ω i (Qla m g (.cells (J8 c.toList off v.cells.toList).toArray E (0,0)))) W'→K' (a.put d undef) W'):
  (⟨d,.store t x y,ty,pos,af,gd⟩:Oper).wp P a W K' Q:=
 Stp.store (P:=P) (n:=n) (w0:=w0) (σ:=σ) (Ω:=Ω) (d:=d) (ty:=ty) (pos:=pos) (af:=af) (gd:=gd) i hx hy ht hk hn hm hg (by simpa using hl) a W he hi K' Q fun u Ω' W' ⟨h1,h2⟩ hi'=>by subst h1;subst h2;exact hK W' hi'
theorem Qok (a:Act) (v:Value):a.put none v=a:=rfl
theorem VO.upd {e : Ty} {t : TypeId} {x y : Operand} {g off o l c k i : Nat} {v : Value} {xs : List e.Den} {a x' : e.Den} (cid eo : Nat) {m : Mem}
    (hx : ev σ x = some (.pointer (some ⟨g, o, none⟩))) (hy : ev σ y = some v) (ht : tk P t = some (some k) ∨ (tk P t = some none ∧ k = 1)) (hk : Nat.beq v.cells.size k = true) (hn : nice v = true)
    (hm : YA Ω cid = some m) (hown : Ow (.sl e) m [.slice (some ⟨g, off, none⟩) l c] xs) (ho : o = off + i * e.sz + eo) (hi : xs[i]? = some a) (hle : Nat.ble (eo + k) e.sz = true)
    (hup : ∀ mi ec, Ow e mi ec a → Ow e mi (J8 ec eo v.cells.toList) x')
    (h : ∀ m', Ow (.sl e) m' [.slice (some ⟨g, off, none⟩) l c] (xs.set i x') → VO P n w0 ops r σ (Qbz Ω cid m') K) : VO P n w0 ops (⟨none, .store t x y, ty, pos, af, none⟩ :: r) σ Ω K :=
  fun Q hQ act W he hinv => wpList_plain rfl fun K' hK => by
    obtain ⟨m0, m1, rc, hS, hA, hL⟩ := hown.opn
    have d01 : mdj m0 m1 := by have := hS.2; simpa using this
    have l0 := hS.1 m0 (.head _)
    have l1 := hS.1 m1 (.tail _ (.head _))
    have hlt : i < xs.length := (List.getElem?_eq_some_iff.1 hi).1
    have hks : v.cells.toList.length = k := by simpa using Nat.eq_of_beq_eq_true hk
    have hle' := Nat.le_of_ble_eq_true hle
    have hm2 : i * e.sz + e.sz ≤ xs.length * e.sz := by
      have := Nat.mul_le_mul_right e.sz (Nat.succ_le_of_lt hlt)
      rwa [Nat.succ_mul] at this
    generalize hv : Value.slice (some ⟨g, off, none⟩) l c = sv at hA
    generalize hq : xs.length = q at hA
    cases hA with
    | nil B => omega
    | row g' off' len cap E c' k1 k2 k3 =>
      simp only [Value.slice.injEq, Option.some.injEq, Addr.mk.injEq, and_true] at hv
      obtain ⟨⟨rfl, rfl⟩, rfl, rfl⟩ := hv
      have k2' := Nat.mul_le_mul_right e.sz k2
      have hg : m g = some (.cells c'.toArray E (0, 0)) := l0 g _ (Qn _ _)
      have hmx : xs.length * e.sz = l * e.sz := by rw [hq]
      refine Qn2 he hinv hx hy ht hk hn hm hg (by simp only [List.size_toArray]; omega) fun W' hi' => ?_
      rw [Qok]
      have hsp := QkE (c := c') (vs := v.cells.toList) (off := off) (q := l * e.sz) (o := i * e.sz + eo) (by rw [hks]; omega) (by omega)
      have hA' : QaM e.sz (Qo g (.cells (J8 c' o v.cells.toList).toArray E (0, 0))) (.slice (some ⟨g, off, none⟩) l c) l (J8 ((c'.drop off).take (l * e.sz)) (i * e.sz + eo) v.cells.toList) := by
        have := QaM.row (sz := e.sz) g off l c E (J8 c' o v.cells.toList) (by rw [Qf1 _ _ _ (by rw [hks]; omega)]; exact k1) k2 k3
        rw [ho, show off + i * e.sz + eo = off + (i * e.sz + eo) by omega] at this ⊢
        rwa [hsp] at this
      have hL' := ZN.upd (fun _ _ _ h => h.len) (by rw [hks]; exact hle') hup hL hi
      refine hK _ _ (h _ ?_ Q hQ _ _ he hi')
      have g1 : m1 g = none := by
        rcases d01 g with h | h
        · rw [Qn] at h; cases h
        · exact h
      refine Ow.cls (m0 := Qo g (.cells (J8 c' o v.cells.toList).toArray E (0, 0))) (m1 := m1) (.two (fun q' => ?_) (fun q' o' hq' => ?_) (fun q' o' hq' => ?_)) (rc := J8 ((c'.drop off).take (l * e.sz)) (i * e.sz + eo) v.cells.toList) (by rw [List.length_set, hq]; exact hA') hL'
      · by_cases hqg : q' = g
        · subst hqg; exact .inr g1
        · exact .inl (QdH _ hqg)
      · unfold Qo at hq'
        split at hq'
        · rename_i hqg; subst hqg; simp [Qla, ← hq']
        · cases hq'
      · have hqg : q' ≠ g := by rintro rfl; rw [g1] at hq'; cases hq'
        simp [Qla, hqg, l1 q' o' hq']
end
theorem Inv.num {w0 W:World} {Ω:Ctx} (h:Inv w0 Ω W) (a b:Nat) {m:Mem} (ha:YA Ω a=some m):Inv w0 ((b,m)::YZ Ω a) W:=by
 obtain ⟨h1,h2⟩:=Qb0 ha h.dj
 refine ⟨h.os,h.tape,h.output,h.size,fun p hp=>?_,List.pairwise_cons.2 ⟨h1,h2⟩⟩
 rcases List.mem_cons.1 hp with rfl | hp
 ·exact h.at ha
 ·exact h.le p (YW hp)
theorem ZA (m:Mem):Zs [m]=m:=by
 funext g
 show (match m g with | some o=>some o | none=>none)=m g
 cases m g <;> rfl
theorem Qt.grpM {M:Mem} {ls:List (List Mem)} {l:List Mem} (h:Qt M ls.flatten) (hl:ls.map Zs=l):Qt M l:=hl ▸ h.grp
theorem shlU {P:Program} (a k:Nat) {kk:IntKind} (hk:k≤63):∀ W,(Op.shift .shl .u64 (a:Int) kk (k:Int)).run P W= .ok (.int .u64 ((a*2 ^ k % 18446744073709551616:Nat):Int)) W:=fun W=>by
 unfold Op.shift
 rw [if_neg (by omega)]
 have e1:min (k:Int).toNat IntKind.u64.bits=k:=by simp [IntKind.bits];omega
 simp only [e1]
 show Result.ok (Value.int .u64 (IntKind.u64.wrap ((a:Int)*2 ^ k))) W=_
 have:(a:Int)*2 ^ k=((a*2 ^ k:Nat):Int):=by simp
 rw [this,IntKind.wrap_u64]
 generalize a*2 ^ k=q
 congr 2
theorem orU {P:Program} (x y:Nat) (hx:x < 18446744073709551616) (hy:y < 18446744073709551616):∀ W,(Op.intBits .or .u64 (x:Int) (y:Int)).run P W= .ok (.int .u64 ((x ||| y:Nat):Int)) W:=fun W=>by
 have e:(BitVec.ofInt IntKind.u64.bits (x:Int) ||| BitVec.ofInt IntKind.u64.bits (y:Int)).toNat=x ||| y:=by
  rw [BitVec.toNat_or]
  show (BitVec.ofInt 64 (x:Int)).toNat ||| (BitVec.ofInt 64 (y:Int)).toNat=_
  have e1:(BitVec.ofInt 64 (x:Int)).toNat=x:=by simp;omega
  have e2:(BitVec.ofInt 64 (y:Int)).toNat=y:=by simp;omega
  rw [e1,e2]
 have hb:x ||| y < 18446744073709551616:=by
  have:=Nat.or_lt_two_pow (n:=64) (by simpa using hx) (by simpa using hy)
  simpa using this
 show Result.ok (Value.int .u64 (IntKind.u64.wrap ((BitVec.ofInt IntKind.u64.bits (x:Int) ||| BitVec.ofInt IntKind.u64.bits (y:Int)).toNat:Int))) W=_
 rw [e,IntWalk.u64_in _ (by omega)]
theorem Yld.mulN {P:Program} {n:Nat} {w0:World} {σ:Env} {Ω:Ctx} {ty:TypeId} {pos:String} {af:Array Edge} {d:Option Tmp} {gd:Option (Nat × Bool)} {x y:Operand} {t u:TypeId} {a b c:Nat} (hx:ev σ x=some (.int .u64 (a:Int))) (hy:ev σ y=some (.int .u64 (b:Int))) (hc:a*b=c) (h:c < 18446744073709551616):
  Yld P n w0 σ Ω ⟨d,.binOp .mul t x y u,ty,pos,af,gd⟩ (.int .u64 (c:Int)):=by
 have:=Yld.mulW (P:=P) (n:=n) (w0:=w0) (Ω:=Ω) (ty:=ty) (pos:=pos) (af:=af) (d:=d) (gd:=gd) (t:=t) (u:=u) hx hy
 have e:(a:Int)*b=(c:Int):=by rw [← hc];simp
 rw [e] at this
 rwa [IntWalk.u64_in _ (by omega)] at this
theorem Qeu (s:List UInt8):∀ u∈s.map byV,u.oneCell'=true:=fun u hu=>by
 obtain ⟨b,_,rfl⟩:=List.mem_map.1 hu;rfl
section
variable {P : Program} {n : Nat} {w0 : World} {σ : Env} {Ω ΩS : Ctx} {ops : Array Oper} {K : Env → Ctx → Prop} {R : Exit → Env → Ctx → Prop}
theorem VC.condKT {c:Operand} {x y:Code} {b:Bool} (hc:ev σ c=some (.bool b)) (hb:b=true) (h:VC P n w0 x R σ Ω):VC P n w0 (.cond c x y) R σ Ω:=VC.condT (by rw [hc,hb]) h
theorem VC.condKF {c:Operand} {x y:Code} {b:Bool} (hc:ev σ c=some (.bool b)) (hb:b=false) (h:VC P n w0 y R σ Ω):VC P n w0 (.cond c x y) R σ Ω:=VC.condF (by rw [hc,hb]) h
theorem VC.condBN {c:Operand} {x y:Code} {b:Bool} (hc:ev σ c=some (.bool (!b))) (h1:b=false→VC P n w0 x R σ Ω) (h2:b=true→VC P n w0 y R σ Ω):VC P n w0 (.cond c x y) R σ Ω:=
 VC.condB hc (fun h=>h1 (by simpa using h)) (fun h=>h2 (by simpa using h))
theorem VO.decBN {r:List Oper} {t:Nat} {b:Bool} (ht:QbB σ t=some (.bool (!b))) (h1:b=false→VO P n w0 ops r ((t,.bool true)::σ) Ω K)
  (h2:b=true→VO P n w0 ops r ((t,.bool false)::σ) Ω K):VO P n w0 ops r σ Ω K:=VO.decB ht (fun h=>h1 (by simpa using h)) (fun h=>h2 (by simpa using h))
theorem VD.decBN {tt:Nat} {l:List (Nat × Bool)} {s:Nat} {b:Bool} (ht:QbB σ s=some (.bool (!b))) (h1:b=false→VD P n w0 ops ΩS tt l ((s,.bool true)::σ) Ω K)
  (h2:b=true→VD P n w0 ops ΩS tt l ((s,.bool false)::σ) Ω K):VD P n w0 ops ΩS tt l σ Ω K:=VD.decB ht (fun h=>h1 (by simpa using h)) (fun h=>h2 (by simpa using h))
theorem VD.app {tt q:Nat} {l:List (Nat × Bool)} {ty:TypeId} {pos:String} {af:Array Edge} {s x:Operand} {t xt e:TypeId} {sz b len k dd:Nat} {v xv:Value} {cs xs z:List Value} (i:Nat) {m m0:Mem} (hd:Nat.blt dd n=true) (ho:ops[q]? =some ⟨some dd,.call { callee:= .builtin .append,args:=[s,x].toArray,argTypes:=[t,xt].toArray },ty,pos,af,none⟩) (hsv:ev σ s=some v) (hxv:ev σ x=some xv) (ht:tsl P t=some (e,sz,b)) (hz:tz P e=some z) (hzl:z.length=sz)
  (hm:YA Ω i=some m) (hm0:mle m0 m) (hown:QaM sz m0 v len cs) (hs:Src P Ω sz xt xv k xs) (h1:∀ u∈xs,u.oneCell'=true) (hml:len+k≤maxLen) (hb:(len+k)*b≤140737488355328) (hb0:b≠0) (hS:∀ m' W,Inv w0 (Qbz Ω i m') W→Inv w0 ΩS W)
  (h:∀ v' m',QaM sz m' v' (len+k) (cs++xs)→VD P n w0 ops ΩS tt l ((dd,v')::σ) (Qbz Ω i m') K):VD P n w0 ops ΩS tt ((q,false)::l) σ Ω K:=
 VD.s (fun v=>(dd,v)::σ) ho (fun v _ he=>he.put hd v) (.inl rfl) (Stp.app i hsv hxv ht hz hzl hm hm0 hown hs h1 hml hb hb0) (fun _ _ ⟨m',_,hΩ⟩ W hW=>hS m' W (by subst hΩ;exact hW)) (fun v _ ⟨m',hp,hΩ⟩=>hΩ ▸ h v m' hp)
theorem VO.known {r:List Oper} {t:Nat} {b:Bool} (b':Bool) (ht:QbB σ t=some (.bool b)) (hb:b=b') (h:VO P n w0 ops r ((t,.bool b')::σ) Ω K):VO P n w0 ops r σ Ω K:=VO.rw (.bool b') ht (by rw [hb]) h
end
theorem bd {p:Prop} (h:p:=by first | omega | (simp only [List.length_append,List.length_nil,List.length_cons,List.length_take,List.length_drop] at*;omega)):p:=h
theorem bdk {k:IntKind} {x:Int} (h:inK k x:=by simp only [inK];(first | omega | (simp only [List.length_append,List.length_nil,List.length_cons,List.length_take,List.length_drop] at*;omega))):inK k x:=h
theorem bdm {x:Nat} (h:x≤maxLen:=by simp only [maxLen];(first | omega | (simp only [List.length_append,List.length_nil,List.length_cons,List.length_take,List.length_drop] at*;omega))):x≤maxLen:=h
abbrev esb (a b : Env) : Prop := esub a b
section
variable {P : Program} {n : Nat} {w0 : World} {σ : Env} {Ω : Ctx} {ops : Array Oper} {K : Env → Ctx → Prop}
variable {ty : TypeId} {pos : String} {af : Array Edge} {r : List Oper}
theorem VO.gN {d:Nat} {op:Op} {j:Nat} {b:Bool} (h:VO P n w0 ops r ((d,undef)::σ) Ω K) (hd:Nat.blt d n=true:=by rfl) (hg:Qff σ ops j (!b)∨gund σ ops j:=by exact .inl ⟨_,rfl,rfl⟩):VO P n w0 ops (⟨some d,op,ty,pos,af,some (j,b)⟩::r) σ Ω K:=VO.gn hd hg h
theorem VO.mv {d:Nat} {x:Operand} {v:Value} (h:VO P n w0 ops r ((d,v)::σ) Ω K) (hd:Nat.blt d n=true:=by rfl) (hx:ev σ x=some v:=by rfl):VO P n w0 ops (⟨some d,.move x,ty,pos,af,none⟩::r) σ Ω K:=VO.y hd (.mv hx) h
theorem VO.as {d:Nat} {x:Operand} {v:Value} (h:VO P n w0 ops r ((d,v)::σ) Ω K) (hd:Nat.blt d n=true:=by rfl) (hx:ev σ x=some v:=by rfl):VO P n w0 ops (⟨some d,.assign x,ty,pos,af,none⟩::r) σ Ω K:=VO.y hd (.as hx) h
theorem VO.k1 (a0:Nat) {v0:Value} (h:K [(a0,v0)] Ω) (e:esb [(a0,v0)] σ:=by exact ⟨rfl,trivial⟩):VO P n w0 ops [] σ Ω K:=VO.esub _ e (VO.nil h)
theorem VO.k2 (a0 a1:Nat) {v0 v1:Value} (h:K [(a0,v0),(a1,v1)] Ω) (e:esb [(a0,v0),(a1,v1)] σ:=by exact ⟨rfl,rfl,trivial⟩):VO P n w0 ops [] σ Ω K:=VO.esub _ e (VO.nil h)
theorem VO.k3 (a0 a1 a2:Nat) {v0 v1 v2:Value} (h:K [(a0,v0),(a1,v1),(a2,v2)] Ω) (e:esb [(a0,v0),(a1,v1),(a2,v2)] σ:=by exact ⟨rfl,rfl,rfl,trivial⟩):VO P n w0 ops [] σ Ω K:=VO.esub _ e (VO.nil h)
theorem VO.k4 (a0 a1 a2 a3:Nat) {v0 v1 v2 v3:Value} (h:K [(a0,v0),(a1,v1),(a2,v2),(a3,v3)] Ω) (e:esb [(a0,v0),(a1,v1),(a2,v2),(a3,v3)] σ:=by exact ⟨rfl,rfl,rfl,rfl,trivial⟩):VO P n w0 ops [] σ Ω K:=VO.esub _ e (VO.nil h)
theorem VO.k5 (a0 a1 a2 a3 a4:Nat) {v0 v1 v2 v3 v4:Value} (h:K [(a0,v0),(a1,v1),(a2,v2),(a3,v3),(a4,v4)] Ω) (e:esb [(a0,v0),(a1,v1),(a2,v2),(a3,v3),(a4,v4)] σ:=by exact ⟨rfl,rfl,rfl,rfl,rfl,trivial⟩):VO P n w0 ops [] σ Ω K:=VO.esub _ e (VO.nil h)
theorem VO.k6 (a0 a1 a2 a3 a4 a5:Nat) {v0 v1 v2 v3 v4 v5:Value} (h:K [(a0,v0),(a1,v1),(a2,v2),(a3,v3),(a4,v4),(a5,v5)] Ω) (e:esb [(a0,v0),(a1,v1),(a2,v2),(a3,v3),(a4,v4),(a5,v5)] σ:=by exact ⟨rfl,rfl,rfl,rfl,rfl,rfl,trivial⟩):VO P n w0 ops [] σ Ω K:=VO.esub _ e (VO.nil h)
theorem VO.k7 (a0 a1 a2 a3 a4 a5 a6:Nat) {v0 v1 v2 v3 v4 v5 v6:Value} (h:K [(a0,v0),(a1,v1),(a2,v2),(a3,v3),(a4,v4),(a5,v5),(a6,v6)] Ω) (e:esb [(a0,v0),(a1,v1),(a2,v2),(a3,v3),(a4,v4),(a5,v5),(a6,v6)] σ:=by exact ⟨rfl,rfl,rfl,rfl,rfl,rfl,rfl,trivial⟩):VO P n w0 ops [] σ Ω K:=VO.esub _ e (VO.nil h)
theorem VO.k8 (a0 a1 a2 a3 a4 a5 a6 a7:Nat) {v0 v1 v2 v3 v4 v5 v6 v7:Value} (h:K [(a0,v0),(a1,v1),(a2,v2),(a3,v3),(a4,v4),(a5,v5),(a6,v6),(a7,v7)] Ω) (e:esb [(a0,v0),(a1,v1),(a2,v2),(a3,v3),(a4,v4),(a5,v5),(a6,v6),(a7,v7)] σ:=by exact ⟨rfl,rfl,rfl,rfl,rfl,rfl,rfl,rfl,trivial⟩):VO P n w0 ops [] σ Ω K:=VO.esub _ e (VO.nil h)
theorem VO.k9 (a0 a1 a2 a3 a4 a5 a6 a7 a8:Nat) {v0 v1 v2 v3 v4 v5 v6 v7 v8:Value} (h:K [(a0,v0),(a1,v1),(a2,v2),(a3,v3),(a4,v4),(a5,v5),(a6,v6),(a7,v7),(a8,v8)] Ω) (e:esb [(a0,v0),(a1,v1),(a2,v2),(a3,v3),(a4,v4),(a5,v5),(a6,v6),(a7,v7),(a8,v8)] σ:=by exact ⟨rfl,rfl,rfl,rfl,rfl,rfl,rfl,rfl,rfl,trivial⟩):VO P n w0 ops [] σ Ω K:=VO.esub _ e (VO.nil h)
theorem VO.k10 (a0 a1 a2 a3 a4 a5 a6 a7 a8 a9:Nat) {v0 v1 v2 v3 v4 v5 v6 v7 v8 v9:Value} (h:K [(a0,v0),(a1,v1),(a2,v2),(a3,v3),(a4,v4),(a5,v5),(a6,v6),(a7,v7),(a8,v8),(a9,v9)] Ω) (e:esb [(a0,v0),(a1,v1),(a2,v2),(a3,v3),(a4,v4),(a5,v5),(a6,v6),(a7,v7),(a8,v8),(a9,v9)] σ:=by exact ⟨rfl,rfl,rfl,rfl,rfl,rfl,rfl,rfl,rfl,rfl,trivial⟩):VO P n w0 ops [] σ Ω K:=VO.esub _ e (VO.nil h)
theorem VO.k11 (a0 a1 a2 a3 a4 a5 a6 a7 a8 a9 a10:Nat) {v0 v1 v2 v3 v4 v5 v6 v7 v8 v9 v10:Value} (h:K [(a0,v0),(a1,v1),(a2,v2),(a3,v3),(a4,v4),(a5,v5),(a6,v6),(a7,v7),(a8,v8),(a9,v9),(a10,v10)] Ω) (e:esb [(a0,v0),(a1,v1),(a2,v2),(a3,v3),(a4,v4),(a5,v5),(a6,v6),(a7,v7),(a8,v8),(a9,v9),(a10,v10)] σ:=by exact ⟨rfl,rfl,rfl,rfl,rfl,rfl,rfl,rfl,rfl,rfl,rfl,trivial⟩):VO P n w0 ops [] σ Ω K:=VO.esub _ e (VO.nil h)
theorem VO.k12 (a0 a1 a2 a3 a4 a5 a6 a7 a8 a9 a10 a11:Nat) {v0 v1 v2 v3 v4 v5 v6 v7 v8 v9 v10 v11:Value} (h:K [(a0,v0),(a1,v1),(a2,v2),(a3,v3),(a4,v4),(a5,v5),(a6,v6),(a7,v7),(a8,v8),(a9,v9),(a10,v10),(a11,v11)] Ω) (e:esb [(a0,v0),(a1,v1),(a2,v2),(a3,v3),(a4,v4),(a5,v5),(a6,v6),(a7,v7),(a8,v8),(a9,v9),(a10,v10),(a11,v11)] σ:=by exact ⟨rfl,rfl,rfl,rfl,rfl,rfl,rfl,rfl,rfl,rfl,rfl,rfl,trivial⟩):VO P n w0 ops [] σ Ω K:=VO.esub _ e (VO.nil h)
end
theorem VO.keep {P:Program} {n:Nat} {w0:World} {σ:Env} {Ω:Ctx} {ops:Array Oper} {K:Env→Ctx→Prop} {r:List Oper} (ids:List Nat) (Ω':Ctx) (hk:Qhi Ω ids=Ω') (h:VO P n w0 ops r σ Ω' K):VO P n w0 ops r σ Ω K:=
 VO.inv _ (fun W hW=>hk ▸ hW.sub ids) h
theorem VO.kp {P:Program} {n:Nat} {w0:World} {σ:Env} {Ω:Ctx} {ops:Array Oper} {K:Env→Ctx→Prop} {r:List Oper} (ids:List Nat) (Ω':Ctx) (h:VO P n w0 ops r σ Ω' K) (hk:Qhi Ω ids=Ω':=by kernel_rfl):VO P n w0 ops r σ Ω K:=
 VO.inv _ (fun W hW=>hk ▸ hW.sub ids) h
theorem Ow.rm {e:Ty} {m:Mem} {A:Option Addr} {n c:Nat} {xs:List e.Den} (h:Ow (.sl e) m [.slice A n c] xs):n≤c∧c≤9223372036854775807:=Rd.room (h.rd (Qb _))
section
theorem Rd.relen {e:Ty} {m:Mem} {A:Option Addr} {l k c:Nat} {xs:List e.Den} (h:Rd (.sl e) m [.slice A l c] xs) (hk:k=xs.length):Rd (.sl e) m [.slice A k c] xs:=by
 obtain ⟨A',c',h1,h2⟩:=h
 simp only [List.cons.injEq,Value.slice.injEq,and_true] at h1
 obtain ⟨rfl,_,rfl⟩:=h1
 exact ⟨_,_,by rw [hk],h2⟩
theorem Ow.full {e:Ty} {m:Mem} {A:Option Addr} {l c:Nat} {x:List e.Den × List e.Den} (h:Ow (.spl e) m [.slice A l c] x):l=x.1.length∧Ow (.sl e) m [.slice A (x.1++x.2).length c] (x.1++x.2):=by
 obtain ⟨A',c',m0,m1,rc,h1,h2,h3,h4,h5,h6⟩:=h
 simp only [List.cons.injEq,Value.slice.injEq,and_true] at h1
 obtain ⟨rfl,rfl,rfl⟩:=h1
 exact ⟨rfl,_,m0,m1,rc,rfl,h2,h3,h4,h5,h6⟩
theorem Ow.mkSpl {e:Ty} {m:Mem} {A:Option Addr} {l c k:Nat} {xs ys:List e.Den} (h:Ow (.sl e) m [.slice A l c] (xs++ys)) (hk:k=xs.length):Ow (.spl e) m [.slice A k c] (xs,ys):=by
 have hl:=QbK h
 obtain ⟨v,m0,m1,rc,h1,h2,h3,h4,h5,h6⟩:=h
 simp only [List.cons.injEq,and_true] at h1
 subst h1
 exact ⟨A,c,m0,m1,rc,by rw [hk],h2,h3,h4,by rw [← hl] at h5;exact h5,h6⟩
theorem Ow.pre2 {e:Ty} {m:Mem} {A:Option Addr} {l c:Nat} {xs ys:List e.Den} (h:Ow (.sl e) m [.slice A l c] (xs++ys)):Ow (.sl e) m [.slice A xs.length c] xs:=by
 have:=Ow.pre (j:=xs.length) h (by simp)
 rwa [List.take_left] at this
theorem Ow.nilSpl (e:Ty) (m:Mem):Ow (.spl e) m [.slice none 0 0] ([],[]):=Ow.mkSpl (xs:=[]) (ys:=[]) (Ow.nil e m) rfl
theorem ZN.map {α β:Type} {R:Mem→List Value→α→Prop} {S:Mem→List Value→β→Prop} (f:α→β) (hf:∀ m c x,R m c x→S m c (f x)):∀ {xs:List α} {m:Mem} {cs:List Value},ZN R m cs xs→ZN S m cs (xs.map f)
 | [],_,_,h=>h
 | _::_,_,_,⟨c1,c2,m1,m2,h1,h2,h3,h4,h5,h6⟩=>⟨c1,c2,m1,m2,h1,h2,h3,h4,hf _ _ _ h5,h6.map f hf⟩
theorem Rd.mapL {e e':Ty} (f:e.Den→e'.Den) (hz:e'.sz=e.sz) (hf:∀ m c x,Rd e m c x→Rd e' m c (f x)) {m:Mem} {cs:List Value} {xs:List e.Den} (h:Rd (.sl e) m cs xs):Rd (.sl e') m cs (xs.map f):=by
 obtain ⟨A,c,h1,h2,h3,h4⟩:=h
 have hl:(xs.map f).length=xs.length:=List.length_map ..
 refine ⟨A,c,by rw [hl];exact h1,by rw [hl];exact h2,h3,?_⟩
 rw [hl,hz]
 exact h4.imp id fun ⟨g,off,all,k1,k2,k3⟩=>⟨g,off,all,k1,k2,k3.map _ (hf m)⟩
section
variable {P : Program} {n : Nat} {w0 : World} {σ : Env} {Ω : Ctx} {ops : Array Oper} {K : Env → Ctx → Prop}
theorem Qgs {ρ:Operand→Value} {dst:Option Tmp} {x:Operand} {f:FuncId} {caps:Array Value} {xs:Array Operand} {ats:Array TypeId} {ty:TypeId} {pos:String} {after:Array Edge} {guard:Option (Nat × Bool)} (hx:ρ x= .func (.func f) #[] caps):
  execOp ρ { dst,op:= .call { callee:= .value x,args:=xs,argTypes:=ats },type:=ty,pos,after,guard }=callFunc f (#[]++xs.map ρ++caps):=by
 show (do let d ← Deferred.ofValue (ρ x) (xs.map ρ);invoke d.target d.args)=_
 rw [hx];rfl
theorem Yld.mkf {d:Nat} {f:FuncId} {xs:List Operand} {caps:List Value} {ty:TypeId} {pos:String} {af:Array Edge} {gd:Option (Nat × Bool)} (ha:evs σ xs=some caps):Yld P n w0 σ Ω ⟨some d,.makeFunc (.func f) #[] xs.toArray,ty,pos,af,gd⟩ (.func (.func f) #[] caps.toArray):=fun a W he _=>by
 simp [execOp,Instr.makeFunc,he.evals ha]
theorem Stp.callV {x:Operand} {f:FuncId} {caps:List Value} {xs:List Operand} {ats:Array TypeId} {ty:TypeId} {pos:String} {af:Array Edge} {dst:Option Tmp} {gd:Option (Nat × Bool)} {vs:List Value} {Post:Value→Mem→Prop}
  (i:Nat) {m:Mem} (hx:ev σ x=some (.func (.func f) #[] caps.toArray)) (hf:JE P f=true) (ha:evs σ xs=some vs) (hm:YA Ω i=some m) (hc:∀ W,Inv w0 Ω W→Qc P f (vs++caps) W m Post):
  Stp P n w0 σ Ω ⟨dst,.call { callee:= .value x,args:=xs.toArray,argTypes:=ats },ty,pos,af,gd⟩ (fun v Ω'=>∃ m',Post v m'∧Ω'=Qbz Ω i m'):=fun a W he hi K Q hK=>by
 unfold Oper.wp
 rw [Qgs (he.eval hx)]
 rw [Y0 hf]
 have: #[]++Array.map a.eval xs.toArray++caps.toArray=(vs++caps).toArray:=by
  rw [← he.evals ha];simp
 rw [this,Oper.upon_enter]
 refine Calls.mono (hc W hi) fun e W' ⟨v,m',h1,h2,h3⟩=>?_
 subst h1
 exact hK v _ W' ⟨m',h2,rfl⟩ (hi.upd hm h3)
theorem Stp.callVN {x:Operand} {f:FuncId} {caps:List Value} {xs:List Operand} {ats:Array TypeId} {ty:TypeId} {pos:String} {af:Array Edge} {dst:Option Tmp} {gd:Option (Nat × Bool)} {vs:List Value} {Post:Value→Mem→Prop}
  (i:Nat) (hx:ev σ x=some (.func (.func f) #[] caps.toArray)) (hf:JE P f=true) (ha:evs σ xs=some vs) (hc:∀ W,Inv w0 Ω W→Qc P f (vs++caps) W mnil Post):
  Stp P n w0 σ Ω ⟨dst,.call { callee:= .value x,args:=xs.toArray,argTypes:=ats },ty,pos,af,gd⟩ (fun v Ω'=>∃ m',Post v m'∧Ω'=(i,m')::Ω):=fun a W he hi K Q hK=>by
 unfold Oper.wp
 rw [Qgs (he.eval hx)]
 rw [Y0 hf]
 have: #[]++Array.map a.eval xs.toArray++caps.toArray=(vs++caps).toArray:=by
  rw [← he.evals ha];simp
 rw [this,Oper.upon_enter]
 refine Calls.mono (hc W hi) fun e W' ⟨v,m',h1,h2,h3⟩=>?_
 subst h1
 exact hK v _ W' ⟨m',h2,rfl⟩ (hi.updN i h3)
theorem VO.callV {r:List Oper} {d:Nat} {x:Operand} {f:FuncId} {caps:List Value} {xs:List Operand} {ats:Array TypeId} {ty:TypeId} {pos:String} {af:Array Edge} {vs:List Value} {Post:Value→Mem→Prop}
  (i:Nat) {m:Mem} (hd:Nat.blt d n=true) (hx:ev σ x=some (.func (.func f) #[] caps.toArray)) (hf:JE P f=true) (ha:evs σ xs=some vs) (hm:YA Ω i=some m) (hc:∀ W,Inv w0 Ω W→Qc P f (vs++caps) W m Post)
  (h:∀ v m',Post v m'→VO P n w0 ops r ((d,v)::σ) (Qbz Ω i m') K):
  VO P n w0 ops (⟨some d,.call { callee:= .value x,args:=xs.toArray,argTypes:=ats },ty,pos,af,none⟩::r) σ Ω K:=
 VO.s hd (Stp.callV i hx hf ha hm hc) fun v _ ⟨m',hp,hΩ⟩=>hΩ ▸ h v m' hp
theorem VO.callVN {r:List Oper} {d:Nat} {x:Operand} {f:FuncId} {caps:List Value} {xs:List Operand} {ats:Array TypeId} {ty:TypeId} {pos:String} {af:Array Edge} {vs:List Value} {Post:Value→Mem→Prop}
  (i:Nat) (hd:Nat.blt d n=true) (hx:ev σ x=some (.func (.func f) #[] caps.toArray)) (hf:JE P f=true) (ha:evs σ xs=some vs) (hc:∀ W,Inv w0 Ω W→Qc P f (vs++caps) W mnil Post)
  (h:∀ v m',Post v m'→VO P n w0 ops r ((d,v)::σ) ((i,m')::Ω) K):
  VO P n w0 ops (⟨some d,.call { callee:= .value x,args:=xs.toArray,argTypes:=ats },ty,pos,af,none⟩::r) σ Ω K:=
 VO.s hd (Stp.callVN i hx hf ha hc) fun v _ ⟨m',hp,hΩ⟩=>hΩ ▸ h v m' hp
end
abbrev Hd := Option Addr × Nat × Nat
def hv (h : Hd) : Value := .slice h.1 h.2.1 h.2.2
abbrev tC (e : Ty) : Ty := .pair (.int .i64) (.pair (.int .i64) (.sl e))
abbrev DH := Int × Int × Hd
def Pc (e : Ty) (m : Mem) (h : DH) (x : (tC e).Den) : Prop := h.1 = x.1 ∧ h.2.1 = x.2.1 ∧ Rd (.sl e) m [hv h.2.2] x.2.2
inductive F2 {α β : Type} (R : α → β → Prop) : List α → List β → Prop
  | nil : F2 R [] []
  | cons {a : α} {b : β} {l : List α} {r : List β} (h : R a b) (t : F2 R l r) : F2 R (a :: l) (b :: r)
theorem F2.mono {α β:Type} {R S:α→β→Prop} {l:List α} {r:List β} (h:F2 R l r) (hs:∀ a b,R a b→S a b):F2 S l r:=by
 induction h with
 | nil=>exact .nil
 | cons h _ ih=>exact .cons (hs _ _ h) ih
variable {e : Ty}
theorem Pc.mono {m m':Mem} {h:DH} {x:(tC e).Den} (hp:Pc e m h x) (hm:mle m m'):Pc e m' h x:=⟨hp.1,hp.2.1,hp.2.2.mono hm⟩
end
section
variable {P : Program} {n : Nat} {w0 : World} {σ : Env} {Ω : Ctx} {R : Exit → Env → Ctx → Prop}
theorem VC.seqJ {G:Type} {x y:Code} (S:G→Env) (C:G→Ctx) (I:G→Prop) (rest:∀ g,I g→VC P n w0 y R (S g) (C g))
  (h:(∀ g σ' Ω',I g→To w0 (S g) (C g) σ' Ω'→VC P n w0 y R σ' Ω')→VC P n w0 x (QgP (fun σ' Ω'=>VC P n w0 y R σ' Ω') R) σ Ω):VC P n w0 (.seq x y) R σ Ω:=
 VC.seq (h fun g _ _ hi ht=>VC.esub _ ht.env (VC.inv _ ht.inv (rest g hi)))
end
section
variable {P : Program} {n : Nat} {w0 : World} {σ : Env} {Ω ΩS : Ctx} {ops : Array Oper} {K : Env → Ctx → Prop} {R : Exit → Env → Ctx → Prop}
theorem VO.clsP {r:List Oper} (k:Nat) (ids:List Nat) {l:List Mem} (hg:QbZ Ω ids=some l) {e:Ty} {v:Value} {x:Nat × e.Den} (hp:Qt (Zs l) l→Ow (.ptr e) (Zs l) [v] x) (h:∀ M,Ow (.ptr e) M [v] x→VO P n w0 ops r σ ((k,M)::QcB Ω ids) K):VO P n w0 ops r σ Ω K:=
 VO.gather k ids hg fun hS=>h _ (hp hS)
theorem VC.clsP {c:Code} (k:Nat) (ids:List Nat) {l:List Mem} (hg:QbZ Ω ids=some l) {e:Ty} {v:Value} {x:Nat × e.Den} (hp:Qt (Zs l) l→Ow (.ptr e) (Zs l) [v] x) (h:∀ M,Ow (.ptr e) M [v] x→VC P n w0 c R σ ((k,M)::QcB Ω ids)):VC P n w0 c R σ Ω:=
 VC.gather k ids hg fun hS=>h _ (hp hS)
end
section
variable {P : Program} {n : Nat} {w0 : World} {σ : Env} {Ω : Ctx} {ops : Array Oper} {K : Env → Ctx → Prop}
theorem Stp.appO {e:Ty} {s x:Operand} {t xt et xe:TypeId} {b g c:Nat} {d:Option Nat} {gd:Option (Nat × Bool)} {ty:TypeId} {pos:String} {af:Array Edge} {v:Value} {xs:List e.Den} {y:e.Den} {yc z:List Value} (i j k:Nat) {m mj mk:Mem} (hsv:ev σ s=some v) (hxv:ev σ x=some (.slice (some ⟨g,0,none⟩) 1 c)) (ht:tsl P t=some (et,e.sz,b)) (hz:tz P et=some z) (hzl:z.length=e.sz)
  (hm:YA Ω i=some m) (hj:YA (YZ Ω i) j=some mj) (hk:YA Ω k=some mk) (hown:Ow (.sl e) m [v] xs) (hy:Ow e mj yc y) (hxt:P.underlying xt=some (.slice xe)) (hc:Jp mk g 0 e.sz yc) (hml:xs.length+1≤maxLen) (hb:(xs.length+1)*b≤140737488355328) (hb0:b≠0):
  Stp P n w0 σ Ω ⟨d,.call { callee:= .builtin .append,args:=[s,x].toArray,argTypes:=[t,xt].toArray },ty,pos,af,gd⟩ (fun v' Ω'=>∃ m',Ow (.sl e) m' [v'] (xs++[y])∧Ω'=(i,m')::YZ (YZ Ω i) j):=
 fun a W he hi K' Q hK=>by
  obtain ⟨m0,m1,rc,hS,hA,hL⟩:=hown.opn
  obtain ⟨q1,q2,q3,q4,_⟩:=hi.gets (ids:=[i,j]) (l:=[m,mj]) (by simp [QbZ,hm,hj])
  have dmj:mdj m mj:=by simpa using q1
  have d01:mdj m0 m1:=by have:=hS.2;simpa using this
  have l0:=hS.1 m0 (.head _)
  have l1:=hS.1 m1 (.tail _ (.head _))
  have d1j:mdj m1 mj:=dmj.mono l1 (Qb _)
  have hnew:mdj m0 (mun m1 mj):=(Y2 d01.symm (dmj.mono l0 (Qb _)).symm).symm
  have hΩ2:Inv w0 ((i,m0)::(j,mun m1 mj)::YZ (YZ Ω i) j) W:=by
   have hdel:Inv w0 (YZ (YZ Ω i) j) W:=q4
   have f1:∀ p∈YZ (YZ Ω i) j,mdj m p.2:=fun p hp=>q3 m (.head _) p hp
   have f2:∀ p∈YZ (YZ Ω i) j,mdj mj p.2:=fun p hp=>q3 mj (.tail _ (.head _)) p hp
   refine ⟨hi.os,hi.tape,hi.output,hi.size,fun p hp=>?_,List.pairwise_cons.2 ⟨fun p hp=>?_,List.pairwise_cons.2 ⟨fun p hp=>?_,hdel.dj⟩⟩⟩
   ·rcases List.mem_cons.1 hp with rfl | hp
    ·exact l0.trans (hi.at hm)
    ·rcases List.mem_cons.1 hp with rfl | hp
     ·exact QcE (l1.trans (hi.at hm)) (q2 mj (.tail _ (.head _)))
     ·exact hdel.le p hp
   ·rcases List.mem_cons.1 hp with rfl | hp
    ·exact hnew
    ·exact (f1 p hp).mono l0 (Qb _)
   ·exact Y2 ((f1 p hp).mono l1 (Qb _)) (f2 p hp)
  have hsrc:QrK P W e.sz xt (.slice (some ⟨g,0,none⟩) 1 c) 1 yc:=by
   refine ⟨⟨_,hxt,by simp⟩,by rw [hy.len];omega,fun W' hW=>?_,fun W'=>by simp [Builtin.lenOf]⟩
   have hc2:Jp (wm W') g 0 (1*e.sz) yc:=by
    rw [Nat.one_mul]
    refine hc.mono (fun q o ho=>?_)
    have:=hi.at hk q o ho
    unfold wm at this ⊢
    rw [hW];exact this
   exact QcF hc2
  refine Qny (i:=i) (m:=m0) (m0:=m0) he hΩ2 hsv hxv ht hz hzl (by simp [YA]) (Qb _) hA hsrc hy.nice hml hb hb0 fun v' m' W' hA' hi'=>?_
  have hc':Qbz ((i,m0)::(j,mun m1 mj)::YZ (YZ Ω i) j) i m'=(i,m')::(j,mun m1 mj)::YZ (YZ Ω i) j:=by simp [Qbz]
  rw [hc'] at hi'
  have hdj:mdj m' (mun m1 mj):=(List.pairwise_cons.1 hi'.dj).1 _ (.head _)
  have hall:ZN (Ow e) (mun m1 mj) (rc++yc) (xs++[y]):=ZN.app d1j (Js _ _) (Jn d1j) hL (.one hy (Qb _))
  have how:Ow (.sl e) (mun m' (mun m1 mj)) [v'] (xs++[y]):=⟨v',m',mun m1 mj,rc++yc,rfl,hdj,Js _ _,Jn hdj,by simpa using hA',hall⟩
  refine hK v' ((i,mun m' (mun m1 mj))::YZ (YZ Ω i) j) W' ⟨_,how,rfl⟩ ?_
  refine ⟨hi'.os,hi'.tape,hi'.output,hi'.size,fun p hp=>?_,List.pairwise_cons.2 ⟨fun p hp=>?_,(List.pairwise_cons.1 (List.pairwise_cons.1 hi'.dj).2).2⟩⟩
  ·rcases List.mem_cons.1 hp with rfl | hp
   ·exact QcE (hi'.le (i,m') (.head _)) (hi'.le (j,mun m1 mj) (.tail _ (.head _)))
   ·exact hi'.le p (.tail _ (.tail _ hp))
  ·exact Y2 ((List.pairwise_cons.1 hi'.dj).1 p (.tail _ hp)) ((List.pairwise_cons.1 (List.pairwise_cons.1 hi'.dj).2).1 p hp)
theorem VD.appO {tt q:Nat} {ss:List (Nat × Bool)} {ΩS:Ctx} {ty:TypeId} {pos:String} {af:Array Edge} {e:Ty} {s x:Operand} {t xt et xe:TypeId} {b dd g c:Nat} {v:Value} {xs:List e.Den} {y:e.Den} {yc z:List Value} (i j k:Nat) {m mj mk:Mem} (hd:Nat.blt dd n=true) (ho:ops[q]? =some ⟨some dd,.call { callee:= .builtin .append,args:=[s,x].toArray,argTypes:=[t,xt].toArray },ty,pos,af,none⟩) (hsv:ev σ s=some v) (hxv:ev σ x=some (.slice (some ⟨g,0,none⟩) 1 c)) (ht:tsl P t=some (et,e.sz,b)) (hz:tz P et=some z) (hzl:z.length=e.sz)
  (hm:YA Ω i=some m) (hj:YA (YZ Ω i) j=some mj) (hk:YA Ω k=some mk) (hown:Ow (.sl e) m [v] xs) (hy:Ow e mj yc y) (hxt:P.underlying xt=some (.slice xe)) (hc:Jp mk g 0 e.sz yc) (hml:xs.length+1≤maxLen) (hb:(xs.length+1)*b≤140737488355328) (hb0:b≠0) (hS:∀ m' W,Inv w0 ((i,m')::YZ (YZ Ω i) j) W→Inv w0 ΩS W)
  (h:∀ v' m',Ow (.sl e) m' [v'] (xs++[y])→VD P n w0 ops ΩS tt ss ((dd,v')::σ) ((i,m')::YZ (YZ Ω i) j) K):VD P n w0 ops ΩS tt ((q,false)::ss) σ Ω K:=
 VD.s (fun v=>(dd,v)::σ) ho (fun v _ he=>he.put hd v) (.inl rfl) (Stp.appO i j k hsv hxv ht hz hzl hm hj hk hown hy hxt hc hml hb hb0) (fun _ _ ⟨m',_,hΩ⟩ W hW=>hS m' W (by subst hΩ;exact hW)) (fun v _ ⟨m',hp,hΩ⟩=>hΩ ▸ h v m' hp)
end
abbrev Vp (g : Nat) : Value := .pointer (some ⟨g, 0, none⟩)
section
variable {P : Program} {n : Nat} {w0 : World} {σ : Env} {Ω ΩS : Ctx} {ops : Array Oper} {K : Env → Ctx → Prop}
variable {ty : TypeId} {pos : String} {af : Array Edge} {r : List Oper} {d : Nat} {op : Op} {v : Value} {j : Nat} {b : Bool} {t : Nat} {l : List (Nat × Bool)} {i : Nat}
theorem VO.z (hy:Yld P n w0 σ Ω ⟨some d,op,ty,pos,af,none⟩ v) (h:VO P n w0 ops r ((d,v)::σ) Ω K) (hd:Nat.blt d n=true:=by rfl):VO P n w0 ops (⟨some d,op,ty,pos,af,none⟩::r) σ Ω K:=VO.y hd hy h
theorem VO.w (hy:Yld P n w0 σ Ω ⟨some d,op,ty,pos,af,some (j,b)⟩ v) (h:VO P n w0 ops r ((d,v)::σ) Ω K) (hd:Nat.blt d n=true:=by rfl) (hg:Qff σ ops j b:=by exact ⟨_,rfl,rfl⟩):VO P n w0 ops (⟨some d,op,ty,pos,af,some (j,b)⟩::r) σ Ω K:=VO.gy hd hg hy h
theorem VD.z (ho:ops[i]? =some ⟨some d,op,ty,pos,af,none⟩) (hy:Yld P n w0 σ (QfB ΩS) ⟨some d,op,ty,pos,af,none⟩ v) (h:VD P n w0 ops ΩS t l ((d,v)::σ) Ω K) (hd:Nat.blt d n=true:=by rfl):VD P n w0 ops ΩS t ((i,true)::l) σ Ω K:=VD.y hd ho (.inl rfl) hy h
theorem VD.w (ho:ops[i]? =some ⟨some d,op,ty,pos,af,some (j,b)⟩) (hy:Yld P n w0 σ (QfB ΩS) ⟨some d,op,ty,pos,af,some (j,b)⟩ v) (h:VD P n w0 ops ΩS t l ((d,v)::σ) Ω K) (hd:Nat.blt d n=true:=by rfl) (hg:Qff σ ops j b:=by exact ⟨_,rfl,rfl⟩):VD P n w0 ops ΩS t ((i,true)::l) σ Ω K:=VD.y hd ho (.inr ⟨_,_,rfl,hg⟩) hy h
theorem VD.gN (ho:ops[i]? =some ⟨some d,op,ty,pos,af,some (j,b)⟩) (h:VD P n w0 ops ΩS t l ((d,undef)::σ) Ω K) (hd:Nat.blt d n=true:=by rfl) (hg:Qff σ ops j (!b)∨gund σ ops j:=by exact .inl ⟨_,rfl,rfl⟩):VD P n w0 ops ΩS t ((i,true)::l) σ Ω K:=VD.gn hd ho hg h
theorem VO.s1 {t:TypeId} {x y:Operand} {g off:Nat} {v:Value} (i:Nat) {c:Array Value} {E:TypeId} (ht:tk P t=some none) {c':List Value} (h:VO P n w0 ops r σ (Qbz Ω i (Qo g (.cells c'.toArray E (0,0)))) K)
  (hx:ev σ x=some (.pointer (some ⟨g,off,none⟩)):=by rfl) (hy:ev σ y=some v:=by rfl) (hk:Nat.beq v.cells.size 1=true:=by rfl) (hn:nice v=true:=by rfl)
  (hm:YA Ω i=some (Qo g (.cells c E (0,0))):=by rfl) (hl:Nat.ble (off+1) c.size=true:=by rfl) (hc:J8 c.toList off v.cells.toList=c':=by rfl):
  VO P n w0 ops (⟨none,.store t x y,ty,pos,af,none⟩::r) σ Ω K:=VO.store i hx hy (.inr ⟨ht,rfl⟩) hk hn hm hl hc h
theorem VO.p1 (a0:Nat) {m0:Mem} (h:VO P n w0 ops r σ [(a0,m0)] K) (hk:Qhi Ω [a0]=[(a0,m0)]:=by rfl):VO P n w0 ops r σ Ω K:=VO.kp _ _ h hk
theorem VO.p2 (a0 a1:Nat) {m0 m1:Mem} (h:VO P n w0 ops r σ [(a0,m0),(a1,m1)] K) (hk:Qhi Ω [a0,a1]=[(a0,m0),(a1,m1)]:=by rfl):VO P n w0 ops r σ Ω K:=VO.kp _ _ h hk
theorem VO.p3 (a0 a1 a2:Nat) {m0 m1 m2:Mem} (h:VO P n w0 ops r σ [(a0,m0),(a1,m1),(a2,m2)] K) (hk:Qhi Ω [a0,a1,a2]=[(a0,m0),(a1,m1),(a2,m2)]:=by rfl):VO P n w0 ops r σ Ω K:=VO.kp _ _ h hk
theorem VO.p4 (a0 a1 a2 a3:Nat) {m0 m1 m2 m3:Mem} (h:VO P n w0 ops r σ [(a0,m0),(a1,m1),(a2,m2),(a3,m3)] K) (hk:Qhi Ω [a0,a1,a2,a3]=[(a0,m0),(a1,m1),(a2,m2),(a3,m3)]:=by rfl):VO P n w0 ops r σ Ω K:=VO.kp _ _ h hk
theorem VO.p5 (a0 a1 a2 a3 a4:Nat) {m0 m1 m2 m3 m4:Mem} (h:VO P n w0 ops r σ [(a0,m0),(a1,m1),(a2,m2),(a3,m3),(a4,m4)] K) (hk:Qhi Ω [a0,a1,a2,a3,a4]=[(a0,m0),(a1,m1),(a2,m2),(a3,m3),(a4,m4)]:=by rfl):VO P n w0 ops r σ Ω K:=VO.kp _ _ h hk
theorem VO.p6 (a0 a1 a2 a3 a4 a5:Nat) {m0 m1 m2 m3 m4 m5:Mem} (h:VO P n w0 ops r σ [(a0,m0),(a1,m1),(a2,m2),(a3,m3),(a4,m4),(a5,m5)] K) (hk:Qhi Ω [a0,a1,a2,a3,a4,a5]=[(a0,m0),(a1,m1),(a2,m2),(a3,m3),(a4,m4),(a5,m5)]:=by rfl):VO P n w0 ops r σ Ω K:=VO.kp _ _ h hk
theorem VO.p7 (a0 a1 a2 a3 a4 a5 a6:Nat) {m0 m1 m2 m3 m4 m5 m6:Mem} (h:VO P n w0 ops r σ [(a0,m0),(a1,m1),(a2,m2),(a3,m3),(a4,m4),(a5,m5),(a6,m6)] K) (hk:Qhi Ω [a0,a1,a2,a3,a4,a5,a6]=[(a0,m0),(a1,m1),(a2,m2),(a3,m3),(a4,m4),(a5,m5),(a6,m6)]:=by rfl):VO P n w0 ops r σ Ω K:=VO.kp _ _ h hk
theorem VO.p8 (a0 a1 a2 a3 a4 a5 a6 a7:Nat) {m0 m1 m2 m3 m4 m5 m6 m7:Mem} (h:VO P n w0 ops r σ [(a0,m0),(a1,m1),(a2,m2),(a3,m3),(a4,m4),(a5,m5),(a6,m6),(a7,m7)] K) (hk:Qhi Ω [a0,a1,a2,a3,a4,a5,a6,a7]=[(a0,m0),(a1,m1),(a2,m2),(a3,m3),(a4,m4),(a5,m5),(a6,m6),(a7,m7)]:=by rfl):VO P n w0 ops r σ Ω K:=VO.kp _ _ h hk
theorem VO.p9 (a0 a1 a2 a3 a4 a5 a6 a7 a8:Nat) {m0 m1 m2 m3 m4 m5 m6 m7 m8:Mem} (h:VO P n w0 ops r σ [(a0,m0),(a1,m1),(a2,m2),(a3,m3),(a4,m4),(a5,m5),(a6,m6),(a7,m7),(a8,m8)] K) (hk:Qhi Ω [a0,a1,a2,a3,a4,a5,a6,a7,a8]=[(a0,m0),(a1,m1),(a2,m2),(a3,m3),(a4,m4),(a5,m5),(a6,m6),(a7,m7),(a8,m8)]:=by rfl):VO P n w0 ops r σ Ω K:=VO.kp _ _ h hk
end
section
variable {P : Program} {n : Nat} {w0 : World} {σ : Env} {Ω : Ctx} {fn : Func} {m : Mem} {Post : Value → Mem → Prop} {l : List Mem} {b : Mem}
theorem XC {v0:Value} (t0:Nat) (ids:List Nat) (hp:Qt (Zs l) l→Post (Qu [v0]) (Zs l)) (hf:fn.results=[.tmp t0].toArray:=by rfl) (e0:QbB σ t0=some v0:=by rfl) (hg:QbZ Ω ids=some l:=by rfl) (hb:YA (QcB Ω ids) 0=some b:=by rfl) (h0:mle (Ju (wm w0) m) b:=by exact Qb _):Qk9 P n w0 fn m Post .ret σ Ω:=
 ⟨_,_,QE hf (.tmp e0 .nil),fun _ hI=>Q2 hI ids hg hb h0 hp⟩
theorem QcA {v0 v1:Value} (t0 t1:Nat) (ids:List Nat) (hp:Qt (Zs l) l→Post (Qu [v0,v1]) (Zs l)) (hf:fn.results=[.tmp t0,.tmp t1].toArray:=by rfl) (e0:QbB σ t0=some v0:=by rfl) (e1:QbB σ t1=some v1:=by rfl) (hg:QbZ Ω ids=some l:=by rfl) (hb:YA (QcB Ω ids) 0=some b:=by rfl) (h0:mle (Ju (wm w0) m) b:=by exact Qb _):Qk9 P n w0 fn m Post .ret σ Ω:=
 ⟨_,_,QE hf (.tmp e0 (.tmp e1 .nil)),fun _ hI=>Q2 hI ids hg hb h0 hp⟩
theorem Qcf {v0 v1 v2:Value} (t0 t1 t2:Nat) (ids:List Nat) (hp:Qt (Zs l) l→Post (Qu [v0,v1,v2]) (Zs l)) (hf:fn.results=[.tmp t0,.tmp t1,.tmp t2].toArray:=by rfl) (e0:QbB σ t0=some v0:=by rfl) (e1:QbB σ t1=some v1:=by rfl) (e2:QbB σ t2=some v2:=by rfl) (hg:QbZ Ω ids=some l:=by rfl) (hb:YA (QcB Ω ids) 0=some b:=by rfl) (h0:mle (Ju (wm w0) m) b:=by exact Qb _):Qk9 P n w0 fn m Post .ret σ Ω:=
 ⟨_,_,QE hf (.tmp e0 (.tmp e1 (.tmp e2 .nil))),fun _ hI=>Q2 hI ids hg hb h0 hp⟩
theorem ZD {v:Value} (t i:Nat) (hv:QbB σ t=some v) {m1:Mem} {r:Value} {e:Ty} {L:List Value} {g:Nat} {x y:e.Den} (w:Ow (.ptr e) m1 L (g,y)) (hx:x=y) (hr:v=r) (hf:fn.results=[.tmp t].toArray:=by rfl) (hg:QbZ Ω [i]=some [m1]:=by rfl) (hb:YA (QcB Ω [i]) 0=some b:=by rfl) (h0:mle (Ju (wm w0) m) b:=by exact Qb _):Qk9 P n w0 fn m (fun v m'=>v=r∧Ow (.ptr e) m' L (g,x)) .ret σ Ω:=
 ⟨_,_,QE hf (.tmp hv .nil),fun _ hI=>Q2 hI [i] hg hb h0 fun hS=>⟨hr,hx ▸ Ow.up w (hS.1 _ (.head _))⟩⟩
theorem Yu {v:Value} (t:Nat) (hv:QbB σ t=some v) {r:Value} (hr:v=r) (hf:fn.results=[.tmp t].toArray:=by rfl) (hb:YA Ω 0=some b:=by rfl) (h0:mle (Ju (wm w0) m) b:=by exact Qb _):Qk9 P n w0 fn m (fun v _=>v=r) .ret σ Ω:=
 ⟨_,_,QE hf (.tmp hv .nil),fun _ hI=>Q2 (l:=[]) hI [] rfl hb h0 fun _=>hr⟩
end
theorem Inv.t {w0 W:World} {Ω:Ctx} (h:Inv w0 Ω W) (i:Nat) {m:Mem} (e:YA Ω i=some m:=by rfl):mle m (wm W):=h.at e
theorem Inv.o {w0 W:World} {Ω:Ctx} (h:Inv w0 Ω W) (i j:Nat) {m k:Mem} (e:YA Ω i=some m:=by rfl) (f:YA (YZ Ω i) j=some k:=by rfl):mle k (Ju (wm W) m):=h.out e f
theorem esn {a b:Env} (h:esb a b:=by repeat' (first | exact trivial | refine ⟨rfl,?_⟩)):esub a b:=h
theorem Qf {p:Prop} (h:p:=by assumption):p:=h
theorem Qp {p:Prop} (h:p:=by omega):p:=h
theorem XE {p:Prop} (h:p:=by first | assumption | exact ⟨by omega,by omega⟩ | exact ⟨by (simp;done),by (simp;done)⟩):p:=h
theorem Rd.slc {e:Ty} {m:Mem} {v:Value} {xs:List e.Den} (h:Rd (.sl e) m [v] xs):∃ A c,v= .slice A xs.length c∧xs.length≤c∧c≤2 ^ 63 - 1:=h.slice
theorem Ow.slc {e:Ty} {m:Mem} {v:Value} {xs:List e.Den} (h:Ow (.sl e) m [v] xs):∃ A c,v= .slice A xs.length c∧xs.length≤c∧c≤2 ^ 63 - 1:=h.slice
theorem Qz.slc {e:Ty} {m k:Mem} {v:Value} {xs:List e.Den} (h:Qz e m k v xs):∃ A c,v= .slice A xs.length c∧xs.length≤c∧c≤2 ^ 63 - 1:=h.slice
theorem Ow.cg {T:Ty} {m:Mem} {l:List Value} {x y:T.Den} (h:Ow T m l y) (e:x=y:=by first | rfl | (simp [*];done)):Ow T m l x:=e ▸ h
theorem Ow.cgP {T:Ty} {m:Mem} {l:List Value} {g:Nat} {x y:T.Den} (h:Ow (.ptr T) m l (g,y)) (e:x=y:=by first | rfl | (simp [*];done)):Ow (.ptr T) m l (g,x):=e ▸ h
abbrev TOp : Ty := .pair .bool (.pair .str .str)
abbrev DOp := Bool × (List UInt8) × (List UInt8)
instance decOp : DecidableEq DOp := (@instDecidableEqProd _ _ inferInstance (@instDecidableEqProd _ _ inferInstance inferInstance))
theorem Jr {m:Mem} {cs:List Value} {x0:Bool} {x1:List UInt8} {x2:List UInt8} (h:Rd TOp m cs (x0,x1,x2)):cs=[(.bool x0:Value),str x1,str x2]∧x1.length≤maxLen∧x2.length≤maxLen:=by
 obtain ⟨p1,q1,rfl,u1,w1⟩:=Rd.pair h
 obtain rfl:=(show _=_ from u1)
 obtain ⟨p3,q3,rfl,u3,w3⟩:=Rd.pair w1
 obtain ⟨rfl,z4⟩:=(show _=_∧_ from u3)
 obtain ⟨rfl,z5⟩:=(show _=_∧_ from w3)
 exact ⟨rfl,z4,z5⟩
theorem Xl {m:Mem} (x0:Bool) (x1:List UInt8) (x2:List UInt8) (h1:x1.length≤maxLen) (h2:x2.length≤maxLen):Rd TOp m [.bool x0,str x1,str x2] (x0,x1,x2):=(Rd.mkPair (c1:=[_]) (show Rd .bool m [_] _ from rfl) (Rd.mkPair (c1:=[_]) (show Rd .str m [_] _ from ⟨rfl,h1⟩) (show Rd .str m [_] _ from ⟨rfl,h2⟩)))
abbrev QA : Ty := .pair (.int .i64) (.pair (.int .i64) (.sl TOp))
abbrev Qe := Int × Int × (List DOp)
instance decCommit : DecidableEq Qe := (@instDecidableEqProd _ _ inferInstance (@instDecidableEqProd _ _ inferInstance inferInstance))
theorem Jc {m:Mem} {cs:List Value} {x0:Int} {x1:Int} {x2:List DOp} (h:Rd QA m cs (x0,x1,x2)):∃ (A2:Option Addr),∃ (c2:Nat),cs=[(.int .i64 x0:Value),.int .i64 x1,.slice A2 x2.length c2]∧inK .i64 x0∧inK .i64 x1∧Rd (.sl TOp) m [.slice A2 x2.length c2] x2:=by
 obtain ⟨p1,q1,rfl,u1,w1⟩:=Rd.pair h
 obtain ⟨rfl,z2⟩:=(show _=_∧_ from u1)
 obtain ⟨p3,q3,rfl,u3,w3⟩:=Rd.pair w1
 obtain ⟨rfl,z4⟩:=(show _=_∧_ from u3)
 have z5:=w3
 obtain ⟨A5,c5,rfl,_⟩:=Rd.slice1 w3
 exact ⟨A5,c5,rfl,z2,z4,z5⟩
theorem YG {m:Mem} (x0:Int) (x1:Int) (x2:List DOp) (h0:inK .i64 x0) (h1:inK .i64 x1) {v2:Value} (h2:Rd (.sl TOp) m [v2] x2):Rd QA m [.int .i64 x0,.int .i64 x1,v2] (x0,x1,x2):=(Rd.mkPair (c1:=[_]) (show Rd (.int .i64) m [_] _ from ⟨rfl,h0⟩) (Rd.mkPair (c1:=[_]) (show Rd (.int .i64) m [_] _ from ⟨rfl,h1⟩) h2))
theorem Xh {m:Mem} {cs:List Value} {x0:Int} {x1:Int} {x2:List DOp} (h:Ow QA m cs (x0,x1,x2)):∃ (A2:Option Addr),∃ (c2:Nat),∃ (n2:Mem),cs=[(.int .i64 x0:Value),.int .i64 x1,.slice A2 x2.length c2]∧Qt m [n2]∧inK .i64 x0∧inK .i64 x1∧Ow (.sl TOp) n2 [.slice A2 x2.length c2] x2:=by
 obtain ⟨p1,q1,ma1,mb1,rfl,dj1,la1,lb1,u1,w1⟩:=Ow.pair h
 obtain ⟨rfl,z2⟩:=(show _=_∧_ from u1)
 obtain ⟨p3,q3,ma3,mb3,rfl,dj3,la3,lb3,u3,w3⟩:=Ow.pair w1
 obtain ⟨rfl,z4⟩:=(show _=_∧_ from u3)
 have z5:=w3
 obtain ⟨A5,c5,rfl,_⟩:=Ow.slice1 w3
 exact ⟨A5,c5,_,rfl,(Qt.app dj1 la1 lb1 (Qt.nil _) (Qt.app dj3 la3 lb3 (Qt.nil _) (Qt.one (Qb _)))),z2,z4,z5⟩
theorem Yr {m:Mem} {n2:Mem} (x0:Int) (x1:Int) (x2:List DOp) (hS:Qt m [n2]) (h0:inK .i64 x0) (h1:inK .i64 x1) {v2:Value} (h2:Ow (.sl TOp) n2 [v2] x2):Ow QA m [.int .i64 x0,.int .i64 x1,v2] (x0,x1,x2):=by
 obtain ⟨e1,la1,lb1,Sa1,Sb1⟩:=Qt.cut (l:=[]) (r:=[n2]) hS
 obtain ⟨e2,la2,lb2,Sa2,Sb2⟩:=Qt.cut (l:=[]) (r:=[n2]) Sb1
 exact (Ow.mkPair (c1:=[_]) e1 la1 lb1 (show Ow (.int .i64) _ [_] _ from ⟨rfl,h0⟩) (Ow.mkPair (c1:=[_]) e2 la2 lb2 (show Ow (.int .i64) _ [_] _ from ⟨rfl,h1⟩) (h2.up (Sb2.1 _ (.head _)))))
abbrev Qa7 : Ty := .pair (.int .i64) (.int .i64)
abbrev QnE := Int × Int
instance decFault : DecidableEq QnE := (@instDecidableEqProd _ _ inferInstance inferInstance)
theorem Xg {m:Mem} {cs:List Value} {x0:Int} {x1:Int} (h:Rd Qa7 m cs (x0,x1)):cs=[(.int .i64 x0:Value),.int .i64 x1]∧inK .i64 x0∧inK .i64 x1:=by
 obtain ⟨p1,q1,rfl,u1,w1⟩:=Rd.pair h
 obtain ⟨rfl,z2⟩:=(show _=_∧_ from u1)
 obtain ⟨rfl,z3⟩:=(show _=_∧_ from w1)
 exact ⟨rfl,z2,z3⟩
theorem X3 {m:Mem} (x0:Int) (x1:Int) (h0:inK .i64 x0) (h1:inK .i64 x1):Rd Qa7 m [.int .i64 x0,.int .i64 x1] (x0,x1):=(Rd.mkPair (c1:=[_]) (show Rd (.int .i64) m [_] _ from ⟨rfl,h0⟩) (show Rd (.int .i64) m [_] _ from ⟨rfl,h1⟩))
abbrev QgD := Int × Int
instance decStart : DecidableEq QgD := (@instDecidableEqProd _ _ inferInstance inferInstance)
abbrev XA := Int × Int × Int × Int × (List QgD) × Int × Int × (List Qe)
instance QrJ : DecidableEq XA := (@instDecidableEqProd _ _ inferInstance (@instDecidableEqProd _ _ inferInstance (@instDecidableEqProd _ _ inferInstance (@instDecidableEqProd _ _ inferInstance (@instDecidableEqProd _ _ inferInstance (@instDecidableEqProd _ _ inferInstance (@instDecidableEqProd _ _ inferInstance inferInstance)))))))
abbrev Qiz := (List UInt8) × Int × Bool
instance QnG : DecidableEq Qiz := (@instDecidableEqProd _ _ inferInstance (@instDecidableEqProd _ _ inferInstance inferInstance))
abbrev Qho := (List UInt8) × Bool
instance Qnl : DecidableEq Qho := (@instDecidableEqProd _ _ inferInstance inferInstance)
abbrev XT := (List UInt8) × Int × Bool
instance QnF : DecidableEq XT := (@instDecidableEqProd _ _ inferInstance (@instDecidableEqProd _ _ inferInstance inferInstance))
abbrev Qr := List UInt8
theorem len_ne {α:Type} {a b:List α} (h:¬ (a.length:Int)=b.length):¬ a=b:=fun e=>h (by rw [e])
theorem QnW {α:Type} {a b:List α} {k:Nat} (h:a.take k=b.take k) (ha:¬ (k:Int) < a.length) (hl:(a.length:Int)=b.length):a=b:=by
 rwa [List.take_of_length_le (by omega),List.take_of_length_le (by omega)] at h
theorem QlD {α:Type} {a b:List α} {k:Nat} {x y:α} (h:a.take k=b.take k) (hx:a[k]? =some x) (hy:b[k]? =some y) (hxy:x=y):a.take (k+1)=b.take (k+1):=by
 rw [List.take_add_one,List.take_add_one,h,hx,hy,hxy]
theorem get_ne {α:Type} {a b:List α} {k:Nat} {x y:α} (hx:a[k]? =some x) (hy:b[k]? =some y) (h:¬ x=y):¬ a=b:=fun e=>by
 subst e;rw [hx] at hy;exact h (Option.some.inj hy)
theorem Qrx {x y:UInt8} (h:(x.toNat:Int)=y.toNat):x=y:=UInt8.toNat_inj.1 (by omega)
def Qhp (o : DOp) : Prop := 1 ≤ o.2.1.length ∧ o.2.1.length ≤ 16 ∧ o.2.2.length ≤ 32 ∧ (o.1 = true ∨ o.2.2 = [])
instance (o : DOp) : Decidable (Qhp o) := by unfold Qhp; infer_instance
def Q4 (o : DOp) : Int := if Qhp o then 0 else 2
theorem XL {o:DOp} (h:¬ Qhp o):Q4 o=2:=if_neg h
theorem QaH {o:DOp} (h:Qhp o):Q4 o=0:=if_pos h
theorem Qe6 {o:DOp} (h:Q4 o=0):Qhp o:=by
 unfold Q4 at h
 split at h
 ·assumption
 ·cases h
def ZT (x : Nat) : Qr := if h : x < 128 then [UInt8.ofNat x] else UInt8.ofNat (x % 128 + 128) :: ZT (x / 128)
  termination_by x
def vgo : Nat → Nat → Qr → Option (Nat × Nat)
  | _, _, [] => none
  | i, x, c :: r => if i = 9 ∧ c.toNat > 1 then none else if c.toNat ≥ 128 then vgo (i + 1) (x + c.toNat % 128 * 2 ^ (7 * i)) r
    else if c.toNat = 0 ∧ i > 0 then none else some (x + c.toNat % 128 * 2 ^ (7 * i), i + 1)
def QaV (b : Qr) : Option (Nat × Nat) := vgo 0 0 b
def Qbs (b : Qr) (most : Int) : Option (Nat × Nat) := match QaV b with
  | some (x, n) => if (x : Int) ≤ most then some (x, n) else none
  | none => none
theorem QeE {x:Nat} (h:x < 128):ZT x=[UInt8.ofNat (x % 256)]:=by
 rw [ZT,dif_pos h,Nat.mod_eq_of_lt (by omega)]
theorem Qlm {x:Nat} (h:¬ x < 128) (out:Qr):out++ZT x=(out++[UInt8.ofNat (x % 256 % 128+128)])++ZT (x / 128):=by
 rw [ZT,dif_neg h]
 have:x % 256 % 128=x % 128:=by omega
 rw [this];simp
theorem Qky {x:Nat} (h:¬ x < 128) (out:Qr):out++ZT x=(out++[UInt8.ofNat (x % 128 % 256+128)])++ZT (x / 128):=by
 rw [ZT,dif_neg h]
 have:x % 128 % 256=x % 128:=by omega
 rw [this];simp
theorem QcI : ∀ (k x : Nat), x < 128 ^ (k + 1) → (ZT x).length ≤ k + 1
  | 0, x, h => by rw [ZT, dif_pos (by omega)]; simp
  | k + 1, x, h => by
    rw [ZT]
    split
    · simp
    · have := QcI k (x / 128) (by rw [Nat.pow_succ] at h; omega)
      simp; omega
theorem Z5 {x:Nat} (h:x < 18446744073709551616):(ZT x).length≤10:=QcI 9 x (by omega)
theorem Qjx (x:Nat):1≤(ZT x).length:=by
 rw [ZT];split <;> simp
theorem Qhu {x y:Nat} {out b:Qr} (hx:x < 18446744073709551616) (hy:y < 18446744073709551616) (h:out++ZT x=b++ZT y):out.length≤b.length+9:=by
 have h1:=congrArg List.length h
 have h2:=Z5 hy
 have h3:=Qjx x
 simp at h1;omega
def Z9 : List DOp := [(true, [98, 101, 104, 105, 110, 100], []), (true, [98, 101, 104, 105, 110, 100], []), (true, [98, 101, 104, 105, 110, 100], [])]
theorem QiR {out d:List DOp} {k:Nat} (h:out=d++Z9.take k) (hk:k < 3):out++[(true,[98,101,104,105,110,100],[])]=d++Z9.take (k+1):=by
 subst h
 match k,hk with
 | 0,_=>simp [Z9]
 | 1,_=>simp [Z9]
 | 2,_=>simp [Z9]
theorem op_eq {x y:DOp} (h:x.1=y.1∧x.2.1=y.2.1∧x.2.2=y.2.2):x=y:=Prod.ext h.1 (Prod.ext h.2.1 h.2.2)
theorem op_ne {x y:DOp} (h:¬ (x.1=y.1∧x.2.1=y.2.1∧x.2.2=y.2.2)):¬ x=y:=fun e=>h (by rw [e];exact ⟨rfl,rfl,rfl⟩)
def Qo7 : Qr → Qr → Nat
  | a :: r, b :: s => if a = b then Qo7 r s + 1 else 0
  | _, _ => 0
def JX (l : List DOp) : Int := if l.length = 0 then 2 else if 8 < l.length then 3 else if ∀ o ∈ l, Qhp o then 0 else 2
theorem Qm9:JE Tryz.prog 111=true:=by kernel_rfl
theorem QqY:JE Tryz.prog 146=true:=by kernel_rfl
theorem Qik:JE Tryz.prog 22=true:=by kernel_rfl
theorem teq64 (a0:Bool) (a1:List UInt8) (a2:List UInt8):Qe2 Tryz.prog 64 [.bool a0,str a1,str a2]=true:=by kernel_rfl
theorem tk4:tk Tryz.prog 4=some none:=by kernel_rfl
theorem Yx:tk Tryz.prog 64=some (some 3):=by kernel_rfl
theorem tk9:tk Tryz.prog 9=some none:=by kernel_rfl
theorem QX:tsl Tryz.prog 34=some (64,3,40):=by kernel_rfl
theorem Jz:tsl Tryz.prog 97=some (5,1,1):=by kernel_rfl
theorem JG:tst Tryz.prog 64=some [(0,1),(1,1),(2,1)]:=by kernel_rfl
theorem tz5:tz Tryz.prog 5=some [.int .u8 0]:=by kernel_rfl
theorem YX:tz Tryz.prog 64=some [.bool false,.string ⟨#[]⟩,.string ⟨#[]⟩]:=by kernel_rfl
theorem follows:Tryz.prog.follows .mixedOrders=true:=by kernel_rfl
theorem Qa8 (W:World) {v0:Value} {d0:List DOp} (h0:Rd (.sl TOp) (wm W) [v0] d0) {v1:Value} {d1:List DOp} (h1:Rd (.sl TOp) (wm W) [v1] d1):Qc Tryz.prog 22 [v0,v1] W (mnil) (fun v m'=>v= .bool (decide (d0=d1))):=by
 obtain ⟨A0,c0,rfl,l0,k0⟩:=h0.slc
 obtain ⟨A1,c1,rfl,l1,k1⟩:=h1.slc
 refine Qc.ofA (n:=26) Tryz.func22 rfl rfl rfl ?_
 refine VC.rs (VO.as (VO.k3 0 1 4 (VC.seq (VC.rs (VO.mv (VO.z (.lenS rfl QX) (VO.mv (VO.z (.lenS rfl QX) (VO.z (.neq rfl rfl) (VO.k4 0 1 4 10 ?_))))))))))
 refine VC.cond rfl (fun hc1=>?_) (fun hc1=>?_)
 refine VC.rs (VO.as (VO.p1 0 (VO.k4 0 1 4 10 (VC.ret (QK ?_)))))
 exact Yu 4 rfl (by first | rfl | (simp [len_ne hc1]))
 refine VC.skip (Qg (VC.seq (VC.rs (VO.as (VO.p1 0 (VO.k5 0 1 4 5 10 (VC.block ?_)))))))
 refine VC.loop (G:=Nat) (fun k=>[(5,.int .i64 (((k:Nat):Int))),(0,.slice A0 (d0.length) (c0)),(1,.slice A1 (d1.length) (c1)),(10,.bool (decide (¬ ((d0.length:Nat):Int)=((d1.length:Nat):Int))))]) (fun k=>[(0,wm W)]) (fun k=>(k≤d0.length)∧(d0.take k=d1.take k)) (fun k=>d0.length - k) 0 (⟨by omega,by rfl⟩) ⟨esn,fun _ h=>h.sub [0]⟩ ?_
 rintro k ⟨hk,ht⟩
 refine VC.seq (VC.rs (VO.mv (VO.mv (VO.z (.lenS rfl QX) (VO.z (.lss rfl rfl) (VO.k5 0 1 5 10 14 ?_))))))
 refine VC.cond rfl (fun hc2=>?_) (fun hc2=>?_)
 refine VC.skip (Qg (VC.seq (VC.block (VC.seq ?_))))
 refine VC.regD _ 8 [(0,true),(1,true),(2,true),(3,true),(4,true),(5,true),(6,true),(7,true)] follows (by kernel_rfl) (fun _ h=>h.sub [0]) ?_
 refine VD.z rfl (.mv rfl) (VD.z rfl (.mv rfl) ?_)
 obtain ⟨x3,hx3⟩:∃ z_,(d0)[k]? =some z_:=⟨_,List.getElem?_eq_getElem bd⟩
 obtain ⟨gg3,oo3,ec3,ea3,hce3,hre3⟩:=h0.elem hx3
 cases ea3
 obtain ⟨rfl,q3_1,q3_2⟩:=Jr (x0:=x3.1) (x1:=x3.2.1) (x2:=x3.2.2) hre3
 simp only [maxLen] at q3_1
 simp only [maxLen] at q3_2
 refine VD.z rfl (.ixI k rfl rfl QX rfl bd) ?_
 refine VD.z rfl (.ldA 0 rfl Yx rfl hce3) ?_
 refine VD.z rfl (.mv rfl) (VD.z rfl (.mv rfl) ?_)
 obtain ⟨x4,hx4⟩:∃ z_,(d1)[k]? =some z_:=⟨_,List.getElem?_eq_getElem bd⟩
 obtain ⟨gg4,oo4,ec4,ea4,hce4,hre4⟩:=h1.elem hx4
 cases ea4
 obtain ⟨rfl,q4_1,q4_2⟩:=Jr (x0:=x4.1) (x1:=x4.2.1) (x2:=x4.2.2) hre4
 simp only [maxLen] at q4_1
 simp only [maxLen] at q4_2
 refine VD.z rfl (.ixI k rfl rfl QX rfl bd) ?_
 refine VD.z rfl (.ldA 0 rfl Yx rfl hce4) ?_
 refine VD.nil rfl ?_ rfl
 refine VO.z (.stneq (p:=x3.1=x4.1∧x3.2.1=x4.2.1∧x3.2.2=x4.2.2) rfl rfl (teq64 x3.1 x3.2.1 x3.2.2) (teq64 x4.1 x4.2.1 x4.2.2) (by simp [ceq,Yd])) ?_
 refine VO.k6 0 1 5 10 14 25 (Qg ?_)
 refine VC.cond rfl (fun hc5=>?_) (fun hc5=>?_)
 refine VC.rs (VO.as (VO.p1 0 (VO.k7 0 1 4 5 10 14 25 (VC.ret (Jf (QK (QK (Jf (QK ?_)))))))))
 exact Yu 4 rfl (by first | rfl | (simp [get_ne ‹d0[k]? =some _› ‹d1[k]? =some _› (op_ne ‹_›)]))
 refine VC.skip (Jh (Qg ?_))
 refine VC.reg ?_
 refine VO.mv ?_
 refine VO.z (.add (c:=((k+1:Nat):Int)) rfl rfl Qp ⟨bd,bd⟩) ?_
 refine VO.as (VO.p1 0 (VO.k6 0 1 5 10 14 25 ?_))
 exact Qg ⟨k+1,⟨by omega,by exact QlD ht ‹d0[k]? =some _› ‹d1[k]? =some _› (op_eq (by simpa using ‹¬ ¬ _›))⟩,bd,⟨esn,fun _ h=>Inv.sub h [0]⟩⟩
 refine VC.exit (JU (JU (JT (Qg (VC.rs (VO.as (VO.k6 0 1 4 5 10 14 (VC.ret ?_))))))))
 exact Yu 4 rfl (by first | rfl | (simp [QnW ht Qp Qp]))
theorem Qk8 (W:World) {v0:Value} {d0:List DOp} (h0:Rd (.sl TOp) (wm W) [v0] d0) (e0:d0.length≤3518437208800):Qc Tryz.prog 146 [v0] W (mnil) (fun v m'=>∃ (s0:Value),v=s0∧Ow (.sl TOp) m' [s0] (d0)):=by
 obtain ⟨A0,c0,rfl,l0,k0⟩:=h0.slc
 refine Qc.ofA (n:=6) Tryz.func146 rfl rfl rfl ?_
 refine VC.rs (VO.as (VO.k2 0 2 (VC.rs ?_)))
 refine VO.bsl (cs:=[]) 102 rfl rfl QX YX rfl rfl (fun g1=>?_)
 refine VO.mv ?_
 have ho4:Qz TOp (Qo g1 (.cells [].toArray 64 (0,0))) mnil (Value.slice (some ⟨g1,0,none⟩) (0) (0)) []:=Qz.lit 0 Q8.nil rfl rfl
 obtain ⟨mo3,cs3,hM3,hA3,hC3⟩:=ho4
 obtain ⟨all3,hS3,hR3⟩:=Rd.srcI (P:=Tryz.prog) (h0) Tryz.underlying34
 refine VO.app 102 rfl rfl rfl QX YX rfl rfl hM3 hA3 (hS3 _ 0 rfl) hR3.nice bdm bd (by decide) (fun v3 m3 hN3=>?_)
 have ho3:Qz TOp m3 mnil v3 (d0):=Qz.more hC3 hN3 (Q8.mono hR3 fun _ _ h=>Rd.flat rfl h _)
 obtain ⟨A3,c3,rfl,l3,k3⟩:=ho3.slc
 refine VO.as (VO.k2 0 2 (VC.ret ?_))
 refine XC 2 [102] fun hS_=>?_
 dsimp only [Qu]
 exact ⟨Value.slice A3 ((d0).length) (c3),(by first | rfl | (simp [*];done)),(Ow.cg (Ow.up (Qz.ow ho3 rfl) (hS_.1 _ (.head _))))⟩
theorem QgC (W:World) {v0:Value} {d0:List DOp} (h0:Rd (.sl TOp) (wm W) [v0] d0) (e0:d0.length≤3518437208800):Qc Tryz.prog 111 [v0] W (mnil) (fun v m'=>∃ (s0:Value),v=s0∧Ow (.sl TOp) m' [s0] (d0++Z9)):=by
 obtain ⟨A0,c0,rfl,l0,k0⟩:=h0.slc
 refine Qc.ofA (n:=16) Tryz.func111 rfl rfl rfl ?_
 refine VC.rs (VO.as (VO.k2 0 2 (VC.rs (VO.mv ?_))))
 refine VO.callN 101 rfl QqY rfl (fun W hW=>Qk8 W (Rd.mono h0 (hW.t 0)) bd) (fun v1 m1 hv1=>?_)
 obtain ⟨s1_0,rfl,f1_0⟩:=hv1
 obtain ⟨A1_0,c1_0,eq1_0,l1_0,k1_0⟩:=f1_0.slc
 subst eq1_0
 refine VO.as (VO.k3 0 2 3 (VC.seq (VC.rs (VO.as (VO.p2 101 0 (VO.k4 0 2 3 4 (VC.block ?_)))))))
 refine VC.loop (G:=Nat × (List DOp) × (Option Addr) × Nat × Mem) (fun g=>[(3,.slice (g.2.2.1) ((g.2.1).length) ((g.2.2.2.1))),(4,.int .i64 ((((g.1):Nat):Int))),(0,.slice A0 (d0.length) (c0)),(2,.slice none (0) (0))]) (fun g=>[(101,(g.2.2.2.2)),(0,wm W)]) (fun g=>((g.1)≤3)∧((g.2.1)=d0++Z9.take (g.1))∧(Qz TOp (g.2.2.2.2) mnil (.slice (g.2.2.1) (g.2.1).length (g.2.2.2.1)) (g.2.1))) (fun g=>3 - (g.1)) (0,d0,A1_0,c1_0,m1) (⟨by omega,by simp,(Ow.ownl f1_0 rfl mnil)⟩) ⟨esn,fun _ h=>h.sub [101,0]⟩ ?_
 rintro ⟨k,out,out_A,out_c,out_m⟩ ⟨hk,ho,h_out⟩
 replace hk:k≤3:=hk
 replace ho:out=d0++Z9.take k:=ho
 replace h_out:Qz TOp out_m mnil (.slice out_A out.length out_c) out:=h_out
 show VC _ _ _ _ _ [(3,.slice out_A (out.length) (out_c)),(4,.int .i64 (((k:Nat):Int))),(0,.slice A0 (d0.length) (c0)),(2,.slice none (0) (0))] [(101,out_m),(0,wm W)]
 have l_out:out.length≤out_c:=by obtain ⟨_,_,he,hl,_⟩:=h_out.slice;simp only [Value.slice.injEq] at he;omega
 have k_out:out_c≤9223372036854775807:=by obtain ⟨_,_,he,_,hl⟩:=h_out.slice;simp only [Value.slice.injEq,maxLen] at he hl;omega
 have hlo:out.length≤d0.length+3:=by rw [ho];simp [Z9];omega
 refine VC.seq (VC.rs (VO.mv (VO.z (.lss rfl rfl) (VO.k5 0 2 3 4 8 ?_))))
 refine VC.cond rfl (fun hc2=>?_) (fun hc2=>?_)
 refine VC.skip (Qg (VC.seq (VC.block ?_)))
 refine VC.reg ?_
 refine VO.mv ?_
 refine VO.z (.bst (cs:=[.bool true,str ([98,101,104,105,110,100]),str ([])]) rfl JG YX rfl) ?_
 refine VO.bsl (cs:=[.bool true,str ([98,101,104,105,110,100]),str ([])]) 104 rfl rfl QX YX rfl rfl (fun g3=>?_)
 obtain ⟨mo5,cs5,hM5,hA5,hC5⟩:=h_out
 refine VO.app 101 rfl rfl rfl QX YX rfl rfl hM5 hA5 (.row 104 _ _ _ 1 1 _ _ Tryz.underlying34 rfl (Qa rfl rfl)) (by simp [Value.oneCell']) bdm bd (by decide) (fun v5 m5 hN5=>?_)
 have ho5:Qz TOp m5 mnil v5 (out++[(true,[98,101,104,105,110,100],[])]):=Qz.one hC5 hN5 (Xl (m:=_) true ([98,101,104,105,110,100]) [] bdm bdm)
 obtain ⟨A5,c5,rfl,l5,k5⟩:=ho5.slc
 refine VO.as (VO.k5 0 2 3 4 8 (Jh (Qg ?_)))
 refine VC.reg ?_
 refine VO.mv ?_
 refine VO.z (.add (c:=((k+1:Nat):Int)) rfl rfl Qp ⟨bd,bd⟩) ?_
 refine VO.as (VO.p2 101 0 (VO.k5 0 2 3 4 8 ?_))
 exact Qg ⟨⟨k+1,out++[(true,[98,101,104,105,110,100],[])],A5,c5,m5⟩,⟨by omega,by exact QiR ho Qp,ho5⟩,bd,⟨esn,fun _ h=>Inv.sub h [101,0]⟩⟩
 ·refine VC.exit (JU (JU (JT (Qg (VC.rs (VO.mv (VO.as (VO.k5 0 2 3 4 8 (VC.ret ?_)))))))))
  refine XC 2 [101] fun hS_=>?_
  dsimp only [Qu]
  exact ⟨Value.slice out_A (out.length) (out_c),(by first | rfl | (simp [*];done)),(Ow.cg (Ow.up (Qz.ow h_out rfl) (hS_.1 _ (.head _))) (by first | rfl | (have:k=3:=Qp;subst this;exact ho.symm)))⟩
theorem Qk7 (W:World) {v0:Value} {d0:List DOp} (h0:Rd (.sl TOp) (wm W) [v0] d0) {v1:Value} {d1:List DOp} (h1:Rd (.sl TOp) (wm W) [v1] d1) (e0:d1.length≤3518437208800):Qc Tryz.prog 115 [v0,v1] W (mnil) (fun v m'=>v= .bool (decide (d0=d1++Z9))):=by
 obtain ⟨A0,c0,rfl,l0,k0⟩:=h0.slc
 obtain ⟨A1,c1,rfl,l1,k1⟩:=h1.slc
 refine Qc.ofA (n:=9) Tryz.func115 rfl rfl rfl ?_
 refine VC.rs (VO.as (VO.k3 0 1 4 (VC.rs (VO.mv (VO.mv ?_)))))
 refine VO.callN 101 rfl Qm9 rfl (fun W hW=>QgC W (Rd.mono h1 (hW.t 0)) bd) (fun v1 m1 hv1=>?_)
 obtain ⟨s1_0,rfl,f1_0⟩:=hv1
 obtain ⟨A1_0,c1_0,eq1_0,l1_0,k1_0⟩:=f1_0.slc
 subst eq1_0
 refine VO.callN 102 rfl Qik rfl (fun W hW=>Qa8 W (Rd.mono h0 (hW.t 0)) (Ow.rd f1_0 (hW.t 101))) (fun v2 m2 hv2=>?_)
 subst hv2
 refine VO.as (VO.k3 0 1 4 (VC.ret ?_))
 exact Yu 4 rfl (by first | rfl | (rfl))
theorem Yc {P:Prop} (h:P:=by congr 1;first | exact (XL (fun h=>by have:=h.1;have:=h.2.1;have:=h.2.2.1;omega)).symm | exact (XL (fun h=>by rcases h.2.2.2 with e | e <;> first | exact absurd e ‹¬ _=_› | simp [e] at*)).symm | exact (QaH ⟨by omega,by omega,by omega,by first | exact .inl ‹d0.1=true› | exact .inr (by simpa using ‹¬ ¬ _›)⟩).symm):P:=h
theorem Qae (W:World) {v0:List Value} {d0:DOp} (h0:Rd TOp (wm W) v0 d0):Qc Tryz.prog 57 [.agg v0.toArray] W (mnil) (fun v m'=>v= .int .i64 (Q4 d0)):=by
 obtain ⟨rfl,p0_1,p0_2⟩:=Jr (x0:=d0.1) (x1:=d0.2.1) (x2:=d0.2.2) h0
 simp only [maxLen] at p0_1
 simp only [maxLen] at p0_2
 refine Qc.ofA (n:=29) Tryz.func57 rfl rfl rfl ?_
 refine VC.rs ?_
 refine VO.box (cs:=[.bool d0.1,str (d0.2.1),str (d0.2.2)]) 102 rfl rfl rfl (fun g1=>?_)
 refine VO.as (VO.k3 0 1 2 (VC.seq (VC.rs (VO.z (.fa rfl JG rfl) (VO.z (.ld1 102 rfl tk9 rfl (Qa rfl rfl)) ?_)))))
 refine VO.z (.lenT rfl Tryz.underlying9) ?_
 refine VO.z (.lss rfl rfl) (VO.mv ?_)
 refine VO.dec (t:=7) rfl (fun hc3=>?_) (fun hc3=>?_)
 refine VO.gN (VO.gN (VO.gN (VO.gN (VO.z (.pT rfl rfl) (VO.mv (VO.gN (VO.gN (VO.gN (VO.gN (VO.z (.pT rfl rfl) (VO.mv ?_)))))))))))
 refine VO.gN (VO.gN (VO.gN (VO.gN ?_)))
 refine VO.gn rfl (.inr ⟨_,rfl,rfl⟩) ?_
 refine VO.gn rfl (.inr ⟨_,rfl,rfl⟩) ?_
 refine VO.gn rfl (.inr ⟨_,rfl,rfl⟩) ?_
 refine VO.gN (VO.z (.pT rfl rfl) (VO.k4 0 1 2 28 (VC.condT rfl (VC.rs (VO.as (VO.p2 102 0 (VO.k4 0 1 2 28 (VC.ret (QK ?_)))))))))
 exact Yu 2 rfl (by first | rfl | exact Yc)
 refine VO.w (.fa rfl JG rfl) (VO.w (.ld1 102 rfl tk9 rfl (Qa rfl rfl)) ?_)
 refine VO.w (.lenT rfl Tryz.underlying9) ?_
 refine VO.w (.gtr rfl rfl) (VO.z (.pF rfl rfl) (VO.mv ?_))
 refine VO.dec (t:=13) rfl (fun hc4=>?_) (fun hc4=>?_)
 refine VO.gN (VO.gN (VO.gN (VO.gN (VO.z (.pT rfl rfl) (VO.mv (VO.gN (VO.gN (VO.gN (VO.gN ?_)))))))))
 refine VO.gn rfl (.inr ⟨_,rfl,rfl⟩) ?_
 refine VO.gn rfl (.inr ⟨_,rfl,rfl⟩) ?_
 refine VO.gn rfl (.inr ⟨_,rfl,rfl⟩) ?_
 refine VO.gN (VO.z (.pT rfl rfl) (VO.k4 0 1 2 28 (VC.condT rfl (VC.rs (VO.as (VO.p2 102 0 (VO.k4 0 1 2 28 (VC.ret (QK ?_)))))))))
 exact Yu 2 rfl (by first | rfl | exact Yc)
 refine VO.w (.fa rfl JG rfl) (VO.w (.ld1 102 rfl tk9 rfl (Qa rfl rfl)) ?_)
 refine VO.w (.lenT rfl Tryz.underlying9) ?_
 refine VO.w (.gtr rfl rfl) (VO.z (.pF rfl rfl) (VO.mv ?_))
 refine VO.dec (t:=19) rfl (fun hc5=>?_) (fun hc5=>?_)
 refine VO.gN (VO.gN (VO.gN (VO.gN ?_)))
 refine VO.gn rfl (.inr ⟨_,rfl,rfl⟩) ?_
 refine VO.gn rfl (.inr ⟨_,rfl,rfl⟩) ?_
 refine VO.gn rfl (.inr ⟨_,rfl,rfl⟩) ?_
 refine VO.gN (VO.z (.pT rfl rfl) (VO.k4 0 1 2 28 (VC.condT rfl (VC.rs (VO.as (VO.p2 102 0 (VO.k4 0 1 2 28 (VC.ret (QK ?_)))))))))
 exact Yu 2 rfl (by first | rfl | exact Yc)
 refine VO.w (.fa rfl JG rfl) (VO.w (.ld1 102 rfl tk4 rfl (Qa rfl rfl)) (VO.w (.not rfl) (VO.w (.mv rfl) ?_)))
 refine VO.decBN (t:=23) rfl (fun hc6=>?_) (fun hc6=>?_)
 refine VO.w (.fa rfl JG rfl) (VO.w (.ld1 102 rfl tk9 rfl (Qa rfl rfl)) (VO.w (.sneq rfl rfl) (VO.w (.pT rfl rfl) (VO.z (.pF rfl rfl) (VO.k4 0 1 2 28 ?_)))))
 refine VC.cond rfl (fun hc7=>?_) (fun hc7=>?_)
 refine VC.rs (VO.as (VO.p2 102 0 (VO.k4 0 1 2 28 (VC.ret (QK ?_)))))
 exact Yu 2 rfl (by first | rfl | exact Yc)
 refine VC.skip (Qg (VC.rs (VO.as (VO.p2 102 0 (VO.k4 0 1 2 28 (VC.ret ?_))))))
 exact Yu 2 rfl (by first | rfl | exact Yc)
 refine VO.gN (VO.gN (VO.gN (VO.w (.pF rfl rfl) (VO.z (.pF rfl rfl) (VO.k4 0 1 2 28 (VC.condF rfl (VC.skip (Qg (VC.rs (VO.as (VO.p2 102 0 ?_)))))))))))
 refine VO.k4 0 1 2 28 (VC.ret ?_)
 exact Yu 2 rfl (by first | rfl | exact Yc)
theorem ZB {P:Prop} (h:P:=by congr 1;first | exact (XL (fun h=>by have:=h.1;have:=h.2.1;have:=h.2.2.1;omega)).symm | exact (XL (fun h=>by rcases h.2.2.2 with e | e <;> first | exact absurd e ‹¬ _=_› | simp [e] at*)).symm | exact (QaH ⟨by omega,by omega,by omega,by first | exact .inl ‹d0.1=true› | exact .inr (by simpa using ‹¬ ¬ _›)⟩).symm):P:=h
theorem YR (W:World) {v0:List Value} {d0:DOp} (h0:Rd TOp (wm W) v0 d0):Qc Tryz.prog 153 [.agg v0.toArray] W (mnil) (fun v m'=>v= .int .i64 (Q4 d0)):=by
 obtain ⟨rfl,p0_1,p0_2⟩:=Jr (x0:=d0.1) (x1:=d0.2.1) (x2:=d0.2.2) h0
 simp only [maxLen] at p0_1
 simp only [maxLen] at p0_2
 refine Qc.ofA (n:=29) Tryz.func153 rfl rfl rfl ?_
 refine VC.rs ?_
 refine VO.box (cs:=[.bool d0.1,str (d0.2.1),str (d0.2.2)]) 102 rfl rfl rfl (fun g1=>?_)
 refine VO.as (VO.k3 0 1 2 (VC.seq (VC.rs (VO.z (.fa rfl JG rfl) (VO.z (.ld1 102 rfl tk9 rfl (Qa rfl rfl)) ?_)))))
 refine VO.z (.lenT rfl Tryz.underlying9) ?_
 refine VO.z (.lss rfl rfl) (VO.mv ?_)
 refine VO.dec (t:=7) rfl (fun hc3=>?_) (fun hc3=>?_)
 refine VO.gN (VO.gN (VO.gN (VO.gN (VO.z (.pT rfl rfl) (VO.mv (VO.gN (VO.gN (VO.gN (VO.gN (VO.z (.pT rfl rfl) (VO.mv ?_)))))))))))
 refine VO.gN (VO.gN (VO.gN (VO.gN ?_)))
 refine VO.gn rfl (.inr ⟨_,rfl,rfl⟩) ?_
 refine VO.gn rfl (.inr ⟨_,rfl,rfl⟩) ?_
 refine VO.gn rfl (.inr ⟨_,rfl,rfl⟩) ?_
 refine VO.gN (VO.z (.pT rfl rfl) (VO.k4 0 1 2 28 (VC.condT rfl (VC.rs (VO.as (VO.p2 102 0 (VO.k4 0 1 2 28 (VC.ret (QK ?_)))))))))
 exact Yu 2 rfl (by first | rfl | exact ZB)
 refine VO.w (.fa rfl JG rfl) (VO.w (.ld1 102 rfl tk9 rfl (Qa rfl rfl)) ?_)
 refine VO.w (.lenT rfl Tryz.underlying9) ?_
 refine VO.w (.gtr rfl rfl) (VO.z (.pF rfl rfl) (VO.mv ?_))
 refine VO.dec (t:=13) rfl (fun hc4=>?_) (fun hc4=>?_)
 refine VO.gN (VO.gN (VO.gN (VO.gN (VO.z (.pT rfl rfl) (VO.mv (VO.gN (VO.gN (VO.gN (VO.gN ?_)))))))))
 refine VO.gn rfl (.inr ⟨_,rfl,rfl⟩) ?_
 refine VO.gn rfl (.inr ⟨_,rfl,rfl⟩) ?_
 refine VO.gn rfl (.inr ⟨_,rfl,rfl⟩) ?_
 refine VO.gN (VO.z (.pT rfl rfl) (VO.k4 0 1 2 28 (VC.condT rfl (VC.rs (VO.as (VO.p2 102 0 (VO.k4 0 1 2 28 (VC.ret (QK ?_)))))))))
 exact Yu 2 rfl (by first | rfl | exact ZB)
 refine VO.w (.fa rfl JG rfl) (VO.w (.ld1 102 rfl tk9 rfl (Qa rfl rfl)) ?_)
 refine VO.w (.lenT rfl Tryz.underlying9) ?_
 refine VO.w (.gtr rfl rfl) (VO.z (.pF rfl rfl) (VO.mv ?_))
 refine VO.dec (t:=19) rfl (fun hc5=>?_) (fun hc5=>?_)
 refine VO.gN (VO.gN (VO.gN (VO.gN ?_)))
 refine VO.gn rfl (.inr ⟨_,rfl,rfl⟩) ?_
 refine VO.gn rfl (.inr ⟨_,rfl,rfl⟩) ?_
 refine VO.gn rfl (.inr ⟨_,rfl,rfl⟩) ?_
 refine VO.gN (VO.z (.pT rfl rfl) (VO.k4 0 1 2 28 (VC.condT rfl (VC.rs (VO.as (VO.p2 102 0 (VO.k4 0 1 2 28 (VC.ret (QK ?_)))))))))
 exact Yu 2 rfl (by first | rfl | exact ZB)
 refine VO.w (.fa rfl JG rfl) (VO.w (.ld1 102 rfl tk4 rfl (Qa rfl rfl)) (VO.w (.not rfl) (VO.w (.mv rfl) ?_)))
 refine VO.decBN (t:=23) rfl (fun hc6=>?_) (fun hc6=>?_)
 refine VO.w (.fa rfl JG rfl) (VO.w (.ld1 102 rfl tk9 rfl (Qa rfl rfl)) (VO.w (.sneq rfl rfl) (VO.w (.pT rfl rfl) (VO.z (.pF rfl rfl) (VO.k4 0 1 2 28 ?_)))))
 refine VC.cond rfl (fun hc7=>?_) (fun hc7=>?_)
 refine VC.rs (VO.as (VO.p2 102 0 (VO.k4 0 1 2 28 (VC.ret (QK ?_)))))
 exact Yu 2 rfl (by first | rfl | exact ZB)
 refine VC.skip (Qg (VC.rs (VO.as (VO.p2 102 0 (VO.k4 0 1 2 28 (VC.ret ?_))))))
 exact Yu 2 rfl (by first | rfl | exact ZB)
 refine VO.gN (VO.gN (VO.gN (VO.w (.pF rfl rfl) (VO.z (.pF rfl rfl) (VO.k4 0 1 2 28 (VC.condF rfl (VC.skip (Qg (VC.rs (VO.as (VO.p2 102 0 ?_)))))))))))
 refine VO.k4 0 1 2 28 (VC.ret ?_)
 exact Yu 2 rfl (by first | rfl | exact ZB)
theorem Qhr (W:World) (d0:Int) (h0:inK .i64 d0):Qc Tryz.prog 92 [.int .i64 d0] W (mnil) (fun v m'=>v= .bool (decide (1≤d0∧d0≤1048576))):=by
 have h0':=h0;simp only [inK] at h0'
 refine Qc.ofA (n:=9) Tryz.func92 rfl rfl rfl ?_
 refine VC.rs (VO.as (VO.k2 0 2 (VC.rs (VO.mv (VO.z (.geq rfl rfl) (VO.mv ?_))))))
 refine VO.dec (t:=5) rfl (fun hc1=>?_) (fun hc1=>?_)
 refine VO.w (.mv rfl) (VO.w (.leq rfl rfl) (VO.z (.pT rfl rfl) (VO.as (VO.k2 0 2 (VC.ret ?_)))))
 exact Yu 2 rfl (by first | rfl | (simp [*]))
 refine VO.gN (VO.gN (VO.z (.pF rfl rfl) (VO.as (VO.k2 0 2 (VC.ret ?_)))))
 exact Yu 2 rfl (by first | rfl | (simp [*]))
theorem QaW (W:World) {v0:Value} {d0:List UInt8} (h0:Rd (.sl .byte) (wm W) [v0] d0) (d1:Nat) (h1:d1 < 18446744073709551616) (e0:d0.length≤140737488355000):Qc Tryz.prog 125 [v0,.int .u64 (d1:Int)] W (mnil) (fun v m'=>∃ (s0:Value),v=s0∧Ow (.sl .byte) m' [s0] (d0++ZT d1)):=by
 obtain ⟨A0,c0,rfl,l0,k0⟩:=h0.slc
 refine Qc.ofA (n:=23) Tryz.func125 rfl rfl rfl ?_
 refine VC.rs (VO.as (VO.k3 0 1 4 (VC.rs (VO.mv ?_))))
 refine VO.inv _ (fun _ h=>h.nilc 102) ?_
 obtain ⟨mo1,cs1,hM1,hA1,hC1⟩:=(Qz.nil .byte mnil mnil)
 obtain ⟨all1,hS1,hR1⟩:=Rd.srcI (P:=Tryz.prog) (h0) Tryz.underlying97
 refine VO.app 102 rfl rfl rfl Jz tz5 rfl rfl hM1 hA1 (hS1 _ 0 rfl) hR1.nice bdm bd (by decide) (fun v1 m1 hN1=>?_)
 have ho1:Qz .byte m1 mnil v1 (d0):=Qz.more hC1 hN1 (Q8.mono hR1 fun _ _ h=>Rd.flat rfl h _)
 obtain ⟨A1,c1,rfl,l1,k1⟩:=ho1.slc
 refine VO.as (VO.k4 0 1 4 5 (VC.seq (VC.block ?_)))
 refine VC.loop (G:=Nat × (List UInt8) × (Option Addr) × Nat × Mem) (fun g=>[(1,.int .u64 ((((g.1):Nat):Int))),(5,.slice (g.2.2.1) ((g.2.1).length) ((g.2.2.2.1))),(0,.slice A0 (d0.length) (c0)),(4,.slice none (0) (0))]) (fun g=>[(102,(g.2.2.2.2)),(0,wm W)]) (fun g=>((g.1) < 18446744073709551616)∧((g.2.1)++ZT (g.1)=d0++ZT d1)∧(Qz .byte (g.2.2.2.2) mnil (.slice (g.2.2.1) (g.2.1).length (g.2.2.2.1)) (g.2.1))) (fun g=>(g.1)) (d1,d0,A1,c1,m1) (⟨by omega,by rfl,ho1⟩) ⟨esn,fun _ h=>h.sub [102,0]⟩ ?_
 rintro ⟨x,out,out_A,out_c,out_m⟩ ⟨hx,ho,h_out⟩
 replace hx:x < 18446744073709551616:=hx
 replace ho:out++ZT x=d0++ZT d1:=ho
 replace h_out:Qz .byte out_m mnil (.slice out_A out.length out_c) out:=h_out
 show VC _ _ _ _ _ [(1,.int .u64 (((x:Nat):Int))),(5,.slice out_A (out.length) (out_c)),(0,.slice A0 (d0.length) (c0)),(4,.slice none (0) (0))] [(102,out_m),(0,wm W)]
 have l_out:out.length≤out_c:=by obtain ⟨_,_,he,hl,_⟩:=h_out.slice;simp only [Value.slice.injEq] at he;omega
 have k_out:out_c≤9223372036854775807:=by obtain ⟨_,_,he,_,hl⟩:=h_out.slice;simp only [Value.slice.injEq,maxLen] at he hl;omega
 have hlo:=Qhu hx h1 ho
 refine VC.block (VC.seq (VC.rs (VO.mv (VO.z (.lss rfl rfl) (VO.p2 102 0 (VO.k5 0 1 4 5 9 ?_))))))
 refine VC.cond rfl (fun hc3=>?_) (fun hc3=>?_)
 ·refine VC.exit (JU ?_)
  refine QhV rfl ?_
  refine JU (JT (Qg (VC.rs (VO.mv (VO.mv ?_)))))
  refine VO.z (.cvI rfl ⟨_,Tryz.underlying163⟩ Tryz.underlying5 (QcU _)) ?_
  refine VO.bsl (cs:=[.int .u8 (((x % 256:Nat):Int))]) 105 rfl rfl Jz tz5 rfl rfl (fun g4=>?_)
  obtain ⟨mo6,cs6,hM6,hA6,hC6⟩:=h_out
  refine VO.app 102 rfl rfl rfl Jz tz5 rfl rfl hM6 hA6 (.row 105 _ _ _ 1 1 _ _ Tryz.underlying97 rfl (Qa rfl rfl)) (by simp [Value.oneCell']) bdm bd (by decide) (fun v6 m6 hN6=>?_)
  have ho6:Qz .byte m6 mnil v6 (out++[UInt8.ofNat (x % 256)]):=Qz.one hC6 hN6 (Qbj bd)
  obtain ⟨A6,c6,rfl,l6,k6⟩:=ho6.slc
  refine VO.as (VO.k5 0 1 4 5 9 (VC.ret ?_))
  refine XC 4 [102] fun hS_=>?_
  dsimp only [Qu]
  exact ⟨Value.slice A6 ((out++[UInt8.ofNat (x % 256)]).length) (c6),(by first | rfl | (simp [*];done)),(Ow.cg (Ow.up (Qz.ow ho6 rfl) (hS_.1 _ (.head _))) (by first | rfl | (rw [← ho,QeE Qp])))⟩
 refine VC.skip (Qg (VC.rs (VO.mv (VO.mv ?_))))
 refine VO.z (.cvI rfl ⟨_,Tryz.underlying163⟩ Tryz.underlying5 (QcU _)) ?_
 refine VO.z (.bit (.inr (.inl rfl)) rfl rfl (or128 _ Qp)) ?_
 refine VO.bsl (cs:=[.int .u8 ((((x % 256) % 128+128:Nat):Int))]) 108 rfl rfl Jz tz5 rfl rfl (fun g7=>?_)
 obtain ⟨mo9,cs9,hM9,hA9,hC9⟩:=h_out
 refine VO.app 102 rfl rfl rfl Jz tz5 rfl rfl hM9 hA9 (.row 108 _ _ _ 1 1 _ _ Tryz.underlying97 rfl (Qa rfl rfl)) (by simp [Value.oneCell']) bdm bd (by decide) (fun v9 m9 hN9=>?_)
 have ho9:Qz .byte m9 mnil v9 (out++[UInt8.ofNat ((x % 256) % 128+128)]):=Qz.one hC9 hN9 (Qbj bd)
 obtain ⟨A9,c9,rfl,l9,k9⟩:=ho9.slc
 refine VO.as (VO.k5 0 1 4 5 9 ?_)
 refine VC.reg ?_
 refine VO.mv ?_
 refine VO.z (.shf (.inr rfl) rfl rfl (shr7 _)) ?_
 refine VO.as (VO.k5 0 1 4 5 9 (Jh ?_))
 exact Qg ⟨⟨x / 128,out++[UInt8.ofNat ((x % 256) % 128+128)],A9,c9,m9⟩,⟨by omega,by rw [← ho];exact (Qlm Qp _).symm,ho9⟩,bd,⟨esn,fun _ h=>Inv.sub h [102,0]⟩⟩
theorem Qgd (W:World) {v0:Value} {d0:List UInt8} (h0:Rd (.sl .byte) (wm W) [v0] d0) (d1:Nat) (h1:d1 < 18446744073709551616) (e0:d0.length≤140737488355000):Qc Tryz.prog 177 [v0,.int .u64 (d1:Int)] W (mnil) (fun v m'=>∃ (s0:Value),v=s0∧Ow (.sl .byte) m' [s0] (d0++ZT d1)):=by
 obtain ⟨A0,c0,rfl,l0,k0⟩:=h0.slc
 refine Qc.ofA (n:=25) Tryz.func177 rfl rfl rfl ?_
 refine VC.rs (VO.as (VO.k3 0 1 4 (VC.rs (VO.as (VO.k4 0 1 4 5 (VC.rs (VO.mv (VO.mv ?_))))))))
 refine VO.inv _ (fun _ h=>h.nilc 102) ?_
 obtain ⟨mo1,cs1,hM1,hA1,hC1⟩:=(Qz.nil .byte mnil mnil)
 obtain ⟨all1,hS1,hR1⟩:=Rd.srcI (P:=Tryz.prog) (h0) Tryz.underlying97
 refine VO.app 102 rfl rfl rfl Jz tz5 rfl rfl hM1 hA1 (hS1 _ 0 rfl) hR1.nice bdm bd (by decide) (fun v1 m1 hN1=>?_)
 have ho1:Qz .byte m1 mnil v1 (d0):=Qz.more hC1 hN1 (Q8.mono hR1 fun _ _ h=>Rd.flat rfl h _)
 obtain ⟨A1,c1,rfl,l1,k1⟩:=ho1.slc
 refine VO.as (VO.p2 102 0 (VO.k4 0 1 4 5 (VC.seq (VC.block ?_))))
 refine VC.loop (G:=Nat × (List UInt8) × (Option Addr) × Nat × Mem) (fun g=>[(1,.int .u64 ((((g.1):Nat):Int))),(5,.slice (g.2.2.1) ((g.2.1).length) ((g.2.2.2.1))),(0,.slice A0 (d0.length) (c0)),(4,.slice none (0) (0))]) (fun g=>[(102,(g.2.2.2.2)),(0,wm W)]) (fun g=>((g.1) < 18446744073709551616)∧((g.2.1)++ZT (g.1)=d0++ZT d1)∧(Qz .byte (g.2.2.2.2) mnil (.slice (g.2.2.1) (g.2.1).length (g.2.2.2.1)) (g.2.1))) (fun g=>(g.1)) (d1,d0,A1,c1,m1) (⟨by omega,by rfl,ho1⟩) ⟨esn,fun _ h=>h.sub [102,0]⟩ ?_
 rintro ⟨x,out,out_A,out_c,out_m⟩ ⟨hx,ho,h_out⟩
 replace hx:x < 18446744073709551616:=hx
 replace ho:out++ZT x=d0++ZT d1:=ho
 replace h_out:Qz .byte out_m mnil (.slice out_A out.length out_c) out:=h_out
 show VC _ _ _ _ _ [(1,.int .u64 (((x:Nat):Int))),(5,.slice out_A (out.length) (out_c)),(0,.slice A0 (d0.length) (c0)),(4,.slice none (0) (0))] [(102,out_m),(0,wm W)]
 have l_out:out.length≤out_c:=by obtain ⟨_,_,he,hl,_⟩:=h_out.slice;simp only [Value.slice.injEq] at he;omega
 have k_out:out_c≤9223372036854775807:=by obtain ⟨_,_,he,_,hl⟩:=h_out.slice;simp only [Value.slice.injEq,maxLen] at he hl;omega
 have hlo:=Qhu hx h1 ho
 refine VC.seq (VC.rs (VO.mv (VO.z (.geq rfl rfl) (VO.k5 0 1 4 5 10 ?_))))
 refine VC.cond rfl (fun hc3=>?_) (fun hc3=>?_)
 refine VC.skip (Qg (VC.block (VC.rs (VO.mv (VO.mv ?_)))))
 refine VO.z (.quo (.inr rfl) rfl rfl (Ql8 _ _ _ (by decide))) ?_
 refine VO.z (.cvI rfl ⟨_,Tryz.underlying163⟩ Tryz.underlying5 (QcU _)) ?_
 refine VO.z (.addN (c:=((x % 128) % 256)+128) rfl rfl rfl (.inl ⟨rfl,by omega⟩)) ?_
 refine VO.bsl (cs:=[.int .u8 (((((x % 128) % 256)+128:Nat):Int))]) 105 rfl rfl Jz tz5 rfl rfl (fun g4=>?_)
 obtain ⟨mo6,cs6,hM6,hA6,hC6⟩:=h_out
 refine VO.app 102 rfl rfl rfl Jz tz5 rfl rfl hM6 hA6 (.row 105 _ _ _ 1 1 _ _ Tryz.underlying97 rfl (Qa rfl rfl)) (by simp [Value.oneCell']) bdm bd (by decide) (fun v6 m6 hN6=>?_)
 have ho6:Qz .byte m6 mnil v6 (out++[UInt8.ofNat (((x % 128) % 256)+128)]):=Qz.one hC6 hN6 (Qbj bd)
 obtain ⟨A6,c6,rfl,l6,k6⟩:=ho6.slc
 refine VO.as (VO.k5 0 1 4 5 10 ?_)
 refine VC.reg ?_
 refine VO.mv ?_
 refine VO.z (.quo (.inl rfl) rfl rfl (Qi7 _ _ Qp (by decide))) ?_
 refine VO.as (VO.p2 102 0 (VO.k5 0 1 4 5 10 (Jh ?_)))
 exact Qg ⟨⟨x / 128,out++[UInt8.ofNat (((x % 128) % 256)+128)],A6,c6,m6⟩,⟨by omega,by rw [← ho];exact (Qky Qp _).symm,ho6⟩,bd,⟨esn,fun _ h=>Inv.sub h [102,0]⟩⟩
 ·refine VC.exit (JU (JU (JT (Qg (VC.rs (VO.mv (VO.mv ?_)))))))
  refine VO.z (.cvI rfl ⟨_,Tryz.underlying163⟩ Tryz.underlying5 (QcU _)) ?_
  refine VO.bsl (cs:=[.int .u8 (((x % 256:Nat):Int))]) 108 rfl rfl Jz tz5 rfl rfl (fun g7=>?_)
  obtain ⟨mo9,cs9,hM9,hA9,hC9⟩:=h_out
  refine VO.app 102 rfl rfl rfl Jz tz5 rfl rfl hM9 hA9 (.row 108 _ _ _ 1 1 _ _ Tryz.underlying97 rfl (Qa rfl rfl)) (by simp [Value.oneCell']) bdm bd (by decide) (fun v9 m9 hN9=>?_)
  have ho9:Qz .byte m9 mnil v9 (out++[UInt8.ofNat (x % 256)]):=Qz.one hC9 hN9 (Qbj bd)
  obtain ⟨A9,c9,rfl,l9,k9⟩:=ho9.slc
  refine VO.as (VO.k5 0 1 4 5 10 (VC.ret ?_))
  refine XC 4 [102] fun hS_=>?_
  dsimp only [Qu]
  exact ⟨Value.slice A9 ((out++[UInt8.ofNat (x % 256)]).length) (c9),(by first | rfl | (simp [*];done)),(Ow.cg (Ow.up (Qz.ow ho9 rfl) (hS_.1 _ (.head _))) (by first | rfl | (rw [← ho,QeE Qp])))⟩
end Go.Proofs.YtonbpfncmlijnaaGreat
