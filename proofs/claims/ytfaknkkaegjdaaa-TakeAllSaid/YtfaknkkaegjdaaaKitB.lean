/- Own library, part B: rules for code, calls, and the operations that compute, load, store and make variables. -/
import Derived.Test.YtfaknkkaegjdaaaKitA
import Derived.Deep.LoopGhost
namespace Go.Proofs.Ytfaknkkaegjdaaa

/-! ### Code -/
def thenR (k : Env → Ctx → Prop) (R : Exit → Env → Ctx → Prop) : Exit → Env → Ctx → Prop
  | .normal => k
  | e => R e
def inBlk (id : Nat) (R : Exit → Env → Ctx → Prop) : Exit → Env → Ctx → Prop
  | .exit i => cond (Nat.beq i id) (R .normal) (R (.exit i))
  | e => R e

section
variable {P : Program} {n : Nat} {w0 : World} {σ : Env} {Ω : Ctx} {R : Exit → Env → Ctx → Prop}

theorem VC.reg {id : Nat} {l : List Oper} (h : VO P n w0 l.toArray l σ Ω (R .normal)) : VC P n w0 (.region id l.toArray false) R σ Ω :=
  fun Q hQ a W he hi => wp_region_lit (h Q (fun σ' Ω' a W hk => hQ _ σ' Ω' a W hk) a W he hi)
theorem VC.seq {x y : Code} (h : VC P n w0 x (thenR (fun σ' Ω' => VC P n w0 y R σ' Ω') R) σ Ω) : VC P n w0 (.seq x y) R σ Ω :=
  fun Q hQ a W he hi => wp_seq (h (Exit.then (y.wp P Q) Q) (fun e σ' Ω' a W hr he hi => by
    cases e with
    | normal => exact hr Q hQ a W he hi
    | exit id => exact hQ _ σ' Ω' a W hr he hi
    | goto l => exact hQ _ σ' Ω' a W hr he hi
    | ret => exact hQ _ σ' Ω' a W hr he hi
    | panic ch => exact hQ _ σ' Ω' a W hr he hi
    | outgrown => exact hQ _ σ' Ω' a W hr he hi) a W he hi)
/-- A region, then the rest. -/
theorem VC.rs {id : Nat} {l : List Oper} {y : Code} (h : VO P n w0 l.toArray l σ Ω (fun σ' Ω' => VC P n w0 y R σ' Ω')) : VC P n w0 (.seq (.region id l.toArray false) y) R σ Ω :=
  VC.seq (VC.reg h)
theorem VC.skip (h : R .normal σ Ω) : VC P n w0 .skip R σ Ω := fun _ hQ a W he hi => wp_skip (hQ _ σ Ω a W h he hi)
theorem VC.exit {id : Nat} (h : R (.exit id) σ Ω) : VC P n w0 (.exit id) R σ Ω := fun _ hQ a W he hi => wp_exit (hQ _ σ Ω a W h he hi)
theorem VC.ret (h : R .ret σ Ω) : VC P n w0 .ret R σ Ω := fun _ hQ a W he hi => wp_ret (hQ _ σ Ω a W h he hi)
theorem VC.block {id : Nat} {c : Code} (h : VC P n w0 c (inBlk id R) σ Ω) : VC P n w0 (.block id c) R σ Ω :=
  fun Q hQ a W he hi => wp_block (h (Exit.inBlock id Q) (fun e σ' Ω' a W hr he hi => by
    cases e with
    | exit i =>
      show if i = id then Q .normal a W else Q (.exit i) a W
      change cond (Nat.beq i id) (R .normal) (R (.exit i)) σ' Ω' at hr
      cases hb : Nat.beq i id with
      | true =>
        rw [if_pos (Nat.eq_of_beq_eq_true hb)]
        rw [hb] at hr
        exact hQ _ σ' Ω' a W hr he hi
      | false =>
        rw [if_neg (Nat.ne_of_beq_eq_false hb)]
        rw [hb] at hr
        exact hQ _ σ' Ω' a W hr he hi
    | normal => exact hQ _ σ' Ω' a W hr he hi
    | goto l => exact hQ _ σ' Ω' a W hr he hi
    | ret => exact hQ _ σ' Ω' a W hr he hi
    | panic ch => exact hQ _ σ' Ω' a W hr he hi
    | outgrown => exact hQ _ σ' Ω' a W hr he hi) a W he hi)
theorem VC.condT {c : Operand} {x y : Code} (hc : ev σ c = some (.bool true)) (h : VC P n w0 x R σ Ω) : VC P n w0 (.cond c x y) R σ Ω :=
  fun Q hQ a W he hi => wp_cond_true (he.eval hc) (h Q hQ a W he hi)
theorem VC.condF {c : Operand} {x y : Code} (hc : ev σ c = some (.bool false)) (h : VC P n w0 y R σ Ω) : VC P n w0 (.cond c x y) R σ Ω :=
  fun Q hQ a W he hi => wp_cond_false (he.eval hc) (h Q hQ a W he hi)
theorem VC.condB {c : Operand} {x y : Code} {b : Bool} (hc : ev σ c = some (.bool b)) (h1 : b = true → VC P n w0 x R σ Ω) (h2 : b = false → VC P n w0 y R σ Ω) : VC P n w0 (.cond c x y) R σ Ω := by
  cases b
  · exact VC.condF hc (h2 rfl)
  · exact VC.condT hc (h1 rfl)
theorem VC.cond {c : Operand} {x y : Code} {p : Prop} [Decidable p] (hc : ev σ c = some (.bool (decide p))) (h1 : p → VC P n w0 x R σ Ω) (h2 : ¬ p → VC P n w0 y R σ Ω) : VC P n w0 (.cond c x y) R σ Ω :=
  VC.condB hc (fun h => h1 (of_decide_eq_true h)) (fun h => h2 (of_decide_eq_false h))
theorem VC.fact {c : Code} {p : Prop} (hp : ∀ W, Inv w0 Ω W → p) (h : p → VC P n w0 c R σ Ω) : VC P n w0 c R σ Ω :=
  fun Q hQ a W he hi => h (hp W hi) Q hQ a W he hi
theorem VC.inv {c : Code} (Ω' : Ctx) (hs : ∀ W, Inv w0 Ω W → Inv w0 Ω' W) (h : VC P n w0 c R σ Ω') : VC P n w0 c R σ Ω :=
  fun Q hQ a W he hi => h Q hQ a W he (hs W hi)
theorem VC.esub {c : Code} (σ' : Env) (hs : esub σ' σ) (h : VC P n w0 c R σ' Ω) : VC P n w0 c R σ Ω :=
  fun Q hQ a W he hi => h Q hQ a W (he.sub hs) hi
theorem VC.mono {c : Code} {R' : Exit → Env → Ctx → Prop} (h : VC P n w0 c R' σ Ω) (hr : ∀ e σ Ω, R' e σ Ω → R e σ Ω) : VC P n w0 c R σ Ω :=
  fun Q hQ a W he hi => h Q (fun e σ' Ω' a W hk => hQ e σ' Ω' a W (hr _ _ _ hk)) a W he hi

/-! The ways out of nested posts, one step each. -/
theorem outN {k : Env → Ctx → Prop} (h : k σ Ω) : thenR k R .normal σ Ω := h
theorem outR {k : Env → Ctx → Prop} (h : R .ret σ Ω) : thenR k R .ret σ Ω := h
theorem outE {k : Env → Ctx → Prop} {i : Nat} (h : R (.exit i) σ Ω) : thenR k R (.exit i) σ Ω := h
theorem outBN {i : Nat} (h : R .normal σ Ω) : inBlk i R .normal σ Ω := h
theorem outBR {i : Nat} (h : R .ret σ Ω) : inBlk i R .ret σ Ω := h
theorem outBE {i j : Nat} (hij : Nat.beq i j = false) (h : R (.exit i) σ Ω) : inBlk j R (.exit i) σ Ω := by
  have : inBlk j R (.exit i) = cond (Nat.beq i j) (R .normal) (R (.exit i)) := rfl
  rw [this, hij]; exact h
theorem outBB {i : Nat} (h : R .normal σ Ω) : inBlk i R (.exit i) σ Ω := by
  have : inBlk i R (.exit i) = cond (Nat.beq i i) (R .normal) (R (.exit i)) := rfl
  rw [this]
  cases hb : Nat.beq i i with
  | true => exact h
  | false => exact absurd rfl (Nat.ne_of_beq_eq_false hb)

/-- What is handed on to a later round, or to what stands behind a join. -/
structure To (w0 : World) (σ' : Env) (Ω' : Ctx) (σ : Env) (Ω : Ctx) : Prop where
  env : esub σ' σ
  inv : ∀ W, Inv w0 Ω W → Inv w0 Ω' W

/-- A loop: the state at its head is S g, C g for some g of which I holds; μ falls. -/
theorem VC.loop {G : Type} {c : Code} (S : G → Env) (C : G → Ctx) (I : G → Prop) (μ : G → Nat) (g0 : G) (h0 : I g0) (h1 : To w0 (S g0) (C g0) σ Ω)
    (round : ∀ g, I g → VC P n w0 c (thenR (fun σ' Ω' => ∃ g', I g' ∧ μ g' < μ g ∧ To w0 (S g') (C g') σ' Ω') R) (S g) (C g)) : VC P n w0 (.loop c) R σ Ω :=
  fun Q hQ a W he hi => wp_loop_ghost (fun k a W => ∃ g, I g ∧ μ g = k ∧ EnvOk n (S g) a ∧ Inv w0 (C g) W) (μ g0) ⟨g0, h0, rfl, he.sub h1.env, h1.inv W hi⟩ (by
    rintro k a W ⟨g, hI, rfl, he, hi⟩
    refine round g hI _ (fun e σ' Ω' a W hr he hi => ?_) a W he hi
    cases e with
    | normal =>
      obtain ⟨g', hI', hlt, ht⟩ := hr
      exact ⟨μ g', hlt, g', hI', rfl, he.sub ht.env, ht.inv W hi⟩
    | exit id => exact hQ _ σ' Ω' a W hr he hi
    | goto l => exact hQ _ σ' Ω' a W hr he hi
    | ret => exact hQ _ σ' Ω' a W hr he hi
    | panic ch => exact hQ _ σ' Ω' a W hr he hi
    | outgrown => exact hQ _ σ' Ω' a W hr he hi)

/-- The ways meet: behind x the state is S g, C g for some g of which I holds. -/
theorem VC.cut {G : Type} {x y : Code} (S : G → Env) (C : G → Ctx) (I : G → Prop)
    (h1 : VC P n w0 x (thenR (fun σ' Ω' => ∃ g, I g ∧ To w0 (S g) (C g) σ' Ω') R) σ Ω) (h2 : ∀ g, I g → VC P n w0 y R (S g) (C g)) : VC P n w0 (.seq x y) R σ Ω :=
  VC.seq (VC.mono h1 fun e σ' Ω' hr => by
    cases e with
    | normal =>
      obtain ⟨g, hI, ht⟩ := hr
      exact fun Q hQ a W he hi => h2 g hI Q hQ a W (he.sub ht.env) (ht.inv W hi)
    | exit id => exact hr
    | goto l => exact hr
    | ret => exact hr
    | panic ch => exact hr
    | outgrown => exact hr)
end

/-! ### Calls -/
/-- What a call does to memory: it has chunk m, and leaves chunk m' of it (with new blocks); all else is as it was. -/
structure Upd (W : World) (m : Mem) (W' : World) (m' : Mem) : Prop where
  os : W'.os = W.os
  tape : W'.tape = W.tape
  output : W'.output = W.output
  size : W.heap.size ≤ W'.heap.size
  keep : mle (mout (wm W) m) (wm W')
  le : mle m' (wm W')
  dom : ∀ g, m' g = none ∨ m g ≠ none ∨ W.heap.size ≤ g

def CallR (P : Program) (f : FuncId) (args : List Value) (W : World) (m : Mem) (Post : Value → Mem → Prop) : Prop :=
  Calls P f args.toArray W fun e W' => ∃ v m', e = .returned v ∧ Post v m' ∧ Upd W m W' m'

def fnOk (P : Program) (f : FuncId) : Bool := match P.funcs[f]? with
  | some fn => !(fn.name == "runtime.NumGoroutine") && fn.body.isSome
  | none => false

theorem run_call_of_ok {P : Program} {f : FuncId} (h : fnOk P f = true) (args : Array Value) (w : World) : (callFunc f args).run P w = .ok (.enter f args) w := by
  unfold fnOk at h
  split at h
  · rename_i fn hf
    simp only [Bool.and_eq_true, Bool.not_eq_true'] at h
    have h2 : fn.body.isNone = false := by cases hb : fn.body <;> simp_all
    simp only [callFunc, Sem.run_bind, run_program, Result.andThen_ok, hf, h.1, h2, Bool.false_eq_true, if_false, Sem.run_pure]
  · cases h

section
variable {P : Program} {n : Nat} {w0 : World} {σ : Env} {Ω : Ctx} {ops : Array Oper} {K : Env → Ctx → Prop}

theorem CallR.mono {f : FuncId} {args : List Value} {W : World} {m : Mem} {Post Post' : Value → Mem → Prop} (h : CallR P f args W m Post) (hp : ∀ v m', Post v m' → Post' v m') : CallR P f args W m Post' :=
  Calls.mono h fun _ _ ⟨v, m', h1, h2, h3⟩ => ⟨v, m', h1, hp v m' h2, h3⟩

theorem Inv.upd {W W' : World} {i : Nat} {m m' : Mem} (h : Inv w0 Ω W) (hm : cget Ω i = some m) (hu : Upd W m W' m') : Inv w0 (cset Ω i m') W' :=
  h.set hm hu.os hu.tape hu.output hu.size hu.keep hu.le hu.dom
theorem Inv.updN {W W' : World} (i : Nat) {m' : Mem} (h : Inv w0 Ω W) (hu : Upd W mnil W' m') : Inv w0 ((i, m') :: Ω) W' :=
  h.new i hu.os hu.tape hu.output hu.size hu.keep hu.le fun g => (hu.dom g).imp id (fun h => h.resolve_left (by simp [mnil]))

/-- A call that is handed chunk i. -/
theorem Stp.call {f : FuncId} {xs : List Operand} {ats : Array TypeId} {ty : TypeId} {pos : String} {af : Array Edge} {dst : Option Tmp} {gd : Option (Nat × Bool)} {vs : List Value} {Post : Value → Mem → Prop}
    (i : Nat) {m : Mem} (hf : fnOk P f = true) (ha : evs σ xs = some vs) (hm : cget Ω i = some m) (hc : ∀ W, Inv w0 Ω W → CallR P f vs W m Post) :
    Stp P n w0 σ Ω ⟨dst, .call { callee := .value (.func f), args := xs.toArray, argTypes := ats }, ty, pos, af, gd⟩ (fun v Ω' => ∃ m', Post v m' ∧ Ω' = cset Ω i m') := fun a W he hi K Q hK => by
  unfold Oper.wp
  rw [execOp_call_go]
  rw [run_call_of_ok hf]
  have : #[] ++ Array.map a.eval xs.toArray ++ #[] = vs.toArray := by
    rw [← he.evals ha]; simp
  rw [this, Oper.upon_enter]
  refine Calls.mono (hc W hi) fun e W' ⟨v, m', h1, h2, h3⟩ => ?_
  subst h1
  exact hK v _ W' ⟨m', h2, rfl⟩ (hi.upd hm h3)
/-- A call that is handed nothing to change: chunk i is new. -/
theorem Stp.callN {f : FuncId} {xs : List Operand} {ats : Array TypeId} {ty : TypeId} {pos : String} {af : Array Edge} {dst : Option Tmp} {gd : Option (Nat × Bool)} {vs : List Value} {Post : Value → Mem → Prop}
    (i : Nat) (hf : fnOk P f = true) (ha : evs σ xs = some vs) (hc : ∀ W, Inv w0 Ω W → CallR P f vs W mnil Post) :
    Stp P n w0 σ Ω ⟨dst, .call { callee := .value (.func f), args := xs.toArray, argTypes := ats }, ty, pos, af, gd⟩ (fun v Ω' => ∃ m', Post v m' ∧ Ω' = (i, m') :: Ω) := fun a W he hi K Q hK => by
  unfold Oper.wp
  rw [execOp_call_go]
  rw [run_call_of_ok hf]
  have : #[] ++ Array.map a.eval xs.toArray ++ #[] = vs.toArray := by
    rw [← he.evals ha]; simp
  rw [this, Oper.upon_enter]
  refine Calls.mono (hc W hi) fun e W' ⟨v, m', h1, h2, h3⟩ => ?_
  subst h1
  exact hK v _ W' ⟨m', h2, rfl⟩ (hi.updN i h3)

theorem VO.call {r : List Oper} {d : Nat} {f : FuncId} {xs : List Operand} {ats : Array TypeId} {ty : TypeId} {pos : String} {af : Array Edge} {vs : List Value} {Post : Value → Mem → Prop}
    (i : Nat) {m : Mem} (hd : Nat.blt d n = true) (hf : fnOk P f = true) (ha : evs σ xs = some vs) (hm : cget Ω i = some m) (hc : ∀ W, Inv w0 Ω W → CallR P f vs W m Post)
    (h : ∀ v m', Post v m' → VO P n w0 ops r ((d, v) :: σ) (cset Ω i m') K) :
    VO P n w0 ops (⟨some d, .call { callee := .value (.func f), args := xs.toArray, argTypes := ats }, ty, pos, af, none⟩ :: r) σ Ω K :=
  VO.s hd (Stp.call i hf ha hm hc) fun v _ ⟨m', hp, hΩ⟩ => hΩ ▸ h v m' hp
theorem VO.callN {r : List Oper} {d : Nat} {f : FuncId} {xs : List Operand} {ats : Array TypeId} {ty : TypeId} {pos : String} {af : Array Edge} {vs : List Value} {Post : Value → Mem → Prop}
    (i : Nat) (hd : Nat.blt d n = true) (hf : fnOk P f = true) (ha : evs σ xs = some vs) (hc : ∀ W, Inv w0 Ω W → CallR P f vs W mnil Post)
    (h : ∀ v m', Post v m' → VO P n w0 ops r ((d, v) :: σ) ((i, m') :: Ω) K) :
    VO P n w0 ops (⟨some d, .call { callee := .value (.func f), args := xs.toArray, argTypes := ats }, ty, pos, af, none⟩ :: r) σ Ω K :=
  VO.s hd (Stp.callN i hf ha hc) fun v _ ⟨m', hp, hΩ⟩ => hΩ ▸ h v m' hp

/-! #### The way in and the way out -/
def zipE : Nat → List Value → Env
  | _, [] => []
  | i, v :: r => (i, v) :: zipE (i + 1) r
theorem zipE_get : ∀ {vs : List Value} {i t : Nat} {v : Value}, eget (zipE i vs) t = some v → i ≤ t ∧ vs[t - i]? = some v
  | x :: r, i, t, v, h => by
    unfold zipE eget at h
    cases hb : Nat.beq i t with
    | true =>
      have := Nat.eq_of_beq_eq_true hb
      subst this
      rw [hb] at h
      simpa using h
    | false =>
      rw [hb] at h
      obtain ⟨h1, h2⟩ := zipE_get h
      refine ⟨by omega, ?_⟩
      rw [show t - i = (t - (i + 1)) + 1 by omega]
      simpa using h2

def retR (P : Program) (n : Nat) (w0 : World) (fn : Func) (m : Mem) (Post : Value → Mem → Prop) : Exit → Env → Ctx → Prop
  | .ret, σ, Ω | .normal, σ, Ω => ∃ v m', (∀ a W, EnvOk n σ a → Inv w0 Ω W → (results fn a.tmps).run P W = .ok v W) ∧
      (∀ W, Inv w0 Ω W → Post v m' ∧ mle (mout (wm w0) m) (wm W) ∧ mle m' (wm W) ∧ mdj m' (mout (wm w0) m))
  | _, _, _ => False

theorem CallR.of {f : FuncId} {fn : Func} {c : Code} {args : List Value} {W : World} {m : Mem} {Post : Value → Mem → Prop} (hf : P.funcs[f]? = some fn) (hb : fn.body = some c) (hn : fn.ntmps = n)
    (hsz : Nat.ble args.length n = true) (hm : mle m (wm W)) (h : VC P n W c (retR P n W fn m Post) (zipE 0 args) [(0, mout (wm W) m), (1, m)]) : CallR P f args W m Post := by
  have hlen : args.length ≤ n := by simpa using hsz
  refine calls_of_wp hf hb (h _ (fun e σ' Ω' a W' hr he hi => ?_) _ W ⟨?_, rfl, fun t v hv => ?_⟩ ⟨rfl, rfl, rfl, Nat.le_refl _, ?_, ?_⟩)
  · cases e with
    | ret =>
      obtain ⟨v, m', h1, h3⟩ := hr
      obtain ⟨h2, k1, k2, k3⟩ := h3 W' hi
      refine ⟨he.defers, v, h1 a W' he hi, v, m', rfl, h2, hi.os, hi.tape, hi.output, hi.size, k1, k2, fun g => ?_⟩
      rcases k3 g with h | h
      · exact .inl h
      · refine .inr ?_
        unfold mout wm at h
        split at h
        · rename_i o ho; exact .inl (by rw [ho]; simp)
        · exact .inr (Array.getElem?_eq_none_iff.1 h)
    | normal =>
      obtain ⟨v, m', h1, h3⟩ := hr
      obtain ⟨h2, k1, k2, k3⟩ := h3 W' hi
      refine ⟨he.defers, v, h1 a W' he hi, v, m', rfl, h2, hi.os, hi.tape, hi.output, hi.size, k1, k2, fun g => ?_⟩
      rcases k3 g with h | h
      · exact .inl h
      · refine .inr ?_
        unfold mout wm at h
        split at h
        · rename_i o ho; exact .inl (by rw [ho]; simp)
        · exact .inr (Array.getElem?_eq_none_iff.1 h)
    | exit id => exact hr.elim
    | goto l => exact hr.elim
    | panic ch => exact hr.elim
    | outgrown => exact hr.elim
  · simp [hn]; omega
  · obtain ⟨_, h2⟩ := zipE_get hv
    have hlt : t < args.length := by
      have := (List.getElem?_eq_some_iff.1 h2).1; omega
    have h3 : (args.toArray ++ Array.replicate (fn.ntmps - args.toArray.size) undef)[t]? = some v := by
      rw [Array.getElem?_append_left (by simpa using hlt)]; simpa using h2
    simp only [Array.getD_eq_getD_getElem?, h3, Option.getD_some]
  · intro p hp
    rcases List.mem_cons.1 hp with rfl | hp
    · exact mout_le _ _
    · rcases List.mem_cons.1 hp with rfl | hp
      · exact hm
      · cases hp
  · refine List.pairwise_cons.2 ⟨fun p hp => ?_, List.pairwise_cons.2 ⟨fun p hp => ?_, List.Pairwise.nil⟩⟩
    · rcases List.mem_cons.1 hp with rfl | hp
      · exact mdj_out _ _
      · cases hp
    · cases hp

theorem CallR.ofA {f : FuncId} {fn : Func} {c : Code} {args : List Value} {W : World} {Post : Value → Mem → Prop} (hf : P.funcs[f]? = some fn) (hb : fn.body = some c) (hn : fn.ntmps = n)
    (hsz : Nat.ble args.length n = true) (h : VC P n W c (retR P n W fn mnil Post) (zipE 0 args) [(0, wm W)]) : CallR P f args W mnil Post :=
  CallR.of hf hb hn hsz (mle_nil _) (VC.inv [(0, wm W)] (fun W' h' => ⟨h'.os, h'.tape, h'.output, h'.size, fun p hp => h'.le p (by simp at hp; subst hp; exact .head _), List.pairwise_singleton _ _⟩) h)
theorem Inv.out {Ω : Ctx} {W : World} (h : Inv w0 Ω W) {i j : Nat} {m k : Mem} (hi : cget Ω i = some m) (hj : cget (cdel Ω i) j = some k) : mle k (mout (wm W) m) :=
  mle_out (h.le _ (cdel_mem (cget_mem hj))) (h.dj_of hi hj).symm

/-- What is handed back: chunk i, or nothing. -/
theorem own_of {Ω : Ctx} {b m' : Mem} (i : Nat) (h0 : cget Ω 0 = some b) (hi : cget (cdel Ω 0) i = some m') : ∀ W, Inv w0 Ω W → mle b (wm W) ∧ mle m' (wm W) ∧ mdj m' b :=
  fun _ h => ⟨h.at h0, h.le _ (cdel_mem (cget_mem hi)), (h.dj_of h0 hi).symm⟩
/-- Two chunks are handed back, as one. -/
theorem own_un {b m1 m2 : Mem} {W : World} (h1 : mle b (wm W) ∧ mle m1 (wm W) ∧ mdj m1 b) (h2 : mle b (wm W) ∧ mle m2 (wm W) ∧ mdj m2 b) : mle b (wm W) ∧ mle (mun m1 m2) (wm W) ∧ mdj (mun m1 m2) b :=
  ⟨h1.1, mun_le h1.2.1 h2.2.1, mdj_un h1.2.2 h2.2.2⟩
theorem own_nil {Ω : Ctx} {b : Mem} (h0 : cget Ω 0 = some b) : ∀ W, Inv w0 Ω W → mle b (wm W) ∧ mle mnil (wm W) ∧ mdj mnil b :=
  fun _ h => ⟨h.at h0, mle_nil _, mdj_nil' _⟩

/-! ### Types, as the program's table has them -/
/-- one cell ('some none'), or an aggregate of so many ('some (some k)'). -/
def tk (P : Program) (t : TypeId) : Option (Option Nat) := match P.underlying t, P.info? t with
  | some (.struct _), some i | some (.array _ _), some i => some (some i.size)
  | some _, some i => if i.size = 1 then some none else none
  | _, _ => none
def tz (P : Program) (t : TypeId) : Option (List Value) := match P.info? t with
  | some i => match i.zero with
    | some z => if z.cells.size = i.size then some z.cells.toList else none
    | none => none
  | none => none
/-- a slice type's element: type, cells, bytes. -/
def tsl (P : Program) (t : TypeId) : Option (TypeId × Nat × Nat) := match P.underlying t with
  | some (.slice e) => match P.info? e with
    | some i => some (e, i.size, i.bytes)
    | none => none
  | _ => none
/-- a struct's fields: offset and cells. -/
def tst (P : Program) (t : TypeId) : Option (List (Nat × Nat)) := match P.underlying t with
  | some (.struct fs) => fs.toList.mapM fun f => (P.info? f.type).bind fun i => if i.size = 0 then none else some (f.offset, i.size)
  | _ => none

theorem run_underlying' {t : TypeId} {d : TypeDesc} (h : P.underlying t = some d) (w : World) : (underlying t).run P w = .ok d w := by
  simp [underlying, h]
theorem run_typeInfo' {t : TypeId} {i : TypeInfo} (h : P.info? t = some i) (w : World) : (typeInfo t).run P w = .ok i w := by
  simp [typeInfo, h]
theorem run_sizeOf' {t : TypeId} {i : TypeInfo} (h : P.info? t = some i) (w : World) : (sizeOf t).run P w = .ok i.size w := by
  simp [sizeOf, run_typeInfo' h]

theorem tk_some {t : TypeId} {k : Nat} (h : tk P t = some (some k)) (w : World) : (isAgg t).run P w = .ok true w ∧ (sizeOf t).run P w = .ok k w := by
  unfold tk at h
  split at h
  · rename_i fs i h1 h2
    simp only [Option.some.injEq] at h
    exact ⟨by simp [isAgg, run_underlying' h1], by rw [run_sizeOf' h2, h]⟩
  · rename_i l e i h1 h2
    simp only [Option.some.injEq] at h
    exact ⟨by simp [isAgg, run_underlying' h1], by rw [run_sizeOf' h2, h]⟩
  · split at h <;> simp at h
  · cases h
theorem tk_none {t : TypeId} (h : tk P t = some none) (w : World) : (isAgg t).run P w = .ok false w ∧ (sizeOf t).run P w = .ok 1 w := by
  unfold tk at h
  split at h
  · simp at h
  · simp at h
  · rename_i d i h3 h4 h1 h2
    split at h
    · rename_i hs
      refine ⟨?_, by rw [run_sizeOf' h2, hs]⟩
      simp only [isAgg, Sem.run_bind, run_underlying' h1, Result.andThen_ok]
      cases d <;> first | rfl | (exact absurd h1 (h3 _)) | (exact absurd h1 (h4 _ _))
    · cases h
  · cases h
theorem tz_run {t : TypeId} {z : List Value} (h : tz P t = some z) : ∃ v : Value, v.cells.toList = z ∧ ∀ w, (zeroValue t).run P w = .ok v w := by
  unfold tz at h
  split at h
  · rename_i i hi
    split at h
    · rename_i v hv
      split at h
      · simp only [Option.some.injEq] at h
        exact ⟨v, h, fun w => by simp [zeroValue, run_typeInfo' hi, hv]⟩
      · cases h
    · cases h
  · cases h
theorem tsl_run {t e : TypeId} {s b : Nat} (h : tsl P t = some (e, s, b)) : P.underlying t = some (.slice e) ∧ ∃ i, P.info? e = some i ∧ i.size = s ∧ i.bytes = b := by
  unfold tsl at h
  split at h
  · rename_i e' he
    split at h
    · rename_i i hi
      simp only [Option.some.injEq, Prod.mk.injEq] at h
      obtain ⟨rfl, h2, h3⟩ := h
      exact ⟨he, i, hi, h2, h3⟩
    · cases h
  · cases h

/-! ### Cells -/
/-- n cells from off on in block g of chunk m. -/
def cellsAt (m : Mem) (g off n : Nat) (cs : List Value) : Prop :=
  ∃ c E fz, m g = some (.cells c E fz) ∧ off + n ≤ c.size ∧ cs = (c.toList.drop off).take n

theorem cellsAt.mono {m m' : Mem} {g off k : Nat} {cs : List Value} (h : cellsAt m g off k cs) (hm : mle m m') : cellsAt m' g off k cs := by
  obtain ⟨c, E, fz, h1, h2⟩ := h
  exact ⟨c, E, fz, hm g _ h1, h2⟩
theorem cellsAt.len {m : Mem} {g off k : Nat} {cs : List Value} (h : cellsAt m g off k cs) : cs.length = k := by
  obtain ⟨c, E, fz, _, h2, rfl⟩ := h
  simp; omega
theorem cellsAt.cell {W : World} {g off k : Nat} {cs : List Value} (h : cellsAt (wm W) g off k cs) {i : Nat} (hi : i < k) : W.cell? ⟨g, off + i, none⟩ = cs[i]? := by
  obtain ⟨c, E, fz, h1, h2, rfl⟩ := h
  unfold wm at h1
  simp only [World.cell?, h1]
  simp [hi]
theorem add_off (g off i : Nat) : (Addr.mk g off none).add i = ⟨g, off + i, none⟩ := by
  unfold Addr.add
  split
  · rename_i h; subst h; rfl
  · rfl
theorem run_loadCellsFrom' {W : World} {g off : Nat} : ∀ (k i : Nat) (cs : List Value) (acc : Array Value), (∀ j, j < k → W.cell? ⟨g, off + (i + j), none⟩ = cs[j]?) → cs.length = k →
    (loadCellsFrom ⟨g, off, none⟩ i k acc).run P W = .ok (acc ++ cs.toArray) W
  | 0, i, cs, acc, _, hl => by
    have : cs = [] := List.eq_nil_of_length_eq_zero hl
    subst this
    simp [loadCellsFrom]
  | k + 1, i, cs, acc, h, hl => by
    match cs, hl with
    | c :: r, hl =>
      have h0 := h 0 (by omega)
      simp only [Nat.add_zero, List.getElem?_cons_zero] at h0
      simp only [loadCellsFrom, Sem.run_bind, run_load, add_off, h0, Result.andThen_ok]
      rw [run_loadCellsFrom' k (i + 1) r (acc.push c) (fun j hj => by
        have := h (j + 1) (by omega)
        rw [show i + (j + 1) = i + 1 + j by omega] at this
        simpa using this) (by simpa using hl)]
      simp
theorem run_loadCells' {W : World} {g off k : Nat} {cs : List Value} (h : cellsAt (wm W) g off k cs) : (loadCells ⟨g, off, none⟩ k).run P W = .ok cs.toArray W := by
  have := run_loadCellsFrom' (P := P) (W := W) (g := g) (off := off) k 0 cs #[] (fun j hj => by rw [Nat.zero_add]; exact h.cell hj) h.len
  simpa [loadCells] using this

/-- A load of an aggregate. -/
theorem Yld.ldA {t : TypeId} {x : Operand} {ty : TypeId} {pos : String} {af : Array Edge} {d : Option Tmp} {gd : Option (Nat × Bool)} {g off k : Nat} {cs : List Value} (i : Nat) {m : Mem}
    (hx : ev σ x = some (.pointer (some ⟨g, off, none⟩))) (ht : tk P t = some (some k)) (hm : cget Ω i = some m) (hc : cellsAt m g off k cs) :
    Yld P n w0 σ Ω ⟨d, .load t x, ty, pos, af, gd⟩ (.agg cs.toArray) := fun a W he hi => by
  obtain ⟨h1, h2⟩ := tk_some ht W
  simp [execOp, Instr.loadAt, he.eval hx, Instr.sureAddr, loadVar, h1, h2, run_loadCells' (hc.mono (hi.at hm))]
theorem Yld.ld1 {t : TypeId} {x : Operand} {ty : TypeId} {pos : String} {af : Array Edge} {d : Option Tmp} {gd : Option (Nat × Bool)} {g off : Nat} {v : Value} (i : Nat) {m : Mem}
    (hx : ev σ x = some (.pointer (some ⟨g, off, none⟩))) (ht : tk P t = some none) (hm : cget Ω i = some m) (hc : cellsAt m g off 1 [v]) :
    Yld P n w0 σ Ω ⟨d, .load t x, ty, pos, af, gd⟩ v := fun a W he hi => by
  obtain ⟨h1, _⟩ := tk_none ht W
  have := (hc.mono (hi.at hm)).cell (i := 0) (by omega)
  simp at this
  simp [execOp, Instr.loadAt, he.eval hx, Instr.sureAddr, loadVar, h1, this]

theorem cellsAt_one {g off k : Nat} {c : Array Value} {E : TypeId} {fz : Nat × Nat} {cs : List Value} (h : Nat.ble (off + k) c.size = true) (hcs : (c.toList.drop off).take k = cs) : cellsAt (mone g (.cells c E fz)) g off k cs :=
  ⟨c, E, fz, mone_self _ _, by simpa using h, hcs.symm⟩

/-! Results -/
inductive ResL (P : Program) (σ : Env) (Ω : Ctx) : List ResultVar → List Value → Prop
  | nil : ResL P σ Ω [] []
  | tmp {t : Nat} {v : Value} {r : List ResultVar} {vs : List Value} (h : eget σ t = some v) (hr : ResL P σ Ω r vs) : ResL P σ Ω (.tmp t :: r) (v :: vs)
  | agg {a g off k : Nat} {T : TypeId} {cs : List Value} {r : List ResultVar} {vs : List Value} (i : Nat) {m : Mem} (h : eget σ a = some (.pointer (some ⟨g, off, none⟩))) (ht : tk P T = some (some k)) (hm : cget Ω i = some m)
      (hc : ∃ c E fz, m g = some (.cells c E fz) ∧ off + k ≤ c.size ∧ cs = (c.toList.drop off).take k) (hr : ResL P σ Ω r vs) : ResL P σ Ω (.cell a T :: r) (.agg cs.toArray :: vs)
  | one {a g off : Nat} {T : TypeId} {v : Value} {r : List ResultVar} {vs : List Value} (i : Nat) {m : Mem} (h : eget σ a = some (.pointer (some ⟨g, off, none⟩))) (ht : tk P T = some none) (hm : cget Ω i = some m)
      (hc : ∃ c E fz, m g = some (.cells c E fz) ∧ c[off]? = some v) (hr : ResL P σ Ω r vs) : ResL P σ Ω (.cell a T :: r) (v :: vs)
def packV : List Value → Value
  | [v] => v
  | vs => .tuple vs.toArray

theorem run_asAddr_some (x : Addr) (W : World) : (asAddr (.pointer (some x))).run P W = .ok x W := rfl
theorem run_loadVar_agg {T : TypeId} {k g off : Nat} {cs : List Value} {W : World} (ht : tk P T = some (some k)) (hc : cellsAt (wm W) g off k cs) : (loadVar T ⟨g, off, none⟩).run P W = .ok (.agg cs.toArray) W := by
  obtain ⟨h1, h2⟩ := tk_some ht W
  simp [loadVar, h1, h2, run_loadCells' hc]
theorem run_loadVar_one {T : TypeId} {g off : Nat} {v : Value} {W : World} (ht : tk P T = some none) (hc : W.cell? ⟨g, off, none⟩ = some v) : (loadVar T ⟨g, off, none⟩).run P W = .ok v W := by
  obtain ⟨h1, _⟩ := tk_none ht W
  simp [loadVar, h1, hc]
theorem cell_at1 {W : World} {g off : Nat} {c : Array Value} {E : TypeId} {fz : Nat × Nat} {v : Value} (h : wm W g = some (.cells c E fz)) (hv : c[off]? = some v) : W.cell? ⟨g, off, none⟩ = some v := by
  unfold wm at h
  unfold World.cell?
  simp only [h]
  exact hv
def resV (tmps : Array Value) : ResultVar → Sem Value
  | .tmp t => pure (tmps.getD t undef)
  | .cell x t => do loadVar t (← asAddr (tmps.getD x undef))
theorem results_eq (fn : Func) (tmps : Array Value) : results fn tmps = (do
  let vs ← fn.results.mapM (resV tmps)
  pure (if h : vs.size = 1 then vs[0] else .tuple vs)) := by
  unfold results
  congr 2
theorem ResL.run {rs : List ResultVar} {vs : List Value} (h : ResL P σ Ω rs vs) {a : Act} {W : World} (he : EnvOk n σ a) (hi : Inv w0 Ω W) :
    (rs.mapM (resV a.tmps)).run P W = .ok vs W := by
  induction h with
  | nil => rfl
  | tmp h hr ih => simp only [List.mapM_cons, resV, Sem.run_bind, Sem.run_pure, Result.andThen_ok, he.get _ _ h, ih]
  | agg i h ht hm hc hr ih =>
    have hc' : cellsAt _ _ _ _ _ := hc
    simp only [List.mapM_cons, resV, Sem.run_bind, he.get _ _ h, run_asAddr_some, Result.andThen_ok, run_loadVar_agg ht (hc'.mono (hi.at hm)), ih, Sem.run_pure]
  | one i h ht hm hc hr ih =>
    obtain ⟨c, E, fz, k1, k2⟩ := hc
    have k3 := cell_at1 (hi.at hm _ _ k1) k2
    simp only [List.mapM_cons, resV, Sem.run_bind, he.get _ _ h, run_asAddr_some, Result.andThen_ok, run_loadVar_one ht k3, ih, Sem.run_pure]
theorem res_run {fn : Func} {rs : List ResultVar} {vs : List Value} (hfn : fn.results = rs.toArray) (h : ResL P σ Ω rs vs) : ∀ a W, EnvOk n σ a → Inv w0 Ω W → (results fn a.tmps).run P W = .ok (packV vs) W := fun a W he hi => by
  rw [results_eq, hfn, List.mapM_toArray]
  simp only [Sem.run_bind, Sem.run_map, h.run he hi, Result.andThen_ok, Sem.run_pure]
  match vs with
  | [] => rfl
  | [v] => rfl
  | v :: u :: r => rfl

/-! ### A new variable -/
theorem wm_alloc (W : World) (o : Obj) : mle (wm W) (wm (W.alloc o)) := fun g x h => by
  unfold wm at h ⊢
  have hl : g < W.heap.size := (Array.getElem?_eq_some_iff.1 h).1
  rw [RowKit.Below.heap_alloc W o g hl]
  exact h
theorem wm_alloc_new (W : World) (o : Obj) : (wm (W.alloc o)) W.heap.size = some o := by simp only [wm]; exact heap_alloc_new W o
theorem Inv.alloc {W : World} (h : Inv w0 Ω W) (i : Nat) (o : Obj) : Inv w0 ((i, mone W.heap.size o) :: Ω) (W.alloc o) :=
  h.new i rfl rfl rfl (by simp) (wm_alloc W o) (mone_le (wm_alloc_new W o)) fun g => by
    by_cases hg : g = W.heap.size
    · exact .inr (Nat.le_of_eq hg.symm)
    · exact .inl (mone_ne _ hg)

theorem Stp.alloc {t : TypeId} {ty : TypeId} {pos : String} {af : Array Edge} {d : Option Tmp} {gd : Option (Nat × Bool)} {z : List Value} (i : Nat) (hz : tz P t = some z) :
    Stp P n w0 σ Ω ⟨d, .alloc t, ty, pos, af, gd⟩ (fun v Ω' => ∃ g, v = .pointer (some ⟨g, 0, none⟩) ∧ Ω' = (i, mone g (.cells z.toArray t (0, 0))) :: Ω) := fun a W he hi K Q hK => by
  obtain ⟨v, hv, hr⟩ := tz_run hz
  have hv' : v.cells = z.toArray := by rw [← hv]
  unfold Oper.wp
  have : (execOp a.eval ⟨d, .alloc t, ty, pos, af, gd⟩).run P W = .ok (.value (.pointer (some ⟨W.heap.size, 0, none⟩))) (W.alloc (.cells z.toArray t (0, 0))) := by
    simp [execOp, Instr.alloc, hr, newVar, newRow, hv']
  rw [this]
  exact hK _ _ _ ⟨_, rfl, rfl⟩ (hi.alloc i _)
theorem VO.alloc {r : List Oper} {d : Nat} {t : TypeId} {ty : TypeId} {pos : String} {af : Array Edge} {z : List Value} (i : Nat) (hd : Nat.blt d n = true) (hz : tz P t = some z)
    (h : ∀ g, VO P n w0 ops r ((d, .pointer (some ⟨g, 0, none⟩)) :: σ) ((i, mone g (.cells z.toArray t (0, 0))) :: Ω) K) : VO P n w0 ops (⟨some d, .alloc t, ty, pos, af, none⟩ :: r) σ Ω K :=
  VO.s hd (Stp.alloc i hz) fun _ _ ⟨g, hv, hΩ⟩ => hv ▸ hΩ ▸ h g

/-! ### A store -/
def mset (m : Mem) (g : Nat) (o : Obj) : Mem := fun k => if k = g then some o else m k
theorem mset_one (g : Nat) (o o' : Obj) : mset (mone g o) g o' = mone g o' := by
  funext k; unfold mset mone; split <;> rfl
def splice (c : List Value) (off : Nat) (vs : List Value) : List Value := c.take off ++ (vs ++ c.drop (off + vs.length))

theorem splice_set (c : List Value) (off : Nat) (v : Value) (r : List Value) (h : off < c.length) : splice (c.set off v) (off + 1) r = splice c off (v :: r) := by
  unfold splice
  rw [List.drop_set_of_lt (by omega), List.take_set, List.take_succ_eq_append_getElem h, List.set_append_right _ _ (by simp; omega)]
  have : off - (List.take off c).length = 0 := by simp; omega
  rw [this]
  simp [Nat.add_assoc, Nat.add_comm 1]

theorem setCells_heap : ∀ (vs : List Value) (W : World) (g off : Nat) (c : Array Value) (E : TypeId) (fz : Nat × Nat), W.heap[g]? = some (.cells c E fz) → off + vs.length ≤ c.size → (fz.2 ≤ fz.1) → (∀ v ∈ vs, v.oneCell' = true) →
    ∀ i off', off = off' + i → ∃ W', (storeCells ⟨g, off', none⟩ vs i).run P W = .ok () W' ∧ W'.os = W.os ∧ W'.tape = W.tape ∧ W'.output = W.output ∧ W'.heap.size = W.heap.size ∧
      (∀ k, k ≠ g → W'.heap[k]? = W.heap[k]?) ∧ W'.heap[g]? = some (.cells (splice c.toList off vs).toArray E fz)
  | [], W, g, off, c, E, fz, h, _, _, _, i, off', _ => ⟨W, by simp [storeCells], rfl, rfl, rfl, rfl, fun _ _ => rfl, by rw [h]; simp [splice]⟩
  | v :: r, W, g, off, c, E, fz, h, hl, hfz, h1, i, off', ho => by
    simp only [List.length_cons] at hl
    have hoff : off < c.size := by omega
    have hcell : W.cell? ⟨g, off, none⟩ = some c[off] := by simp [World.cell?, h, hoff]
    have hfr : W.frozen? ⟨g, off, none⟩ = false := by
      obtain ⟨lo, hi⟩ := fz
      simp only at hfz
      simp [World.frozen?, h]; omega
    have hset : (W.setCell ⟨g, off, none⟩ v).heap[g]? = some (.cells (c.setIfInBounds off v) E fz) := by
      simp [World.setCell, Array.getElem?_modify, h]
    obtain ⟨W', hrun, ho', ht, hu, hs, hk, hg⟩ := setCells_heap r (W.setCell ⟨g, off, none⟩ v) g (off + 1) (c.setIfInBounds off v) E fz hset (by simp; omega) hfz (fun x hx => h1 x (.tail _ hx)) (i + 1) off' (by omega)
    refine ⟨W', ?_, ho', ht, hu, by rw [hs]; simp, fun k hk' => ?_, ?_⟩
    · simp only [storeCells, Sem.run_bind, add_off, ← ho]
      rw [run_store P W _ v _ (h1 v (.head _)), hcell]
      simp only [hfr, Bool.false_eq_true, if_false, Result.andThen_ok]
      exact hrun
    · rw [hk k hk']
      simp only [World.setCell, Array.getElem?_modify]
      rw [if_neg (by simpa using (Ne.symm hk'))]
    · rw [hg]
      congr 2
      rw [Array.toList_setIfInBounds]
      exact congrArg _ (splice_set c.toList off v r (by simpa using hoff))
end
end Go.Proofs.Ytfaknkkaegjdaaa
