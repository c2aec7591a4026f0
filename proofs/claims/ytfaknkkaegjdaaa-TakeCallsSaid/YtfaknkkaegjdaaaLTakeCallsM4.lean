/- Part 4 of the proof of LTakeCalls: what it needs of the library, the walks and the plain laws. Conditions: those named in each theorem. -/
import Derived.Test.YtfaknkkaegjdaaaLTakeCallsM3
namespace Go.Proofs.Ytfaknkkaegjdaaa
section
def fen (ρ : Option Nat) : Fence := { Fence.wide with round := ρ }
def dl : Option Nat → List Deferred
  | none => []
  | some D => [{ target := .collected D, args := #[] }]
def wd (a : Act) (D : List Deferred) : Act := { a with defers := a.defers ++ D }
theorem wd_eval (a : Act) (D : List Deferred) : (wd a D).eval = a.eval := by funext x; cases x <;> rfl
theorem wd_put (a : Act) (D : List Deferred) (dst : Option Tmp) (v : Value) : (wd a D).put dst v = wd (a.put dst v) D := by cases dst <;> rfl
theorem wd_tmps (a : Act) (D : List Deferred) : (wd a D).tmps = a.tmps := rfl
def noDefer (ops : Array Oper) : Bool := ops.all fun o => match o.op with
  | .defer _ => false
  | _ => true
theorem rows_in {P : Program} {ρ : Option Nat} {m : Nat} {row : String} {args : Array Value} {w : World} {R : Value → World → Prop} (h : Rows P row args w R) : RowsIn (fen ρ) m P row args w R := fun c cs _ =>
  let ⟨v, w', r, s⟩ := h c cs
  ⟨v, w', r, stepsIn_wide.2 s⟩
theorem ops_in {P : Program} {ρ : Option Nat} {m : Nat} {ops : Array Oper} {Q Q' : Exit → Act → World → Prop} {D : List Deferred} (hd : noDefer ops = true) (hp : ∀ c a w, ¬ Q (.panic c) a w) (ho : ∀ a w, ¬ Q .outgrown a w)
    (hQ : ∀ a w, Q .normal a w → Q' .normal (wd a D) w) : ∀ (l : List Nat) (a : Act) (w : World), wpOps P ops Q l a w → wpOpsIn (fen ρ) m P ops Q' l (wd a D) w
  | [], a, w, h => hQ a w h
  | i :: rest, a, w, h => by
    have ih := ops_in (P := P) (ρ := ρ) (m := m) hd hp ho hQ rest
    simp only [wpOps] at h
    simp only [wpOpsIn]
    cases hi : ops[i]? with
    | none => rw [hi] at h; exact ih a w h
    | some o =>
      rw [hi] at h
      dsimp only at h ⊢
      rw [wd_tmps]
      by_cases hw : Region.wanted o (yielded ops a.tmps) = true
      · rw [if_pos hw] at h ⊢
        have h := h.resolve_right fun q => by obtain ⟨a', w', hq⟩ := q.2; exact ho _ _ hq
        have hnd : ∀ c, o.op ≠ .defer c := fun c e => by
          have hm := Array.mem_of_getElem? hi
          have := (Array.all_eq_true_iff_forall_mem.1 hd) o hm
          rw [e] at this; cases this
        refine ⟨fun _ _ => trivial, ?_⟩
        rw [Oper.semAt_eq _ _ _ hnd, wd_eval]
        unfold Oper.wp at h
        generalize (execOp a.eval o).run P w = r at h ⊢
        cases r with
        | ok n w' =>
          cases n with
          | value v => show wpOpsIn _ _ _ _ _ _ _ _; rw [wd_put]; exact ih _ _ h
          | skip => show wpOpsIn _ _ _ _ _ _ _ _; rw [wd_put]; exact ih _ _ h
          | enter f args =>
            refine ⟨fun q => (by cases q), ?_⟩
            have h' : CallsIn Fence.wide (m - 1) P f args w' _ := callsIn_wide.2 h
            refine CallsIn.mono (show CallsIn (fen ρ) (m - 1) P f args w' _ from h') ?_
            intro e w'' hr
            cases e with
            | returned v => show wpOpsIn _ _ _ _ _ _ _ _; rw [wd_put]; exact ih _ _ hr
            | panicked c => exact absurd hr (hp _ _ _)
            | outgrown => obtain ⟨a', w3, hq⟩ := hr; exact absurd hq (ho _ _)
          | row row args =>
            refine ⟨fun q => (by cases q), RowsIn.mono (rows_in h) fun v w'' hr => ?_⟩
            rw [wd_put]; exact ih _ _ hr
          | defer d =>
            show wpOpsIn _ _ _ _ _ _ _ _
            have e : ({ wd a D with defers := d :: (wd a D).defers } : Act) = wd { a with defers := d :: a.defers } D := rfl
            rw [e, wd_put]; exact ih _ _ h
          | _ => exact h.elim
        | halt e w' =>
          cases e with
          | panic v => exact absurd h (hp _ _ _)
          | _ => exact h.elim
      · rw [if_neg hw] at h ⊢
        refine ⟨fun _ _ => trivial, ?_⟩
        rw [wd_put]; exact ih _ _ h
section
variable (P : Program) (n : Nat) (w0 : World)
def VX (ρ : Option Nat) (c : Code) (R : Option Nat → Exit → Env → Ctx → Prop) (d : Option Nat) (σ : Env) (Ω : Ctx) : Prop :=
  ∀ Q : Exit → Act → World → Prop, (∀ d' e σ' Ω' a W, R d' e σ' Ω' → EnvOk n σ' a → Inv w0 Ω' W → Q e (wd a (dl d')) W) → ∀ a W, EnvOk n σ a → Inv w0 Ω W → c.wpIn (fen ρ) 0 P Q (wd a (dl d)) W
end
@[reducible] def thenX (k : Option Nat → Env → Ctx → Prop) (R : Option Nat → Exit → Env → Ctx → Prop) : Option Nat → Exit → Env → Ctx → Prop := fun d => thenR (k d) (R d)
@[reducible] def blkX (id : Nat) (R : Option Nat → Exit → Env → Ctx → Prop) : Option Nat → Exit → Env → Ctx → Prop := fun d => inBlk id (R d)
section
variable {P : Program} {n : Nat} {w0 : World} {σ : Env} {Ω : Ctx} {ρ d : Option Nat} {R : Option Nat → Exit → Env → Ctx → Prop}
theorem wpOps_list {ops : Array Oper} {Q : Exit → Act → World → Prop} : ∀ (l : List Oper) (k : Nat) (a : Act) (W : World), (∀ j o, l[j]? = some o → ops[k + j]? = some o) → wpList P ops Q l a W → wpOps P ops Q (List.range' k l.length) a W
  | [], _, _, _, _, h => h
  | o :: l, k, a, W, hl, h => by
    have h0 : ops[k]? = some o := hl 0 o rfl
    rw [List.length_cons, List.range'_succ]
    unfold wpOps
    rw [h0]
    unfold wpList at h
    have ih := fun a W => wpOps_list (Q := Q) l (k + 1) a W (fun j o' h' => by have := hl (j + 1) o' h'; rwa [show k + (j + 1) = k + 1 + j by omega] at this)
    dsimp only
    split
    · rename_i hw; rw [if_pos hw] at h; exact h.imp (Oper.wp_mono ih) id
    · rename_i hw; rw [if_neg hw] at h; exact ih _ _ h
theorem VO.ops {ops : Array Oper} {K : Env → Ctx → Prop} {l : List Oper} (h : VO P n w0 ops l σ Ω K) {a : Act} {W : World} (he : EnvOk n σ a) (hi : Inv w0 Ω W) :
    wpList P ops (fun e a W => e = .normal ∧ ∃ σ' Ω', K σ' Ω' ∧ EnvOk n σ' a ∧ Inv w0 Ω' W) l a W :=
  h _ (fun σ' Ω' a W hk he hi => ⟨rfl, σ', Ω', hk, he, hi⟩) a W he hi
theorem VX.reg {id : Nat} {l : List Oper} (h : VO P n w0 l.toArray l σ Ω (R d .normal)) (hnd : noDefer l.toArray = true := by kernel_rfl) : VX P n w0 ρ (.region id l.toArray false) R d σ Ω :=
  fun Q hQ a W he hi => wpIn_region (by
    have h1 := wpOps_list l 0 a W (fun j o h' => by simpa using h') (h.ops he hi)
    rw [show List.range l.toArray.size = List.range' 0 l.length by rw [List.size_toArray, List.range_eq_range']]
    exact ops_in hnd (fun _ _ _ q => by cases q.1) (fun _ _ q => by cases q.1) (fun a w ⟨_, σ', Ω', hk, he, hi⟩ => hQ _ _ σ' Ω' a w hk he hi) _ a W h1)
theorem VX.seq {x y : Code} (h : VX P n w0 ρ x (thenX (fun d σ' Ω' => VX P n w0 ρ y R d σ' Ω') R) d σ Ω) : VX P n w0 ρ (.seq x y) R d σ Ω :=
  fun Q hQ a W he hi => wpIn_seq (h (Exit.then (y.wpIn (fen ρ) 0 P Q) Q) (fun d' e σ' Ω' a W hr he hi => by
    cases e with
    | normal => exact hr Q hQ a W he hi
    | exit id => exact hQ _ _ σ' Ω' a W hr he hi
    | goto l => exact hQ _ _ σ' Ω' a W hr he hi
    | ret => exact hQ _ _ σ' Ω' a W hr he hi
    | panic ch => exact hQ _ _ σ' Ω' a W hr he hi
    | outgrown => exact hQ _ _ σ' Ω' a W hr he hi) a W he hi)
theorem VX.rs {id : Nat} {l : List Oper} {y : Code} (h : VO P n w0 l.toArray l σ Ω (fun σ' Ω' => VX P n w0 ρ y R d σ' Ω')) (hnd : noDefer l.toArray = true := by kernel_rfl) : VX P n w0 ρ (.seq (.region id l.toArray false) y) R d σ Ω :=
  VX.seq (VX.reg h hnd)
theorem VX.skip (h : R d .normal σ Ω) : VX P n w0 ρ .skip R d σ Ω := fun _ hQ a W he hi => wpIn_skip (hQ _ _ σ Ω a W h he hi)
theorem VX.exit {id : Nat} (h : R d (.exit id) σ Ω) : VX P n w0 ρ (.exit id) R d σ Ω := fun _ hQ a W he hi => wpIn_exit (hQ _ _ σ Ω a W h he hi)
theorem VX.ret (h : R d .ret σ Ω) : VX P n w0 ρ .ret R d σ Ω := fun _ hQ a W he hi => wpIn_ret (hQ _ _ σ Ω a W h he hi)
theorem VX.block {id : Nat} {c : Code} (h : VX P n w0 ρ c (blkX id R) d σ Ω) : VX P n w0 ρ (.block id c) R d σ Ω :=
  fun Q hQ a W he hi => wpIn_block (h (Exit.inBlock id Q) (fun d' e σ' Ω' a W hr he hi => by
    cases e with
    | exit i =>
      show if i = id then Q .normal _ W else Q (.exit i) _ W
      change cond (Nat.beq i id) (R d' .normal) (R d' (.exit i)) σ' Ω' at hr
      cases hb : Nat.beq i id with
      | true =>
        rw [if_pos (Nat.eq_of_beq_eq_true hb)]
        rw [hb] at hr
        exact hQ _ _ σ' Ω' a W hr he hi
      | false =>
        rw [if_neg (Nat.ne_of_beq_eq_false hb)]
        rw [hb] at hr
        exact hQ _ _ σ' Ω' a W hr he hi
    | normal => exact hQ _ _ σ' Ω' a W hr he hi
    | goto l => exact hQ _ _ σ' Ω' a W hr he hi
    | ret => exact hQ _ _ σ' Ω' a W hr he hi
    | panic ch => exact hQ _ _ σ' Ω' a W hr he hi
    | outgrown => exact hQ _ _ σ' Ω' a W hr he hi) a W he hi)
theorem VX.condT {c : Operand} {x y : Code} (hc : ev σ c = some (.bool true)) (h : VX P n w0 ρ x R d σ Ω) : VX P n w0 ρ (.cond c x y) R d σ Ω :=
  fun Q hQ a W he hi => wpIn_cond_true (by rw [wd_eval]; exact he.eval hc) (h Q hQ a W he hi)
theorem VX.condF {c : Operand} {x y : Code} (hc : ev σ c = some (.bool false)) (h : VX P n w0 ρ y R d σ Ω) : VX P n w0 ρ (.cond c x y) R d σ Ω :=
  fun Q hQ a W he hi => wpIn_cond_false (by rw [wd_eval]; exact he.eval hc) (h Q hQ a W he hi)
theorem VX.condB {c : Operand} {x y : Code} {b : Bool} (hc : ev σ c = some (.bool b)) (h1 : b = true → VX P n w0 ρ x R d σ Ω) (h2 : b = false → VX P n w0 ρ y R d σ Ω) : VX P n w0 ρ (.cond c x y) R d σ Ω := by
  cases b
  · exact VX.condF hc (h2 rfl)
  · exact VX.condT hc (h1 rfl)
theorem VX.cond {c : Operand} {x y : Code} {p : Prop} [Decidable p] (hc : ev σ c = some (.bool (decide p))) (h1 : p → VX P n w0 ρ x R d σ Ω) (h2 : ¬ p → VX P n w0 ρ y R d σ Ω) : VX P n w0 ρ (.cond c x y) R d σ Ω :=
  VX.condB hc (fun h => h1 (of_decide_eq_true h)) (fun h => h2 (of_decide_eq_false h))
theorem VX.inv {c : Code} (Ω' : Ctx) (hs : ∀ W, Inv w0 Ω W → Inv w0 Ω' W) (h : VX P n w0 ρ c R d σ Ω') : VX P n w0 ρ c R d σ Ω :=
  fun Q hQ a W he hi => h Q hQ a W he (hs W hi)
theorem VX.esub {c : Code} (σ' : Env) (hs : Go.Proofs.Ytfaknkkaegjdaaa.esub σ' σ) (h : VX P n w0 ρ c R d σ' Ω) : VX P n w0 ρ c R d σ Ω :=
  fun Q hQ a W he hi => h Q hQ a W (he.sub hs) hi
theorem VX.gather {c : Code} (k : Nat) (ids : List Nat) {l : List Mem} (hg : cgets Ω ids = some l) (h : Seps (muns l) l → VX P n w0 ρ c R d σ ((k, muns l) :: cdels Ω ids)) : VX P n w0 ρ c R d σ Ω :=
  fun Q hQ a W he hi => h (hi.gather k hg).2 Q hQ a W he (hi.gather k hg).1
theorem VX.parts {c : Code} (i : Nat) (ids : List Nat) {m : Mem} {l : List Mem} (hm : cget Ω i = some m) (hl : Seps m l) (h : VX P n w0 ρ c R d σ (ids.zip l ++ cdel Ω i)) : VX P n w0 ρ c R d σ Ω :=
  VX.inv _ (fun W hW => hW.parts hm hl ids) h
theorem VX.loop {G : Type} {c : Code} (S : G → Env) (C : G → Ctx) (I : G → Prop) (μ : G → Nat) (g0 : G) (h0 : I g0) (h1 : To w0 (S g0) (C g0) σ Ω)
    (round : ∀ g, I g → VX P n w0 ρ c (thenX (fun d' σ' Ω' => d' = d ∧ ∃ g', I g' ∧ μ g' < μ g ∧ To w0 (S g') (C g') σ' Ω') R) d (S g) (C g)) : VX P n w0 ρ (.loop c) R d σ Ω :=
  fun Q hQ a W he hi => wpIn_loop (fun a W => ∃ k, ∃ g b, I g ∧ μ g = k ∧ EnvOk n (S g) b ∧ Inv w0 (C g) W ∧ a = wd b (dl d)) (fun a W => leastOf (fun k => ∃ g b, I g ∧ μ g = k ∧ EnvOk n (S g) b ∧ Inv w0 (C g) W ∧ a = wd b (dl d)))
    ⟨μ g0, g0, a, h0, rfl, he.sub h1.env, h1.inv W hi, rfl⟩ (by
    intro a W hI
    obtain ⟨hsp, hmin⟩ := leastOf_spec hI
    obtain ⟨g, b, hg, hm, he, hi, rfl⟩ := hsp
    refine round g hg _ (fun d' e σ' Ω' a' W' hr he hi => ?_) b W he hi
    cases e with
    | normal =>
      obtain ⟨rfl, g', hI', hlt, ht⟩ := hr
      have h2 : ∃ k, ∃ g b, I g ∧ μ g = k ∧ EnvOk n (S g) b ∧ Inv w0 (C g) W' ∧ wd a' (dl d') = wd b (dl d') := ⟨μ g', g', a', hI', rfl, he.sub ht.env, ht.inv W' hi, rfl⟩
      exact ⟨h2, Nat.lt_of_le_of_lt ((leastOf_spec h2).2 _ ⟨g', a', hI', rfl, he.sub ht.env, ht.inv W' hi, rfl⟩) (by omega)⟩
    | exit id => exact hQ _ _ σ' Ω' a' W' hr he hi
    | goto l => exact hQ _ _ σ' Ω' a' W' hr he hi
    | ret => exact hQ _ _ σ' Ω' a' W' hr he hi
    | panic ch => exact hQ _ _ σ' Ω' a' W' hr he hi
    | outgrown => exact hQ _ _ σ' Ω' a' W' hr he hi)
end
section
variable {P : Program} {n : Nat} {w0 : World} {σ : Env} {Ω : Ctx} {ρ d : Option Nat} {R : Option Nat → Exit → Env → Ctx → Prop}
theorem VX.regD {id : Nat} {l : List Oper} (ΩS : Ctx) (t : Nat) (sched : List (Nat × Bool)) (hm : P.follows .mixedOrders = true) (hs : okSched l.toArray t sched = true) (hΩ : ∀ W, Inv w0 Ω W → Inv w0 ΩS W)
    (h : VD P n w0 l.toArray ΩS t sched σ Ω (R d .normal)) (hnd : noDefer l.toArray = true := by kernel_rfl) : VX P n w0 ρ (.region id l.toArray true) R d σ Ω :=
  fun Q hQ a W he hi => by
    unfold okSched at hs
    simp only [Bool.and_eq_true, Bool.or_eq_true] at hs
    obtain ⟨⟨⟨h0, h1⟩, h2⟩, h3⟩ := hs
    have h4 : t < l.toArray.size → Region.sinkB .any l.toArray t = true ∧ Region.chainB .any l.toArray t = true := fun hlt => by
      rcases h2 with h2 | h2
      · have := Nat.le_of_ble_eq_true h2; omega
      · exact h2
    let Q' : Exit → Act → World → Prop := fun e a w => e = .normal ∧ ∃ σ' Ω', R d .normal σ' Ω' ∧ EnvOk n σ' a ∧ Inv w0 Ω' w
    have := h Q' (fun _ _ _ hq => by cases hq.1) (fun σ' Ω' a W hk he hi => ⟨rfl, σ', Ω', hk, he, hi⟩) (Array.replicate l.toArray.size false) a W.drew he hi.drew (hΩ W hi).drew.cur h3 (HeadInv.start _ _) h1 h4
    rw [Nat.eq_of_beq_eq_true h0] at this
    have hA := wpAny_of_T (S := fun L w => Inv w0 (curS l.toArray ΩS L) w) (t := t) _ _ _ _ this
    refine wpIn_region_draw fun t' => ops_in hnd (Q := Q') (fun _ _ _ q => by cases q.1) (fun _ _ q => by cases q.1) (fun a w ⟨_, σ', Ω', hk, he, hi⟩ => hQ _ _ σ' Ω' a w hk he hi) _ a _ ?_
    simp only [Region.schedule, hm, Bool.true_or, if_true]
    exact wpAny_sound _ t' _ a _ hA
end
def YldR (P : Program) (l : Nat) (args : List Value) (W : World) (m : Mem) (Post : Value → Mem → Prop) : Prop :=
  YieldAt Fence.wide 0 P l args.toArray W fun e W' => ∃ v m', e = .returned v ∧ Post v m' ∧ Upd W m W' m'
section
variable (P : Program) (n : Nat) (w0 : World)
def VL (ops : Array Oper) (l : List Nat) (σ : Env) (Ω : Ctx) (K : Env → Ctx → Prop) : Prop :=
  ∀ Q : Exit → Act → World → Prop, (∀ σ' Ω' a W, K σ' Ω' → EnvOk n σ' a → Inv w0 Ω' W → Q .normal a W) → ∀ a W, EnvOk n σ a → Inv w0 Ω W → wpOpsIn (fen none) 0 P ops Q l a W
end
section
variable {P : Program} {n : Nat} {w0 : World} {σ : Env} {Ω : Ctx} {ops : Array Oper} {K : Env → Ctx → Prop} {R : Option Nat → Exit → Env → Ctx → Prop}
theorem ops_pre {Q Q' : Exit → Act → World → Prop} (hd : noDefer ops = true) (hp : ∀ c a w, ¬ Q (.panic c) a w) (ho : ∀ a w, ¬ Q .outgrown a w) {r : List Nat}
    (hQ : ∀ a w, Q .normal a w → wpOpsIn (fen none) 0 P ops Q' r a w) : ∀ (l : List Nat) (a : Act) (w : World), wpOps P ops Q l a w → wpOpsIn (fen none) 0 P ops Q' (l ++ r) a w
  | [], a, w, h => hQ a w h
  | i :: rest, a, w, h => by
    have ih := ops_pre hd hp ho hQ rest
    simp only [wpOps] at h
    simp only [wpOpsIn, List.cons_append]
    cases hi : ops[i]? with
    | none => rw [hi] at h; exact ih a w h
    | some o =>
      rw [hi] at h
      dsimp only at h ⊢
      by_cases hw : Region.wanted o (yielded ops a.tmps) = true
      · rw [if_pos hw] at h ⊢
        have h := h.resolve_right fun q => by obtain ⟨a', w', hq⟩ := q.2; exact ho _ _ hq
        refine ⟨fun _ _ => trivial, ?_⟩
        rw [show (fen none).round = none from rfl, Oper.semAt_none]
        unfold Oper.wp at h
        generalize (execOp a.eval o).run P w = q at h ⊢
        cases q with
        | ok n w' =>
          cases n with
          | value v => exact ih _ _ h
          | skip => exact ih _ _ h
          | enter f args =>
            refine ⟨fun q => (by cases q), CallsIn.mono (callsIn_wide.2 h) ?_⟩
            intro e w'' hr
            cases e with
            | returned v => exact ih _ _ hr
            | panicked c => exact absurd hr (hp _ _ _)
            | outgrown => obtain ⟨a', w3, hq⟩ := hr; exact absurd hq (ho _ _)
          | row row args => exact ⟨fun q => (by cases q), RowsIn.mono (rows_in (ρ := none) h) fun v w'' hr => ih _ _ hr⟩
          | defer d => exact ih _ _ h
          | _ => exact h.elim
        | halt e w' =>
          cases e with
          | panic v => exact absurd h (hp _ _ _)
          | _ => exact h.elim
      · rw [if_neg hw] at h ⊢
        exact ⟨fun _ _ => trivial, ih _ _ h⟩
theorem VL.of {l : List Oper} (k : Nat) (hl : ∀ j o, l[j]? = some o → ops[k + j]? = some o) (hd : noDefer ops = true) {r : List Nat} (h : VO P n w0 ops l σ Ω (fun σ' Ω' => VL P n w0 ops r σ' Ω' K)) : VL P n w0 ops (List.range' k l.length ++ r) σ Ω K :=
  fun Q hQ a W he hi => ops_pre hd (Q := fun e a W => e = .normal ∧ ∃ σ' Ω', VL P n w0 ops r σ' Ω' K ∧ EnvOk n σ' a ∧ Inv w0 Ω' W) (fun _ _ _ q => by cases q.1) (fun _ _ q => by cases q.1) (fun a W ⟨_, σ', Ω', hk, he, hi⟩ => hk Q hQ a W he hi) _ a W (wpOps_list l k a W hl (h.ops he hi))
theorem VL.nil (h : K σ Ω) : VL P n w0 ops [] σ Ω K := fun _ hQ a W he hi => hQ σ Ω a W h he hi
theorem VL.yield {i : Nat} {r : List Nat} {d : Nat} {x : Operand} {xs : List Operand} {ats : Array TypeId} {ty : TypeId} {pos : String} {af : Array Edge} {gd : Option (Nat × Bool)} {l : Nat} {vs : List Value} {m : Mem} {Post : Value → Mem → Prop} (c : Nat)
    (ho : ops[i]? = some ⟨some d, .call { callee := .value x, args := xs.toArray, argTypes := ats }, ty, pos, af, gd⟩) (hd : Nat.blt d n = true) (hg : gd = none ∨ ∃ j b, gd = some (j, b) ∧ gyes σ ops j b) (hx : ev σ x = some (.func (.yield l) #[] #[]))
    (ha : evs σ xs = some vs) (hm : cget Ω c = some m) (hy : ∀ W, Inv w0 Ω W → YldR P l vs W m Post) (h : ∀ v m', Post v m' → VL P n w0 ops r ((d, v) :: σ) (cset Ω c m') K) : VL P n w0 ops (i :: r) σ Ω K :=
  fun Q hQ a W he hi => by
    unfold wpOpsIn
    rw [ho]
    dsimp only
    have hw : Region.wanted ⟨some d, .call { callee := .value x, args := xs.toArray, argTypes := ats }, ty, pos, af, gd⟩ (yielded ops a.tmps) = true := by
      rcases hg with rfl | ⟨j, b, rfl, hj⟩
      · rfl
      · simp [Region.wanted, yielded_of he hj]
    rw [if_pos hw]
    refine ⟨fun _ _ => trivial, ?_⟩
    rw [show (fen none).round = none from rfl, Oper.semAt_none]
    obtain ⟨fn, tmps, assign, body, h1, h2⟩ := hy W hi
    have e : execOp a.eval ⟨some d, .call { callee := .value x, args := xs.toArray, argTypes := ats }, ty, pos, af, gd⟩ = Instr.yield l vs.toArray := by
      have e1 : a.eval x = .func (.yield l) #[] #[] := he.eval hx
      have e2 : #[] ++ xs.toArray.map a.eval ++ #[] = vs.toArray := by rw [← he.evals ha]; simp
      rw [← e2]
      show (do let d ← Deferred.ofValue (a.eval x) (xs.toArray.map a.eval); invoke d.target d.args) = _
      rw [e1]; rfl
    rw [e, h1]
    refine ⟨fun q => (by cases q), RoundIn.mono h2 ?_⟩
    rintro e' W' ⟨v, m', rfl, hp, hu⟩
    exact h v m' hp Q hQ _ W' (he.put hd v) (hi.upd hm hu)
theorem VL.skip {i : Nat} {r : List Nat} {d : Nat} {op : Op} {ty : TypeId} {pos : String} {af : Array Edge} {j : Nat} {b : Bool} (ho : ops[i]? = some ⟨some d, op, ty, pos, af, some (j, b)⟩) (hd : Nat.blt d n = true) (hg : gyes σ ops j (!b)) (h : VL P n w0 ops r ((d, undef) :: σ) Ω K) : VL P n w0 ops (i :: r) σ Ω K :=
  fun Q hQ a W he hi => by
    unfold wpOpsIn
    rw [ho]
    dsimp only
    have hw : ¬ Region.wanted ⟨some d, op, ty, pos, af, some (j, b)⟩ (yielded ops a.tmps) = true := by
      simp [Region.wanted, yielded_of he hg]
    rw [if_neg hw]
    exact ⟨fun _ _ => trivial, h Q hQ _ W (he.put hd _) hi⟩
end
theorem Inv.hd {w0 W : World} {Ω : Ctx} {i : Nat} {m : Mem} (h : Inv w0 ((i, m) :: Ω) W) : mle m (wm W) ∧ (∀ p ∈ Ω, mdj m p.2) ∧ Inv w0 Ω W :=
  ⟨h.le _ (.head _), (List.pairwise_cons.1 h.dj).1, h.tl⟩
theorem Inv.move {w0 W W' : World} {Ω : Ctx} (h : Inv w0 Ω W) (ho : W'.os = W.os) (ht : W'.tape = W.tape) (hu : W'.output = W.output) (hs : W.heap.size ≤ W'.heap.size) (hl : ∀ p ∈ Ω, mle p.2 (wm W')) : Inv w0 Ω W' :=
  ⟨ho.trans h.os, ht.trans h.tape, hu.trans h.output, Nat.le_trans h.size hs, hl, h.dj⟩
section
variable {P : Program} {n : Nat} {w0 : World} {σ : Env} {Ω : Ctx} {K : Env → Ctx → Prop} {R : Option Nat → Exit → Env → Ctx → Prop}
theorem VL.pre {l0 : List Oper} (k : Nat) {r : List Nat} (hd : noDefer l0.toArray = true) (h : VO P n w0 l0.toArray (l0.take k) σ Ω (fun σ' Ω' => VL P n w0 l0.toArray r σ' Ω' K)) : VL P n w0 l0.toArray (List.range' 0 (l0.take k).length ++ r) σ Ω K :=
  VL.of 0 (fun j o h' => by
    have hj : j < k := by
      rcases Nat.lt_or_ge j k with q | q
      · exact q
      · rw [List.getElem?_eq_none (by rw [List.length_take]; omega)] at h'; cases h'
    rw [List.getElem?_take_of_lt hj] at h'
    simpa using h') hd h
theorem VL.post {l0 : List Oper} (k : Nat) {r : List Nat} (hr : List.range' k (l0.drop k).length = r) (hd : noDefer l0.toArray = true) (h : VO P n w0 l0.toArray (l0.drop k) σ Ω K) : VL P n w0 l0.toArray r σ Ω K := by
  have := VL.of (P := P) (n := n) (w0 := w0) (σ := σ) (Ω := Ω) (K := K) (ops := l0.toArray) (l := l0.drop k) (r := []) k (fun j o h' => by rw [List.getElem?_drop] at h'; simpa using h') hd
    (fun Q hQ a W he hi => h Q (fun σ' Ω' a W hk he hi => hQ σ' Ω' a W (VL.nil hk) he hi) a W he hi)
  rw [List.append_nil, hr] at this
  exact this
end
end
section
theorem Inv.sbK {w0 W : World} {Ω ΩS : Ctx} (l : List Nat) (h : Inv w0 Ω W) (e : csub Ω l = ΩS := by kernel_rfl) : Inv w0 ΩS W := e ▸ h.sub l
theorem VD.kp {P : Program} {n : Nat} {w0 : World} {σ : Env} {Ω ΩS : Ctx} {ops : Array Oper} {K : Env → Ctx → Prop} {t : Nat} {l : List (Nat × Bool)} (ids : List Nat) (Ω' : Ctx) (h : VD P n w0 ops ΩS t l σ Ω' K) (hk : csub Ω ids = Ω' := by kernel_rfl) : VD P n w0 ops ΩS t l σ Ω K :=
  VD.inv _ (fun W hW => hk ▸ hW.sub ids) h
section
variable (P : Program) (n : Nat) (w0 : World)
def VE (ops : Array Oper) (ΩS : Ctx) (t : Nat) (listed : Array Bool) (m : Nat) (σ : Env) (Ω : Ctx) (K : Env → Ctx → Prop) : Prop :=
  ∀ Q : Exit → Act → World → Prop, (∀ c a w, ¬ Q (.panic c) a w) → (∀ σ' Ω' a W, K σ' Ω' → EnvOk n σ' a → Inv w0 Ω' W → Q .normal a W) →
    ∀ a W, EnvOk n σ a → Inv w0 Ω W → Inv w0 (curS ops ΩS listed) W → HeadInv .any ops t listed → Region.noSelect ops = true → (t < ops.size → Region.sinkB .any ops t = true ∧ Region.chainB .any ops t = true) → wpAnyT P ops Q (fun L w => Inv w0 (curS ops ΩS L) w) t (m + (ops.size - t)) listed a W
end
section
variable {P : Program} {n : Nat} {w0 : World} {σ : Env} {Ω ΩS : Ctx} {ops : Array Oper} {t : Nat} {K : Env → Ctx → Prop}
theorem VE.y {listed : Array Bool} {m : Nat} (i : Nat) {d : Nat} {op : Op} {ty : TypeId} {pos : String} {af : Array Edge} {gd : Option (Nat × Bool)} {v : Value} (hd : Nat.blt d n = true) (ho : ops[i]? = some ⟨some d, op, ty, pos, af, gd⟩)
    (hg : gd = none ∨ ∃ j b, gd = some (j, b) ∧ gyes σ ops j b) (hk : (Nat.blt i t && (Region.ready .any ops listed).contains i && Region.free .any ops listed i) = true) (hy : Yld P n w0 σ (lowS ΩS) ⟨some d, op, ty, pos, af, gd⟩ v) (h : VE P n w0 ops ΩS t (listed.setIfInBounds i true) m ((d, v) :: σ) Ω K) : VE P n w0 ops ΩS t listed (m + 1) σ Ω K :=
  fun Q hn hQ a W he hi hiS hh hsel hsc => by
    simp only [Bool.and_eq_true] at hk
    obtain ⟨⟨hit, hr⟩, hf⟩ := hk
    have hit' : i < t := by simpa using hit
    have hr' : i ∈ Region.ready .any ops listed := by simpa using hr
    have hyi : YieldsIf P ops (Inv w0 (lowS ΩS)) ⟨some d, op, ty, pos, af, gd⟩ v a := by
      refine .inl ⟨?_, fun w hw => hy a w he hw⟩
      rcases hg with rfl | ⟨j, b, rfl, hg⟩
      · simp [Region.wanted]
      · simp [Region.wanted, yielded_of he hg]
    rw [show m + 1 + (ops.size - t) = (m + (ops.size - t)) + 1 by omega]
    have hns : isSt ops i = false := by unfold isSt; rw [ho]
    exact wpAnyT_first ho hit' (Nat.lt_or_ge t ops.size) (Region.noSelect_spec hsel) (fun _ _ _ _ q => q.curLow) (fun L w => by rw [curS_set hns]) (fun c a w hq => absurd hq (hn c _ w)) (fun h => (hsc h).1) (fun h => (hsc h).2) _ listed a W hh (Region.free_spec ho hf) hr' hyi hiS
      (h Q hn hQ _ W (he.put hd v) hi (by rw [curS_set hns]; exact hiS) (hh.set hr' hit') hsel hsc)
def AllL {α : Type} (p : α → Prop) : List α → Prop
  | [] => True
  | a :: r => p a ∧ AllL p r
theorem AllL.mem {α : Type} {p : α → Prop} : ∀ {l : List α}, AllL p l → ∀ a ∈ l, p a
  | _ :: _, ⟨h, _⟩, _, .head _ => h
  | _ :: _, ⟨_, h⟩, _, .tail _ ha => h.mem _ ha
def regEB (ops : Array Oper) (t : Nat) : Bool := Nat.ble t ops.size && Region.noSelect ops && (Nat.ble ops.size t || (Region.sinkB .any ops t && Region.chainB .any ops t))
theorem VE.start {l : List Oper} (ΩS : Ctx) (t : Nat) (hs : regEB l.toArray t = true) (hΩ : ∀ W, Inv w0 Ω W → Inv w0 ΩS W) (h : VE P n w0 l.toArray ΩS t (Array.replicate l.toArray.size false) t σ Ω K) (Q : Exit → Act → World → Prop) (hn : ∀ c a w, ¬ Q (.panic c) a w)
    (hQ : ∀ σ' Ω' a W, K σ' Ω' → EnvOk n σ' a → Inv w0 Ω' W → Q .normal a W) (a : Act) (W : World) (he : EnvOk n σ a) (hi : Inv w0 Ω W) : wpAny P .any l.toArray Q l.toArray.size (Array.replicate l.toArray.size false) a W := by
  simp only [regEB, Bool.and_eq_true, Bool.or_eq_true] at hs
  obtain ⟨⟨h0, h1⟩, h2⟩ := hs
  have hle := Nat.le_of_ble_eq_true h0
  have := h Q hn hQ a W he hi (hΩ W hi).cur (HeadInv.start _ _) h1 (fun hlt => by
    rcases h2 with h2 | h2
    · have := Nat.le_of_ble_eq_true h2; omega
    · exact h2)
  rw [show t + (l.toArray.size - t) = l.toArray.size by omega] at this
  exact wpAny_of_T _ _ _ _ this
theorem VC.regE {id : Nat} {l : List Oper} {R : Exit → Env → Ctx → Prop} (ΩS : Ctx) (t : Nat) (hm : P.follows .mixedOrders = true) (hs : regEB l.toArray t = true) (hΩ : ∀ W, Inv w0 Ω W → Inv w0 ΩS W)
    (h : VE P n w0 l.toArray ΩS t (Array.replicate l.toArray.size false) t σ Ω (R .normal)) : VC P n w0 (.region id l.toArray true) R σ Ω :=
  fun Q hQ a W he hi => by
    let Q' : Exit → Act → World → Prop := fun e a w => match e with | .normal => Q .normal a w | _ => False
    refine wp_mono (Q := Q') ?_ (fun e a w hq => by cases e <;> first | exact hq | exact hq.elim)
    exact wp_region_any hm (h.start ΩS t hs hΩ Q' (fun _ _ _ hq => hq) (fun σ' Ω' a W hk => hQ _ σ' Ω' a W hk) a W.drew he hi.drew)
theorem VX.regE {id : Nat} {l : List Oper} {ρ d : Option Nat} {R : Option Nat → Exit → Env → Ctx → Prop} (ΩS : Ctx) (t : Nat) (hm : P.follows .mixedOrders = true) (hs : regEB l.toArray t = true) (hΩ : ∀ W, Inv w0 Ω W → Inv w0 ΩS W)
    (h : VE P n w0 l.toArray ΩS t (Array.replicate l.toArray.size false) t σ Ω (R d .normal)) (hnd : noDefer l.toArray = true := by kernel_rfl) : VX P n w0 ρ (.region id l.toArray true) R d σ Ω :=
  fun Q hQ a W he hi => by
    let Q' : Exit → Act → World → Prop := fun e a w => e = .normal ∧ ∃ σ' Ω', R d .normal σ' Ω' ∧ EnvOk n σ' a ∧ Inv w0 Ω' w
    have hA := h.start ΩS t hs hΩ Q' (fun _ _ _ hq => by cases hq.1) (fun σ' Ω' a W hk he hi => ⟨rfl, σ', Ω', hk, he, hi⟩) a W.drew he hi.drew
    refine wpIn_region_draw fun t' => ops_in hnd (Q := Q') (fun _ _ _ q => by cases q.1) (fun _ _ q => by cases q.1) (fun a w ⟨_, σ', Ω', hk, he, hi⟩ => hQ _ _ σ' Ω' a w hk he hi) _ a _ ?_
    simp only [Region.schedule, hm, Bool.true_or, if_true]
    exact wpAny_sound _ t' _ a _ hA
end
end
section
section
variable {P : Program} {n : Nat} {w0 : World} {σ : Env} {Ω ΩS : Ctx} {ops : Array Oper} {K : Env → Ctx → Prop}
theorem VD.store {tt q : Nat} {ss : List (Nat × Bool)} {ty : TypeId} {pos : String} {af : Array Edge} {t : TypeId} {x y : Operand} {g off : Nat} {v : Value} {k : Nat} (i : Nat) {c : Array Value} {E : TypeId} {c' : List Value}
    (ho : ops[q]? = some ⟨none, .store t x y, ty, pos, af, none⟩)
    (hx : ev σ x = some (.pointer (some ⟨g, off, none⟩))) (hy : ev σ y = some v) (ht : tk P t = some (some k) ∨ (tk P t = some none ∧ k = 1)) (hk : Nat.beq v.cells.size k = true) (hn : nice v = true)
    (hm : cget Ω i = some (mone g (.cells c E (0, 0)))) (hl : Nat.ble (off + k) c.size = true) (hc : splice c.toList off v.cells.toList = c')
    (hS : ∀ W, Inv w0 (cset Ω i (mone g (.cells c'.toArray E (0, 0)))) W → Inv w0 ΩS W)
    (h : VD P n w0 ops ΩS tt ss σ (cset Ω i (mone g (.cells c'.toArray E (0, 0)))) K) : VD P n w0 ops ΩS tt ((q, false) :: ss) σ Ω K :=
  VD.s (fun _ => σ) ho (fun _ _ he => he) (.inl rfl) (Stp.store i hx hy ht hk hn hm (mone_self _ _) hl) (fun _ _ ⟨_, hΩ⟩ W hW => hS W (by rw [hΩ, mset_one, hc] at hW; exact hW)) (fun _ _ ⟨_, hΩ⟩ => by rw [hΩ, mset_one, hc]; exact h)
end
def KeptA (sz : Nat) (m : Mem) (v : Value) (len : Nat) (cs : List Value) : Prop := ∃ A cap, v = .slice A len cap ∧ len ≤ cap ∧ cap ≤ maxLen ∧ ((len = 0 ∧ cs = []) ∨ ∃ g off, A = some ⟨g, off, none⟩ ∧ cellsAt m g off (len * sz) cs)
theorem KeptA.rd {e : Ty} {m : Mem} {A : Option Addr} {c : Nat} {cs : List Value} {xs : List e.Den} (h : KeptA e.sz m (.slice A xs.length c) xs.length cs) (hc : All2c (Rd e m) cs xs) : Rd (.sl e) m [.slice A xs.length c] xs := by
  obtain ⟨A', c', h1, h2, h3, h4⟩ := h
  simp only [Value.slice.injEq, true_and] at h1
  obtain ⟨rfl, rfl⟩ := h1
  refine ⟨_, _, rfl, h2, h3, ?_⟩
  rcases h4 with ⟨h4, _⟩ | ⟨g, off, h4, h5⟩
  · exact .inl h4
  · exact .inr ⟨g, off, cs, h4, h5, hc⟩
end
section
set_option linter.unusedVariables false
section
variable (P : Program) (n : Nat) (w0 : World)
def VI (ops : Array Oper) (ΩS : Ctx) (t : Nat) (listed : Array Bool) (m i : Nat) (σ : Env) (Ω : Ctx) (K : Env → Ctx → Prop) : Prop :=
  ∀ Q : Exit → Act → World → Prop, (∀ c a w, ¬ Q (.panic c) a w) → (∀ σ' Ω' a W, K σ' Ω' → EnvOk n σ' a → Inv w0 Ω' W → Q .normal a W) →
    ∀ a W, EnvOk n σ a → Inv w0 Ω W → HeadInv .any ops t listed → Region.noSelect ops = true → (t < ops.size → Region.sinkB .any ops t = true ∧ Region.chainB .any ops t = true) → i ∈ Region.ready .any ops listed → i < t →
    wpOp P ops Q i (fun a' w' => (i < t → Inv w0 (curS ops ΩS (listed.setIfInBounds i true)) w') ∧ wpAnyT P ops Q (fun L w => Inv w0 (curS ops ΩS L) w) t (m + (ops.size - t)) (listed.setIfInBounds i true) a' w') a W
end
section
variable {P : Program} {n : Nat} {w0 : World} {σ : Env} {Ω ΩS : Ctx} {ops : Array Oper} {t : Nat} {K : Env → Ctx → Prop} {listed : Array Bool} {m : Nat}
def nextB (ops : Array Oper) (t : Nat) (listed : Array Bool) (is : List Nat) : Bool := Region.ready .any ops listed == is && is.all (fun i => Nat.blt i t) && !is.isEmpty
theorem VE.tree (is : List Nat) (hr : nextB ops t listed is = true) (h : AllL (fun i => VI P n w0 ops ΩS t listed m i σ Ω K) is) : VE P n w0 ops ΩS t listed (m + 1) σ Ω K :=
  fun Q hn hQ a W he hi hiS hh hsel hsc => by
    simp only [nextB, Bool.and_eq_true, beq_iff_eq, List.all_eq_true, Bool.not_eq_true'] at hr
    obtain ⟨⟨h1, h2⟩, h3⟩ := hr
    rw [show m + 1 + (ops.size - t) = (m + (ops.size - t)) + 1 by omega]
    refine ⟨fun h0 => (by rw [h1] at h0; rw [h0] at h3; cases h3), fun j hj => ?_⟩
    have hj' := hj
    rw [h1] at hj'
    exact h.mem j hj' Q hn hQ a W he hi hh hsel hsc hj (by simpa using h2 j hj')
theorem VE.nil {l : List Oper} (ho : okHead.okTail ops (ops.size - t) t listed = true) (hl : ops.toList.drop t = l) (h : VO P n w0 ops l σ Ω K) (ht : Nat.ble t ops.size = true) : VE P n w0 ops ΩS t listed 0 σ Ω K :=
  fun Q _ hQ a W he hi _ hh _ _ => by
    have htl := Nat.le_of_ble_eq_true ht
    subst hl
    have := wpAnyT_tail (P := P) (Q := Q) (S := fun L w => Inv w0 (curS ops ΩS L) w) (ops.size - t) t listed a W ho (Nat.le_refl _) (by omega) (h Q hQ a W he hi)
    simpa using this
theorem VE.inv (Ω' : Ctx) (hs : ∀ W, Inv w0 Ω W → Inv w0 Ω' W) (h : VE P n w0 ops ΩS t listed m σ Ω' K) : VE P n w0 ops ΩS t listed m σ Ω K :=
  fun Q hn hQ a W he hi => h Q hn hQ a W he (hs W hi)
theorem VI.inv {i : Nat} (Ω' : Ctx) (hs : ∀ W, Inv w0 Ω W → Inv w0 Ω' W) (h : VI P n w0 ops ΩS t listed m i σ Ω' K) : VI P n w0 ops ΩS t listed m i σ Ω K :=
  fun Q hn hQ a W he hi => h Q hn hQ a W he (hs W hi)
theorem VE.gather (k : Nat) (ids : List Nat) {l : List Mem} (hg : cgets Ω ids = some l) (h : Seps (muns l) l → VE P n w0 ops ΩS t listed m σ ((k, muns l) :: cdels Ω ids) K) : VE P n w0 ops ΩS t listed m σ Ω K :=
  fun Q hn hQ a W he hi => h (hi.gather k hg).2 Q hn hQ a W he (hi.gather k hg).1
theorem VI.gather {i : Nat} (k : Nat) (ids : List Nat) {l : List Mem} (hg : cgets Ω ids = some l) (h : Seps (muns l) l → VI P n w0 ops ΩS t listed m i σ ((k, muns l) :: cdels Ω ids) K) : VI P n w0 ops ΩS t listed m i σ Ω K :=
  fun Q hn hQ a W he hi => h (hi.gather k hg).2 Q hn hQ a W he (hi.gather k hg).1
theorem VE.kp (ids : List Nat) (Ω' : Ctx) (h : VE P n w0 ops ΩS t listed m σ Ω' K) (hk : csub Ω ids = Ω' := by kernel_rfl) : VE P n w0 ops ΩS t listed m σ Ω K :=
  VE.inv _ (fun W hW => hk ▸ hW.sub ids) h
theorem VI.s {i : Nat} {o : Oper} {Φ : Value → Ctx → Prop} (σ' : Value → Env) (ho : ops[i]? = some o) (hσ : ∀ v a, EnvOk n σ a → EnvOk n (σ' v) (a.put o.dst v))
    (hg : o.guard = none ∨ ∃ j b, o.guard = some (j, b) ∧ gyes σ ops j b) (hs : Stp P n w0 σ Ω o Φ) (hS : ∀ v Ω', Φ v Ω' → ∀ W, Inv w0 Ω' W → Inv w0 ΩS W)
    (h : ∀ v Ω', Φ v Ω' → VE P n w0 ops ΩS t (listed.setIfInBounds i true) m (σ' v) Ω' K) : VI P n w0 ops ΩS t listed m i σ Ω K :=
  fun Q hn hQ a W he hi hh hsel hsc hr' hit' => by
    unfold wpOp
    simp only [ho]
    have hw : Region.wanted o (yielded ops a.tmps) = true := by
      rcases hg with hg | ⟨k, b, hg, hy⟩
      · simp [Region.wanted, hg]
      · simp [Region.wanted, hg, yielded_of he hy]
    rw [if_pos hw]
    exact .inl (hs a W he hi _ Q fun v Ω' W' hv hi' => ⟨fun _ => (hS v Ω' hv W' hi').cur, h v Ω' hv Q hn hQ _ W' (hσ v a he) hi' (hS v Ω' hv W' hi').cur (hh.set hr' hit') hsel hsc⟩)
theorem VI.callN {i : Nat} {listed : Array Bool} {mm : Nat} {d : Nat} {f : FuncId} {xs : List Operand} {ats : Array TypeId} {ty : TypeId} {pos : String} {af : Array Edge} {gd : Option (Nat × Bool)} {vs : List Value} {Post : Value → Mem → Prop}
    (j : Nat) (hd : Nat.blt d n = true) (ho : ops[i]? = some ⟨some d, .call { callee := .value (.func f), args := xs.toArray, argTypes := ats }, ty, pos, af, gd⟩) (hg : gd = none ∨ ∃ j b, gd = some (j, b) ∧ gyes σ ops j b) (hf : fnOk P f = true)
    (ha : evs σ xs = some vs) (hS : ∀ W, Inv w0 Ω W → Inv w0 ΩS W) (hc : ∀ W, Inv w0 Ω W → CallR P f vs W mnil Post) (h : ∀ v m', Post v m' → VE P n w0 ops ΩS t (listed.setIfInBounds i true) mm ((d, v) :: σ) ((j, m') :: Ω) K) : VI P n w0 ops ΩS t listed mm i σ Ω K :=
  VI.s (fun v => (d, v) :: σ) ho (fun v _ he => he.put hd v) hg (Stp.callN j hf ha hc) (fun _ _ ⟨_, _, hΩ⟩ W hW => hS W (by subst hΩ; exact hW.tl)) (fun v _ ⟨m', hp, hΩ⟩ => hΩ ▸ h v m' hp)
theorem VI.call {t : Nat} {i : Nat} {listed : Array Bool} {mm : Nat} {d : Nat} {f : FuncId} {xs : List Operand} {ats : Array TypeId} {ty : TypeId} {pos : String} {af : Array Edge} {gd : Option (Nat × Bool)} {vs : List Value} {Post : Value → Mem → Prop}
    (j : Nat) {m : Mem} (hd : Nat.blt d n = true) (ho : ops[i]? = some ⟨some d, .call { callee := .value (.func f), args := xs.toArray, argTypes := ats }, ty, pos, af, gd⟩) (hg : gd = none ∨ ∃ j b, gd = some (j, b) ∧ gyes σ ops j b) (hf : fnOk P f = true)
    (ha : evs σ xs = some vs) (hm : cget Ω j = some m) (hS : ∀ m' W, Inv w0 (cset Ω j m') W → Inv w0 ΩS W) (hc : ∀ W, Inv w0 Ω W → CallR P f vs W m Post) (h : ∀ v m', Post v m' → VE P n w0 ops ΩS t (listed.setIfInBounds i true) mm ((d, v) :: σ) (cset Ω j m') K) : VI P n w0 ops ΩS t listed mm i σ Ω K :=
  VI.s (fun v => (d, v) :: σ) ho (fun v _ he => he.put hd v) hg (Stp.call j hf ha hm hc) (fun _ _ ⟨m', _, hΩ⟩ W hW => hS m' W (by subst hΩ; exact hW)) (fun v _ ⟨m', hp, hΩ⟩ => hΩ ▸ h v m' hp)
theorem VI.bsl {i : Nat} {ty : TypeId} {pos : String} {af : Array Edge} {listed : Array Bool} {mm : Nat} {dd : Nat} {t' e : TypeId} {s b len : Nat} {l : List (Nat × Operand)} {ps : List (Nat × Value)} {z cs : List Value} (j : Nat) (hd : Nat.blt dd n = true) (ho : ops[i]? = some ⟨some dd, .buildSlice t' len l.toArray, ty, pos, af, none⟩)
    (hl : evp σ l = some ps) (ht : tsl P t' = some (e, s, b)) (hz : tz P e = some z)
    (hsmall : Nat.ble (len * s) 16777216 = true) (hb : bld (fun i => some (i * s, s)) ((List.range (len * s)).map fun j => z.toArray[j % z.toArray.size]!) ps = some cs) (hS : ∀ W, Inv w0 Ω W → Inv w0 ΩS W)
    (h : ∀ g, VE P n w0 ops ΩS t (listed.setIfInBounds i true) mm ((dd, .slice (some ⟨g, 0, none⟩) len len) :: σ) ((j, mone g (.cells cs.toArray e (0, 0))) :: Ω) K) : VI P n w0 ops ΩS t listed mm i σ Ω K :=
  VI.s (fun v => (dd, v) :: σ) ho (fun v _ he => he.put hd v) (.inl rfl) (Stp.bsl j hl ht hz hsmall hb) (fun _ _ ⟨_, _, hΩ⟩ W hW => hS W (by subst hΩ; exact hW.tl)) (fun _ _ ⟨g, hv, hΩ⟩ => hv ▸ hΩ ▸ h g)
theorem VI.alloc {tt i : Nat} {listed : Array Bool} {mm : Nat} {dd : Nat} {t : TypeId} {ty : TypeId} {pos : String} {af : Array Edge} {z : List Value} (j : Nat) (hd : Nat.blt dd n = true) (ho : ops[i]? = some ⟨some dd, .alloc t, ty, pos, af, none⟩) (hz : tz P t = some z) (hS : ∀ g W, Inv w0 ((j, mone g (.cells z.toArray t (0, 0))) :: Ω) W → Inv w0 ΩS W)
    (h : ∀ g, VE P n w0 ops ΩS tt (listed.setIfInBounds i true) mm ((dd, .pointer (some ⟨g, 0, none⟩)) :: σ) ((j, mone g (.cells z.toArray t (0, 0))) :: Ω) K) : VI P n w0 ops ΩS tt listed mm i σ Ω K :=
  VI.s (fun v => (dd, v) :: σ) ho (fun v _ he => he.put hd v) (.inl rfl) (Stp.alloc j hz) (fun _ _ ⟨g, _, hΩ⟩ W hW => hS g W (by subst hΩ; exact hW)) (fun _ _ ⟨g, hv, hΩ⟩ => hv ▸ hΩ ▸ h g)
theorem VI.box {tt i : Nat} {listed : Array Bool} {mm : Nat} {dd : Nat} {t : TypeId} {x : Operand} {v : Value} {ty : TypeId} {pos : String} {af : Array Edge} {cs : List Value} (j : Nat) (hd : Nat.blt dd n = true) (ho : ops[i]? = some ⟨some dd, .box t x, ty, pos, af, none⟩) (hx : ev σ x = some v) (hc : v.cells = cs.toArray) (hS : ∀ g W, Inv w0 ((j, mone g (.cells cs.toArray t (0, 0))) :: Ω) W → Inv w0 ΩS W)
    (h : ∀ g, VE P n w0 ops ΩS tt (listed.setIfInBounds i true) mm ((dd, .pointer (some ⟨g, 0, none⟩)) :: σ) ((j, mone g (.cells cs.toArray t (0, 0))) :: Ω) K) : VI P n w0 ops ΩS tt listed mm i σ Ω K :=
  VI.s (fun v => (dd, v) :: σ) ho (fun v _ he => he.put hd v) (.inl rfl) (Stp.box j hx) (fun _ _ ⟨g, _, hΩ⟩ W hW => hS g W (by subst hΩ; rw [hc] at hW; exact hW)) (fun _ _ ⟨g, hv, hΩ⟩ => by rw [hv, hΩ, hc]; exact h g)
theorem VI.app {tt q : Nat} {listed : Array Bool} {mm : Nat} {ty : TypeId} {pos : String} {af : Array Edge} {s x : Operand} {t xt e : TypeId} {sz b len k dd : Nat} {v xv : Value} {cs xs z : List Value} (i : Nat) {m m0 : Mem} (hd : Nat.blt dd n = true) (ho : ops[q]? = some ⟨some dd, .call { callee := .builtin .append, args := [s, x].toArray, argTypes := [t, xt].toArray }, ty, pos, af, none⟩) (hsv : ev σ s = some v) (hxv : ev σ x = some xv) (ht : tsl P t = some (e, sz, b)) (hz : tz P e = some z) (hzl : z.length = sz)
    (hm : cget Ω i = some m) (hm0 : mle m0 m) (hown : OwnA sz m0 v len cs) (hs : Src P Ω sz xt xv k xs) (h1 : ∀ u ∈ xs, u.oneCell' = true) (hml : len + k ≤ maxLen) (hb : (len + k) * b ≤ 140737488355328) (hb0 : b ≠ 0) (hS : ∀ m' W, Inv w0 (cset Ω i m') W → Inv w0 ΩS W)
    (h : ∀ v' m', OwnA sz m' v' (len + k) (cs ++ xs) → VE P n w0 ops ΩS tt (listed.setIfInBounds q true) mm ((dd, v') :: σ) (cset Ω i m') K) : VI P n w0 ops ΩS tt listed mm q σ Ω K :=
  VI.s (fun v => (dd, v) :: σ) ho (fun v _ he => he.put hd v) (.inl rfl) (Stp.app i hsv hxv ht hz hzl hm hm0 hown hs h1 hml hb hb0) (fun _ _ ⟨m', _, hΩ⟩ W hW => hS m' W (by subst hΩ; exact hW)) (fun v _ ⟨m', hp, hΩ⟩ => hΩ ▸ h v m' hp)
theorem VI.appO {tt q : Nat} {listed : Array Bool} {mm : Nat} {ty : TypeId} {pos : String} {af : Array Edge} {e : Ty} {s x : Operand} {t xt et xe : TypeId} {b dd g c : Nat} {v : Value} {xs : List e.Den} {y : e.Den} {yc z : List Value} (i j k : Nat) {m mj mk : Mem} (hd : Nat.blt dd n = true) (ho : ops[q]? = some ⟨some dd, .call { callee := .builtin .append, args := [s, x].toArray, argTypes := [t, xt].toArray }, ty, pos, af, none⟩) (hsv : ev σ s = some v) (hxv : ev σ x = some (.slice (some ⟨g, 0, none⟩) 1 c)) (ht : tsl P t = some (et, e.sz, b)) (hz : tz P et = some z) (hzl : z.length = e.sz)
    (hm : cget Ω i = some m) (hj : cget (cdel Ω i) j = some mj) (hk : cget Ω k = some mk) (hown : Ow (.sl e) m [v] xs) (hy : Ow e mj yc y) (hxt : P.underlying xt = some (.slice xe)) (hc : cellsAt mk g 0 e.sz yc) (hml : xs.length + 1 ≤ maxLen) (hb : (xs.length + 1) * b ≤ 140737488355328) (hb0 : b ≠ 0) (hS : ∀ m' W, Inv w0 ((i, m') :: cdel (cdel Ω i) j) W → Inv w0 ΩS W)
    (h : ∀ v' m', Ow (.sl e) m' [v'] (xs ++ [y]) → VE P n w0 ops ΩS tt (listed.setIfInBounds q true) mm ((dd, v') :: σ) ((i, m') :: cdel (cdel Ω i) j) K) : VI P n w0 ops ΩS tt listed mm q σ Ω K :=
  VI.s (fun v => (dd, v) :: σ) ho (fun v _ he => he.put hd v) (.inl rfl) (Stp.appO i j k hsv hxv ht hz hzl hm hj hk hown hy hxt hc hml hb hb0) (fun _ _ ⟨m', _, hΩ⟩ W hW => hS m' W (by subst hΩ; exact hW)) (fun v _ ⟨m', hp, hΩ⟩ => hΩ ▸ h v m' hp)
theorem VI.store {tt q : Nat} {listed : Array Bool} {mm : Nat} {ty : TypeId} {pos : String} {af : Array Edge} {t : TypeId} {x y : Operand} {g off : Nat} {v : Value} {k : Nat} (i : Nat) {c : Array Value} {E : TypeId} {c' : List Value}
    (ho : ops[q]? = some ⟨none, .store t x y, ty, pos, af, none⟩)
    (hx : ev σ x = some (.pointer (some ⟨g, off, none⟩))) (hy : ev σ y = some v) (ht : tk P t = some (some k) ∨ (tk P t = some none ∧ k = 1)) (hk : Nat.beq v.cells.size k = true) (hn : nice v = true)
    (hm : cget Ω i = some (mone g (.cells c E (0, 0)))) (hl : Nat.ble (off + k) c.size = true) (hc : splice c.toList off v.cells.toList = c')
    (hS : ∀ W, Inv w0 (cset Ω i (mone g (.cells c'.toArray E (0, 0)))) W → Inv w0 ΩS W)
    (h : VE P n w0 ops ΩS tt (listed.setIfInBounds q true) mm σ (cset Ω i (mone g (.cells c'.toArray E (0, 0)))) K) : VI P n w0 ops ΩS tt listed mm q σ Ω K :=
  VI.s (fun _ => σ) ho (fun _ _ he => he) (.inl rfl) (Stp.store i hx hy ht hk hn hm (mone_self _ _) hl) (fun _ _ ⟨_, hΩ⟩ W hW => hS W (by rw [hΩ, mset_one, hc] at hW; exact hW)) (fun _ _ ⟨_, hΩ⟩ => by rw [hΩ, mset_one, hc]; exact h)
end
end
section
set_option linter.unusedVariables false
set_option linter.unusedSimpArgs false
set_option maxRecDepth 4000
theorem fnOk83 : fnOk Try.prog 83 = true := by kernel_rfl
theorem fnOk84 : fnOk Try.prog 84 = true := by kernel_rfl
theorem fnOk85 : fnOk Try.prog 85 = true := by kernel_rfl
theorem fnOk86 : fnOk Try.prog 86 = true := by kernel_rfl
set_option maxHeartbeats 1000000 in
theorem takeCalls_ok (W : World) (d0 : Int) (h0 : inK .i64 d0) {v1 : Value} {d1 : List DCommit} (h1 : Rd (.sl TCommit) (wm W) [v1] d1) {v2 : List Value} {d2 : DMessage} (h2 : Rd TMessage (wm W) v2 d2) (d3 : Int) (h3 : inK .i64 d3) (e0 : ∀ c ∈ d1, ∀ o ∈ c.2.2, o.2.1.length ≤ 140737488400000) (e1 : ∀ c ∈ d2.2.2.2.2.2.2.2, ∀ o ∈ c.2.2, o.2.1.length ≤ 140737488400000) : CallR Try.prog 18 [.int .i64 d0, v1, .agg v2.toArray, .int .i64 d3] W (mnil) (fun v m' => v = .bool true) := by
  have h0' := h0; simp only [inK] at h0'
  obtain ⟨A1, c1, rfl, l1, k1⟩ := h1.slice
  simp only [maxLen] at k1
  obtain ⟨p2_A4, p2_c4, p2_A7, p2_c7, rfl, p2_0, p2_1, p2_2, p2_3, p2_4, p2_5, p2_6, p2_7⟩ := open_Message (x0 := d2.1) (x1 := d2.2.1) (x2 := d2.2.2.1) (x3 := d2.2.2.2.1) (x4 := d2.2.2.2.2.1) (x5 := d2.2.2.2.2.2.1) (x6 := d2.2.2.2.2.2.2.1) (x7 := d2.2.2.2.2.2.2.2) h2
  simp only [inK] at p2_0
  simp only [inK] at p2_1
  simp only [inK] at p2_2
  simp only [inK] at p2_3
  have p2_r4 := Rd.room p2_4
  simp only [inK] at p2_5
  simp only [inK] at p2_6
  have p2_r7 := Rd.room p2_7
  have h3' := h3; simp only [inK] at h3'
  refine CallR.ofA (n := 133) Try.func18 rfl rfl rfl ?_
  refine VC.rs ?_
  refine VO.box (cs := [Value.int .i64 (d2.1), Value.int .i64 (d2.2.1), Value.int .u8 (d2.2.2.1), Value.int .i64 (d2.2.2.2.1), Value.slice p2_A4 (d2.2.2.2.2.1.length) (p2_c4), Value.int .i64 (d2.2.2.2.2.2.1), Value.int .i64 (d2.2.2.2.2.2.2.1), Value.slice p2_A7 (d2.2.2.2.2.2.2.2.length) (p2_c7)]) 102 rfl rfl rfl (fun g1 => ?_)
  refine VO.as ?_
  refine VO.k6 0 1 2 3 6 8 ?_
  refine VC.seq ?_
  refine VC.rs ?_
  refine VO.callN 103 rfl fnOk81 rfl (fun W hW => lives18_ok W ) (fun v3 m3 hv3 => ?_)
  subst hv3
  refine VO.y rfl (.not rfl) ?_
  refine VO.k7 0 1 2 3 6 8 24 ?_
  refine VC.condF rfl ?_
  refine VC.skip ?_
  refine outN ?_
  refine VC.seq ?_
  refine VC.rs ?_
  refine VO.mv ?_
  refine VO.callN 104 rfl fnOk82 rfl (fun W hW => small18_ok W (Rd.mono h1 (hW.at (i := 0) rfl))) (fun v4 m4 hv4 => ?_)
  subst hv4
  refine VO.y rfl (.notD rfl) ?_
  refine VO.mv ?_
  refine VO.dec (t := 28) rfl (fun hc5 => ?_) (fun hc5 => ?_)
  · -- T
    refine VO.gN ?_
    refine VO.gN ?_
    refine VO.gN ?_
    refine VO.gN ?_
    refine VO.y rfl (.pT rfl rfl) ?_
    refine VO.mv ?_
    refine VO.gN ?_
    refine VO.gN ?_
    refine VO.gN ?_
    refine VO.gN ?_
    refine VO.y rfl (.pT rfl rfl) ?_
    refine VO.kp [102, 0] [(102, mone g1 (.cells [Value.int .i64 (d2.1), Value.int .i64 (d2.2.1), Value.int .u8 (d2.2.2.1), Value.int .i64 (d2.2.2.2.1), Value.slice p2_A4 (d2.2.2.2.2.1.length) (p2_c4), Value.int .i64 (d2.2.2.2.2.2.1), Value.int .i64 (d2.2.2.2.2.2.2.1), Value.slice p2_A7 (d2.2.2.2.2.2.2.2.length) (p2_c7)].toArray 72 (0, 0))), (0, wm W)] ?_
    refine VO.k8 0 1 2 3 6 8 24 39 ?_
    refine VC.condT rfl ?_
    refine VC.rs ?_
    refine VO.as ?_
    refine VO.k8 0 1 2 3 6 8 24 39 ?_
    refine VC.ret ?_
    refine outR ?_
    refine ⟨_, _, res_run (rs := [.tmp 8]) rfl (.tmp rfl .nil), fun W_ hI => out_of (l := []) hI [] rfl rfl (mle_refl _) (fun hS_ => ?_)⟩
    dsimp only [packV]
    all_goals (first | rfl | (simp [*]; done))
  · -- F
    refine VO.gy rfl ⟨_, rfl, rfl⟩ (.fa rfl tst72 rfl) ?_
    refine VO.gy rfl ⟨_, rfl, rfl⟩ (.ld1 102 rfl tk61 rfl (cellsAt_one rfl rfl)) ?_
    refine VO.gcallN 106 rfl ⟨_, rfl, rfl⟩ fnOk82 rfl (fun W hW => small18_ok W (Rd.mono p2_7 (hW.at (i := 0) rfl))) (fun v6 m6 hv6 => ?_)
    subst hv6
    refine VO.gy rfl ⟨_, rfl, rfl⟩ (.notD rfl) ?_
    refine VO.y rfl (.pF rfl rfl) ?_
    refine VO.mv ?_
    refine VO.dec (t := 34) rfl (fun hc7 => ?_) (fun hc7 => ?_)
    · -- FT
      refine VO.gN ?_
      refine VO.gN ?_
      refine VO.gN ?_
      refine VO.gN ?_
      refine VO.y rfl (.pT rfl rfl) ?_
      refine VO.kp [102, 0] [(102, mone g1 (.cells [Value.int .i64 (d2.1), Value.int .i64 (d2.2.1), Value.int .u8 (d2.2.2.1), Value.int .i64 (d2.2.2.2.1), Value.slice p2_A4 (d2.2.2.2.2.1.length) (p2_c4), Value.int .i64 (d2.2.2.2.2.2.1), Value.int .i64 (d2.2.2.2.2.2.2.1), Value.slice p2_A7 (d2.2.2.2.2.2.2.2.length) (p2_c7)].toArray 72 (0, 0))), (0, wm W)] ?_
      refine VO.k8 0 1 2 3 6 8 24 39 ?_
      refine VC.condT rfl ?_
      refine VC.rs ?_
      refine VO.as ?_
      refine VO.k8 0 1 2 3 6 8 24 39 ?_
      refine VC.ret ?_
      refine outR ?_
      refine ⟨_, _, res_run (rs := [.tmp 8]) rfl (.tmp rfl .nil), fun W_ hI => out_of (l := []) hI [] rfl rfl (mle_refl _) (fun hS_ => ?_)⟩
      dsimp only [packV]
      all_goals (first | rfl | (simp [*]; done))
    · -- FF
      refine VO.gy rfl ⟨_, rfl, rfl⟩ (.fa rfl tst72 rfl) ?_
      refine VO.gy rfl ⟨_, rfl, rfl⟩ (.ld1 102 rfl tk70 rfl (cellsAt_one rfl rfl)) ?_
      refine VO.gy rfl ⟨_, rfl, rfl⟩ (.lenS rfl tsl70) ?_
      refine VO.gy rfl ⟨_, rfl, rfl⟩ (.gtr rfl rfl) ?_
      refine VO.y rfl (.pF rfl rfl) ?_
      refine VO.kp [102, 0] [(102, mone g1 (.cells [Value.int .i64 (d2.1), Value.int .i64 (d2.2.1), Value.int .u8 (d2.2.2.1), Value.int .i64 (d2.2.2.2.1), Value.slice p2_A4 (d2.2.2.2.2.1.length) (p2_c4), Value.int .i64 (d2.2.2.2.2.2.1), Value.int .i64 (d2.2.2.2.2.2.2.1), Value.slice p2_A7 (d2.2.2.2.2.2.2.2.length) (p2_c7)].toArray 72 (0, 0))), (0, wm W)] ?_
      refine VO.k8 0 1 2 3 6 8 24 39 ?_
      refine VC.cond rfl (fun hc8 => ?_) (fun hc8 => ?_)
      · -- FFT
        refine VC.rs ?_
        refine VO.as ?_
        refine VO.k8 0 1 2 3 6 8 24 39 ?_
        refine VC.ret ?_
        refine outR ?_
        refine ⟨_, _, res_run (rs := [.tmp 8]) rfl (.tmp rfl .nil), fun W_ hI => out_of (l := []) hI [] rfl rfl (mle_refl _) (fun hS_ => ?_)⟩
        dsimp only [packV]
        all_goals (first | rfl | (simp [*]; done))
      · -- FFF
        refine VC.skip ?_
        refine outN ?_
        refine VC.seq ?_
        refine VC.regE [(102, mone g1 (.cells [Value.int .i64 (d2.1), Value.int .i64 (d2.2.1), Value.int .u8 (d2.2.2.1), Value.int .i64 (d2.2.2.2.1), Value.slice p2_A4 (d2.2.2.2.2.1.length) (p2_c4), Value.int .i64 (d2.2.2.2.2.2.1), Value.int .i64 (d2.2.2.2.2.2.2.1), Value.slice p2_A7 (d2.2.2.2.2.2.2.2.length) (p2_c7)].toArray 72 (0, 0))), (0, wm W)] 5 follows (by kernel_rfl) (fun _ h => h.sub [102, 0]) ?_
        refine VE.y 0 rfl rfl (.inl rfl) (by kernel_rfl) (.mv rfl) ?_
        refine VE.y 2 rfl rfl (.inl rfl) (by kernel_rfl) (.ldA 102 rfl tk72 rfl (cellsAt_one rfl rfl)) ?_
        refine VE.tree [1, 4] (by kernel_rfl) ⟨?_, ?_, trivial⟩
        · -- FFF0
          refine VI.callN 109 rfl rfl (.inl rfl) fnOk53 rfl (fun _ h => Inv.sbK [102, 0] h) (fun W hW => LentCommits_ok W (Rd.mono h1 (hW.at (i := 0) rfl)) bd (by exact fun c hc => by have h_ := (Decidable.not_not.1 ‹¬ ¬ ((∀ c ∈ d1, c.2.2.length ≤ 40) ∧ _)›).1 c hc; omega)) (fun v9 m9 hv9 => ?_)
          obtain ⟨s9_0, rfl, f9_0⟩ := hv9
          have hfa10 := lent_len d1
          obtain ⟨A9_0, c9_0, eq9_0, l9_0, k9_0⟩ := f9_0.slice
          subst eq9_0
          simp only [maxLen] at k9_0
          refine VE.tree [3, 4] (by kernel_rfl) ⟨?_, ?_, trivial⟩
          · -- FFF00
            refine VI.callN 111 rfl rfl (.inl rfl) fnOk83 rfl (fun _ h => Inv.sbK [102, 0] h) (fun W hW => LentMessage_ok W (Rd.mono h2 (hW.at (i := 0) rfl)) bd bd (by exact fun c hc => by have h_ := (Decidable.not_not.1 ‹¬ ¬ ((∀ c ∈ d2.2.2.2.2.2.2.2, c.2.2.length ≤ 40) ∧ _)›).1 c hc; omega)) (fun v11 m11 hv11 => ?_)
            obtain ⟨s11_0, rfl, f11_0⟩ := hv11
            obtain ⟨q11_0_A4, q11_0_c4, q11_0_A7, q11_0_c7, q11_0_n4, q11_0_n7, rfl, q11_0_S, q11_0_0, q11_0_1, q11_0_2, q11_0_3, q11_0_4, q11_0_5, q11_0_6, q11_0_7⟩ := openO_LMessage (x0 := d2.1) (x1 := d2.2.1) (x2 := d2.2.2.1) (x3 := d2.2.2.2.1) (x4 := (d2.2.2.2.2.1, spareS)) (x5 := d2.2.2.2.2.2.1) (x6 := d2.2.2.2.2.2.2.1) (x7 := (d2.2.2.2.2.2.2.2.map lentC, spareC)) f11_0
            simp only [inK] at q11_0_0
            simp only [inK] at q11_0_1
            simp only [inK] at q11_0_2
            simp only [inK] at q11_0_3
            have q11_0_f4 := (Rd.full (q11_0_4.rd (mle_refl _))).2
            have q11_0_s4 := Rd.pre2 q11_0_f4
            have q11_0_r4 := Rd.room q11_0_f4
            dsimp only at q11_0_f4 q11_0_s4 q11_0_r4
            have q11_0_o4 := (Ow.full q11_0_4).2
            have q11_0_p4 := Ow.pre2 q11_0_o4
            dsimp only at q11_0_o4 q11_0_p4
            simp only [inK] at q11_0_5
            simp only [inK] at q11_0_6
            have q11_0_f7 := (Rd.full (q11_0_7.rd (mle_refl _))).2
            have q11_0_s7 := Rd.pre2 q11_0_f7
            have q11_0_r7 := Rd.room q11_0_f7
            have q11_0_m7 : (d2.2.2.2.2.2.2.2.map lentC).length = d2.2.2.2.2.2.2.2.length := List.length_map ..
            dsimp only at q11_0_f7 q11_0_s7 q11_0_r7
            have q11_0_o7 := (Ow.full q11_0_7).2
            have q11_0_p7 := Ow.pre2 q11_0_o7
            dsimp only at q11_0_o7 q11_0_p7
            refine VE.inv _ (fun _ h => h.parts (i := 111) rfl q11_0_S [112, 113]) ?_
            refine VE.tree [4] (by kernel_rfl) ⟨?_, trivial⟩
            refine VI.alloc 115 rfl rfl tz72 (fun _ _ h => Inv.sbK [102, 0] h) (fun g14 => ?_)
            refine VE.nil (by kernel_rfl) rfl ?_ rfl
            refine VO.as ?_
            refine VO.store (k := 8) 115 rfl rfl (.inl tk72) rfl rfl rfl rfl rfl ?_
            refine VO.k10 0 1 2 3 6 8 9 10 24 39 ?_
            refine outN ?_
            refine VC.seq ?_
            refine VC.regD _ 11 [(0, true), (1, true), (2, true), (3, true), (4, true), (5, true), (6, false), (7, true), (8, true), (9, true), (10, true)] follows (by kernel_rfl) (fun _ h => h.sub [115, 112, 113, 109, 102, 0]) ?_
            refine VD.y rfl rfl (.inl rfl) (.mv rfl) ?_
            refine VD.y rfl rfl (.inl rfl) (.mv rfl) ?_
            refine VD.y rfl rfl (.inl rfl) (.mv rfl) ?_
            refine VD.y rfl rfl (.inl rfl) (.lenS rfl tsl61) ?_
            have hs16 := (Ow.rd f9_0 (mle_refl _)).pre (j := d1.length) bd
            refine VD.y rfl rfl (.inl rfl) (.slHI d1.length rfl rfl tsl61 rfl bd) ?_
            refine VD.y rfl rfl (.inl rfl) (.ldA 115 rfl tk72 rfl (cellsAt_one rfl rfl)) ?_
            refine VD.callN 117 rfl rfl (.inl rfl) fnOk78 rfl (fun _ h => h.sub [115, 112, 113, 109, 102, 0]) (fun W hW => take_ok W d0 bdk (lent_rd (Ow.rd (f9_0.pre (j := d1.length) bd) (hW.at (i := 109) rfl))) (show Rd TMessage _ _ d2 from (mk_Message (m := wm W) d2.1 d2.2.1 d2.2.2.1 d2.2.2.2.1 d2.2.2.2.2.1 d2.2.2.2.2.2.1 d2.2.2.2.2.2.2.1 d2.2.2.2.2.2.2.2 bdk bdk bdk bdk (OwnL.rd (Ow.ownl q11_0_p4 rfl mnil) (hW.at (i := 112) rfl) (mle_nil _)) bdk bdk (lentm_rd (Ow.rd q11_0_p7 (hW.at (i := 113) rfl)))))) (fun v17 m17 hv17 => ?_)
            obtain ⟨s17_0, rfl, f17_0⟩ := hv17
            obtain ⟨A17_0, c17_0, eq17_0, l17_0, k17_0⟩ := f17_0.slice
            subst eq17_0
            simp only [maxLen] at k17_0
            refine VD.y rfl rfl (.inl rfl) (.mv rfl) ?_
            refine VD.y rfl rfl (.inl rfl) (.ext rfl rfl) ?_
            refine VD.y rfl rfl (.inl rfl) (.ext rfl rfl) ?_
            refine VD.y rfl rfl (.inl rfl) (.as rfl) ?_
            refine VD.nil rfl ?_ rfl
            refine VO.as ?_
            refine VO.k12 0 1 2 3 6 8 9 10 11 12 24 39 ?_
            refine outN ?_
            refine VC.rs ?_
            refine VO.mv ?_
            refine VO.mv ?_
            refine VO.y rfl (.ldA 102 rfl tk72 rfl (cellsAt_one rfl rfl)) ?_
            refine VO.callN 118 rfl fnOk84 rfl (fun W hW => take18_ok W d0 bdk (Rd.mono h1 (hW.at (i := 0) rfl)) (Rd.mono h2 (hW.at (i := 0) rfl))) (fun v18 m18 hv18 => ?_)
            obtain ⟨s18_0, rfl, f18_0⟩ := hv18
            obtain ⟨A18_0, c18_0, eq18_0, l18_0, k18_0⟩ := f18_0.slice
            subst eq18_0
            simp only [maxLen] at k18_0
            refine VO.mv ?_
            refine VO.y rfl (.ext rfl rfl) ?_
            refine VO.y rfl (.ext rfl rfl) ?_
            refine VO.as ?_
            refine VO.as ?_
            refine VO.kp [118, 117, 115, 112, 113, 109, 102, 0] [(118, m18), (117, m17), (115, mone g14 (.cells [Value.int .i64 (d2.1), Value.int .i64 (d2.2.1), Value.int .u8 (d2.2.2.1), Value.int .i64 (d2.2.2.2.1), Value.slice q11_0_A4 (d2.2.2.2.2.1.length) (q11_0_c4), Value.int .i64 (d2.2.2.2.2.2.1), Value.int .i64 (d2.2.2.2.2.2.2.1), Value.slice q11_0_A7 ((d2.2.2.2.2.2.2.2.map lentC).length) (q11_0_c7)].toArray 72 (0, 0))), (112, q11_0_n4), (113, q11_0_n7), (109, m9), (102, mone g1 (.cells [Value.int .i64 (d2.1), Value.int .i64 (d2.2.1), Value.int .u8 (d2.2.2.1), Value.int .i64 (d2.2.2.2.1), Value.slice p2_A4 (d2.2.2.2.2.1.length) (p2_c4), Value.int .i64 (d2.2.2.2.2.2.1), Value.int .i64 (d2.2.2.2.2.2.2.1), Value.slice p2_A7 (d2.2.2.2.2.2.2.2.length) (p2_c7)].toArray 72 (0, 0))), (0, wm W)] ?_
            refine VO.k14 0 1 2 3 6 8 9 10 11 12 13 14 24 39 ?_
            refine VC.seq ?_
            refine VC.regD _ 11 [(0, true), (1, true), (2, true), (3, true), (4, true), (5, true), (6, false), (7, true), (8, true), (9, true), (10, true)] follows (by kernel_rfl) (fun _ h => h.sub [118, 117, 115, 112, 113, 109, 102, 0]) ?_
            refine VD.y rfl rfl (.inl rfl) (.mv rfl) ?_
            refine VD.y rfl rfl (.inl rfl) (.mv rfl) ?_
            refine VD.y rfl rfl (.inl rfl) (.mv rfl) ?_
            refine VD.y rfl rfl (.inl rfl) (.lenS rfl tsl61) ?_
            have hs19 := (Ow.rd f9_0 (mle_refl _)).pre (j := d1.length) bd
            refine VD.y rfl rfl (.inl rfl) (.slHI d1.length rfl rfl tsl61 rfl bd) ?_
            refine VD.y rfl rfl (.inl rfl) (.ldA 115 rfl tk72 rfl (cellsAt_one rfl rfl)) ?_
            refine VD.callN 120 rfl rfl (.inl rfl) fnOk78 rfl (fun _ h => h.sub [118, 117, 115, 112, 113, 109, 102, 0]) (fun W hW => take_ok W d0 bdk (lent_rd (Ow.rd (f9_0.pre (j := d1.length) bd) (hW.at (i := 109) rfl))) (show Rd TMessage _ _ d2 from (mk_Message (m := wm W) d2.1 d2.2.1 d2.2.2.1 d2.2.2.2.1 d2.2.2.2.2.1 d2.2.2.2.2.2.1 d2.2.2.2.2.2.2.1 d2.2.2.2.2.2.2.2 bdk bdk bdk bdk (OwnL.rd (Ow.ownl q11_0_p4 rfl mnil) (hW.at (i := 112) rfl) (mle_nil _)) bdk bdk (lentm_rd (Ow.rd q11_0_p7 (hW.at (i := 113) rfl)))))) (fun v20 m20 hv20 => ?_)
            obtain ⟨s20_0, rfl, f20_0⟩ := hv20
            obtain ⟨A20_0, c20_0, eq20_0, l20_0, k20_0⟩ := f20_0.slice
            subst eq20_0
            simp only [maxLen] at k20_0
            refine VD.y rfl rfl (.inl rfl) (.mv rfl) ?_
            refine VD.y rfl rfl (.inl rfl) (.ext rfl rfl) ?_
            refine VD.y rfl rfl (.inl rfl) (.ext rfl rfl) ?_
            refine VD.y rfl rfl (.inl rfl) (.as rfl) ?_
            refine VD.nil rfl ?_ rfl
            refine VO.as ?_
            refine VO.k15 0 1 2 3 6 8 9 10 11 12 13 14 15 24 39 ?_
            refine outN ?_
            refine VC.rs ?_
            refine VO.mv ?_
            refine VO.mv ?_
            refine VO.y rfl (.ldA 115 rfl tk72 rfl (cellsAt_one rfl rfl)) ?_
            refine VO.callN 121 rfl fnOk80 rfl (fun W hW => known_ok W d0 bdk d3 bdk (show Rd TMessage _ _ d2 from (mk_Message (m := wm W) d2.1 d2.2.1 d2.2.2.1 d2.2.2.2.1 d2.2.2.2.2.1 d2.2.2.2.2.2.1 d2.2.2.2.2.2.2.1 d2.2.2.2.2.2.2.2 bdk bdk bdk bdk (OwnL.rd (Ow.ownl q11_0_p4 rfl mnil) (hW.at (i := 112) rfl) (mle_nil _)) bdk bdk (lentm_rd (Ow.rd q11_0_p7 (hW.at (i := 113) rfl)))))) (fun v21 m21 hv21 => ?_)
            subst hv21
            refine VO.mv ?_
            refine VO.y rfl (.ext rfl rfl) ?_
            refine VO.y rfl (.ext rfl rfl) ?_
            refine VO.y rfl (.ext rfl rfl) ?_
            refine VO.as ?_
            refine VO.as ?_
            refine VO.as ?_
            refine VO.k18 0 1 2 3 6 8 9 10 11 12 13 14 15 17 18 19 24 39 ?_
            refine VC.rs ?_
            refine VO.mv ?_
            refine VO.mv ?_
            refine VO.y rfl (.ldA 102 rfl tk72 rfl (cellsAt_one rfl rfl)) ?_
            refine VO.callN 122 rfl fnOk85 rfl (fun W hW => known18_ok W d0 bdk d3 bdk (Rd.mono h2 (hW.at (i := 0) rfl))) (fun v22 m22 hv22 => ?_)
            subst hv22
            refine VO.mv ?_
            refine VO.y rfl (.ext rfl rfl) ?_
            refine VO.y rfl (.ext rfl rfl) ?_
            refine VO.y rfl (.ext rfl rfl) ?_
            refine VO.as ?_
            refine VO.as ?_
            refine VO.as ?_
            refine VO.kp [120, 118, 117, 115, 112, 113, 109, 102, 0] [(120, m20), (118, m18), (117, m17), (115, mone g14 (.cells [Value.int .i64 (d2.1), Value.int .i64 (d2.2.1), Value.int .u8 (d2.2.2.1), Value.int .i64 (d2.2.2.2.1), Value.slice q11_0_A4 (d2.2.2.2.2.1.length) (q11_0_c4), Value.int .i64 (d2.2.2.2.2.2.1), Value.int .i64 (d2.2.2.2.2.2.2.1), Value.slice q11_0_A7 ((d2.2.2.2.2.2.2.2.map lentC).length) (q11_0_c7)].toArray 72 (0, 0))), (112, q11_0_n4), (113, q11_0_n7), (109, m9), (102, mone g1 (.cells [Value.int .i64 (d2.1), Value.int .i64 (d2.2.1), Value.int .u8 (d2.2.2.1), Value.int .i64 (d2.2.2.2.1), Value.slice p2_A4 (d2.2.2.2.2.1.length) (p2_c4), Value.int .i64 (d2.2.2.2.2.2.1), Value.int .i64 (d2.2.2.2.2.2.2.1), Value.slice p2_A7 (d2.2.2.2.2.2.2.2.length) (p2_c7)].toArray 72 (0, 0))), (0, wm W)] ?_
            refine VO.k21 0 1 2 3 6 8 9 10 11 12 13 14 15 17 18 19 20 21 22 24 39 ?_
            refine VC.seq ?_
            refine VC.rs ?_
            refine VO.mv ?_
            refine VO.mv ?_
            refine VO.y rfl (.neq rfl rfl) ?_
            refine VO.mv ?_
            refine VO.dec (t := 90) rfl (fun hc23 => ?_) (fun hc23 => ?_)
            · -- FFF00T
              exact absurd rfl hc23
            · -- FFF00F
              refine VO.gy rfl ⟨_, rfl, rfl⟩ (.mv rfl) ?_
              refine VO.gy rfl ⟨_, rfl, rfl⟩ (.mv rfl) ?_
              refine VO.gy rfl ⟨_, rfl, rfl⟩ (.neq rfl rfl) ?_
              refine VO.y rfl (.pF rfl rfl) ?_
              refine VO.mv ?_
              refine VO.dec (t := 95) rfl (fun hc24 => ?_) (fun hc24 => ?_)
              · -- FFF00FT
                exact absurd rfl hc24
              · -- FFF00FF
                refine VO.gy rfl ⟨_, rfl, rfl⟩ (.mv rfl) ?_
                refine VO.gy rfl ⟨_, rfl, rfl⟩ (.mv rfl) ?_
                refine VO.gy rfl ⟨_, rfl, rfl⟩ (.neq rfl rfl) ?_
                refine VO.y rfl (.pF rfl rfl) ?_
                refine VO.mv ?_
                refine VO.dec (t := 100) rfl (fun hc25 => ?_) (fun hc25 => ?_)
                · -- FFF00FFT
                  exact absurd rfl hc25
                · -- FFF00FFF
                  refine VO.gy rfl ⟨_, rfl, rfl⟩ (.mv rfl) ?_
                  refine VO.gy rfl ⟨_, rfl, rfl⟩ (.mv rfl) ?_
                  refine VO.gy rfl ⟨_, rfl, rfl⟩ (.bneq rfl rfl Try.underlying4) ?_
                  refine VO.y rfl (.pF rfl rfl) ?_
                  refine VO.mv ?_
                  refine VO.dec (t := 105) rfl (fun hc26 => ?_) (fun hc26 => ?_)
                  · -- FFF00FFFT
                    exact absurd rfl hc26
                  · -- FFF00FFFF
                    refine VO.gy rfl ⟨_, rfl, rfl⟩ (.mv rfl) ?_
                    refine VO.gy rfl ⟨_, rfl, rfl⟩ (.mv rfl) ?_
                    refine VO.gcallN 127 rfl ⟨_, rfl, rfl⟩ fnOk69 rfl (fun W hW => SameCommits_ok W (Ow.rd f17_0 (hW.at (i := 117) rfl)) (Ow.rd f18_0 (hW.at (i := 118) rfl))) (fun v27 m27 hv27 => ?_)
                    subst hv27
                    refine VO.gy rfl ⟨_, rfl, rfl⟩ (.notD rfl) ?_
                    refine VO.y rfl (.pF rfl rfl) ?_
                    refine VO.mv ?_
                    refine VO.dec (t := 111) rfl (fun hc28 => ?_) (fun hc28 => ?_)
                    · -- FFF00FFFFT
                      exact absurd rfl hc28
                    · -- FFF00FFFFF
                      refine VO.gy rfl ⟨_, rfl, rfl⟩ (.mv rfl) ?_
                      refine VO.gy rfl ⟨_, rfl, rfl⟩ (.mv rfl) ?_
                      refine VO.gcallN 129 rfl ⟨_, rfl, rfl⟩ fnOk55 rfl (fun W hW => KeptCommits_ok W (Ow.rd f9_0 (hW.at (i := 109) rfl)) (Rd.mono h1 (hW.at (i := 0) rfl)) (by rfl) bd (by exact fun c hc => by have h_ := (Decidable.not_not.1 ‹¬ ¬ ((∀ c ∈ d1, c.2.2.length ≤ 40) ∧ _)›).1 c hc; omega)) (fun v29 m29 hv29 => ?_)
                      subst hv29
                      refine VO.gy rfl ⟨_, rfl, rfl⟩ (.not rfl) ?_
                      refine VO.y rfl (.pF rfl rfl) ?_
                      refine VO.mv ?_
                      refine VO.gy rfl ⟨_, rfl, rfl⟩ (.ldA 115 rfl tk72 rfl (cellsAt_one rfl rfl)) ?_
                      refine VO.gy rfl ⟨_, rfl, rfl⟩ (.ldA 102 rfl tk72 rfl (cellsAt_one rfl rfl)) ?_
                      refine VO.gcallN 130 rfl ⟨_, rfl, rfl⟩ fnOk86 rfl (fun W hW => KeptMessage_ok W (mk_LMessage (m := wm W) d2.1 d2.2.1 d2.2.2.1 d2.2.2.2.1 (d2.2.2.2.2.1, spareS) d2.2.2.2.2.2.1 d2.2.2.2.2.2.2.1 (d2.2.2.2.2.2.2.2.map lentC, spareC) bdk bdk bdk bdk (Rd.mono (Rd.mkSpl (e := TStart) (xs := (d2.2.2.2.2.1, spareS).1) (ys := (d2.2.2.2.2.1, spareS).2) q11_0_f4 rfl) (hW.at (i := 112) rfl)) bdk bdk (Rd.mono (Rd.mkSpl (e := TLCommit) (xs := (d2.2.2.2.2.2.2.2.map lentC, spareC).1) (ys := (d2.2.2.2.2.2.2.2.map lentC, spareC).2) q11_0_f7 rfl) (hW.at (i := 113) rfl))) (Rd.mono h2 (hW.at (i := 0) rfl)) (by rfl) bd bd (by exact fun c hc => by have h_ := (Decidable.not_not.1 ‹¬ ¬ ((∀ c ∈ d2.2.2.2.2.2.2.2, c.2.2.length ≤ 40) ∧ _)›).1 c hc; omega)) (fun v30 m30 hv30 => ?_)
                      try dsimp only at hv30
                      subst hv30
                      refine VO.gy rfl ⟨_, rfl, rfl⟩ (.not rfl) ?_
                      refine VO.y rfl (.pF rfl rfl) ?_
                      refine VO.k22 0 1 2 3 6 8 9 10 11 12 13 14 15 17 18 19 20 21 22 24 39 122 ?_
                      refine VC.condF rfl ?_
                      refine VC.skip ?_
                      refine outN ?_
                      refine VC.seq ?_
                      refine VC.regD _ 8 [(0, true), (1, true), (2, true), (3, true), (4, true), (5, true), (6, true), (7, true)] follows (by kernel_rfl) (fun _ h => h.sub [130, 129, 127, 120, 118, 117, 115, 112, 113, 109, 102, 0]) ?_
                      refine VD.y rfl rfl (.inl rfl) (.mv rfl) ?_
                      refine VD.y rfl rfl (.inl rfl) (.mv rfl) ?_
                      refine VD.y rfl rfl (.inl rfl) (.mv rfl) ?_
                      refine VD.y rfl rfl (.inl rfl) (.mv rfl) ?_
                      refine VD.y rfl rfl (.inl rfl) (.lenS rfl tsl61) ?_
                      have hs31 := (Ow.rd f9_0 (mle_refl _)).pre (j := d1.length) bd
                      refine VD.y rfl rfl (.inl rfl) (.slHI d1.length rfl rfl tsl61 rfl bd) ?_
                      refine VD.y rfl rfl (.inl rfl) (.fa rfl tst72 rfl) ?_
                      refine VD.y rfl rfl (.inl rfl) (.ld1 115 rfl tk61 rfl (cellsAt_one rfl rfl)) ?_
                      refine VD.nil rfl ?_ rfl
                      refine VO.bsl (cs := [Value.slice A17_0 (((takeOf d0 d1 d2).1).length) (c17_0), Value.slice A20_0 (((takeOf d0 d1 d2).1).length) (c20_0), Value.slice A9_0 (d1.length) (c9_0), Value.slice q11_0_A7 ((d2.2.2.2.2.2.2.2.map lentC).length) (q11_0_c7)]) 133 rfl rfl tsl81 tz61 rfl rfl (fun g32 => ?_)
                      refine VO.gather (l := [mone g32 (.cells [Value.slice A17_0 (((takeOf d0 d1 d2).1).length) (c17_0), Value.slice A20_0 (((takeOf d0 d1 d2).1).length) (c20_0), Value.slice A9_0 (d1.length) (c9_0), Value.slice q11_0_A7 ((d2.2.2.2.2.2.2.2.map lentC).length) (q11_0_c7)].toArray 61 (0, 0)), m17, m20, m9, q11_0_n7]) 136 [133, 117, 120, 109, 113] rfl (fun hg35 => ?_)
                      have ho35 : Ow (.sl (.sl TCommit)) (muns [mone g32 (.cells [Value.slice A17_0 (((takeOf d0 d1 d2).1).length) (c17_0), Value.slice A20_0 (((takeOf d0 d1 d2).1).length) (c20_0), Value.slice A9_0 (d1.length) (c9_0), Value.slice q11_0_A7 ((d2.2.2.2.2.2.2.2.map lentC).length) (q11_0_c7)].toArray 61 (0, 0)), m17, m20, m9, q11_0_n7]) [Value.slice (some ⟨g32, 0, none⟩) (4) (4)] [(takeOf d0 d1 d2).1, (takeOf d0 d1 d2).1, d1, d2.2.2.2.2.2.2.2] := Ow.lit 4 (Seps.grp1 (ls := [[m17], [m20], [m9], [q11_0_n7]]) hg35) (OwAs.cons (m := muns [m17]) (c1 := [Value.slice A17_0 (((takeOf d0 d1 d2).1).length) (c17_0)]) (Ow.up f17_0 ((Seps.self hg35 (List.Sublist.cons _ (List.Sublist.cons_cons _ (List.Sublist.cons _ (List.Sublist.cons _ (List.Sublist.cons _ List.Sublist.slnil)))))).1 _ (.head _))) (OwAs.cons (m := muns [m20]) (c1 := [Value.slice A20_0 (((takeOf d0 d1 d2).1).length) (c20_0)]) (Ow.up f20_0 ((Seps.self hg35 (List.Sublist.cons _ (List.Sublist.cons _ (List.Sublist.cons_cons _ (List.Sublist.cons _ (List.Sublist.cons _ List.Sublist.slnil)))))).1 _ (.head _))) (OwAs.cons (m := muns [m9]) (c1 := [Value.slice A9_0 (d1.length) (c9_0)]) (Ow.up (lent_ow (f9_0.pre (j := d1.length) bd)) ((Seps.self hg35 (List.Sublist.cons _ (List.Sublist.cons _ (List.Sublist.cons _ (List.Sublist.cons_cons _ (List.Sublist.cons _ List.Sublist.slnil)))))).1 _ (.head _))) (OwAs.cons (m := muns [q11_0_n7]) (c1 := [Value.slice q11_0_A7 ((d2.2.2.2.2.2.2.2.map lentC).length) (q11_0_c7)]) (Ow.up (lentm_ow q11_0_p7) ((Seps.self hg35 (List.Sublist.cons _ (List.Sublist.cons _ (List.Sublist.cons _ (List.Sublist.cons _ (List.Sublist.cons_cons _ List.Sublist.slnil)))))).1 _ (.head _))) OwAs.nil)))) rfl rfl
                      refine VO.call 136 rfl fnOk76 rfl rfl (fun W hW => ApartCommits_ok W (hW.at (i := 136) rfl) ho35 bd (by exact (four_a (take_le4 _ _ _) (take_le4 _ _ _) (by omega) (by omega)).1) (by exact (four_a (take_le4 _ _ _) (take_le4 _ _ _) (by omega) (by omega)).2) (by exact four_b take_mem take_mem (Decidable.not_not.1 ‹¬ ¬ ((∀ c ∈ d1, c.2.2.length ≤ 40) ∧ _)›).1 (Decidable.not_not.1 ‹¬ ¬ ((∀ c ∈ d2.2.2.2.2.2.2.2, c.2.2.length ≤ 40) ∧ _)›).1 e0 e1)) (fun v34 m34 hv34 => ?_)
                      subst hv34
                      refine VO.as ?_
                      refine VO.k22 0 1 2 3 6 8 9 10 11 12 13 14 15 17 18 19 20 21 22 24 39 122 ?_
                      refine outN ?_
                      refine VC.ret ?_
                      refine ⟨_, _, res_run (rs := [.tmp 8]) rfl (.tmp rfl .nil), fun W_ hI => out_of (l := []) hI [] rfl rfl (mle_refl _) (fun hS_ => ?_)⟩
                      dsimp only [packV]
                      all_goals (first | rfl | (simp [*]; done))
          · -- FFF01
            refine VI.alloc 138 rfl rfl tz72 (fun _ _ h => Inv.sbK [102, 0] h) (fun g37 => ?_)
            refine VE.tree [3] (by kernel_rfl) ⟨?_, trivial⟩
            refine VI.callN 139 rfl rfl (.inl rfl) fnOk83 rfl (fun _ h => Inv.sbK [102, 0] h) (fun W hW => LentMessage_ok W (Rd.mono h2 (hW.at (i := 0) rfl)) bd bd (by exact fun c hc => by have h_ := (Decidable.not_not.1 ‹¬ ¬ ((∀ c ∈ d2.2.2.2.2.2.2.2, c.2.2.length ≤ 40) ∧ _)›).1 c hc; omega)) (fun v39 m39 hv39 => ?_)
            obtain ⟨s39_0, rfl, f39_0⟩ := hv39
            obtain ⟨q39_0_A4, q39_0_c4, q39_0_A7, q39_0_c7, q39_0_n4, q39_0_n7, rfl, q39_0_S, q39_0_0, q39_0_1, q39_0_2, q39_0_3, q39_0_4, q39_0_5, q39_0_6, q39_0_7⟩ := openO_LMessage (x0 := d2.1) (x1 := d2.2.1) (x2 := d2.2.2.1) (x3 := d2.2.2.2.1) (x4 := (d2.2.2.2.2.1, spareS)) (x5 := d2.2.2.2.2.2.1) (x6 := d2.2.2.2.2.2.2.1) (x7 := (d2.2.2.2.2.2.2.2.map lentC, spareC)) f39_0
            simp only [inK] at q39_0_0
            simp only [inK] at q39_0_1
            simp only [inK] at q39_0_2
            simp only [inK] at q39_0_3
            have q39_0_f4 := (Rd.full (q39_0_4.rd (mle_refl _))).2
            have q39_0_s4 := Rd.pre2 q39_0_f4
            have q39_0_r4 := Rd.room q39_0_f4
            dsimp only at q39_0_f4 q39_0_s4 q39_0_r4
            have q39_0_o4 := (Ow.full q39_0_4).2
            have q39_0_p4 := Ow.pre2 q39_0_o4
            dsimp only at q39_0_o4 q39_0_p4
            simp only [inK] at q39_0_5
            simp only [inK] at q39_0_6
            have q39_0_f7 := (Rd.full (q39_0_7.rd (mle_refl _))).2
            have q39_0_s7 := Rd.pre2 q39_0_f7
            have q39_0_r7 := Rd.room q39_0_f7
            have q39_0_m7 : (d2.2.2.2.2.2.2.2.map lentC).length = d2.2.2.2.2.2.2.2.length := List.length_map ..
            dsimp only at q39_0_f7 q39_0_s7 q39_0_r7
            have q39_0_o7 := (Ow.full q39_0_7).2
            have q39_0_p7 := Ow.pre2 q39_0_o7
            dsimp only at q39_0_o7 q39_0_p7
            refine VE.inv _ (fun _ h => h.parts (i := 139) rfl q39_0_S [140, 141]) ?_
            refine VE.nil (by kernel_rfl) rfl ?_ rfl
            refine VO.as ?_
            refine VO.store (k := 8) 138 rfl rfl (.inl tk72) rfl rfl rfl rfl rfl ?_
            refine VO.k10 0 1 2 3 6 8 9 10 24 39 ?_
            refine outN ?_
            refine VC.seq ?_
            refine VC.regD _ 11 [(0, true), (1, true), (2, true), (3, true), (4, true), (5, true), (6, false), (7, true), (8, true), (9, true), (10, true)] follows (by kernel_rfl) (fun _ h => h.sub [140, 141, 138, 109, 102, 0]) ?_
            refine VD.y rfl rfl (.inl rfl) (.mv rfl) ?_
            refine VD.y rfl rfl (.inl rfl) (.mv rfl) ?_
            refine VD.y rfl rfl (.inl rfl) (.mv rfl) ?_
            refine VD.y rfl rfl (.inl rfl) (.lenS rfl tsl61) ?_
            have hs42 := (Ow.rd f9_0 (mle_refl _)).pre (j := d1.length) bd
            refine VD.y rfl rfl (.inl rfl) (.slHI d1.length rfl rfl tsl61 rfl bd) ?_
            refine VD.y rfl rfl (.inl rfl) (.ldA 138 rfl tk72 rfl (cellsAt_one rfl rfl)) ?_
            refine VD.callN 143 rfl rfl (.inl rfl) fnOk78 rfl (fun _ h => h.sub [140, 141, 138, 109, 102, 0]) (fun W hW => take_ok W d0 bdk (lent_rd (Ow.rd (f9_0.pre (j := d1.length) bd) (hW.at (i := 109) rfl))) (show Rd TMessage _ _ d2 from (mk_Message (m := wm W) d2.1 d2.2.1 d2.2.2.1 d2.2.2.2.1 d2.2.2.2.2.1 d2.2.2.2.2.2.1 d2.2.2.2.2.2.2.1 d2.2.2.2.2.2.2.2 bdk bdk bdk bdk (OwnL.rd (Ow.ownl q39_0_p4 rfl mnil) (hW.at (i := 140) rfl) (mle_nil _)) bdk bdk (lentm_rd (Ow.rd q39_0_p7 (hW.at (i := 141) rfl)))))) (fun v43 m43 hv43 => ?_)
            obtain ⟨s43_0, rfl, f43_0⟩ := hv43
            obtain ⟨A43_0, c43_0, eq43_0, l43_0, k43_0⟩ := f43_0.slice
            subst eq43_0
            simp only [maxLen] at k43_0
            refine VD.y rfl rfl (.inl rfl) (.mv rfl) ?_
            refine VD.y rfl rfl (.inl rfl) (.ext rfl rfl) ?_
            refine VD.y rfl rfl (.inl rfl) (.ext rfl rfl) ?_
            refine VD.y rfl rfl (.inl rfl) (.as rfl) ?_
            refine VD.nil rfl ?_ rfl
            refine VO.as ?_
            refine VO.k12 0 1 2 3 6 8 9 10 11 12 24 39 ?_
            refine outN ?_
            refine VC.rs ?_
            refine VO.mv ?_
            refine VO.mv ?_
            refine VO.y rfl (.ldA 102 rfl tk72 rfl (cellsAt_one rfl rfl)) ?_
            refine VO.callN 144 rfl fnOk84 rfl (fun W hW => take18_ok W d0 bdk (Rd.mono h1 (hW.at (i := 0) rfl)) (Rd.mono h2 (hW.at (i := 0) rfl))) (fun v44 m44 hv44 => ?_)
            obtain ⟨s44_0, rfl, f44_0⟩ := hv44
            obtain ⟨A44_0, c44_0, eq44_0, l44_0, k44_0⟩ := f44_0.slice
            subst eq44_0
            simp only [maxLen] at k44_0
            refine VO.mv ?_
            refine VO.y rfl (.ext rfl rfl) ?_
            refine VO.y rfl (.ext rfl rfl) ?_
            refine VO.as ?_
            refine VO.as ?_
            refine VO.kp [144, 143, 140, 141, 138, 109, 102, 0] [(144, m44), (143, m43), (140, q39_0_n4), (141, q39_0_n7), (138, mone g37 (.cells [Value.int .i64 (d2.1), Value.int .i64 (d2.2.1), Value.int .u8 (d2.2.2.1), Value.int .i64 (d2.2.2.2.1), Value.slice q39_0_A4 (d2.2.2.2.2.1.length) (q39_0_c4), Value.int .i64 (d2.2.2.2.2.2.1), Value.int .i64 (d2.2.2.2.2.2.2.1), Value.slice q39_0_A7 ((d2.2.2.2.2.2.2.2.map lentC).length) (q39_0_c7)].toArray 72 (0, 0))), (109, m9), (102, mone g1 (.cells [Value.int .i64 (d2.1), Value.int .i64 (d2.2.1), Value.int .u8 (d2.2.2.1), Value.int .i64 (d2.2.2.2.1), Value.slice p2_A4 (d2.2.2.2.2.1.length) (p2_c4), Value.int .i64 (d2.2.2.2.2.2.1), Value.int .i64 (d2.2.2.2.2.2.2.1), Value.slice p2_A7 (d2.2.2.2.2.2.2.2.length) (p2_c7)].toArray 72 (0, 0))), (0, wm W)] ?_
            refine VO.k14 0 1 2 3 6 8 9 10 11 12 13 14 24 39 ?_
            refine VC.seq ?_
            refine VC.regD _ 11 [(0, true), (1, true), (2, true), (3, true), (4, true), (5, true), (6, false), (7, true), (8, true), (9, true), (10, true)] follows (by kernel_rfl) (fun _ h => h.sub [144, 143, 140, 141, 138, 109, 102, 0]) ?_
            refine VD.y rfl rfl (.inl rfl) (.mv rfl) ?_
            refine VD.y rfl rfl (.inl rfl) (.mv rfl) ?_
            refine VD.y rfl rfl (.inl rfl) (.mv rfl) ?_
            refine VD.y rfl rfl (.inl rfl) (.lenS rfl tsl61) ?_
            have hs45 := (Ow.rd f9_0 (mle_refl _)).pre (j := d1.length) bd
            refine VD.y rfl rfl (.inl rfl) (.slHI d1.length rfl rfl tsl61 rfl bd) ?_
            refine VD.y rfl rfl (.inl rfl) (.ldA 138 rfl tk72 rfl (cellsAt_one rfl rfl)) ?_
            refine VD.callN 146 rfl rfl (.inl rfl) fnOk78 rfl (fun _ h => h.sub [144, 143, 140, 141, 138, 109, 102, 0]) (fun W hW => take_ok W d0 bdk (lent_rd (Ow.rd (f9_0.pre (j := d1.length) bd) (hW.at (i := 109) rfl))) (show Rd TMessage _ _ d2 from (mk_Message (m := wm W) d2.1 d2.2.1 d2.2.2.1 d2.2.2.2.1 d2.2.2.2.2.1 d2.2.2.2.2.2.1 d2.2.2.2.2.2.2.1 d2.2.2.2.2.2.2.2 bdk bdk bdk bdk (OwnL.rd (Ow.ownl q39_0_p4 rfl mnil) (hW.at (i := 140) rfl) (mle_nil _)) bdk bdk (lentm_rd (Ow.rd q39_0_p7 (hW.at (i := 141) rfl)))))) (fun v46 m46 hv46 => ?_)
            obtain ⟨s46_0, rfl, f46_0⟩ := hv46
            obtain ⟨A46_0, c46_0, eq46_0, l46_0, k46_0⟩ := f46_0.slice
            subst eq46_0
            simp only [maxLen] at k46_0
            refine VD.y rfl rfl (.inl rfl) (.mv rfl) ?_
            refine VD.y rfl rfl (.inl rfl) (.ext rfl rfl) ?_
            refine VD.y rfl rfl (.inl rfl) (.ext rfl rfl) ?_
            refine VD.y rfl rfl (.inl rfl) (.as rfl) ?_
            refine VD.nil rfl ?_ rfl
            refine VO.as ?_
            refine VO.k15 0 1 2 3 6 8 9 10 11 12 13 14 15 24 39 ?_
            refine outN ?_
            refine VC.rs ?_
            refine VO.mv ?_
            refine VO.mv ?_
            refine VO.y rfl (.ldA 138 rfl tk72 rfl (cellsAt_one rfl rfl)) ?_
            refine VO.callN 147 rfl fnOk80 rfl (fun W hW => known_ok W d0 bdk d3 bdk (show Rd TMessage _ _ d2 from (mk_Message (m := wm W) d2.1 d2.2.1 d2.2.2.1 d2.2.2.2.1 d2.2.2.2.2.1 d2.2.2.2.2.2.1 d2.2.2.2.2.2.2.1 d2.2.2.2.2.2.2.2 bdk bdk bdk bdk (OwnL.rd (Ow.ownl q39_0_p4 rfl mnil) (hW.at (i := 140) rfl) (mle_nil _)) bdk bdk (lentm_rd (Ow.rd q39_0_p7 (hW.at (i := 141) rfl)))))) (fun v47 m47 hv47 => ?_)
            subst hv47
            refine VO.mv ?_
            refine VO.y rfl (.ext rfl rfl) ?_
            refine VO.y rfl (.ext rfl rfl) ?_
            refine VO.y rfl (.ext rfl rfl) ?_
            refine VO.as ?_
            refine VO.as ?_
            refine VO.as ?_
            refine VO.k18 0 1 2 3 6 8 9 10 11 12 13 14 15 17 18 19 24 39 ?_
            refine VC.rs ?_
            refine VO.mv ?_
            refine VO.mv ?_
            refine VO.y rfl (.ldA 102 rfl tk72 rfl (cellsAt_one rfl rfl)) ?_
            refine VO.callN 148 rfl fnOk85 rfl (fun W hW => known18_ok W d0 bdk d3 bdk (Rd.mono h2 (hW.at (i := 0) rfl))) (fun v48 m48 hv48 => ?_)
            subst hv48
            refine VO.mv ?_
            refine VO.y rfl (.ext rfl rfl) ?_
            refine VO.y rfl (.ext rfl rfl) ?_
            refine VO.y rfl (.ext rfl rfl) ?_
            refine VO.as ?_
            refine VO.as ?_
            refine VO.as ?_
            refine VO.kp [146, 144, 143, 140, 141, 138, 109, 102, 0] [(146, m46), (144, m44), (143, m43), (140, q39_0_n4), (141, q39_0_n7), (138, mone g37 (.cells [Value.int .i64 (d2.1), Value.int .i64 (d2.2.1), Value.int .u8 (d2.2.2.1), Value.int .i64 (d2.2.2.2.1), Value.slice q39_0_A4 (d2.2.2.2.2.1.length) (q39_0_c4), Value.int .i64 (d2.2.2.2.2.2.1), Value.int .i64 (d2.2.2.2.2.2.2.1), Value.slice q39_0_A7 ((d2.2.2.2.2.2.2.2.map lentC).length) (q39_0_c7)].toArray 72 (0, 0))), (109, m9), (102, mone g1 (.cells [Value.int .i64 (d2.1), Value.int .i64 (d2.2.1), Value.int .u8 (d2.2.2.1), Value.int .i64 (d2.2.2.2.1), Value.slice p2_A4 (d2.2.2.2.2.1.length) (p2_c4), Value.int .i64 (d2.2.2.2.2.2.1), Value.int .i64 (d2.2.2.2.2.2.2.1), Value.slice p2_A7 (d2.2.2.2.2.2.2.2.length) (p2_c7)].toArray 72 (0, 0))), (0, wm W)] ?_
            refine VO.k21 0 1 2 3 6 8 9 10 11 12 13 14 15 17 18 19 20 21 22 24 39 ?_
            refine VC.seq ?_
            refine VC.rs ?_
            refine VO.mv ?_
            refine VO.mv ?_
            refine VO.y rfl (.neq rfl rfl) ?_
            refine VO.mv ?_
            refine VO.dec (t := 90) rfl (fun hc49 => ?_) (fun hc49 => ?_)
            · -- FFF01T
              exact absurd rfl hc49
            · -- FFF01F
              refine VO.gy rfl ⟨_, rfl, rfl⟩ (.mv rfl) ?_
              refine VO.gy rfl ⟨_, rfl, rfl⟩ (.mv rfl) ?_
              refine VO.gy rfl ⟨_, rfl, rfl⟩ (.neq rfl rfl) ?_
              refine VO.y rfl (.pF rfl rfl) ?_
              refine VO.mv ?_
              refine VO.dec (t := 95) rfl (fun hc50 => ?_) (fun hc50 => ?_)
              · -- FFF01FT
                exact absurd rfl hc50
              · -- FFF01FF
                refine VO.gy rfl ⟨_, rfl, rfl⟩ (.mv rfl) ?_
                refine VO.gy rfl ⟨_, rfl, rfl⟩ (.mv rfl) ?_
                refine VO.gy rfl ⟨_, rfl, rfl⟩ (.neq rfl rfl) ?_
                refine VO.y rfl (.pF rfl rfl) ?_
                refine VO.mv ?_
                refine VO.dec (t := 100) rfl (fun hc51 => ?_) (fun hc51 => ?_)
                · -- FFF01FFT
                  exact absurd rfl hc51
                · -- FFF01FFF
                  refine VO.gy rfl ⟨_, rfl, rfl⟩ (.mv rfl) ?_
                  refine VO.gy rfl ⟨_, rfl, rfl⟩ (.mv rfl) ?_
                  refine VO.gy rfl ⟨_, rfl, rfl⟩ (.bneq rfl rfl Try.underlying4) ?_
                  refine VO.y rfl (.pF rfl rfl) ?_
                  refine VO.mv ?_
                  refine VO.dec (t := 105) rfl (fun hc52 => ?_) (fun hc52 => ?_)
                  · -- FFF01FFFT
                    exact absurd rfl hc52
                  · -- FFF01FFFF
                    refine VO.gy rfl ⟨_, rfl, rfl⟩ (.mv rfl) ?_
                    refine VO.gy rfl ⟨_, rfl, rfl⟩ (.mv rfl) ?_
                    refine VO.gcallN 153 rfl ⟨_, rfl, rfl⟩ fnOk69 rfl (fun W hW => SameCommits_ok W (Ow.rd f43_0 (hW.at (i := 143) rfl)) (Ow.rd f44_0 (hW.at (i := 144) rfl))) (fun v53 m53 hv53 => ?_)
                    subst hv53
                    refine VO.gy rfl ⟨_, rfl, rfl⟩ (.notD rfl) ?_
                    refine VO.y rfl (.pF rfl rfl) ?_
                    refine VO.mv ?_
                    refine VO.dec (t := 111) rfl (fun hc54 => ?_) (fun hc54 => ?_)
                    · -- FFF01FFFFT
                      exact absurd rfl hc54
                    · -- FFF01FFFFF
                      refine VO.gy rfl ⟨_, rfl, rfl⟩ (.mv rfl) ?_
                      refine VO.gy rfl ⟨_, rfl, rfl⟩ (.mv rfl) ?_
                      refine VO.gcallN 155 rfl ⟨_, rfl, rfl⟩ fnOk55 rfl (fun W hW => KeptCommits_ok W (Ow.rd f9_0 (hW.at (i := 109) rfl)) (Rd.mono h1 (hW.at (i := 0) rfl)) (by rfl) bd (by exact fun c hc => by have h_ := (Decidable.not_not.1 ‹¬ ¬ ((∀ c ∈ d1, c.2.2.length ≤ 40) ∧ _)›).1 c hc; omega)) (fun v55 m55 hv55 => ?_)
                      subst hv55
                      refine VO.gy rfl ⟨_, rfl, rfl⟩ (.not rfl) ?_
                      refine VO.y rfl (.pF rfl rfl) ?_
                      refine VO.mv ?_
                      refine VO.gy rfl ⟨_, rfl, rfl⟩ (.ldA 138 rfl tk72 rfl (cellsAt_one rfl rfl)) ?_
                      refine VO.gy rfl ⟨_, rfl, rfl⟩ (.ldA 102 rfl tk72 rfl (cellsAt_one rfl rfl)) ?_
                      refine VO.gcallN 156 rfl ⟨_, rfl, rfl⟩ fnOk86 rfl (fun W hW => KeptMessage_ok W (mk_LMessage (m := wm W) d2.1 d2.2.1 d2.2.2.1 d2.2.2.2.1 (d2.2.2.2.2.1, spareS) d2.2.2.2.2.2.1 d2.2.2.2.2.2.2.1 (d2.2.2.2.2.2.2.2.map lentC, spareC) bdk bdk bdk bdk (Rd.mono (Rd.mkSpl (e := TStart) (xs := (d2.2.2.2.2.1, spareS).1) (ys := (d2.2.2.2.2.1, spareS).2) q39_0_f4 rfl) (hW.at (i := 140) rfl)) bdk bdk (Rd.mono (Rd.mkSpl (e := TLCommit) (xs := (d2.2.2.2.2.2.2.2.map lentC, spareC).1) (ys := (d2.2.2.2.2.2.2.2.map lentC, spareC).2) q39_0_f7 rfl) (hW.at (i := 141) rfl))) (Rd.mono h2 (hW.at (i := 0) rfl)) (by rfl) bd bd (by exact fun c hc => by have h_ := (Decidable.not_not.1 ‹¬ ¬ ((∀ c ∈ d2.2.2.2.2.2.2.2, c.2.2.length ≤ 40) ∧ _)›).1 c hc; omega)) (fun v56 m56 hv56 => ?_)
                      try dsimp only at hv56
                      subst hv56
                      refine VO.gy rfl ⟨_, rfl, rfl⟩ (.not rfl) ?_
                      refine VO.y rfl (.pF rfl rfl) ?_
                      refine VO.k22 0 1 2 3 6 8 9 10 11 12 13 14 15 17 18 19 20 21 22 24 39 122 ?_
                      refine VC.condF rfl ?_
                      refine VC.skip ?_
                      refine outN ?_
                      refine VC.seq ?_
                      refine VC.regD _ 8 [(0, true), (1, true), (2, true), (3, true), (4, true), (5, true), (6, true), (7, true)] follows (by kernel_rfl) (fun _ h => h.sub [156, 155, 153, 146, 144, 143, 140, 141, 138, 109, 102, 0]) ?_
                      refine VD.y rfl rfl (.inl rfl) (.mv rfl) ?_
                      refine VD.y rfl rfl (.inl rfl) (.mv rfl) ?_
                      refine VD.y rfl rfl (.inl rfl) (.mv rfl) ?_
                      refine VD.y rfl rfl (.inl rfl) (.mv rfl) ?_
                      refine VD.y rfl rfl (.inl rfl) (.lenS rfl tsl61) ?_
                      have hs57 := (Ow.rd f9_0 (mle_refl _)).pre (j := d1.length) bd
                      refine VD.y rfl rfl (.inl rfl) (.slHI d1.length rfl rfl tsl61 rfl bd) ?_
                      refine VD.y rfl rfl (.inl rfl) (.fa rfl tst72 rfl) ?_
                      refine VD.y rfl rfl (.inl rfl) (.ld1 138 rfl tk61 rfl (cellsAt_one rfl rfl)) ?_
                      refine VD.nil rfl ?_ rfl
                      refine VO.bsl (cs := [Value.slice A43_0 (((takeOf d0 d1 d2).1).length) (c43_0), Value.slice A46_0 (((takeOf d0 d1 d2).1).length) (c46_0), Value.slice A9_0 (d1.length) (c9_0), Value.slice q39_0_A7 ((d2.2.2.2.2.2.2.2.map lentC).length) (q39_0_c7)]) 159 rfl rfl tsl81 tz61 rfl rfl (fun g58 => ?_)
                      refine VO.gather (l := [mone g58 (.cells [Value.slice A43_0 (((takeOf d0 d1 d2).1).length) (c43_0), Value.slice A46_0 (((takeOf d0 d1 d2).1).length) (c46_0), Value.slice A9_0 (d1.length) (c9_0), Value.slice q39_0_A7 ((d2.2.2.2.2.2.2.2.map lentC).length) (q39_0_c7)].toArray 61 (0, 0)), m43, m46, m9, q39_0_n7]) 162 [159, 143, 146, 109, 141] rfl (fun hg61 => ?_)
                      have ho61 : Ow (.sl (.sl TCommit)) (muns [mone g58 (.cells [Value.slice A43_0 (((takeOf d0 d1 d2).1).length) (c43_0), Value.slice A46_0 (((takeOf d0 d1 d2).1).length) (c46_0), Value.slice A9_0 (d1.length) (c9_0), Value.slice q39_0_A7 ((d2.2.2.2.2.2.2.2.map lentC).length) (q39_0_c7)].toArray 61 (0, 0)), m43, m46, m9, q39_0_n7]) [Value.slice (some ⟨g58, 0, none⟩) (4) (4)] [(takeOf d0 d1 d2).1, (takeOf d0 d1 d2).1, d1, d2.2.2.2.2.2.2.2] := Ow.lit 4 (Seps.grp1 (ls := [[m43], [m46], [m9], [q39_0_n7]]) hg61) (OwAs.cons (m := muns [m43]) (c1 := [Value.slice A43_0 (((takeOf d0 d1 d2).1).length) (c43_0)]) (Ow.up f43_0 ((Seps.self hg61 (List.Sublist.cons _ (List.Sublist.cons_cons _ (List.Sublist.cons _ (List.Sublist.cons _ (List.Sublist.cons _ List.Sublist.slnil)))))).1 _ (.head _))) (OwAs.cons (m := muns [m46]) (c1 := [Value.slice A46_0 (((takeOf d0 d1 d2).1).length) (c46_0)]) (Ow.up f46_0 ((Seps.self hg61 (List.Sublist.cons _ (List.Sublist.cons _ (List.Sublist.cons_cons _ (List.Sublist.cons _ (List.Sublist.cons _ List.Sublist.slnil)))))).1 _ (.head _))) (OwAs.cons (m := muns [m9]) (c1 := [Value.slice A9_0 (d1.length) (c9_0)]) (Ow.up (lent_ow (f9_0.pre (j := d1.length) bd)) ((Seps.self hg61 (List.Sublist.cons _ (List.Sublist.cons _ (List.Sublist.cons _ (List.Sublist.cons_cons _ (List.Sublist.cons _ List.Sublist.slnil)))))).1 _ (.head _))) (OwAs.cons (m := muns [q39_0_n7]) (c1 := [Value.slice q39_0_A7 ((d2.2.2.2.2.2.2.2.map lentC).length) (q39_0_c7)]) (Ow.up (lentm_ow q39_0_p7) ((Seps.self hg61 (List.Sublist.cons _ (List.Sublist.cons _ (List.Sublist.cons _ (List.Sublist.cons _ (List.Sublist.cons_cons _ List.Sublist.slnil)))))).1 _ (.head _))) OwAs.nil)))) rfl rfl
                      refine VO.call 162 rfl fnOk76 rfl rfl (fun W hW => ApartCommits_ok W (hW.at (i := 162) rfl) ho61 bd (by exact (four_a (take_le4 _ _ _) (take_le4 _ _ _) (by omega) (by omega)).1) (by exact (four_a (take_le4 _ _ _) (take_le4 _ _ _) (by omega) (by omega)).2) (by exact four_b take_mem take_mem (Decidable.not_not.1 ‹¬ ¬ ((∀ c ∈ d1, c.2.2.length ≤ 40) ∧ _)›).1 (Decidable.not_not.1 ‹¬ ¬ ((∀ c ∈ d2.2.2.2.2.2.2.2, c.2.2.length ≤ 40) ∧ _)›).1 e0 e1)) (fun v60 m60 hv60 => ?_)
                      subst hv60
                      refine VO.as ?_
                      refine VO.k22 0 1 2 3 6 8 9 10 11 12 13 14 15 17 18 19 20 21 22 24 39 122 ?_
                      refine outN ?_
                      refine VC.ret ?_
                      refine ⟨_, _, res_run (rs := [.tmp 8]) rfl (.tmp rfl .nil), fun W_ hI => out_of (l := []) hI [] rfl rfl (mle_refl _) (fun hS_ => ?_)⟩
                      dsimp only [packV]
                      all_goals (first | rfl | (simp [*]; done))
        · -- FFF1
          refine VI.alloc 164 rfl rfl tz72 (fun _ _ h => Inv.sbK [102, 0] h) (fun g63 => ?_)
          refine VE.tree [1] (by kernel_rfl) ⟨?_, trivial⟩
          refine VI.callN 165 rfl rfl (.inl rfl) fnOk53 rfl (fun _ h => Inv.sbK [102, 0] h) (fun W hW => LentCommits_ok W (Rd.mono h1 (hW.at (i := 0) rfl)) bd (by exact fun c hc => by have h_ := (Decidable.not_not.1 ‹¬ ¬ ((∀ c ∈ d1, c.2.2.length ≤ 40) ∧ _)›).1 c hc; omega)) (fun v65 m65 hv65 => ?_)
          obtain ⟨s65_0, rfl, f65_0⟩ := hv65
          have hfa66 := lent_len d1
          obtain ⟨A65_0, c65_0, eq65_0, l65_0, k65_0⟩ := f65_0.slice
          subst eq65_0
          simp only [maxLen] at k65_0
          refine VE.tree [3] (by kernel_rfl) ⟨?_, trivial⟩
          refine VI.callN 167 rfl rfl (.inl rfl) fnOk83 rfl (fun _ h => Inv.sbK [102, 0] h) (fun W hW => LentMessage_ok W (Rd.mono h2 (hW.at (i := 0) rfl)) bd bd (by exact fun c hc => by have h_ := (Decidable.not_not.1 ‹¬ ¬ ((∀ c ∈ d2.2.2.2.2.2.2.2, c.2.2.length ≤ 40) ∧ _)›).1 c hc; omega)) (fun v67 m67 hv67 => ?_)
          obtain ⟨s67_0, rfl, f67_0⟩ := hv67
          obtain ⟨q67_0_A4, q67_0_c4, q67_0_A7, q67_0_c7, q67_0_n4, q67_0_n7, rfl, q67_0_S, q67_0_0, q67_0_1, q67_0_2, q67_0_3, q67_0_4, q67_0_5, q67_0_6, q67_0_7⟩ := openO_LMessage (x0 := d2.1) (x1 := d2.2.1) (x2 := d2.2.2.1) (x3 := d2.2.2.2.1) (x4 := (d2.2.2.2.2.1, spareS)) (x5 := d2.2.2.2.2.2.1) (x6 := d2.2.2.2.2.2.2.1) (x7 := (d2.2.2.2.2.2.2.2.map lentC, spareC)) f67_0
          simp only [inK] at q67_0_0
          simp only [inK] at q67_0_1
          simp only [inK] at q67_0_2
          simp only [inK] at q67_0_3
          have q67_0_f4 := (Rd.full (q67_0_4.rd (mle_refl _))).2
          have q67_0_s4 := Rd.pre2 q67_0_f4
          have q67_0_r4 := Rd.room q67_0_f4
          dsimp only at q67_0_f4 q67_0_s4 q67_0_r4
          have q67_0_o4 := (Ow.full q67_0_4).2
          have q67_0_p4 := Ow.pre2 q67_0_o4
          dsimp only at q67_0_o4 q67_0_p4
          simp only [inK] at q67_0_5
          simp only [inK] at q67_0_6
          have q67_0_f7 := (Rd.full (q67_0_7.rd (mle_refl _))).2
          have q67_0_s7 := Rd.pre2 q67_0_f7
          have q67_0_r7 := Rd.room q67_0_f7
          have q67_0_m7 : (d2.2.2.2.2.2.2.2.map lentC).length = d2.2.2.2.2.2.2.2.length := List.length_map ..
          dsimp only at q67_0_f7 q67_0_s7 q67_0_r7
          have q67_0_o7 := (Ow.full q67_0_7).2
          have q67_0_p7 := Ow.pre2 q67_0_o7
          dsimp only at q67_0_o7 q67_0_p7
          refine VE.inv _ (fun _ h => h.parts (i := 167) rfl q67_0_S [168, 169]) ?_
          refine VE.nil (by kernel_rfl) rfl ?_ rfl
          refine VO.as ?_
          refine VO.store (k := 8) 164 rfl rfl (.inl tk72) rfl rfl rfl rfl rfl ?_
          refine VO.k10 0 1 2 3 6 8 9 10 24 39 ?_
          refine outN ?_
          refine VC.seq ?_
          refine VC.regD _ 11 [(0, true), (1, true), (2, true), (3, true), (4, true), (5, true), (6, false), (7, true), (8, true), (9, true), (10, true)] follows (by kernel_rfl) (fun _ h => h.sub [168, 169, 165, 164, 102, 0]) ?_
          refine VD.y rfl rfl (.inl rfl) (.mv rfl) ?_
          refine VD.y rfl rfl (.inl rfl) (.mv rfl) ?_
          refine VD.y rfl rfl (.inl rfl) (.mv rfl) ?_
          refine VD.y rfl rfl (.inl rfl) (.lenS rfl tsl61) ?_
          have hs70 := (Ow.rd f65_0 (mle_refl _)).pre (j := d1.length) bd
          refine VD.y rfl rfl (.inl rfl) (.slHI d1.length rfl rfl tsl61 rfl bd) ?_
          refine VD.y rfl rfl (.inl rfl) (.ldA 164 rfl tk72 rfl (cellsAt_one rfl rfl)) ?_
          refine VD.callN 171 rfl rfl (.inl rfl) fnOk78 rfl (fun _ h => h.sub [168, 169, 165, 164, 102, 0]) (fun W hW => take_ok W d0 bdk (lent_rd (Ow.rd (f65_0.pre (j := d1.length) bd) (hW.at (i := 165) rfl))) (show Rd TMessage _ _ d2 from (mk_Message (m := wm W) d2.1 d2.2.1 d2.2.2.1 d2.2.2.2.1 d2.2.2.2.2.1 d2.2.2.2.2.2.1 d2.2.2.2.2.2.2.1 d2.2.2.2.2.2.2.2 bdk bdk bdk bdk (OwnL.rd (Ow.ownl q67_0_p4 rfl mnil) (hW.at (i := 168) rfl) (mle_nil _)) bdk bdk (lentm_rd (Ow.rd q67_0_p7 (hW.at (i := 169) rfl)))))) (fun v71 m71 hv71 => ?_)
          obtain ⟨s71_0, rfl, f71_0⟩ := hv71
          obtain ⟨A71_0, c71_0, eq71_0, l71_0, k71_0⟩ := f71_0.slice
          subst eq71_0
          simp only [maxLen] at k71_0
          refine VD.y rfl rfl (.inl rfl) (.mv rfl) ?_
          refine VD.y rfl rfl (.inl rfl) (.ext rfl rfl) ?_
          refine VD.y rfl rfl (.inl rfl) (.ext rfl rfl) ?_
          refine VD.y rfl rfl (.inl rfl) (.as rfl) ?_
          refine VD.nil rfl ?_ rfl
          refine VO.as ?_
          refine VO.k12 0 1 2 3 6 8 9 10 11 12 24 39 ?_
          refine outN ?_
          refine VC.rs ?_
          refine VO.mv ?_
          refine VO.mv ?_
          refine VO.y rfl (.ldA 102 rfl tk72 rfl (cellsAt_one rfl rfl)) ?_
          refine VO.callN 172 rfl fnOk84 rfl (fun W hW => take18_ok W d0 bdk (Rd.mono h1 (hW.at (i := 0) rfl)) (Rd.mono h2 (hW.at (i := 0) rfl))) (fun v72 m72 hv72 => ?_)
          obtain ⟨s72_0, rfl, f72_0⟩ := hv72
          obtain ⟨A72_0, c72_0, eq72_0, l72_0, k72_0⟩ := f72_0.slice
          subst eq72_0
          simp only [maxLen] at k72_0
          refine VO.mv ?_
          refine VO.y rfl (.ext rfl rfl) ?_
          refine VO.y rfl (.ext rfl rfl) ?_
          refine VO.as ?_
          refine VO.as ?_
          refine VO.kp [172, 171, 168, 169, 165, 164, 102, 0] [(172, m72), (171, m71), (168, q67_0_n4), (169, q67_0_n7), (165, m65), (164, mone g63 (.cells [Value.int .i64 (d2.1), Value.int .i64 (d2.2.1), Value.int .u8 (d2.2.2.1), Value.int .i64 (d2.2.2.2.1), Value.slice q67_0_A4 (d2.2.2.2.2.1.length) (q67_0_c4), Value.int .i64 (d2.2.2.2.2.2.1), Value.int .i64 (d2.2.2.2.2.2.2.1), Value.slice q67_0_A7 ((d2.2.2.2.2.2.2.2.map lentC).length) (q67_0_c7)].toArray 72 (0, 0))), (102, mone g1 (.cells [Value.int .i64 (d2.1), Value.int .i64 (d2.2.1), Value.int .u8 (d2.2.2.1), Value.int .i64 (d2.2.2.2.1), Value.slice p2_A4 (d2.2.2.2.2.1.length) (p2_c4), Value.int .i64 (d2.2.2.2.2.2.1), Value.int .i64 (d2.2.2.2.2.2.2.1), Value.slice p2_A7 (d2.2.2.2.2.2.2.2.length) (p2_c7)].toArray 72 (0, 0))), (0, wm W)] ?_
          refine VO.k14 0 1 2 3 6 8 9 10 11 12 13 14 24 39 ?_
          refine VC.seq ?_
          refine VC.regD _ 11 [(0, true), (1, true), (2, true), (3, true), (4, true), (5, true), (6, false), (7, true), (8, true), (9, true), (10, true)] follows (by kernel_rfl) (fun _ h => h.sub [172, 171, 168, 169, 165, 164, 102, 0]) ?_
          refine VD.y rfl rfl (.inl rfl) (.mv rfl) ?_
          refine VD.y rfl rfl (.inl rfl) (.mv rfl) ?_
          refine VD.y rfl rfl (.inl rfl) (.mv rfl) ?_
          refine VD.y rfl rfl (.inl rfl) (.lenS rfl tsl61) ?_
          have hs73 := (Ow.rd f65_0 (mle_refl _)).pre (j := d1.length) bd
          refine VD.y rfl rfl (.inl rfl) (.slHI d1.length rfl rfl tsl61 rfl bd) ?_
          refine VD.y rfl rfl (.inl rfl) (.ldA 164 rfl tk72 rfl (cellsAt_one rfl rfl)) ?_
          refine VD.callN 174 rfl rfl (.inl rfl) fnOk78 rfl (fun _ h => h.sub [172, 171, 168, 169, 165, 164, 102, 0]) (fun W hW => take_ok W d0 bdk (lent_rd (Ow.rd (f65_0.pre (j := d1.length) bd) (hW.at (i := 165) rfl))) (show Rd TMessage _ _ d2 from (mk_Message (m := wm W) d2.1 d2.2.1 d2.2.2.1 d2.2.2.2.1 d2.2.2.2.2.1 d2.2.2.2.2.2.1 d2.2.2.2.2.2.2.1 d2.2.2.2.2.2.2.2 bdk bdk bdk bdk (OwnL.rd (Ow.ownl q67_0_p4 rfl mnil) (hW.at (i := 168) rfl) (mle_nil _)) bdk bdk (lentm_rd (Ow.rd q67_0_p7 (hW.at (i := 169) rfl)))))) (fun v74 m74 hv74 => ?_)
          obtain ⟨s74_0, rfl, f74_0⟩ := hv74
          obtain ⟨A74_0, c74_0, eq74_0, l74_0, k74_0⟩ := f74_0.slice
          subst eq74_0
          simp only [maxLen] at k74_0
          refine VD.y rfl rfl (.inl rfl) (.mv rfl) ?_
          refine VD.y rfl rfl (.inl rfl) (.ext rfl rfl) ?_
          refine VD.y rfl rfl (.inl rfl) (.ext rfl rfl) ?_
          refine VD.y rfl rfl (.inl rfl) (.as rfl) ?_
          refine VD.nil rfl ?_ rfl
          refine VO.as ?_
          refine VO.k15 0 1 2 3 6 8 9 10 11 12 13 14 15 24 39 ?_
          refine outN ?_
          refine VC.rs ?_
          refine VO.mv ?_
          refine VO.mv ?_
          refine VO.y rfl (.ldA 164 rfl tk72 rfl (cellsAt_one rfl rfl)) ?_
          refine VO.callN 175 rfl fnOk80 rfl (fun W hW => known_ok W d0 bdk d3 bdk (show Rd TMessage _ _ d2 from (mk_Message (m := wm W) d2.1 d2.2.1 d2.2.2.1 d2.2.2.2.1 d2.2.2.2.2.1 d2.2.2.2.2.2.1 d2.2.2.2.2.2.2.1 d2.2.2.2.2.2.2.2 bdk bdk bdk bdk (OwnL.rd (Ow.ownl q67_0_p4 rfl mnil) (hW.at (i := 168) rfl) (mle_nil _)) bdk bdk (lentm_rd (Ow.rd q67_0_p7 (hW.at (i := 169) rfl)))))) (fun v75 m75 hv75 => ?_)
          subst hv75
          refine VO.mv ?_
          refine VO.y rfl (.ext rfl rfl) ?_
          refine VO.y rfl (.ext rfl rfl) ?_
          refine VO.y rfl (.ext rfl rfl) ?_
          refine VO.as ?_
          refine VO.as ?_
          refine VO.as ?_
          refine VO.k18 0 1 2 3 6 8 9 10 11 12 13 14 15 17 18 19 24 39 ?_
          refine VC.rs ?_
          refine VO.mv ?_
          refine VO.mv ?_
          refine VO.y rfl (.ldA 102 rfl tk72 rfl (cellsAt_one rfl rfl)) ?_
          refine VO.callN 176 rfl fnOk85 rfl (fun W hW => known18_ok W d0 bdk d3 bdk (Rd.mono h2 (hW.at (i := 0) rfl))) (fun v76 m76 hv76 => ?_)
          subst hv76
          refine VO.mv ?_
          refine VO.y rfl (.ext rfl rfl) ?_
          refine VO.y rfl (.ext rfl rfl) ?_
          refine VO.y rfl (.ext rfl rfl) ?_
          refine VO.as ?_
          refine VO.as ?_
          refine VO.as ?_
          refine VO.kp [174, 172, 171, 168, 169, 165, 164, 102, 0] [(174, m74), (172, m72), (171, m71), (168, q67_0_n4), (169, q67_0_n7), (165, m65), (164, mone g63 (.cells [Value.int .i64 (d2.1), Value.int .i64 (d2.2.1), Value.int .u8 (d2.2.2.1), Value.int .i64 (d2.2.2.2.1), Value.slice q67_0_A4 (d2.2.2.2.2.1.length) (q67_0_c4), Value.int .i64 (d2.2.2.2.2.2.1), Value.int .i64 (d2.2.2.2.2.2.2.1), Value.slice q67_0_A7 ((d2.2.2.2.2.2.2.2.map lentC).length) (q67_0_c7)].toArray 72 (0, 0))), (102, mone g1 (.cells [Value.int .i64 (d2.1), Value.int .i64 (d2.2.1), Value.int .u8 (d2.2.2.1), Value.int .i64 (d2.2.2.2.1), Value.slice p2_A4 (d2.2.2.2.2.1.length) (p2_c4), Value.int .i64 (d2.2.2.2.2.2.1), Value.int .i64 (d2.2.2.2.2.2.2.1), Value.slice p2_A7 (d2.2.2.2.2.2.2.2.length) (p2_c7)].toArray 72 (0, 0))), (0, wm W)] ?_
          refine VO.k21 0 1 2 3 6 8 9 10 11 12 13 14 15 17 18 19 20 21 22 24 39 ?_
          refine VC.seq ?_
          refine VC.rs ?_
          refine VO.mv ?_
          refine VO.mv ?_
          refine VO.y rfl (.neq rfl rfl) ?_
          refine VO.mv ?_
          refine VO.dec (t := 90) rfl (fun hc77 => ?_) (fun hc77 => ?_)
          · -- FFF1T
            exact absurd rfl hc77
          · -- FFF1F
            refine VO.gy rfl ⟨_, rfl, rfl⟩ (.mv rfl) ?_
            refine VO.gy rfl ⟨_, rfl, rfl⟩ (.mv rfl) ?_
            refine VO.gy rfl ⟨_, rfl, rfl⟩ (.neq rfl rfl) ?_
            refine VO.y rfl (.pF rfl rfl) ?_
            refine VO.mv ?_
            refine VO.dec (t := 95) rfl (fun hc78 => ?_) (fun hc78 => ?_)
            · -- FFF1FT
              exact absurd rfl hc78
            · -- FFF1FF
              refine VO.gy rfl ⟨_, rfl, rfl⟩ (.mv rfl) ?_
              refine VO.gy rfl ⟨_, rfl, rfl⟩ (.mv rfl) ?_
              refine VO.gy rfl ⟨_, rfl, rfl⟩ (.neq rfl rfl) ?_
              refine VO.y rfl (.pF rfl rfl) ?_
              refine VO.mv ?_
              refine VO.dec (t := 100) rfl (fun hc79 => ?_) (fun hc79 => ?_)
              · -- FFF1FFT
                exact absurd rfl hc79
              · -- FFF1FFF
                refine VO.gy rfl ⟨_, rfl, rfl⟩ (.mv rfl) ?_
                refine VO.gy rfl ⟨_, rfl, rfl⟩ (.mv rfl) ?_
                refine VO.gy rfl ⟨_, rfl, rfl⟩ (.bneq rfl rfl Try.underlying4) ?_
                refine VO.y rfl (.pF rfl rfl) ?_
                refine VO.mv ?_
                refine VO.dec (t := 105) rfl (fun hc80 => ?_) (fun hc80 => ?_)
                · -- FFF1FFFT
                  exact absurd rfl hc80
                · -- FFF1FFFF
                  refine VO.gy rfl ⟨_, rfl, rfl⟩ (.mv rfl) ?_
                  refine VO.gy rfl ⟨_, rfl, rfl⟩ (.mv rfl) ?_
                  refine VO.gcallN 181 rfl ⟨_, rfl, rfl⟩ fnOk69 rfl (fun W hW => SameCommits_ok W (Ow.rd f71_0 (hW.at (i := 171) rfl)) (Ow.rd f72_0 (hW.at (i := 172) rfl))) (fun v81 m81 hv81 => ?_)
                  subst hv81
                  refine VO.gy rfl ⟨_, rfl, rfl⟩ (.notD rfl) ?_
                  refine VO.y rfl (.pF rfl rfl) ?_
                  refine VO.mv ?_
                  refine VO.dec (t := 111) rfl (fun hc82 => ?_) (fun hc82 => ?_)
                  · -- FFF1FFFFT
                    exact absurd rfl hc82
                  · -- FFF1FFFFF
                    refine VO.gy rfl ⟨_, rfl, rfl⟩ (.mv rfl) ?_
                    refine VO.gy rfl ⟨_, rfl, rfl⟩ (.mv rfl) ?_
                    refine VO.gcallN 183 rfl ⟨_, rfl, rfl⟩ fnOk55 rfl (fun W hW => KeptCommits_ok W (Ow.rd f65_0 (hW.at (i := 165) rfl)) (Rd.mono h1 (hW.at (i := 0) rfl)) (by rfl) bd (by exact fun c hc => by have h_ := (Decidable.not_not.1 ‹¬ ¬ ((∀ c ∈ d1, c.2.2.length ≤ 40) ∧ _)›).1 c hc; omega)) (fun v83 m83 hv83 => ?_)
                    subst hv83
                    refine VO.gy rfl ⟨_, rfl, rfl⟩ (.not rfl) ?_
                    refine VO.y rfl (.pF rfl rfl) ?_
                    refine VO.mv ?_
                    refine VO.gy rfl ⟨_, rfl, rfl⟩ (.ldA 164 rfl tk72 rfl (cellsAt_one rfl rfl)) ?_
                    refine VO.gy rfl ⟨_, rfl, rfl⟩ (.ldA 102 rfl tk72 rfl (cellsAt_one rfl rfl)) ?_
                    refine VO.gcallN 184 rfl ⟨_, rfl, rfl⟩ fnOk86 rfl (fun W hW => KeptMessage_ok W (mk_LMessage (m := wm W) d2.1 d2.2.1 d2.2.2.1 d2.2.2.2.1 (d2.2.2.2.2.1, spareS) d2.2.2.2.2.2.1 d2.2.2.2.2.2.2.1 (d2.2.2.2.2.2.2.2.map lentC, spareC) bdk bdk bdk bdk (Rd.mono (Rd.mkSpl (e := TStart) (xs := (d2.2.2.2.2.1, spareS).1) (ys := (d2.2.2.2.2.1, spareS).2) q67_0_f4 rfl) (hW.at (i := 168) rfl)) bdk bdk (Rd.mono (Rd.mkSpl (e := TLCommit) (xs := (d2.2.2.2.2.2.2.2.map lentC, spareC).1) (ys := (d2.2.2.2.2.2.2.2.map lentC, spareC).2) q67_0_f7 rfl) (hW.at (i := 169) rfl))) (Rd.mono h2 (hW.at (i := 0) rfl)) (by rfl) bd bd (by exact fun c hc => by have h_ := (Decidable.not_not.1 ‹¬ ¬ ((∀ c ∈ d2.2.2.2.2.2.2.2, c.2.2.length ≤ 40) ∧ _)›).1 c hc; omega)) (fun v84 m84 hv84 => ?_)
                    try dsimp only at hv84
                    subst hv84
                    refine VO.gy rfl ⟨_, rfl, rfl⟩ (.not rfl) ?_
                    refine VO.y rfl (.pF rfl rfl) ?_
                    refine VO.k22 0 1 2 3 6 8 9 10 11 12 13 14 15 17 18 19 20 21 22 24 39 122 ?_
                    refine VC.condF rfl ?_
                    refine VC.skip ?_
                    refine outN ?_
                    refine VC.seq ?_
                    refine VC.regD _ 8 [(0, true), (1, true), (2, true), (3, true), (4, true), (5, true), (6, true), (7, true)] follows (by kernel_rfl) (fun _ h => h.sub [184, 183, 181, 174, 172, 171, 168, 169, 165, 164, 102, 0]) ?_
                    refine VD.y rfl rfl (.inl rfl) (.mv rfl) ?_
                    refine VD.y rfl rfl (.inl rfl) (.mv rfl) ?_
                    refine VD.y rfl rfl (.inl rfl) (.mv rfl) ?_
                    refine VD.y rfl rfl (.inl rfl) (.mv rfl) ?_
                    refine VD.y rfl rfl (.inl rfl) (.lenS rfl tsl61) ?_
                    have hs85 := (Ow.rd f65_0 (mle_refl _)).pre (j := d1.length) bd
                    refine VD.y rfl rfl (.inl rfl) (.slHI d1.length rfl rfl tsl61 rfl bd) ?_
                    refine VD.y rfl rfl (.inl rfl) (.fa rfl tst72 rfl) ?_
                    refine VD.y rfl rfl (.inl rfl) (.ld1 164 rfl tk61 rfl (cellsAt_one rfl rfl)) ?_
                    refine VD.nil rfl ?_ rfl
                    refine VO.bsl (cs := [Value.slice A71_0 (((takeOf d0 d1 d2).1).length) (c71_0), Value.slice A74_0 (((takeOf d0 d1 d2).1).length) (c74_0), Value.slice A65_0 (d1.length) (c65_0), Value.slice q67_0_A7 ((d2.2.2.2.2.2.2.2.map lentC).length) (q67_0_c7)]) 187 rfl rfl tsl81 tz61 rfl rfl (fun g86 => ?_)
                    refine VO.gather (l := [mone g86 (.cells [Value.slice A71_0 (((takeOf d0 d1 d2).1).length) (c71_0), Value.slice A74_0 (((takeOf d0 d1 d2).1).length) (c74_0), Value.slice A65_0 (d1.length) (c65_0), Value.slice q67_0_A7 ((d2.2.2.2.2.2.2.2.map lentC).length) (q67_0_c7)].toArray 61 (0, 0)), m71, m74, m65, q67_0_n7]) 190 [187, 171, 174, 165, 169] rfl (fun hg89 => ?_)
                    have ho89 : Ow (.sl (.sl TCommit)) (muns [mone g86 (.cells [Value.slice A71_0 (((takeOf d0 d1 d2).1).length) (c71_0), Value.slice A74_0 (((takeOf d0 d1 d2).1).length) (c74_0), Value.slice A65_0 (d1.length) (c65_0), Value.slice q67_0_A7 ((d2.2.2.2.2.2.2.2.map lentC).length) (q67_0_c7)].toArray 61 (0, 0)), m71, m74, m65, q67_0_n7]) [Value.slice (some ⟨g86, 0, none⟩) (4) (4)] [(takeOf d0 d1 d2).1, (takeOf d0 d1 d2).1, d1, d2.2.2.2.2.2.2.2] := Ow.lit 4 (Seps.grp1 (ls := [[m71], [m74], [m65], [q67_0_n7]]) hg89) (OwAs.cons (m := muns [m71]) (c1 := [Value.slice A71_0 (((takeOf d0 d1 d2).1).length) (c71_0)]) (Ow.up f71_0 ((Seps.self hg89 (List.Sublist.cons _ (List.Sublist.cons_cons _ (List.Sublist.cons _ (List.Sublist.cons _ (List.Sublist.cons _ List.Sublist.slnil)))))).1 _ (.head _))) (OwAs.cons (m := muns [m74]) (c1 := [Value.slice A74_0 (((takeOf d0 d1 d2).1).length) (c74_0)]) (Ow.up f74_0 ((Seps.self hg89 (List.Sublist.cons _ (List.Sublist.cons _ (List.Sublist.cons_cons _ (List.Sublist.cons _ (List.Sublist.cons _ List.Sublist.slnil)))))).1 _ (.head _))) (OwAs.cons (m := muns [m65]) (c1 := [Value.slice A65_0 (d1.length) (c65_0)]) (Ow.up (lent_ow (f65_0.pre (j := d1.length) bd)) ((Seps.self hg89 (List.Sublist.cons _ (List.Sublist.cons _ (List.Sublist.cons _ (List.Sublist.cons_cons _ (List.Sublist.cons _ List.Sublist.slnil)))))).1 _ (.head _))) (OwAs.cons (m := muns [q67_0_n7]) (c1 := [Value.slice q67_0_A7 ((d2.2.2.2.2.2.2.2.map lentC).length) (q67_0_c7)]) (Ow.up (lentm_ow q67_0_p7) ((Seps.self hg89 (List.Sublist.cons _ (List.Sublist.cons _ (List.Sublist.cons _ (List.Sublist.cons _ (List.Sublist.cons_cons _ List.Sublist.slnil)))))).1 _ (.head _))) OwAs.nil)))) rfl rfl
                    refine VO.call 190 rfl fnOk76 rfl rfl (fun W hW => ApartCommits_ok W (hW.at (i := 190) rfl) ho89 bd (by exact (four_a (take_le4 _ _ _) (take_le4 _ _ _) (by omega) (by omega)).1) (by exact (four_a (take_le4 _ _ _) (take_le4 _ _ _) (by omega) (by omega)).2) (by exact four_b take_mem take_mem (Decidable.not_not.1 ‹¬ ¬ ((∀ c ∈ d1, c.2.2.length ≤ 40) ∧ _)›).1 (Decidable.not_not.1 ‹¬ ¬ ((∀ c ∈ d2.2.2.2.2.2.2.2, c.2.2.length ≤ 40) ∧ _)›).1 e0 e1)) (fun v88 m88 hv88 => ?_)
                    subst hv88
                    refine VO.as ?_
                    refine VO.k22 0 1 2 3 6 8 9 10 11 12 13 14 15 17 18 19 20 21 22 24 39 122 ?_
                    refine outN ?_
                    refine VC.ret ?_
                    refine ⟨_, _, res_run (rs := [.tmp 8]) rfl (.tmp rfl .nil), fun W_ hI => out_of (l := []) hI [] rfl rfl (mle_refl _) (fun hS_ => ?_)⟩
                    dsimp only [packV]
                    all_goals (first | rfl | (simp [*]; done))
end
section
set_option linter.unusedVariables false
set_option maxRecDepth 4000
open Go.ChangeShapes Go.WideShapes Go.ChangeAt Go.RowKit
theorem takeCalls_ok1 : tyOk Try.prog 60 (.sl TCommit) (.inl 61) = true := by kernel_rfl
theorem takeCalls_ok2 : tyOk Try.prog 60 TMessage (.inl 72) = true := by kernel_rfl
set_option maxRecDepth 100000 in
theorem takeCalls_lifted (os : Os) (started : os.Started) (H : Type) (enc : TypeId × Value → H) :
    ReturnsInHanded {} Try.checked os 18 .any (Rows.takeCallsSpec.pre6 enc Try.prog Try.f18 Rows.takeCallsRow.domain false) (Rows.takeCallsSpec.post enc Try.prog Try.f18 false true false false) := by
  refine returnsInHanded_of_change_sized (C := Try.checked) (by kernel_rfl) started (by kernel_rfl) Try.func18
    (ChangeSpec.witness6 (enc := enc) (C := Try.checked) false ⟨#[], #[.int .i64 0, .slice none 0 0, .agg #[.int .i64 0, .int .i64 0, .int .u8 0, .int .i64 0, .slice none 0 0, .int .i64 0, .int .i64 0, .slice none 0 0], .int .i64 0], []⟩ 8 (by kernel_rfl) (by kernel_rfl) (by kernel_rfl) (by kernel_rfl)) ?_
  intro W base args ds gs before hval0 hW hcnd hsz0 _
  have hsz : (DataW.weightsEach Try.prog (Try.f18.params.toList ++ Rows.takeCallsSpec.plain.varTypes Try.prog) (ds ++ gs)).all (· ≤ reachBytes) = true := hsz0
  have hval : ∀ (j : Nat) t v, Try.f18.params[j]? = some t → args[j]? = some v → Value.okWide Try.prog W .any base t v := hval0
  have hW' := hW
  obtain ⟨p, q, hA0, hV, rfl, hfz, hnd⟩ := hW
  have hA : DataW.TrodAll enc Try.prog W 0 (fun _ => true) true Try.f18.params.toList args.toList ds p := hA0
  rw [Try.params18] at hA hval hsz
  clear hA0 hval0
  obtain ⟨args⟩ := args
  obtain ⟨v0, r0, d0, e0, p0, q0, ha0, rfl, rfl, h0, hA0⟩ := trodAll_cons hA
  simp only at ha0; subst ha0
  obtain ⟨v1, r1, d1, e1, p1, q1, ha1, rfl, rfl, h1, hA1⟩ := trodAll_cons hA0
  subst ha1
  obtain ⟨v2, r2, d2, e2, p2, q2, ha2, rfl, rfl, h2, hA2⟩ := trodAll_cons hA1
  subst ha2
  obtain ⟨v3, r3, d3, e3, p3, q3, ha3, rfl, rfl, h3, hA3⟩ := trodAll_cons hA2
  subst ha3
  obtain ⟨rfl, rfl, rfl⟩ := trodAll_nil hA3
  obtain ⟨x0, rfl, hx0⟩ := arg_int Try.underlying3 (hval 0 3 v0 rfl rfl) h0
  obtain ⟨x1, hx1, fit1⟩ := arg_slF (j := 1) 60 takeCalls_ok1 Try.underlying61 (hval 1 61 v1 rfl rfl) h1 hsz rfl rfl
  obtain ⟨c2, x2, rfl, hx2, fit2⟩ := arg_stF (j := 2) 60 takeCalls_ok2 Try.underlying72 (hval 2 72 v2 rfl rfl) h2 hsz rfl rfl
  obtain ⟨x3, rfl, hx3⟩ := arg_int Try.underlying3 (hval 3 3 v3 rfl rfl) h3
  have lim1 := arg_lim hsz (j := 1) rfl rfl Try.underlying61 (b := 40) (by kernel_rfl) h1 hx1
  refine (calls_of (takeCalls_ok W x0 hx0 hx1 hx2 x3 hx3 (by exact fun c hc o ho => txt_fit ((fit1.2 c hc).2.2.2 o ho).2.1) (by exact fun c hc o ho => txt_fit ((fit2.2.2.2.2.2.2.2.2 c hc).2.2.2 o ho).2.1))).mono fun e W' ⟨he, hg⟩ => ?_
  subst he
  exact ⟨_, rfl, law_post hW' hg laidOut_ok (by kernel_rfl) rfl Try.underlying4 rfl rfl rfl rfl⟩
theorem takeCalls_joined : joinedFacts Try.prog 18 Try.f18 Rows.takeCallsSpec Rows.takeCallsRow = true := by
  unfold joinedFacts
  rw [laidOut_ok, mapsRowed_ok, stopsHeard_ok, mayEnter_ok, lifts_ok, make_ok]
  kernel_rfl
theorem takeCalls_proved : Rows.TakeCallsSaid :=
  OpenClaim.holds_of_wide 18 Try.f18 rfl rfl rfl rfl rfl rfl rfl ⟨rfl, rfl, rfl, rfl, rfl⟩ rfl rfl rfl rfl rfl (by kernel_rfl) Try.func18 takeCalls_joined
    (of_decide_eq_true (by kernel_rfl)) (by unfold Func.isWrapper; first | (rw [if_pos (by decide +kernel)]; kernel_rfl) | (rw [if_neg (by decide +kernel)]; exact ⟨rfl, rfl⟩))
    (fun os started H enc _ => takeCalls_lifted os started H enc)
#print axioms takeCalls_proved
end
end Go.Proofs.Ytfaknkkaegjdaaa
