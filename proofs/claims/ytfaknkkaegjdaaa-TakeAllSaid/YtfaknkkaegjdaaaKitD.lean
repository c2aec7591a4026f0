/- Own library, part D: regions that draw their order: one walk along one schedule serves every order, where what may be moved yields the same in every state that holds the chunks ΩS, and what may not be moved stands in one order. -/
import Derived.Test.YtfaknkkaegjdaaaKitC
namespace Go.Proofs.Ytfaknkkaegjdaaa

section
variable {P : Program} {ops : Array Oper} {Q : Exit → Act → World → Prop} {S : World → Prop}

/-- Whatever order is picked; S holds behind every operation ahead of number t. -/
def wpAnyT (P : Program) (ops : Array Oper) (Q : Exit → Act → World → Prop) (S : World → Prop) (t : Nat) : Nat → Array Bool → Act → World → Prop
  | 0, listed, a, w => Region.ready .any ops listed = [] ∧ Q .normal a w
  | fuel + 1, listed, a, w =>
    (Region.ready .any ops listed = [] → Q .normal a w) ∧
    ∀ i ∈ Region.ready .any ops listed, wpOp P ops Q i (fun a' w' => (i < t → S w') ∧ wpAnyT P ops Q S t fuel (listed.setIfInBounds i true) a' w') a w

theorem wpAny_of_T {t : Nat} : ∀ (fuel : Nat) (listed : Array Bool) (a : Act) (w : World), wpAnyT P ops Q S t fuel listed a w → wpAny P .any ops Q fuel listed a w
  | 0, _, _, _, h => h
  | fuel + 1, _, _, _, h => ⟨h.1, fun i hi => wpOp_mono (fun a' w' h' => wpAny_of_T fuel _ a' w' h'.2) (h.2 i hi)⟩

theorem wpAnyT_first {t i : Nat} {oi : Oper} {v : Value} (hi : ops[i]? = some oi) (hit : i < t) (htn : t < ops.size ∨ ops.size ≤ t) (hsel : ∀ (j : Nat) (o : Oper) cs b, ops[j]? = some o → o.op ≠ .select cs b)
    (hQ : ∀ c a w, Q (.panic c) (a.put oi.dst v) w → Q (.panic c) a w) (hs : t < ops.size → Region.sinkB .any ops t = true) (hc : t < ops.size → Region.chainB .any ops t = true) :
    ∀ (fuel : Nat) (listed : Array Bool) (a : Act) (w : World), HeadInv .any ops t listed →
      (∀ j oj, ops[j]? = some oj → j ≠ i → listed.getD j true = false → (∀ e ∈ oj.after, Region.binds .any e = true → e.on ≠ i) → oi.apart ops oj = true) →
      i ∈ Region.ready .any ops listed → YieldsIf P ops S oi v a → S w →
      wpAnyT P ops Q S t fuel (listed.setIfInBounds i true) (a.put oi.dst v) w → wpAnyT P ops Q S t (fuel + 1) listed a w := by
  intro fuel
  induction fuel with
  | zero =>
    intro listed a w _ _ hr hy hS H
    refine ⟨fun h => (by rw [h] at hr; cases hr), fun j hj => ?_⟩
    by_cases hji : j = i
    · subst hji; exact hy.wpOp hi hS ⟨fun _ => hS, H⟩
    · have := ready_mono hj hji
      rw [H.1] at this
      cases this
  | succ fuel ih =>
    intro listed a w inv hfree hr hy hS H
    have hun := (mem_ready.1 hr).1
    refine ⟨fun h => (by rw [h] at hr; cases hr), fun j hj => ?_⟩
    by_cases hji : j = i
    · subst hji; exact hy.wpOp hi hS ⟨fun _ => hS, H⟩
    · have hjt : j < t := by
        rcases htn with htn | htn
        · rcases Nat.lt_or_ge j t with h | h
          · exact h
          · exact absurd hj (tail_waits (hs htn) (hc htn) htn inv _ i rfl hit hun j h)
        · obtain ⟨_, oj, hoj, _⟩ := mem_ready.1 hj
          exact Nat.lt_of_lt_of_le (Array.getElem?_eq_some_iff.1 hoj).1 htn
      have h1 := H.2 j (ready_mono hj hji)
      obtain ⟨hjun, oj, hoj, hall⟩ := mem_ready.1 hj
      have hnot : ∀ e ∈ oj.after, Region.binds .any e = true → e.on ≠ i := fun e he hb heq => by
        have h1 := hall e he hb
        rw [heq, getD_both hun] at h1
        cases h1
      have h2 := wpOp_putIf hoj (hfree j oj hoj hji hjun hnot) (fun cs b => hsel i oi cs b hi) (fun cs b => hsel j oj cs b hoj) hQ hy h1
      have hfree' : ∀ k ok, ops[k]? = some ok → k ≠ i → (listed.setIfInBounds j true).getD k true = false →
          (∀ e ∈ ok.after, Region.binds .any e = true → e.on ≠ i) → oi.apart ops ok = true := fun k ok hk hki hun hno => by
        refine hfree k ok hk hki ?_ hno
        by_cases hjk : j = k
        · subst hjk; exact hjun
        · rw [getD_set_ne true hjk] at hun; exact hun
      refine wpOp_mono (fun a' w' h3 => ⟨fun _ => h3.2.1 hjt, ih (listed.setIfInBounds j true) a' w' (inv.set hj hjt) hfree' (ready_mono hr (Ne.symm hji)) h3.1 (h3.2.1 hjt) ?_⟩) h2
      rw [Array.setIfInBounds_comm _ _ hji]
      exact h3.2.2

/-! ### Schedules -/
/-- The operations ahead of number t in this order ('true': it may be moved), the others behind them as they stand. -/
def okHead (ops : Array Oper) (t : Nat) : List (Nat × Bool) → Array Bool → Bool
  | [], listed => okTail ops (ops.size - t) t listed
  | (i, mv) :: r, listed => Nat.blt i t && (bif mv then (Region.ready .any ops listed).contains i && Region.free .any ops listed i else Region.ready .any ops listed == [i]) && okHead ops t r (listed.setIfInBounds i true)
where
  okTail (ops : Array Oper) : Nat → Nat → Array Bool → Bool
  | 0, _, listed => Region.ready .any ops listed == []
  | f + 1, k, listed => Region.ready .any ops listed == [k] && okTail ops f (k + 1) (listed.setIfInBounds k true)

def okSched (ops : Array Oper) (t : Nat) (l : List (Nat × Bool)) : Bool :=
  Nat.beq (l.length + (ops.size - t)) ops.size && Region.noSelect ops && (Nat.ble ops.size t || (Region.sinkB .any ops t && Region.chainB .any ops t)) && okHead ops t l (Array.replicate ops.size false)

theorem wpAnyT_tail {t : Nat} : ∀ (f k : Nat) (listed : Array Bool) (a : Act) (w : World), okHead.okTail ops f k listed = true → t ≤ k → k + f = ops.size → wpList P ops Q (ops.toList.drop k) a w → wpAnyT P ops Q S t f listed a w
  | 0, k, listed, a, w, ho, _, hk, h => by
    have hr : Region.ready .any ops listed = [] := by simpa [okHead.okTail] using ho
    refine ⟨hr, ?_⟩
    rw [List.drop_of_length_le (by simp; omega)] at h
    exact h
  | f + 1, k, listed, a, w, ho, htk, hk, h => by
    simp only [okHead.okTail, Bool.and_eq_true, beq_iff_eq] at ho
    obtain ⟨hr, ho⟩ := ho
    refine ⟨fun h0 => (by rw [hr] at h0; cases h0), fun i hi => ?_⟩
    rw [hr, List.mem_singleton] at hi
    subst hi
    have hlt : i < ops.size := by omega
    rw [List.drop_eq_getElem_cons (by simpa using hlt)] at h
    have hoi : ops[i]? = some ops[i] := Array.getElem?_eq_getElem hlt
    simp only [wpList, Array.getElem_toList] at h
    simp only [wpOp, hoi]
    have hK : ∀ a' w', wpList P ops Q (List.drop (i + 1) ops.toList) a' w' → (i < t → S w') ∧ wpAnyT P ops Q S t f (listed.setIfInBounds i true) a' w' :=
      fun a' w' h' => ⟨fun hlt' => by omega, wpAnyT_tail f (i + 1) _ a' w' ho (by omega) (by omega) h'⟩
    split
    · rename_i hw; rw [if_pos hw] at h; exact h.imp (Oper.wp_mono hK) id
    · rename_i hw; rw [if_neg hw] at h; exact hK _ _ h
end

section
variable (P : Program) (n : Nat) (w0 : World)
/-- The rest of a schedule. -/
def VD (ops : Array Oper) (ΩS : Ctx) (t : Nat) (l : List (Nat × Bool)) (σ : Env) (Ω : Ctx) (K : Env → Ctx → Prop) : Prop :=
  ∀ Q : Exit → Act → World → Prop, (∀ c a w, ¬ Q (.panic c) a w) → (∀ σ' Ω' a W, K σ' Ω' → EnvOk n σ' a → Inv w0 Ω' W → Q .normal a W) →
    ∀ (listed : Array Bool) a W, EnvOk n σ a → Inv w0 Ω W → Inv w0 ΩS W → okHead ops t l listed = true → HeadInv .any ops t listed → Region.noSelect ops = true → (t < ops.size → Region.sinkB .any ops t = true ∧ Region.chainB .any ops t = true) → wpAnyT P ops Q (Inv w0 ΩS) t (l.length + (ops.size - t)) listed a W
end

section
variable {P : Program} {n : Nat} {w0 : World} {σ : Env} {Ω ΩS : Ctx} {ops : Array Oper} {t : Nat} {K : Env → Ctx → Prop} {R : Exit → Env → Ctx → Prop}

theorem HeadInv.start (ops : Array Oper) (t : Nat) : HeadInv .any ops t (Array.replicate ops.size false) :=
  ⟨by simp, fun j oj _ h => (by rw [getD_replicate_false] at h; cases h), fun k _ hk => by simp [hk]⟩

/-- A region that draws. -/
theorem VC.regD {id : Nat} {l : List Oper} (ΩS : Ctx) (t : Nat) (sched : List (Nat × Bool)) (hm : P.follows .mixedOrders = true) (hs : okSched l.toArray t sched = true) (hΩ : ∀ W, Inv w0 Ω W → Inv w0 ΩS W)
    (h : VD P n w0 l.toArray ΩS t sched σ Ω (R .normal)) : VC P n w0 (.region id l.toArray true) R σ Ω :=
  fun Q hQ a W he hi => by
    unfold okSched at hs
    simp only [Bool.and_eq_true, Bool.or_eq_true] at hs
    obtain ⟨⟨⟨h0, h1⟩, h2⟩, h3⟩ := hs
    have h4 : t < l.toArray.size → Region.sinkB .any l.toArray t = true ∧ Region.chainB .any l.toArray t = true := fun hlt => by
      rcases h2 with h2 | h2
      · have := Nat.le_of_ble_eq_true h2; omega
      · exact h2
    let Q' : Exit → Act → World → Prop := fun e a w => match e with | .normal => Q .normal a w | _ => False
    refine wp_mono (Q := Q') ?_ (fun e a w hq => by cases e <;> first | exact hq | exact hq.elim)
    have := h Q' (fun _ _ _ hq => hq) (fun σ' Ω' a W hk => hQ _ σ' Ω' a W hk) (Array.replicate l.toArray.size false) a W.drew he hi.drew (hΩ W hi).drew h3 (HeadInv.start _ _) h1 h4
    refine wp_region_any hm (wpAny_of_T (S := Inv w0 ΩS) (t := t) _ _ _ _ ?_)
    rw [Nat.eq_of_beq_eq_true h0] at this
    exact this

/-- All ahead of number t is done: the rest in the text's order. -/
theorem VD.nil {l : List Oper} (hl : ops.toList.drop t = l) (h : VO P n w0 ops l σ Ω K) (ht : Nat.ble t ops.size = true) : VD P n w0 ops ΩS t [] σ Ω K :=
  fun Q _ hQ listed a W he hi _ ho _ _ _ => by
    have htl := Nat.le_of_ble_eq_true ht
    subst hl
    have := wpAnyT_tail (P := P) (Q := Q) (S := Inv w0 ΩS) (ops.size - t) t listed a W ho (Nat.le_refl _) (by omega) (h Q hQ a W he hi)
    simpa using this

theorem VD.y {i : Nat} {r : List (Nat × Bool)} {d : Nat} {op : Op} {ty : TypeId} {pos : String} {af : Array Edge} {gd : Option (Nat × Bool)} {v : Value} (hd : Nat.blt d n = true) (ho : ops[i]? = some ⟨some d, op, ty, pos, af, gd⟩)
    (hg : gd = none ∨ ∃ j b, gd = some (j, b) ∧ gyes σ ops j b) (hy : Yld P n w0 σ ΩS ⟨some d, op, ty, pos, af, gd⟩ v) (h : VD P n w0 ops ΩS t r ((d, v) :: σ) Ω K) : VD P n w0 ops ΩS t ((i, true) :: r) σ Ω K :=
  fun Q hn hQ listed a W he hi hiS hok hh hsel hsc => by
    unfold okHead at hok
    simp only [cond_true, Bool.and_eq_true] at hok
    obtain ⟨⟨hit, hr, hf⟩, hok⟩ := hok
    have hit' : i < t := by simpa using hit
    have hr' : i ∈ Region.ready .any ops listed := by simpa using hr
    have hyi : YieldsIf P ops (Inv w0 ΩS) ⟨some d, op, ty, pos, af, gd⟩ v a := by
      refine .inl ⟨?_, fun w hw => hy a w he hw⟩
      rcases hg with rfl | ⟨j, b, rfl, hg⟩
      · simp [Region.wanted]
      · simp [Region.wanted, yielded_of he hg]
    have hlen : (((i, true) :: r).length + (ops.size - t)) = (r.length + (ops.size - t)) + 1 := by simp only [List.length_cons]; omega
    rw [hlen]
    exact wpAnyT_first ho hit' (Nat.lt_or_ge t ops.size) (Region.noSelect_spec hsel) (fun c a w hq => absurd hq (hn c _ w)) (fun h => (hsc h).1) (fun h => (hsc h).2) _ listed a W hh (Region.free_spec ho hf) hr' hyi hiS
      (h Q hn hQ _ _ W (he.put hd v) hi hiS hok (hh.set hr' hit') hsel hsc)
theorem VD.gn {i : Nat} {r : List (Nat × Bool)} {d : Nat} {op : Op} {ty : TypeId} {pos : String} {af : Array Edge} {j : Nat} {b : Bool} (hd : Nat.blt d n = true) (ho : ops[i]? = some ⟨some d, op, ty, pos, af, some (j, b)⟩)
    (hg : gyes σ ops j (!b) ∨ gund σ ops j) (h : VD P n w0 ops ΩS t r ((d, undef) :: σ) Ω K) : VD P n w0 ops ΩS t ((i, true) :: r) σ Ω K :=
  fun Q hn hQ listed a W he hi hiS hok hh hsel hsc => by
    unfold okHead at hok
    simp only [cond_true, Bool.and_eq_true] at hok
    obtain ⟨⟨hit, hr, hf⟩, hok⟩ := hok
    have hit' : i < t := by simpa using hit
    have hr' : i ∈ Region.ready .any ops listed := by simpa using hr
    have hyi : YieldsIf P ops (Inv w0 ΩS) ⟨some d, op, ty, pos, af, some (j, b)⟩ undef a := by
      refine .inr ⟨?_, rfl⟩
      have : yielded ops a.tmps j ≠ some b := by
        rcases hg with hg | hg
        · rw [yielded_of he hg]; cases b <;> simp
        · rw [yielded_und he hg]; simp
      simpa [Region.wanted] using this
    have hlen : (((i, true) :: r).length + (ops.size - t)) = (r.length + (ops.size - t)) + 1 := by simp only [List.length_cons]; omega
    rw [hlen]
    exact wpAnyT_first ho hit' (Nat.lt_or_ge t ops.size) (Region.noSelect_spec hsel) (fun c a w hq => absurd hq (hn c _ w)) (fun h => (hsc h).1) (fun h => (hsc h).2) _ listed a W hh (Region.free_spec ho hf) hr' hyi hiS
      (h Q hn hQ _ _ W (he.put hd _) hi hiS hok (hh.set hr' hit') hsel hsc)

/-- An operation that may not be moved: nobody else may come up. -/
theorem VD.s {i : Nat} {r : List (Nat × Bool)} {o : Oper} {Φ : Value → Ctx → Prop} (σ' : Value → Env) (ho : ops[i]? = some o) (hσ : ∀ v a, EnvOk n σ a → EnvOk n (σ' v) (a.put o.dst v))
    (hg : o.guard = none ∨ ∃ j b, o.guard = some (j, b) ∧ gyes σ ops j b) (hs : Stp P n w0 σ Ω o Φ) (hS : ∀ v Ω', Φ v Ω' → ∀ W, Inv w0 Ω' W → Inv w0 ΩS W)
    (h : ∀ v Ω', Φ v Ω' → VD P n w0 ops ΩS t r (σ' v) Ω' K) : VD P n w0 ops ΩS t ((i, false) :: r) σ Ω K :=
  fun Q hn hQ listed a W he hi _ hok hh hsel hsc => by
    unfold okHead at hok
    simp only [cond_false, Bool.and_eq_true, beq_iff_eq] at hok
    obtain ⟨⟨hit, hr⟩, hok⟩ := hok
    have hit' : i < t := by simpa using hit
    have hr' : i ∈ Region.ready .any ops listed := by rw [hr]; exact .head _
    have hlen : (((i, false) :: r).length + (ops.size - t)) = (r.length + (ops.size - t)) + 1 := by simp only [List.length_cons]; omega
    rw [hlen]
    refine ⟨fun h0 => (by rw [hr] at h0; cases h0), fun j hj => ?_⟩
    rw [hr, List.mem_singleton] at hj
    subst hj
    unfold wpOp
    simp only [ho]
    have hw : Region.wanted o (yielded ops a.tmps) = true := by
      rcases hg with hg | ⟨k, b, hg, hy⟩
      · simp [Region.wanted, hg]
      · simp [Region.wanted, hg, yielded_of he hy]
    rw [if_pos hw]
    exact .inl (hs a W he hi _ Q fun v Ω' W' hv hi' => ⟨fun _ => hS v Ω' hv W' hi', h v Ω' hv Q hn hQ _ _ W' (hσ v a he) hi' (hS v Ω' hv W' hi') hok (hh.set hr' hit') hsel hsc⟩)
theorem Inv.tl {p : Nat × Mem} {W : World} (h : Inv w0 (p :: Ω) W) : Inv w0 Ω W :=
  ⟨h.os, h.tape, h.output, h.size, fun q hq => h.le q (.tail _ hq), (List.pairwise_cons.1 h.dj).2⟩
theorem VD.callN {i : Nat} {r : List (Nat × Bool)} {d : Nat} {f : FuncId} {xs : List Operand} {ats : Array TypeId} {ty : TypeId} {pos : String} {af : Array Edge} {gd : Option (Nat × Bool)} {vs : List Value} {Post : Value → Mem → Prop}
    (j : Nat) (hd : Nat.blt d n = true) (ho : ops[i]? = some ⟨some d, .call { callee := .value (.func f), args := xs.toArray, argTypes := ats }, ty, pos, af, gd⟩) (hg : gd = none ∨ ∃ j b, gd = some (j, b) ∧ gyes σ ops j b) (hf : fnOk P f = true)
    (ha : evs σ xs = some vs) (hS : ∀ W, Inv w0 Ω W → Inv w0 ΩS W) (hc : ∀ W, Inv w0 Ω W → CallR P f vs W mnil Post) (h : ∀ v m', Post v m' → VD P n w0 ops ΩS t r ((d, v) :: σ) ((j, m') :: Ω) K) : VD P n w0 ops ΩS t ((i, false) :: r) σ Ω K :=
  VD.s (fun v => (d, v) :: σ) ho (fun v _ he => he.put hd v) hg (Stp.callN j hf ha hc) (fun _ _ ⟨_, _, hΩ⟩ W hW => hS W (by subst hΩ; exact hW.tl)) (fun v _ ⟨m', hp, hΩ⟩ => hΩ ▸ h v m' hp)
/-- A truth value in a slot is decided. -/
theorem VD.dec {l : List (Nat × Bool)} {s : Nat} {p : Prop} [Decidable p] (ht : eget σ s = some (.bool (decide p))) (h1 : p → VD P n w0 ops ΩS t l ((s, .bool true) :: σ) Ω K)
    (h2 : ¬ p → VD P n w0 ops ΩS t l ((s, .bool false) :: σ) Ω K) : VD P n w0 ops ΩS t l σ Ω K := fun Q hn hQ listed a W he => by
  by_cases hp : p
  · exact h1 hp Q hn hQ listed a W (he.dup (by rw [ht, decide_eq_true hp]))
  · exact h2 hp Q hn hQ listed a W (he.dup (by rw [ht, decide_eq_false hp]))
theorem VD.fact {l : List (Nat × Bool)} {p : Prop} (hp : ∀ W, Inv w0 Ω W → p) (h : p → VD P n w0 ops ΩS t l σ Ω K) : VD P n w0 ops ΩS t l σ Ω K :=
  fun Q hn hQ listed a W he hi => h (hp W hi) Q hn hQ listed a W he hi
end
end Go.Proofs.Ytfaknkkaegjdaaa
