/- Own library, part H: the rules in the form in which the walks' program asks for them. -/
import Derived.Test.YtfaknkkaegjdaaaKitG
set_option linter.unusedVariables false
namespace Go.Proofs.Ytfaknkkaegjdaaa

section
variable {P : Program} {n : Nat} {w0 : World} {σ : Env} {Ω ΩS : Ctx} {ops : Array Oper} {K : Env → Ctx → Prop} {t : Nat}
variable {ty : TypeId} {pos : String} {af : Array Edge} {d : Option Tmp} {gd : Option (Nat × Bool)} {r : List Oper}

theorem VO.decB {t : Nat} {b : Bool} (ht : eget σ t = some (.bool b)) (h1 : b = true → VO P n w0 ops r ((t, .bool true) :: σ) Ω K)
    (h2 : b = false → VO P n w0 ops r ((t, .bool false) :: σ) Ω K) : VO P n w0 ops r σ Ω K := fun Q hQ a W he hi => by
  cases hb : b with
  | true => exact h1 hb Q hQ a W (he.dup (by rw [ht, hb])) hi
  | false => exact h2 hb Q hQ a W (he.dup (by rw [ht, hb])) hi
theorem VD.decB {l : List (Nat × Bool)} {s : Nat} {b : Bool} (ht : eget σ s = some (.bool b)) (h1 : b = true → VD P n w0 ops ΩS t l ((s, .bool true) :: σ) Ω K)
    (h2 : b = false → VD P n w0 ops ΩS t l ((s, .bool false) :: σ) Ω K) : VD P n w0 ops ΩS t l σ Ω K := fun Q hn hQ listed a W he => by
  cases hb : b with
  | true => exact h1 hb Q hn hQ listed a W (he.dup (by rw [ht, hb]))
  | false => exact h2 hb Q hn hQ listed a W (he.dup (by rw [ht, hb]))

theorem VD.bsl {i : Nat} {rr : List (Nat × Bool)} {dd : Nat} {t' e : TypeId} {s b len : Nat} {l : List (Nat × Operand)} {ps : List (Nat × Value)} {z cs : List Value} (j : Nat) (hd : Nat.blt dd n = true) (ho : ops[i]? = some ⟨some dd, .buildSlice t' len l.toArray, ty, pos, af, none⟩)
    (hl : evp σ l = some ps) (ht : tsl P t' = some (e, s, b)) (hz : tz P e = some z)
    (hsmall : Nat.ble (len * s) 16777216 = true) (hb : bld (fun i => some (i * s, s)) ((List.range (len * s)).map fun j => z.toArray[j % z.toArray.size]!) ps = some cs) (hS : ∀ W, Inv w0 Ω W → Inv w0 ΩS W)
    (h : ∀ g, VD P n w0 ops ΩS t rr ((dd, .slice (some ⟨g, 0, none⟩) len len) :: σ) ((j, mone g (.cells cs.toArray e (0, 0))) :: Ω) K) : VD P n w0 ops ΩS t ((i, false) :: rr) σ Ω K :=
  VD.s (fun v => (dd, v) :: σ) ho (fun v _ he => he.put hd v) (.inl rfl) (Stp.bsl j hl ht hz hsmall hb) (fun _ _ ⟨_, _, hΩ⟩ W hW => hS W (by subst hΩ; exact hW.tl)) (fun _ _ ⟨g, hv, hΩ⟩ => hv ▸ hΩ ▸ h g)

theorem Inv.nilc {W : World} (h : Inv w0 Ω W) (i : Nat) : Inv w0 ((i, mnil) :: Ω) W :=
  h.new i rfl rfl rfl (Nat.le_refl _) (mle_refl _) (mle_nil _) fun g => .inl rfl
theorem VO.gcallN {dd : Nat} {f : FuncId} {xs : List Operand} {ats : Array TypeId} {j : Nat} {b : Bool} {vs : List Value} {Post : Value → Mem → Prop}
    (i : Nat) (hd : Nat.blt dd n = true) (hg : gyes σ ops j b) (hf : fnOk P f = true) (ha : evs σ xs = some vs) (hc : ∀ W, Inv w0 Ω W → CallR P f vs W mnil Post)
    (h : ∀ v m', Post v m' → VO P n w0 ops r ((dd, v) :: σ) ((i, m') :: Ω) K) :
    VO P n w0 ops (⟨some dd, .call { callee := .value (.func f), args := xs.toArray, argTypes := ats }, ty, pos, af, some (j, b)⟩ :: r) σ Ω K :=
  VO.gs hd hg (Stp.callN i hf ha hc) fun v _ ⟨m', hp, hΩ⟩ => hΩ ▸ h v m' hp
theorem rd_str (s : List UInt8) (m : Mem) : All2c (Rd .byte m) (s.map byV) s := by
  induction s with
  | nil => rfl
  | cons b s ih => exact ⟨[byV b], s.map byV, rfl, rfl, ih⟩
theorem rd_byte {n : Int} {m : Mem} (h : 0 ≤ n ∧ n ≤ 255) : Rd .byte m [.int .u8 n] (UInt8.ofNat n.toNat) := by
  show [Value.int .u8 n] = [byV _]
  simp only [byV]
  congr 2
  simp
  omega
theorem OwnL.lit0 (e : Ty) (E : TypeId) (g : Nat) (k : Mem) : OwnL e (mone g (.cells #[] E (0, 0))) k (.slice (some ⟨g, 0, none⟩) 0 0) [] :=
  ⟨_, [], mle_refl _, by simpa using OwnA.row (sz := e.sz) g 0 0 0 E [] (by simp) (Nat.le_refl _) (Nat.zero_le _), rfl⟩
theorem Rd.srcI {e : Ty} {xt et : TypeId} {m : Mem} {v : Value} {xs : List e.Den} (h : Rd (.sl e) m [v] xs) (ht : P.underlying xt = some (.slice et)) :
    ∃ all, (∀ (Ω : Ctx) (i : Nat), cget Ω i = some m → Src P Ω e.sz xt v xs.length all) ∧ All2c (Rd e m) all xs := by
  obtain ⟨A, c, rfl, h2, h3⟩ := h.slice
  by_cases h0 : xs = []
  · subst h0; exact ⟨[], fun _ _ _ => .zero A c et ht, rfl⟩
  · obtain ⟨g, off, all, rfl, k2, k3⟩ := h.row h0
    exact ⟨all, fun Ω i hm => .row i m g off xs.length c all et ht hm k2, k3⟩
def tfkB (P : Program) (t i : Nat) : Bool := match P.underlying t with
  | some (.struct F) => match F[i]? with
    | some f => match tk P f.type with
      | some none => true
      | _ => false
    | none => true
  | _ => true
theorem tfk_of {t i : Nat} (h : tfkB P t i = true) : ∀ F : Array Field, P.underlying t = some (.struct F) → ∀ f, F[i]? = some f → tk P f.type = some none := by
  intro F hF f hf
  unfold tfkB at h
  rw [hF] at h
  simp only [hf] at h
  split at h
  · assumption
  · cases h

theorem Stp.box {t : TypeId} {x : Operand} {v : Value} (i : Nat) (hx : ev σ x = some v) :
    Stp P n w0 σ Ω ⟨d, .box t x, ty, pos, af, gd⟩ (fun u Ω' => ∃ g, u = .pointer (some ⟨g, 0, none⟩) ∧ Ω' = (i, mone g (.cells v.cells t (0, 0))) :: Ω) := fun a W he hi K Q hK => by
  unfold Oper.wp
  have : (execOp a.eval ⟨d, .box t x, ty, pos, af, gd⟩).run P W = .ok (.value (.pointer (some ⟨W.heap.size, 0, none⟩))) (W.alloc (.cells v.cells t (0, 0))) := by
    simp [execOp, Instr.box, he.eval hx, newVar, newRow]
  rw [this]
  exact hK _ _ _ ⟨_, rfl, rfl⟩ (hi.alloc i _)
theorem VO.box {dd : Nat} {t : TypeId} {x : Operand} {v : Value} {cs : List Value} (i : Nat) (hd : Nat.blt dd n = true) (hx : ev σ x = some v) (hc : v.cells = cs.toArray)
    (h : ∀ g, VO P n w0 ops r ((dd, .pointer (some ⟨g, 0, none⟩)) :: σ) ((i, mone g (.cells cs.toArray t (0, 0))) :: Ω) K) : VO P n w0 ops (⟨some dd, .box t x, ty, pos, af, none⟩ :: r) σ Ω K :=
  VO.s hd (Stp.box i hx) fun _ _ ⟨g, hv, hΩ⟩ => by rw [hv, hΩ, hc]; exact h g

/-! ### Cuts -/
theorem Yld.slI {x lo hi : Operand} {t e : TypeId} {A : Option Addr} {l c s b : Nat} {k k' : IntKind} {a1 a2 : Int} (i j : Nat) (A' : Option Addr) (hx : ev σ x = some (.slice A l c)) (hlo : ev σ lo = some (.int k a1)) (hhi : ev σ hi = some (.int k' a2)) (ht : tsl P t = some (e, s, b))
    (h1 : a1 = i) (h2 : a2 = j) (hA : (if c = i then A else A.map (·.add (i * s))) = A') (hij : i ≤ j) (hjc : j ≤ c) :
    Yld P n w0 σ Ω ⟨d, .slice t x (some lo) (some hi) none, ty, pos, af, gd⟩ (.slice A' (j - i) (c - i)) := by
  subst h1 h2 hA; exact Yld.sl hx hlo hhi ht hij hjc
theorem Yld.slLI {x lo : Operand} {t e : TypeId} {A : Option Addr} {l c s b : Nat} {k : IntKind} {a1 : Int} (i : Nat) (A' : Option Addr) (hx : ev σ x = some (.slice A l c)) (hlo : ev σ lo = some (.int k a1)) (ht : tsl P t = some (e, s, b))
    (h1 : a1 = i) (hA : (if c = i then A else A.map (·.add (i * s))) = A') (hil : i ≤ l) :
    Yld P n w0 σ Ω ⟨d, .slice t x (some lo) none none, ty, pos, af, gd⟩ (.slice A' (l - i) (c - i)) := by
  subst h1 hA; exact Yld.slL hx hlo ht hil
theorem Yld.slHI {x hi : Operand} {t e : TypeId} {A : Option Addr} {l c s b : Nat} {k : IntKind} {a2 : Int} (j : Nat) (hx : ev σ x = some (.slice A l c)) (hhi : ev σ hi = some (.int k a2)) (ht : tsl P t = some (e, s, b))
    (h2 : a2 = j) (hjc : j ≤ c) : Yld P n w0 σ Ω ⟨d, .slice t x none (some hi) none, ty, pos, af, gd⟩ (.slice A j c) := by
  subst h2; exact Yld.slH hx hhi ht hjc
theorem Rd.sub' {e : Ty} {m : Mem} {A : Option Addr} {l c : Nat} {xs : List e.Den} (h : Rd (.sl e) m [.slice A l c] xs) (s i j : Nat) (hs : e.sz = s) (hij : i ≤ j) (hj : j ≤ xs.length) :
    ∃ A', (if c = i then A else A.map (·.add (i * s))) = A' ∧ Rd (.sl e) m [.slice A' (j - i) (c - i)] ((xs.take j).drop i) := by
  subst hs; exact ⟨_, rfl, h.sub hij hj⟩
theorem Rd.pre {e : Ty} {m : Mem} {A : Option Addr} {l c j : Nat} {xs : List e.Den} (h : Rd (.sl e) m [.slice A l c] xs) (hj : j ≤ xs.length) : Rd (.sl e) m [.slice A j c] (xs.take j) := by
  have h' := h
  obtain ⟨A', c', h1, h2, h3, h4⟩ := h'
  simp only [List.cons.injEq, Value.slice.injEq, and_true] at h1
  obtain ⟨rfl, rfl, rfl⟩ := h1
  have hl : (xs.take j).length = j := by simp; omega
  refine ⟨A, c, by rw [hl], by omega, h3, ?_⟩
  rw [hl]
  rcases h4 with h4 | ⟨g, off, all, k1, k2, k3⟩
  · exact .inl (by omega)
  · refine .inr ⟨g, off, all.take (j * e.sz), k1, ?_, k3.take (fun _ _ h => h.len) j⟩
    have := k2.sub (i := 0) (j := j * e.sz) (by rw [Nat.zero_add]; exact Nat.mul_le_mul_right _ hj)
    simpa using this
theorem Rd.drop {e : Ty} {m : Mem} {A : Option Addr} {l c : Nat} {xs : List e.Den} (h : Rd (.sl e) m [.slice A l c] xs) (s i : Nat) (hs : e.sz = s) (hi : i ≤ xs.length) :
    ∃ A', (if c = i then A else A.map (·.add (i * s))) = A' ∧ Rd (.sl e) m [.slice A' (xs.length - i) (c - i)] (xs.drop i) := by
  obtain ⟨A', h1, h2⟩ := h.sub' s i xs.length hs hi (Nat.le_refl _)
  rw [List.take_length] at h2
  exact ⟨A', h1, h2⟩

theorem Yld.slTI {x lo hi : Operand} {t : TypeId} {s : List UInt8} {k k' : IntKind} {a1 a2 : Int} (i j : Nat) (hx : ev σ x = some (str s)) (hlo : ev σ lo = some (.int k a1)) (hhi : ev σ hi = some (.int k' a2)) (ht : P.underlying t = some .string)
    (h1 : a1 = i) (h2 : a2 = j) (hij : i ≤ j) (hjc : j ≤ s.length) : Yld P n w0 σ Ω ⟨d, .slice t x (some lo) (some hi) none, ty, pos, af, gd⟩ (str ((s.take j).drop i)) := by
  subst h1 h2; exact Yld.slT hx hlo hhi ht hij hjc
theorem Yld.slTLI {x lo : Operand} {t : TypeId} {s : List UInt8} {k : IntKind} {a1 : Int} (i : Nat) (hx : ev σ x = some (str s)) (hlo : ev σ lo = some (.int k a1)) (ht : P.underlying t = some .string)
    (h1 : a1 = i) (hil : i ≤ s.length) : Yld P n w0 σ Ω ⟨d, .slice t x (some lo) none none, ty, pos, af, gd⟩ (str (s.drop i)) := by
  subst h1; exact Yld.slTL hx hlo ht hil
theorem Yld.slTHI {x hi : Operand} {t : TypeId} {s : List UInt8} {k : IntKind} {a2 : Int} (j : Nat) (hx : ev σ x = some (str s)) (hhi : ev σ hi = some (.int k a2)) (ht : P.underlying t = some .string)
    (h2 : a2 = j) (hjc : j ≤ s.length) : Yld P n w0 σ Ω ⟨d, .slice t x none (some hi) none, ty, pos, af, gd⟩ (str (s.take j)) := by
  subst h2; exact Yld.slTH hx hhi ht hjc
theorem Yld.ixTI {x y : Operand} {t : TypeId} {s : List UInt8} {k : IntKind} {a : Int} {b : UInt8} (i : Nat) (hx : ev σ x = some (str s)) (hy : ev σ y = some (.int k a)) (ht : P.underlying t = some .string) (ha : a = i) (hi : s[i]? = some b) :
    Yld P n w0 σ Ω ⟨d, .index t x y, ty, pos, af, gd⟩ (byV b) := by
  subst ha; exact Yld.ixT hx hy ht hi

/-! ### Two structs -/
theorem eqF {F : List Field} : ∀ {o : Nat} {xs ys : List Value} (cs ds : Array Value), plainF P F o xs = true → plainF P F o ys = true → (∀ i v, xs[i]? = some v → cs[o + i]? = some v) → (∀ i v, ys[i]? = some v → ds[o + i]? = some v) →
    ∀ (W : World) (dd : Nat), (Op.eqFields (dd + 1) cs ds F).run P W = .ok (ceq xs ys) W := by
  induction F with
  | nil =>
    intro o xs ys cs ds h1 h2 _ _ W dd
    cases xs <;> cases ys <;> simp_all [plainF, Op.eqFields, ceq]
  | cons f F ih =>
    intro o xs ys cs ds h1 h2 hx hy W dd
    cases xs with
    | nil => simp [plainF] at h1
    | cons x xs =>
      cases ys with
      | nil => simp [plainF] at h2
      | cons y ys =>
        simp only [plainF, Bool.and_eq_true, decide_eq_true_eq] at h1 h2
        obtain ⟨⟨⟨k1, k2⟩, k3⟩, k4⟩ := h1
        obtain ⟨⟨⟨_, _⟩, k5⟩, k6⟩ := h2
        have hx0 := hx 0 x rfl
        have hy0 := hy 0 y rfl
        have ihh := ih cs ds k4 k6 (fun i v h => by have := hx (i + 1) v (by simpa using h); rw [← this]; congr 1; omega) (fun i v h => by have := hy (i + 1) v (by simpa using h); rw [← this]; congr 1; omega) W dd
        simp only [Nat.add_zero] at hx0 hy0
        have pt : ∀ (D : TypeDesc) (v : Value) (c : Array Value), P.underlying f.type = some D → (∀ F, D ≠ .struct F) → (∀ l e, D ≠ .array l e) → c[o]? = some v → (part f.type c f.offset).run P W = .ok v W := by
          intro D v c hD h1 h2 hc
          have hag : (isAgg f.type).run P W = .ok false W := by
            simp only [isAgg, Sem.run_bind, run_underlying' hD, Result.andThen_ok]
            cases D <;> first | rfl | exact absurd rfl (h1 _) | exact absurd rfl (h2 _ _)
          simp [part, hag, k2, hc]
        unfold Op.eqFields
        rw [if_pos k1]
        cases hu : P.underlying f.type with
        | none => rw [hu] at k3; simp at k3
        | some D =>
          rw [hu] at k3 k5
          have hcase : (∃ k a b, D = .int k ∧ x = .int k a ∧ y = .int k b) ∨ (∃ a b, D = .bool ∧ x = .bool a ∧ y = .bool b) ∨ (∃ a b, D = .string ∧ x = .string a ∧ y = .string b) := by
            cases D <;> cases x <;> simp at k3 <;> cases y <;> simp at k5 <;> simp_all
          rcases hcase with ⟨k, a, b, rfl, rfl, rfl⟩ | ⟨a, b, rfl, rfl, rfl⟩ | ⟨a, b, rfl, rfl, rfl⟩
          · rw [Sem.run_bind, pt _ _ _ hu (by simp) (by simp) hx0, Result.andThen_ok, Sem.run_bind, pt _ _ _ hu (by simp) (by simp) hy0, Result.andThen_ok, Sem.run_bind,
              run_equalIn_int W dd f.type _ _ a b hu, Result.andThen_ok]
            by_cases hab : a = b
            · subst hab; simp [ceq, ihh]
            · simp [ceq, hab]
          · rw [Sem.run_bind, pt _ _ _ hu (by simp) (by simp) hx0, Result.andThen_ok, Sem.run_bind, pt _ _ _ hu (by simp) (by simp) hy0, Result.andThen_ok, Sem.run_bind,
              run_equalIn_bool' W dd f.type a b hu, Result.andThen_ok]
            by_cases hab : a = b
            · subst hab; simp [ceq, ihh]
            · simp [ceq, hab]
          · rw [Sem.run_bind, pt _ _ _ hu (by simp) (by simp) hx0, Result.andThen_ok, Sem.run_bind, pt _ _ _ hu (by simp) (by simp) hy0, Result.andThen_ok, Sem.run_bind,
              run_equalIn_string W dd f.type a b hu, Result.andThen_ok]
            by_cases hab : a.toList = b.toList
            · simp [ceq, hab, ihh]
            · simp [ceq, hab]

theorem eqS {t : TypeId} {xs ys : List Value} (h1 : plainS P t xs = true) (h2 : plainS P t ys = true) (W : World) : (Op.equalIn 10000 t (.agg xs.toArray) (.agg ys.toArray)).run P W = .ok (ceq xs ys) W ∧ P.eqGuardType P.depth t = false := by
  unfold plainS at h1 h2
  split at h1
  · rename_i F hF
    rw [hF] at h2
    simp only [Bool.and_eq_true, Bool.not_eq_true'] at h1 h2
    have hfs : P.fieldsOf t = F := by simp [Program.fieldsOf, hF]
    refine ⟨?_, h1.2⟩
    rw [run_equalIn_struct W 9999 t _ _ (by rw [hfs]; exact hF) h1.1.2, hfs]
    exact eqF _ _ h1.1.1 h2.1.1 (fun i v h => by simpa using h) (fun i v h => by simpa using h) W 9998
  · cases h1
theorem Yld.steql {x y : Operand} {t u : TypeId} {xs ys : List Value} {p : Prop} [Decidable p] (hx : ev σ x = some (.agg xs.toArray)) (hy : ev σ y = some (.agg ys.toArray)) (h1 : plainS P t xs = true) (h2 : plainS P t ys = true) (hp : ceq xs ys = decide p) :
    Yld P n w0 σ Ω ⟨d, .binOp .eql t x y u, ty, pos, af, gd⟩ (.bool (decide p)) := fun A W he _ => by
  obtain ⟨k1, k2⟩ := eqS h1 h2 W
  simp only [execOp, he.eval hx, he.eval hy, Sem.run_bind, run_eqGuard_agg W .eql t x y _ _ k2, Result.andThen_ok, run_eql_struct, k1, hp, Sem.run_pure]
theorem Yld.stneq {x y : Operand} {t u : TypeId} {xs ys : List Value} {p : Prop} [Decidable p] (hx : ev σ x = some (.agg xs.toArray)) (hy : ev σ y = some (.agg ys.toArray)) (h1 : plainS P t xs = true) (h2 : plainS P t ys = true) (hp : ceq xs ys = decide p) :
    Yld P n w0 σ Ω ⟨d, .binOp .neq t x y u, ty, pos, af, gd⟩ (.bool (decide (¬ p))) := fun A W he _ => by
  obtain ⟨k1, k2⟩ := eqS h1 h2 W
  simp only [execOp, he.eval hx, he.eval hy, Sem.run_bind, run_eqGuard_agg W .neq t x y _ _ k2, Result.andThen_ok, run_neq_struct, k1, hp, Sem.run_pure]
  simp

/-! ### Bytes to text -/
theorem Rd.bytes {m : Mem} : ∀ {l : List UInt8} {cs : List Value}, All2c (Rd .byte m) cs l → cs = l.map byV
  | [], _, h => h
  | b :: l, _, ⟨c1, c2, h1, h2, h3⟩ => by rw [h1, show c1 = [byV b] from h2, Rd.bytes h3]; rfl
theorem push_fold : ∀ (l acc : List UInt8), (l.map fun b => (b.toNat : Int)).foldl (fun (r : ByteArray) n => r.push (UInt8.ofNat n.toNat)) ⟨acc.toArray⟩ = ⟨(acc ++ l).toArray⟩
  | [], acc => by simp
  | b :: l, acc => by
    have e : (⟨acc.toArray⟩ : ByteArray).push (UInt8.ofNat ((b.toNat : Int).toNat)) = ⟨(acc ++ [b]).toArray⟩ := by
      apply ByteArray.ext
      simp [ByteArray.push]
    rw [List.map_cons, List.foldl_cons, e, push_fold l (acc ++ [b])]
    simp
theorem b2s_run (W : World) (l : List UInt8) (g off : Nat) (c : Nat) (h : (loadCells ⟨g, off, none⟩ l.length).run P W = .ok (l.map byV).toArray W) :
    (Conv.bytesToString (.slice (some ⟨g, off, none⟩) l.length c)).run P W = .ok (str l) W := by
  have h' : (loadCells ⟨g, off, none⟩ l.length).run P W = .ok ((l.map fun b => (b.toNat : Int)).map (Value.int .u8)).toArray W := by
    rw [h, List.map_map]; rfl
  rw [run_bytesToString W _ _ c _ h']
  have := push_fold l []
  rw [show (⟨([] : List UInt8).toArray⟩ : ByteArray) = ByteArray.empty from rfl] at this
  rw [this]
  simp
theorem Yld.b2s {x : Operand} {s t e : TypeId} {m : Mem} {v : Value} {l : List UInt8} (i : Nat) (hx : ev σ x = some v) (hs : P.underlying s = some (.slice e)) (ht : P.underlying t = some .string) (he' : P.underlying e = some (.int .u8)) (hm : cget Ω i = some m) (h : Rd (.sl .byte) m [v] l) :
    Yld P n w0 σ Ω ⟨d, .convert s t x, ty, pos, af, gd⟩ (str l) := fun a W he hi => by
  obtain ⟨A, c, rfl, h2, h3⟩ := h.slice
  have key : (Conv.bytesToString (.slice A l.length c)).run P W = .ok (str l) W := by
    by_cases h0 : l = []
    · subst h0
      cases A with
      | none => rfl
      | some a0 =>
        simp only [Conv.bytesToString, loadCells, loadCellsFrom, Sem.run_bind, List.length_nil, Sem.run_pure, Result.andThen_ok]
        rfl
    · obtain ⟨g, off, all, rfl, k2, k3⟩ := h.row h0
      have k2' : cellsAt m g off l.length all := by simpa [Ty.sz] using k2
      have hall := Rd.bytes k3
      subst hall
      exact b2s_run W l g off c (run_loadCells' (k2'.mono (hi.at hm)))
  simp only [execOp, convert, he.eval hx, Sem.run_bind, run_underlying' hs, run_underlying' ht, Result.andThen_ok, run_underlying' he', key, Sem.run_pure]
end
end Go.Proofs.Ytfaknkkaegjdaaa
