/- Own library, part C: stores, arithmetic, tests, slices, strings, structs. -/
import Derived.Test.YtfaknkkaegjdaaaKitB
namespace Go.Proofs.Ytfaknkkaegjdaaa

section
variable {P : Program} {n : Nat} {w0 : World} {σ : Env} {Ω : Ctx} {ops : Array Oper} {K : Env → Ctx → Prop}
variable {ty : TypeId} {pos : String} {af : Array Edge} {d : Option Tmp} {gd : Option (Nat × Bool)} {r : List Oper}

/-! ### Stores -/
def nice (v : Value) : Bool := v.cells.toList.all (·.oneCell')

/-- A store into a block of chunk i. -/
theorem Stp.store {t : TypeId} {x y : Operand} {g off : Nat} {v : Value} {k : Nat} (i : Nat) {m : Mem} {c : Array Value} {E : TypeId}
    (hx : ev σ x = some (.pointer (some ⟨g, off, none⟩))) (hy : ev σ y = some v) (ht : tk P t = some (some k) ∨ (tk P t = some none ∧ k = 1)) (hk : Nat.beq v.cells.size k = true) (hn : nice v = true)
    (hm : cget Ω i = some m) (hg : m g = some (.cells c E (0, 0))) (hl : Nat.ble (off + k) c.size = true) :
    Stp P n w0 σ Ω ⟨d, .store t x y, ty, pos, af, gd⟩ (fun u Ω' => u = undef ∧ Ω' = cset Ω i (mset m g (.cells (splice c.toList off v.cells.toList).toArray E (0, 0)))) := fun a W he hi K' Q hK => by
  have hsz : (sizeOf t).run P W = .ok k W := by
    rcases ht with h | ⟨h, rfl⟩
    · exact (tk_some h W).2
    · exact (tk_none h W).2
  have hks := Nat.eq_of_beq_eq_true hk
  have hwm : W.heap[g]? = some (.cells c E (0, 0)) := hi.at hm g _ hg
  obtain ⟨W', hrun, ho, htp, hu, hs, hfar, hgg⟩ := setCells_heap (P := P) v.cells.toList W g off c E (0, 0) hwm (by simp [hks]; simpa using hl) (Nat.le_refl _)
    (fun u hu => by unfold nice at hn; rw [List.all_eq_true] at hn; exact hn u hu) 0 off rfl
  unfold Oper.wp
  have hex : (execOp a.eval ⟨d, .store t x y, ty, pos, af, gd⟩).run P W = .ok .skip W' := by
    simp [execOp, Instr.storeAt, he.eval hx, he.eval hy, Instr.sureAddr, storeVar, hsz, hks, hrun]
  rw [hex]
  refine hK undef _ W' ⟨rfl, rfl⟩ (hi.set hm ho htp hu (Nat.le_of_eq hs.symm) (fun k o h => ?_) (fun k o h => ?_) (fun k => ?_))
  · unfold mout at h
    split at h
    · cases h
    · rename_i hn
      have hkg : k ≠ g := by rintro rfl; rw [hg] at hn; cases hn
      unfold wm at h ⊢
      rw [hfar k hkg]; exact h
  · unfold mset at h
    split at h
    · rename_i hkg; subst hkg; unfold wm; rw [hgg]; exact h
    · rename_i hkg; unfold wm; rw [hfar k hkg]; exact hi.at hm k o h
  · by_cases hkg : k = g
    · subst hkg; right; left; rw [hg]; simp
    · cases hmk : m k with
      | none => left; simp [mset, hkg, hmk]
      | some o => right; left; simp
/-- A store into a variable of one's own. -/
theorem VO.store {t : TypeId} {x y : Operand} {g off : Nat} {v : Value} {k : Nat} (i : Nat) {c : Array Value} {E : TypeId} {c' : List Value}
    (hx : ev σ x = some (.pointer (some ⟨g, off, none⟩))) (hy : ev σ y = some v) (ht : tk P t = some (some k) ∨ (tk P t = some none ∧ k = 1)) (hk : Nat.beq v.cells.size k = true) (hn : nice v = true)
    (hm : cget Ω i = some (mone g (.cells c E (0, 0)))) (hl : Nat.ble (off + k) c.size = true) (hc : splice c.toList off v.cells.toList = c')
    (h : VO P n w0 ops r σ (cset Ω i (mone g (.cells c'.toArray E (0, 0)))) K) : VO P n w0 ops (⟨none, .store t x y, ty, pos, af, none⟩ :: r) σ Ω K :=
  VO.u (Stp.store i hx hy ht hk hn hm (mone_self _ _) hl) fun _ _ ⟨_, hΩ⟩ => by rw [hΩ, mset_one, hc]; exact h

/-! ### Copies, choices, tests -/
theorem Yld.mv {x : Operand} {v : Value} (hx : ev σ x = some v) : Yld P n w0 σ Ω ⟨d, .move x, ty, pos, af, gd⟩ v := fun a W he _ => by
  simp [execOp, he.eval hx]
theorem Yld.as {x : Operand} {v : Value} (hx : ev σ x = some v) : Yld P n w0 σ Ω ⟨d, .assign x, ty, pos, af, gd⟩ v := fun a W he _ => by
  simp [execOp, he.eval hx]
theorem Yld.pT {c x y : Operand} {v : Value} (hc : ev σ c = some (.bool true)) (hx : ev σ x = some v) : Yld P n w0 σ Ω ⟨d, .pick c x y, ty, pos, af, gd⟩ v := fun a W he _ => by
  simp [execOp, he.eval hc, he.eval hx, asBool]
theorem Yld.pF {c x y : Operand} {v : Value} (hc : ev σ c = some (.bool false)) (hy : ev σ y = some v) : Yld P n w0 σ Ω ⟨d, .pick c x y, ty, pos, af, gd⟩ v := fun a W he _ => by
  simp [execOp, he.eval hc, he.eval hy, asBool]
theorem Yld.not {x : Operand} {t : TypeId} {b : Bool} (hx : ev σ x = some (.bool b)) : Yld P n w0 σ Ω ⟨d, .unOp .not t x, ty, pos, af, gd⟩ (.bool (!b)) := fun a W he _ => by
  simp [execOp, he.eval hx, Op.unary]
theorem Yld.notD {x : Operand} {t : TypeId} {p : Prop} [Decidable p] (hx : ev σ x = some (.bool (decide p))) : Yld P n w0 σ Ω ⟨d, .unOp .not t x, ty, pos, af, gd⟩ (.bool (decide (¬ p))) := by
  have := Yld.not (P := P) (n := n) (w0 := w0) (Ω := Ω) (ty := ty) (pos := pos) (af := af) (d := d) (gd := gd) (t := t) hx
  simpa using this
theorem Yld.nilp {x : Operand} {a : Addr} (hx : ev σ x = some (.pointer (some a))) : Yld P n w0 σ Ω ⟨d, .nilCheck x, ty, pos, af, gd⟩ (.pointer (some a)) := fun a W he _ => by
  simp [execOp, he.eval hx]
theorem Yld.ext {x : Operand} {vs : Array Value} {i : Nat} {v : Value} (hx : ev σ x = some (.tuple vs)) (hv : vs[i]? = some v) : Yld P n w0 σ Ω ⟨d, .extract x i, ty, pos, af, gd⟩ v := fun a W he _ => by
  simp [execOp, he.eval hx, Instr.extract, hv]

section
variable {x y : Operand} {t u : TypeId} {k : IntKind} {a b : Int}
theorem eqGuard_int (op : BinOp) (t : TypeId) (x y : Operand) (k k' : IntKind) (a b : Int) (W : World) : (eqGuard op t x y (.int k a) (.int k' b)).run P W = .ok () W := by
  unfold eqGuard; cases op <;> simp
theorem Yld.lss (hx : ev σ x = some (.int k a)) (hy : ev σ y = some (.int k b)) : Yld P n w0 σ Ω ⟨d, .binOp .lss t x y u, ty, pos, af, gd⟩ (.bool (decide (a < b))) := fun A W he _ => by
  simp [execOp, he.eval hx, he.eval hy, eqGuard_int, binOp, Op.intCmp]
theorem Yld.leq (hx : ev σ x = some (.int k a)) (hy : ev σ y = some (.int k b)) : Yld P n w0 σ Ω ⟨d, .binOp .leq t x y u, ty, pos, af, gd⟩ (.bool (decide (a ≤ b))) := fun A W he _ => by
  simp [execOp, he.eval hx, he.eval hy, eqGuard_int, binOp, Op.intCmp]
theorem Yld.gtr (hx : ev σ x = some (.int k a)) (hy : ev σ y = some (.int k b)) : Yld P n w0 σ Ω ⟨d, .binOp .gtr t x y u, ty, pos, af, gd⟩ (.bool (decide (b < a))) := fun A W he _ => by
  simp [execOp, he.eval hx, he.eval hy, eqGuard_int, binOp, Op.intCmp]
theorem Yld.geq (hx : ev σ x = some (.int k a)) (hy : ev σ y = some (.int k b)) : Yld P n w0 σ Ω ⟨d, .binOp .geq t x y u, ty, pos, af, gd⟩ (.bool (decide (b ≤ a))) := fun A W he _ => by
  simp [execOp, he.eval hx, he.eval hy, eqGuard_int, binOp, Op.intCmp]
theorem Yld.eql (hx : ev σ x = some (.int k a)) (hy : ev σ y = some (.int k b)) : Yld P n w0 σ Ω ⟨d, .binOp .eql t x y u, ty, pos, af, gd⟩ (.bool (decide (a = b))) := fun A W he _ => by
  simp [execOp, he.eval hx, he.eval hy, eqGuard_int, binOp, Op.intCmp]; rfl
theorem Yld.neq (hx : ev σ x = some (.int k a)) (hy : ev σ y = some (.int k b)) : Yld P n w0 σ Ω ⟨d, .binOp .neq t x y u, ty, pos, af, gd⟩ (.bool (decide (¬ a = b))) := fun A W he _ => by
  simp [execOp, he.eval hx, he.eval hy, eqGuard_int, binOp, Op.intCmp, bne]; rfl

/-! ### Arithmetic -/
theorem Yld.addW (hx : ev σ x = some (.int k a)) (hy : ev σ y = some (.int k b)) : Yld P n w0 σ Ω ⟨d, .binOp .add t x y u, ty, pos, af, gd⟩ (.int k (k.wrap (a + b))) := fun A W he _ => by
  simp [execOp, he.eval hx, he.eval hy, eqGuard_int, binOp, Op.intArith]
theorem Yld.subW (hx : ev σ x = some (.int k a)) (hy : ev σ y = some (.int k b)) : Yld P n w0 σ Ω ⟨d, .binOp .sub t x y u, ty, pos, af, gd⟩ (.int k (k.wrap (a - b))) := fun A W he _ => by
  simp [execOp, he.eval hx, he.eval hy, eqGuard_int, binOp, Op.intArith]
theorem Yld.mulW (hx : ev σ x = some (.int k a)) (hy : ev σ y = some (.int k b)) : Yld P n w0 σ Ω ⟨d, .binOp .mul t x y u, ty, pos, af, gd⟩ (.int k (k.wrap (a * b))) := fun A W he _ => by
  simp [execOp, he.eval hx, he.eval hy, eqGuard_int, binOp, Op.intArith]
theorem Yld.add {c : Int} (hx : ev σ x = some (.int .i64 a)) (hy : ev σ y = some (.int .i64 b)) (hc : a + b = c) (h : -9223372036854775808 ≤ c ∧ c ≤ 9223372036854775807) :
    Yld P n w0 σ Ω ⟨d, .binOp .add t x y u, ty, pos, af, gd⟩ (.int .i64 c) := by
  have := Yld.addW (P := P) (n := n) (w0 := w0) (Ω := Ω) (ty := ty) (pos := pos) (af := af) (d := d) (gd := gd) (t := t) (u := u) hx hy
  rwa [hc, IntWalk.i64_in c h] at this
theorem Yld.sub {c : Int} (hx : ev σ x = some (.int .i64 a)) (hy : ev σ y = some (.int .i64 b)) (hc : a - b = c) (h : -9223372036854775808 ≤ c ∧ c ≤ 9223372036854775807) :
    Yld P n w0 σ Ω ⟨d, .binOp .sub t x y u, ty, pos, af, gd⟩ (.int .i64 c) := by
  have := Yld.subW (P := P) (n := n) (w0 := w0) (Ω := Ω) (ty := ty) (pos := pos) (af := af) (d := d) (gd := gd) (t := t) (u := u) hx hy
  rwa [hc, IntWalk.i64_in c h] at this
theorem Yld.mul {c : Int} (hx : ev σ x = some (.int .i64 a)) (hy : ev σ y = some (.int .i64 b)) (hc : a * b = c) (h : -9223372036854775808 ≤ c ∧ c ≤ 9223372036854775807) :
    Yld P n w0 σ Ω ⟨d, .binOp .mul t x y u, ty, pos, af, gd⟩ (.int .i64 c) := by
  have := Yld.mulW (P := P) (n := n) (w0 := w0) (Ω := Ω) (ty := ty) (pos := pos) (af := af) (d := d) (gd := gd) (t := t) (u := u) hx hy
  rwa [hc, IntWalk.i64_in c h] at this
end

/-! ### Lengths, slices -/
theorem Yld.lenS {x : Operand} {t e : TypeId} {A : Option Addr} {l c s b : Nat} (hx : ev σ x = some (.slice A l c)) (ht : tsl P t = some (e, s, b)) :
    Yld P n w0 σ Ω ⟨d, .call { callee := .builtin .len, args := [x].toArray, argTypes := [t].toArray }, ty, pos, af, gd⟩ (.int .i64 l) := fun a W he _ => by
  obtain ⟨h1, _⟩ := tsl_run ht
  simp [execOp, resolve, invoke, builtin, Builtin.len_, he.eval hx, run_underlying' h1, goInt]
theorem Yld.capS {x : Operand} {t e : TypeId} {A : Option Addr} {l c s b : Nat} (hx : ev σ x = some (.slice A l c)) (ht : tsl P t = some (e, s, b)) :
    Yld P n w0 σ Ω ⟨d, .call { callee := .builtin .cap, args := [x].toArray, argTypes := [t].toArray }, ty, pos, af, gd⟩ (.int .i64 c) := fun a W he _ => by
  obtain ⟨h1, _⟩ := tsl_run ht
  simp [execOp, resolve, invoke, builtin, Builtin.cap_, he.eval hx, run_underlying' h1, goInt]
theorem Yld.lenT {x : Operand} {t : TypeId} {s : List UInt8} (hx : ev σ x = some (.string ⟨s.toArray⟩)) (ht : P.underlying t = some .string) :
    Yld P n w0 σ Ω ⟨d, .call { callee := .builtin .len, args := [x].toArray, argTypes := [t].toArray }, ty, pos, af, gd⟩ (.int .i64 s.length) := fun a W he _ => by
  have e : (⟨s.toArray⟩ : ByteArray).size = s.length := by show s.toArray.size = _; simp
  simp [execOp, resolve, invoke, builtin, Builtin.len_, he.eval hx, run_underlying' ht, goInt, e]
theorem Yld.min {x y : Operand} {t u : TypeId} {k : IntKind} {a b : Int} (hx : ev σ x = some (.int k a)) (hy : ev σ y = some (.int k b)) :
    Yld P n w0 σ Ω ⟨d, .call { callee := .builtin .min, args := [x, y].toArray, argTypes := [t, u].toArray }, ty, pos, af, gd⟩ (.int k (if b < a then b else a)) := fun A W he _ => by
  simp [execOp, resolve, invoke, builtin, Builtin.min_, Builtin.min2, he.eval hx, he.eval hy]
theorem Yld.max {x y : Operand} {t u : TypeId} {k : IntKind} {a b : Int} (hx : ev σ x = some (.int k a)) (hy : ev σ y = some (.int k b)) :
    Yld P n w0 σ Ω ⟨d, .call { callee := .builtin .max, args := [x, y].toArray, argTypes := [t, u].toArray }, ty, pos, af, gd⟩ (.int k (if b > a then b else a)) := fun A W he _ => by
  simp [execOp, resolve, invoke, builtin, Builtin.max_, Builtin.max2, he.eval hx, he.eval hy]

/-- x[lo:hi] of a slice. -/
theorem Yld.sl {x lo hi : Operand} {t e : TypeId} {A : Option Addr} {l c s b i j : Nat} {k k' : IntKind} (hx : ev σ x = some (.slice A l c)) (hlo : ev σ lo = some (.int k i)) (hhi : ev σ hi = some (.int k' j)) (ht : tsl P t = some (e, s, b))
    (hij : i ≤ j) (hjc : j ≤ c) :
    Yld P n w0 σ Ω ⟨d, .slice t x (some lo) (some hi) none, ty, pos, af, gd⟩ (.slice (if c = i then A else A.map (·.add (i * s))) (j - i) (c - i)) := fun a W he _ => by
  obtain ⟨h1, i', h2, h3, _⟩ := tsl_run ht
  have e1 : (j : Int) ≤ c := by omega
  have e2 : (i : Int) ≤ j := by omega
  simp [execOp, Instr.sliceAt, Instr.slice, Instr.sliceBounds, Instr.sliceBound, asIntOf, he.eval hx, he.eval hlo, he.eval hhi, run_underlying' h1, run_sizeOf' h2, h3, hij, hjc]
theorem Yld.slL {x lo : Operand} {t e : TypeId} {A : Option Addr} {l c s b i : Nat} {k : IntKind} (hx : ev σ x = some (.slice A l c)) (hlo : ev σ lo = some (.int k i)) (ht : tsl P t = some (e, s, b))
    (hil : i ≤ l) :
    Yld P n w0 σ Ω ⟨d, .slice t x (some lo) none none, ty, pos, af, gd⟩ (.slice (if c = i then A else A.map (·.add (i * s))) (l - i) (c - i)) := fun a W he _ => by
  obtain ⟨h1, i', h2, h3, _⟩ := tsl_run ht
  simp [execOp, Instr.sliceAt, Instr.slice, Instr.sliceBounds, Instr.sliceBound, asIntOf, he.eval hx, he.eval hlo, run_underlying' h1, run_sizeOf' h2, h3, hil]
theorem Yld.slH {x hi : Operand} {t e : TypeId} {A : Option Addr} {l c s b j : Nat} {k : IntKind} (hx : ev σ x = some (.slice A l c)) (hhi : ev σ hi = some (.int k j)) (ht : tsl P t = some (e, s, b))
    (hjc : j ≤ c) :
    Yld P n w0 σ Ω ⟨d, .slice t x none (some hi) none, ty, pos, af, gd⟩ (.slice A j c) := fun a W he _ => by
  obtain ⟨h1, i', h2, h3, _⟩ := tsl_run ht
  have e0 : (if c = 0 then A else A.map (fun z => z.add 0)) = A := by
    split
    · rfl
    · cases A <;> simp [Addr.add]
  simp [execOp, Instr.sliceAt, Instr.slice, Instr.sliceBounds, Instr.sliceBound, asIntOf, he.eval hx, he.eval hhi, run_underlying' h1, run_sizeOf' h2, hjc, e0]
/-- an element's place. -/
theorem Yld.ix {x y : Operand} {t e : TypeId} {g off l c s b i : Nat} {k : IntKind} (hx : ev σ x = some (.slice (some ⟨g, off, none⟩) l c)) (hy : ev σ y = some (.int k i)) (ht : tsl P t = some (e, s, b)) (hi : i < l) :
    Yld P n w0 σ Ω ⟨d, .indexAddr t x y, ty, pos, af, gd⟩ (.pointer (some ⟨g, off + i * s, none⟩)) := fun a W he _ => by
  obtain ⟨h1, i', h2, h3, _⟩ := tsl_run ht
  have e1 : (i : Int) < l := by omega
  simp [execOp, Instr.indexAt, asIntOf, he.eval hx, he.eval hy, run_underlying' h1, run_sizeOf' h2, h3, hi, add_off]
/-- an element's place; the number given as an integer. -/
theorem Yld.ixI {x y : Operand} {t e : TypeId} {g off l c s b : Nat} {k : IntKind} {a : Int} (i : Nat) (hx : ev σ x = some (.slice (some ⟨g, off, none⟩) l c)) (hy : ev σ y = some (.int k a)) (ht : tsl P t = some (e, s, b)) (ha : a = i) (hi : i < l) :
    Yld P n w0 σ Ω ⟨d, .indexAddr t x y, ty, pos, af, gd⟩ (.pointer (some ⟨g, off + i * s, none⟩)) := by
  subst ha; exact Yld.ix hx hy ht hi
theorem mapM_get {α β : Type} {f : α → Option β} : ∀ {l : List α} {r : List β} {i : Nat} {y : β}, l.mapM f = some r → r[i]? = some y → ∃ x, l[i]? = some x ∧ f x = some y
  | [], r, i, y, h, hi => by simp at h; subst h; simp at hi
  | x :: l, r, i, y, h, hi => by
    simp only [List.mapM_cons, Option.bind_eq_bind, Option.bind_eq_some_iff] at h
    obtain ⟨z, hz, r', hr', h⟩ := h
    simp only [Option.pure_def, Option.some.injEq] at h
    subst h
    cases i with
    | zero => simp at hi; subst hi; exact ⟨x, rfl, hz⟩
    | succ i => simpa using mapM_get hr' (by simpa using hi)
/-- a field's place. -/
theorem tst_field {t : TypeId} {fs : List (Nat × Nat)} (h : tst P t = some fs) {i o z : Nat} (hi : fs[i]? = some (o, z)) :
    ∃ F : Array Field, P.underlying t = some (.struct F) ∧ ∃ f, F[i]? = some f ∧ f.offset = o ∧ ∃ j, P.info? f.type = some j ∧ j.size = z ∧ z ≠ 0 := by
  unfold tst at h
  split at h
  · rename_i F hF
    refine ⟨F, hF, ?_⟩
    obtain ⟨f, hf, hfi⟩ := mapM_get h hi
    simp only [Option.bind_eq_some_iff] at hfi
    obtain ⟨j, hj, hj2⟩ := hfi
    split at hj2
    · cases hj2
    · rename_i hz
      simp only [Option.some.injEq, Prod.mk.injEq] at hj2
      exact ⟨f, by simpa using hf, hj2.1, j, hj, hj2.2, hj2.2 ▸ hz⟩
  · cases h
theorem Yld.fa {x : Operand} {t : TypeId} {g off i o z : Nat} {fs : List (Nat × Nat)} (hx : ev σ x = some (.pointer (some ⟨g, off, none⟩))) (ht : tst P t = some fs) (hi : fs[i]? = some (o, z)) :
    Yld P n w0 σ Ω ⟨d, .fieldAddr t x i, ty, pos, af, gd⟩ (.pointer (some ⟨g, off + o, none⟩)) := fun a W he _ => by
  obtain ⟨F, h1, f, h2, h3, j, h4, h5, h6⟩ := tst_field ht hi
  simp [execOp, Instr.fieldAt, he.eval hx, run_underlying' h1, h2, Instr.sureAddr, fieldPlace, run_sizeOf' h4, h5, h6, h3, add_off]
end
end Go.Proofs.Ytfaknkkaegjdaaa
