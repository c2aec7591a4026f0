/- Own library, part P: more operations: stores into rows, made slices, arrays, pointers against nil, slices of slices of one's own. -/
import Derived.Test.YtfaknkkaegjdaaaKitO
import Derived.Laws.MakeOwn
set_option linter.unusedVariables false
namespace Go.Proofs.Ytfaknkkaegjdaaa

section
variable {P : Program} {n : Nat} {w0 : World} {σ : Env} {Ω : Ctx} {ops : Array Oper} {K : Env → Ctx → Prop} {R : Exit → Env → Ctx → Prop}
variable {ty : TypeId} {pos : String} {af : Array Edge} {d : Option Tmp} {gd : Option (Nat × Bool)} {r : List Oper}

theorem cpl_wrap (a : Int) (h : -9223372036854775808 ≤ a ∧ a ≤ 9223372036854775807) : IntKind.i64.wrap ((BitVec.ofInt 64 (-1) ^^^ BitVec.ofInt 64 a).toNat : Int) = -a - 1 := by
  have e1 : BitVec.ofInt 64 (-1) ^^^ BitVec.ofInt 64 a = ~~~ (BitVec.ofInt 64 a) := by
    rw [show BitVec.ofInt 64 (-1) = BitVec.allOnes 64 from rfl, BitVec.allOnes_xor]
  rw [e1, BitVec.toNat_not, BitVec.toNat_ofInt, IntKind.wrap_i64]
  omega
theorem Yld.cpl {x : Operand} {t : TypeId} {a : Int} (hx : ev σ x = some (.int .i64 a)) (h : -9223372036854775808 ≤ a ∧ a ≤ 9223372036854775807) : Yld P n w0 σ Ω ⟨d, .unOp .xor t x, ty, pos, af, gd⟩ (.int .i64 (-a - 1)) := fun A W he _ => by
  have := cpl_wrap a h
  have h2 : (Op.unary .xor (.int .i64 a)).run P W = .ok (.int .i64 (-a - 1)) W := by
    show Result.ok (Value.int .i64 (IntKind.i64.wrap ((BitVec.ofInt 64 (-1) ^^^ BitVec.ofInt 64 a).toNat : Int))) W = _
    rw [this]
  simp [execOp, he.eval hx, h2]
/-! ### Slices against nil, pointers against nil -/
theorem eqGuard_pt (op : BinOp) (t : TypeId) (x y : Operand) (A B : Option Addr) (W : World) : (eqGuard op t x y (.pointer A) (.pointer B)).run P W = .ok () W := by
  unfold eqGuard; cases op <;> simp
theorem run_equalIn_pnil (W : World) (k : Nat) {t e : TypeId} (A : Option Addr) (ht : P.underlying t = some (.pointer e)) : (Op.equalIn (k + 1) t (.pointer A) (.pointer none)).run P W = .ok (decide (A = none)) W := by
  unfold Op.equalIn
  rw [Sem.run_bind, run_underlying' ht]
  cases A <;> rfl
theorem Yld.pnilA {x y : Operand} {t u e : TypeId} {A : Option Addr} (hx : ev σ x = some (.pointer A)) (hy : ev σ y = some (.pointer none)) (ht : P.underlying t = some (.pointer e)) :
    Yld P n w0 σ Ω ⟨d, .binOp .eql t x y u, ty, pos, af, gd⟩ (.bool (decide (A = none))) := fun a W he _ => by
  have h2 : (binOp .eql t (.pointer A) (.pointer none)).run P W = .ok (.bool (decide (A = none))) W := by
    have h3 : binOp .eql t (.pointer A) (.pointer none) = (do pure (.bool (← Op.equal t (.pointer A) (.pointer none)))) := by
      cases A <;> rfl
    rw [h3, Sem.run_bind]
    unfold Op.equal
    rw [show Op.maxDepth = 9999 + 1 from rfl, run_equalIn_pnil W 9999 A ht]
    rfl
  simp [execOp, he.eval hx, he.eval hy, eqGuard_pt, h2]
theorem Yld.pnilAN {x y : Operand} {t u e : TypeId} {A : Option Addr} (hx : ev σ x = some (.pointer A)) (hy : ev σ y = some (.pointer none)) (ht : P.underlying t = some (.pointer e)) :
    Yld P n w0 σ Ω ⟨d, .binOp .neq t x y u, ty, pos, af, gd⟩ (.bool (decide (¬ A = none))) := fun a W he _ => by
  have h2 : (binOp .neq t (.pointer A) (.pointer none)).run P W = .ok (.bool (decide (¬ A = none))) W := by
    have h3 : binOp .neq t (.pointer A) (.pointer none) = (do pure (.bool !(← Op.equal t (.pointer A) (.pointer none)))) := by
      cases A <;> rfl
    rw [h3, Sem.run_bind]
    unfold Op.equal
    rw [show Op.maxDepth = 9999 + 1 from rfl, run_equalIn_pnil W 9999 A ht]
    simp
  simp [execOp, he.eval hx, he.eval hy, eqGuard_pt, h2]
theorem Yld.pnil {x y : Operand} {t u e : TypeId} {A : Option Addr} {b : Bool} (hx : ev σ x = some (.pointer A)) (hy : ev σ y = some (.pointer none)) (ht : P.underlying t = some (.pointer e)) (hb : A.isNone = b) :
    Yld P n w0 σ Ω ⟨d, .binOp .eql t x y u, ty, pos, af, gd⟩ (.bool b) := by
  have := Yld.pnilA (P := P) (n := n) (w0 := w0) (Ω := Ω) (u := u) (ty := ty) (pos := pos) (af := af) (d := d) (gd := gd) hx hy ht
  rwa [show decide (A = none) = b by subst hb; cases A <;> rfl] at this
theorem Yld.pnilN {x y : Operand} {t u e : TypeId} {A : Option Addr} {b : Bool} (hx : ev σ x = some (.pointer A)) (hy : ev σ y = some (.pointer none)) (ht : P.underlying t = some (.pointer e)) (hb : A.isSome = b) :
    Yld P n w0 σ Ω ⟨d, .binOp .neq t x y u, ty, pos, af, gd⟩ (.bool b) := by
  have := Yld.pnilAN (P := P) (n := n) (w0 := w0) (Ω := Ω) (u := u) (ty := ty) (pos := pos) (af := af) (d := d) (gd := gd) hx hy ht
  rwa [show decide (¬ A = none) = b by subst hb; cases A <;> rfl] at this
theorem Yld.pnilO {x y : Operand} {t u e : TypeId} {A : Option Nat} (hx : ev σ x = some (.pointer (A.map fun g => ⟨g, 0, none⟩))) (hy : ev σ y = some (.pointer none)) (ht : P.underlying t = some (.pointer e)) :
    Yld P n w0 σ Ω ⟨d, .binOp .eql t x y u, ty, pos, af, gd⟩ (.bool (decide (A = none))) := by
  have := Yld.pnilA (P := P) (n := n) (w0 := w0) (Ω := Ω) (u := u) (ty := ty) (pos := pos) (af := af) (d := d) (gd := gd) hx hy ht
  rwa [show decide ((A.map fun g => (⟨g, 0, none⟩ : Addr)) = none) = decide (A = none) by cases A <;> rfl] at this
theorem Yld.pnilON {x y : Operand} {t u e : TypeId} {A : Option Nat} (hx : ev σ x = some (.pointer (A.map fun g => ⟨g, 0, none⟩))) (hy : ev σ y = some (.pointer none)) (ht : P.underlying t = some (.pointer e)) :
    Yld P n w0 σ Ω ⟨d, .binOp .neq t x y u, ty, pos, af, gd⟩ (.bool (decide (¬ A = none))) := by
  have := Yld.pnilAN (P := P) (n := n) (w0 := w0) (Ω := Ω) (u := u) (ty := ty) (pos := pos) (af := af) (d := d) (gd := gd) hx hy ht
  rwa [show decide (¬ (A.map fun g => (⟨g, 0, none⟩ : Addr)) = none) = decide (¬ A = none) by cases A <;> rfl] at this
theorem Yld.snilN {x y : Operand} {t u e : TypeId} {A : Option Addr} {l c : Nat} (hx : ev σ x = some (.slice A l c)) (hy : ev σ y = some (.slice none 0 0)) (ht : P.underlying t = some (.slice e)) :
    Yld P n w0 σ Ω ⟨d, .binOp .neq t x y u, ty, pos, af, gd⟩ (.bool (decide (¬ A = none))) := fun a W he _ => by
  have h2 : (binOp .neq t (.slice A l c) (.slice none 0 0)).run P W = .ok (.bool (decide (¬ A = none))) W := by
    have h3 : binOp .neq t (.slice A l c) (.slice none 0 0) = (do pure (.bool !(← Op.equal t (.slice A l c) (.slice none 0 0)))) := by
      cases A <;> rfl
    rw [h3, Sem.run_bind]
    unfold Op.equal
    rw [show Op.maxDepth = 9999 + 1 from rfl, run_equalIn_snil W 9999 A l c ht]
    simp
  simp [execOp, he.eval hx, he.eval hy, eqGuard_sl, h2]

/-! ### Fields and elements that are structs -/
def tfaB (P : Program) (t i k : Nat) : Bool := match P.underlying t with
  | some (.struct F) => match F[i]? with
    | some f => tk P f.type == some (some k)
    | none => true
  | _ => true
theorem tfa_of {t i k : Nat} (h : tfaB P t i k = true) : ∀ F : Array Field, P.underlying t = some (.struct F) → ∀ f, F[i]? = some f → tk P f.type = some (some k) := by
  intro F hF f hf
  unfold tfaB at h
  rw [hF] at h
  simp only [hf] at h
  exact eq_of_beq h
theorem run_part_agg {t k o : Nat} {cs : Array Value} {vs : List Value} {W : World} (ht : tk P t = some (some k)) (hl : Nat.ble (o + k) cs.size = true) (hv : (cs.toList.drop o).take k = vs) : (part t cs o).run P W = .ok (.agg vs.toArray) W := by
  obtain ⟨h1, h2⟩ := tk_some ht W
  have : cs.extract o (o + k) = vs.toArray := by
    apply Array.toList_inj.1
    simp [← hv]
  have hl' := Nat.le_of_ble_eq_true hl
  simp [part, h1, h2, this]
theorem Yld.fldA {x : Operand} {t : TypeId} {i o z k : Nat} {fs : List (Nat × Nat)} {cs : Array Value} {vs : List Value} (hx : ev σ x = some (.agg cs)) (ht : tst P t = some fs) (hi : fs[i]? = some (o, z)) (hf : ∀ F : Array Field, P.underlying t = some (.struct F) → ∀ f, F[i]? = some f → tk P f.type = some (some k))
    (hl : Nat.ble (o + k) cs.size = true) (hv : (cs.toList.drop o).take k = vs) : Yld P n w0 σ Ω ⟨d, .field t x i, ty, pos, af, gd⟩ (.agg vs.toArray) := fun a W he hinv => by
  obtain ⟨F, h1, f, h2, h3, j, h4, h5, h6⟩ := tst_field ht hi
  simp [execOp, Instr.field, he.eval hx, asAgg, run_underlying' h1, h2, h3, run_part_agg (hf F h1 f h2) hl hv]
/-- an array type: length and cells of an element. -/
def tar (P : Program) (t : TypeId) : Option (Nat × Nat) := match P.underlying t with
  | some (.array l e) => match P.info? e with
    | some i => some (l, i.size)
    | none => none
  | _ => none
theorem tar_run {t l s : Nat} (h : tar P t = some (l, s)) : ∃ e, P.underlying t = some (.array l e) ∧ ∃ i, P.info? e = some i ∧ i.size = s := by
  unfold tar at h
  split at h
  · rename_i l' e he
    split at h
    · rename_i i hi
      simp only [Option.some.injEq, Prod.mk.injEq] at h
      obtain ⟨rfl, h2⟩ := h
      exact ⟨e, he, i, hi, h2⟩
    · cases h
  · cases h
theorem Yld.bar {t : TypeId} {l : List (Nat × Operand)} {ps : List (Nat × Value)} {q s : Nat} {z cs : List Value} (hl : evp σ l = some ps) (ht : tar P t = some (q, s)) (hz : tz P t = some z) (hb : bld (fun i => some (i * s, s)) z ps = some cs) :
    Yld P n w0 σ Ω ⟨d, .build t l.toArray, ty, pos, af, gd⟩ (.agg cs.toArray) := fun a W he _ => by
  obtain ⟨v, hv, hzr⟩ := tz_run hz
  obtain ⟨e, h1, i, h2, h3⟩ := tar_run ht
  have hf : Instr.fill (fun i => some (i * s, s)) v.cells ps = some cs.toArray := fill_eq _ ps v.cells cs (by rw [hv]; simpa using hb)
  have hm : (l.toArray.map fun (i, x) => (i, a.eval x)).toList = ps := by rw [← evp_map he hl]; simp
  simp only [execOp, Instr.build, Sem.run_bind, hzr, Result.andThen_ok, run_underlying' h1, run_sizeOf' h2, h3]
  rw [hm, hf]
  simp
/-- an element of an array: its place; by value. -/
theorem Yld.ixa {x y : Operand} {t : TypeId} {g off l s i o : Nat} {k : IntKind} {a : Int} (hx : ev σ x = some (.pointer (some ⟨g, off, none⟩))) (hy : ev σ y = some (.int k a)) (ht : tar P t = some (l, s)) (ha : a = i) (hi : Nat.blt i l = true) (ho : off + i * s = o) :
    Yld P n w0 σ Ω ⟨d, .indexAddr t x y, ty, pos, af, gd⟩ (.pointer (some ⟨g, o, none⟩)) := fun A W he _ => by
  obtain ⟨e, h1, i', h2, h3⟩ := tar_run ht
  subst ha; subst ho
  have hi' : i < l := by simpa using hi
  have e1 : (i : Int) < l := by omega
  simp [execOp, Instr.indexAt, asIntOf, he.eval hx, he.eval hy, run_underlying' h1, run_sizeOf' h2, h3, hi', add_off, Instr.sureAddr]
def tia (P : Program) (t : TypeId) : Option (Nat × TypeId × Nat) := match P.underlying t with
  | some (.array l e) => match P.info? e with
    | some i => some (l, e, i.size)
    | none => none
  | _ => none
theorem tia_run {t l e s : Nat} (h : tia P t = some (l, e, s)) : P.underlying t = some (.array l e) ∧ ∃ i, P.info? e = some i ∧ i.size = s := by
  unfold tia at h
  split at h
  · rename_i l' e he
    split at h
    · rename_i i hi
      simp only [Option.some.injEq, Prod.mk.injEq] at h
      obtain ⟨rfl, rfl, h2⟩ := h
      exact ⟨he, i, hi, h2⟩
    · cases h
  · cases h
theorem Yld.ix1V {x y : Operand} {t : TypeId} {l e s i : Nat} {k : IntKind} {a : Int} {cs : Array Value} {v : Value} (hx : ev σ x = some (.agg cs)) (hy : ev σ y = some (.int k a)) (ht : tia P t = some (l, e, s)) (hk : tk P e = some none) (ha : a = i) (hi : Nat.blt i l = true) (hv : cs[i * s]? = some v) :
    Yld P n w0 σ Ω ⟨d, .index t x y, ty, pos, af, gd⟩ v := fun A W he _ => by
  obtain ⟨h1, i', h2, h3⟩ := tia_run ht
  subst ha
  have hi' : i < l := by simpa using hi
  have e1 : (i : Int) < l := by omega
  obtain ⟨h4, _⟩ := tk_none hk W
  simp [execOp, Instr.index, asIntOf, he.eval hx, he.eval hy, run_underlying' h1, run_sizeOf' h2, h3, hi', part, h4, hv]
theorem Yld.ixAV {x y : Operand} {t : TypeId} {l e s i q : Nat} {k : IntKind} {a : Int} {cs : Array Value} {vs : List Value} (hx : ev σ x = some (.agg cs)) (hy : ev σ y = some (.int k a)) (ht : tia P t = some (l, e, s)) (hk : tk P e = some (some q)) (ha : a = i) (hi : Nat.blt i l = true) (hl : Nat.ble (i * s + q) cs.size = true) (hv : (cs.toList.drop (i * s)).take q = vs) :
    Yld P n w0 σ Ω ⟨d, .index t x y, ty, pos, af, gd⟩ (.agg vs.toArray) := fun A W he _ => by
  obtain ⟨h1, i', h2, h3⟩ := tia_run ht
  subst ha
  have hi' : i < l := by simpa using hi
  have e1 : (i : Int) < l := by omega
  simp [execOp, Instr.index, asIntOf, he.eval hx, he.eval hy, run_underlying' h1, run_sizeOf' h2, h3, hi', run_part_agg hk hl hv]
/-- an element of a literal slice. -/
theorem Yld.ixL {x y : Operand} {t e : TypeId} {g l c s b oo : Nat} {k : IntKind} {a : Int} (i : Nat) (hx : ev σ x = some (.slice (some ⟨g, 0, none⟩) l c)) (hy : ev σ y = some (.int k a)) (ht : tsl P t = some (e, s, b)) (ha : a = i) (hi : i < l) (ho : i * s = oo) :
    Yld P n w0 σ Ω ⟨d, .indexAddr t x y, ty, pos, af, gd⟩ (.pointer (some ⟨g, oo, none⟩)) := by
  have := Yld.ixI (P := P) (n := n) (w0 := w0) (Ω := Ω) (ty := ty) (pos := pos) (af := af) (d := d) (gd := gd) i hx hy ht ha hi
  rw [Nat.zero_add] at this
  rwa [ho] at this

/-! ### Slices of slices -/
theorem Yld.slN {x : Operand} {t e : TypeId} {A : Option Addr} {l c s b : Nat} (hx : ev σ x = some (.slice A l c)) (ht : tsl P t = some (e, s, b)) :
    Yld P n w0 σ Ω ⟨d, .slice t x none none none, ty, pos, af, gd⟩ (.slice A l c) := fun a W he _ => by
  obtain ⟨h1, i', h2, h3, _⟩ := tsl_run ht
  have e0 : (if c = 0 then A else A.map (fun z => z.add 0)) = A := by
    split
    · rfl
    · cases A <;> simp [Addr.add]
  simp [execOp, Instr.sliceAt, Instr.slice, Instr.sliceBounds, he.eval hx, run_underlying' h1, run_sizeOf' h2, e0]
theorem Yld.sl3I {x hi mx : Operand} {t e : TypeId} {A : Option Addr} {l c s b : Nat} {k k' : IntKind} {a1 a2 : Int} (j m : Nat) (hx : ev σ x = some (.slice A l c)) (hhi : ev σ hi = some (.int k a1)) (hmx : ev σ mx = some (.int k' a2)) (ht : tsl P t = some (e, s, b))
    (h1 : a1 = j) (h2 : a2 = m) (hj : j ≤ m) (hm : m ≤ c) : Yld P n w0 σ Ω ⟨d, .slice t x none (some hi) (some mx), ty, pos, af, gd⟩ (.slice A j m) := fun a W he _ => by
  obtain ⟨k1, i', k2, k3, _⟩ := tsl_run ht
  subst h1; subst h2
  have e0 : (if m = 0 then A else A.map (fun z => z.add 0)) = A := by
    split
    · rfl
    · cases A <;> simp [Addr.add]
  have e1 : (m : Int) ≤ c := by omega
  have e2 : (j : Int) ≤ m := by omega
  simp [execOp, Instr.sliceAt, Instr.slice, Instr.sliceBounds, Instr.sliceBound, asIntOf, he.eval hx, he.eval hhi, he.eval hmx, run_underlying' k1, run_sizeOf' k2, hj, hm, e0]
end
theorem slice_len {e : Ty} {m : Mem} {A : Option Addr} {l c : Nat} {xs : List e.Den} (h : Ow (.sl e) m [.slice A l c] xs) : xs.length = l := by
  obtain ⟨A', c', he, _⟩ := h.slice
  simp only [Value.slice.injEq] at he
  exact he.2.1.symm
theorem Rd.pre3 {e : Ty} {m : Mem} {A : Option Addr} {l c j k : Nat} {xs : List e.Den} (h : Rd (.sl e) m [.slice A l c] xs) (hj : j ≤ xs.length) (hk : j ≤ k) (hc : k ≤ c) : Rd (.sl e) m [.slice A j k] (xs.take j) := by
  obtain ⟨A', c', h1, h2, h3, h4⟩ := h.pre hj
  simp only [List.cons.injEq, Value.slice.injEq, and_true] at h1
  obtain ⟨rfl, e1, rfl⟩ := h1
  exact ⟨A, k, by rw [← e1], by omega, by omega, h4⟩
section
variable {e : Ty} {m n : Mem} {A : Option Addr} {l c : Nat} {xs : List e.Den}
theorem OwnL.pre {j : Nat} (h : OwnL e m n (.slice A l c) xs) (hj : j ≤ xs.length) : OwnL e m n (.slice A j c) (xs.take j) := by
  obtain ⟨m0, cs, h0, h1, h2⟩ := h
  refine ⟨m0, _, h0, ?_, h2.take (fun _ _ h => h.len) j⟩
  have hl : (xs.take j).length = j := by simp; omega
  rw [hl]
  exact h1.pre hj
theorem OwnA.pre3 {sz len k q : Nat} {cs : List Value} (h : OwnA sz m (.slice A l c) len cs) (hk : k ≤ len) (hq : k ≤ q) (hc : q ≤ c) : OwnA sz m (.slice A k q) k (cs.take (k * sz)) := by
  generalize hv : Value.slice A l c = v at h
  cases h with
  | nil B =>
    simp only [Value.slice.injEq] at hv
    obtain ⟨rfl, _, rfl⟩ := hv
    obtain rfl : q = 0 := by omega
    obtain rfl : k = 0 := by omega
    simpa using OwnA.nil (sz := sz) A
  | row g off len' cap E c' k1 k2 k3 =>
    simp only [Value.slice.injEq] at hv
    obtain ⟨rfl, _, rfl⟩ := hv
    have hm := Nat.mul_le_mul_right sz hc
    have := OwnA.row (sz := sz) g off k q E c' (by omega) hq (by omega)
    rwa [show List.take (k * sz) (List.take (len * sz) (List.drop off c')) = List.take (k * sz) (List.drop off c') by rw [List.take_take, Nat.min_eq_left (Nat.mul_le_mul_right _ hk)]]
theorem OwnL.pre3 {j k : Nat} (h : OwnL e m n (.slice A l c) xs) (hj : j ≤ xs.length) (hk : j ≤ k) (hc : k ≤ c) : OwnL e m n (.slice A j k) (xs.take j) := by
  obtain ⟨m0, cs, h0, h1, h2⟩ := h
  refine ⟨m0, _, h0, ?_, h2.take (fun _ _ h => h.len) j⟩
  have hl : (xs.take j).length = j := by simp; omega
  rw [hl]
  exact h1.pre3 hj hk hc
theorem OwnL.drop' (h : OwnL e m n (.slice A l c) xs) (s i : Nat) (hs : e.sz = s) (hi : i ≤ xs.length) : ∃ A', (if c = i then A else A.map (·.add (i * s))) = A' ∧ OwnL e m n (.slice A' (xs.length - i) (c - i)) (xs.drop i) := by
  subst hs
  obtain ⟨m0, cs, h0, h1, h2⟩ := h
  refine ⟨_, rfl, m0, _, h0, ?_, h2.drop (fun _ _ h => h.len) i⟩
  rw [List.length_drop]
  exact h1.drop hi
theorem Ow.pre {j : Nat} (h : Ow (.sl e) m [.slice A l c] xs) (hj : j ≤ xs.length) : Ow (.sl e) m [.slice A j c] (xs.take j) := by
  obtain ⟨m0, m1, rc, hS, h1, h2⟩ := h.opn
  obtain ⟨a1, a2, d, l1, l2, k1, k2⟩ := h2.split (fun _ _ _ h => h.len) j
  have hl : (xs.take j).length = j := by simp; omega
  refine Ow.cls (m0 := m0) (m1 := m1) hS (rc := rc.take (j * e.sz)) ?_ (k1.up l1)
  rw [hl]; exact h1.pre hj
theorem Ow.pre3 {j k : Nat} (h : Ow (.sl e) m [.slice A l c] xs) (hj : j ≤ xs.length) (hk : j ≤ k) (hc : k ≤ c) : Ow (.sl e) m [.slice A j k] (xs.take j) := by
  obtain ⟨m0, m1, rc, hS, h1, h2⟩ := h.opn
  obtain ⟨a1, a2, d, l1, l2, k1, k2⟩ := h2.split (fun _ _ _ h => h.len) j
  have hl : (xs.take j).length = j := by simp; omega
  refine Ow.cls (m0 := m0) (m1 := m1) hS (rc := rc.take (j * e.sz)) ?_ (k1.up l1)
  rw [hl]; exact h1.pre3 hj hk hc
theorem Ow.drop' (h : Ow (.sl e) m [.slice A l c] xs) (s i : Nat) (hs : e.sz = s) (hi : i ≤ xs.length) : ∃ A', (if c = i then A else A.map (·.add (i * s))) = A' ∧ Ow (.sl e) m [.slice A' (xs.length - i) (c - i)] (xs.drop i) := by
  subst hs
  obtain ⟨m0, m1, rc, hS, h1, h2⟩ := h.opn
  obtain ⟨a1, a2, d, l1, l2, k1, k2⟩ := h2.split (fun _ _ _ h => h.len) i
  refine ⟨_, rfl, Ow.cls (m0 := m0) (m1 := m1) hS (rc := rc.drop (i * e.sz)) ?_ (k2.up l2)⟩
  rw [List.length_drop]; exact h1.drop hi
end

/-! ### Stores into rows -/
theorem splice_len (c : List Value) (off : Nat) (vs : List Value) (h : off + vs.length ≤ c.length) : (splice c off vs).length = c.length := by
  unfold splice; simp; omega
theorem splice_in {a b vs : List Value} {o : Nat} (h : o + vs.length ≤ b.length) : splice (a ++ b) (a.length + o) vs = a ++ splice b o vs := by
  unfold splice
  rw [List.take_length_add_append, show a.length + o + vs.length = a.length + (o + vs.length) by omega, List.drop_length_add_append, List.append_assoc]
theorem splice_pre {a b vs : List Value} {o : Nat} (h : o + vs.length ≤ a.length) : splice (a ++ b) o vs = splice a o vs ++ b := by
  unfold splice
  rw [List.take_append_of_le_length (by omega), List.drop_append_of_le_length (by omega)]
  simp
theorem splice_row' {A B D vs : List Value} {o : Nat} (h : o + vs.length ≤ B.length) : ((splice (A ++ (B ++ D)) (A.length + o) vs).drop A.length).take B.length = splice B o vs := by
  rw [splice_in (by simp; omega), splice_pre h, List.drop_left]
  have := List.take_left (l₁ := splice B o vs) (l₂ := D)
  rwa [splice_len _ _ _ h] at this
theorem splice_row {c vs : List Value} {off q o : Nat} (h : o + vs.length ≤ q) (hq : off + q ≤ c.length) : ((splice c (off + o) vs).drop off).take q = splice ((c.drop off).take q) o vs := by
  have l1 : (c.take off).length = off := by simp; omega
  have l2 : ((c.drop off).take q).length = q := by simp; omega
  have := splice_row' (A := c.take off) (B := (c.drop off).take q) (D := (c.drop off).drop q) (o := o) (vs := vs) (by rw [l2]; exact h)
  rw [List.take_append_drop, List.take_append_drop, l1, l2] at this
  exact this
theorem OwAll.upd {α : Type} {R : Mem → List Value → α → Prop} {k eo : Nat} {vc : List Value} {a x' : α} (hk : ∀ m c x, R m c x → c.length = k) (he : eo + vc.length ≤ k) (hup : ∀ mi ec, R mi ec a → R mi (splice ec eo vc) x') :
    ∀ {xs : List α} {m : Mem} {cs : List Value} {i : Nat}, OwAll R m cs xs → xs[i]? = some a → OwAll R m (splice cs (i * k + eo) vc) (xs.set i x')
  | y :: r, m, _, 0, ⟨c1, c2, m1, m2, h1, h2, h3, h4, h5, h6⟩, hi => by
    simp at hi; subst hi
    refine ⟨splice c1 eo vc, c2, m1, m2, ?_, h2, h3, h4, hup _ _ h5, h6⟩
    rw [h1, Nat.zero_mul, Nat.zero_add]
    exact splice_pre (by rw [hk _ _ _ h5]; exact he)
  | y :: r, m, _, i + 1, ⟨c1, c2, m1, m2, h1, h2, h3, h4, h5, h6⟩, hi => by
    have hi' : r[i]? = some a := by simpa using hi
    refine ⟨c1, _, m1, m2, ?_, h2, h3, h4, h5, OwAll.upd hk he hup h6 hi'⟩
    have hl : c2.length = r.length * k := (OwAll.all (Q := fun c (_ : α) => c.length = k) h6 fun _ _ _ _ h => hk _ _ _ h).len fun _ _ h => h
    have hlt : i < r.length := (List.getElem?_eq_some_iff.1 hi').1
    have hm := Nat.mul_le_mul_right k (Nat.succ_le_of_lt hlt)
    rw [Nat.succ_mul] at hm
    rw [h1, show (i + 1) * k + eo = c1.length + (i * k + eo) by rw [hk _ _ _ h5, Nat.add_mul]; omega]
    exact splice_in (by omega)
/-- an element gives way to another one, with memory of its own. -/
theorem OwAll.put {α : Type} {R : Mem → List Value → α → Prop} {k : Nat} {vc : List Value} {x' : α} (hk : ∀ m c x, R m c x → c.length = k) {mj : Mem} (hx : R mj vc x') :
    ∀ {xs : List α} {m : Mem} {cs : List Value} {i : Nat} {a : α}, OwAll R m cs xs → xs[i]? = some a → mdj m mj → OwAll R (mun m mj) (splice cs (i * k) vc) (xs.set i x')
  | y :: r, m, _, 0, a, ⟨c1, c2, m1, m2, h1, h2, h3, h4, h5, h6⟩, hi, hd => by
    refine ⟨vc, c2, mj, m2, ?_, (hd.mono h4 (mle_refl _)).symm, mle_un_right hd, h4.trans (mle_un_left _ _), hx, h6⟩
    rw [h1, Nat.zero_mul, splice_pre (by rw [hk _ _ _ h5, hk _ _ _ hx]; omega)]
    congr 1
    unfold splice
    rw [List.take_zero, List.nil_append, List.drop_of_length_le (by rw [hk _ _ _ h5, hk _ _ _ hx]; omega), List.append_nil]
  | y :: r, m, _, i + 1, a, ⟨c1, c2, m1, m2, h1, h2, h3, h4, h5, h6⟩, hi, hd => by
    have hi' : r[i]? = some a := by simpa using hi
    have hd2 := hd.mono h4 (mle_refl _)
    refine ⟨c1, _, m1, mun m2 mj, ?_, (mdj_un h2.symm (hd.mono h3 (mle_refl _)).symm).symm, h3.trans (mle_un_left _ _), mun_le (h4.trans (mle_un_left _ _)) (mle_un_right hd), h5, OwAll.put hk hx h6 hi' hd2⟩
    have hl : c2.length = r.length * k := (OwAll.all (Q := fun c (_ : α) => c.length = k) h6 fun _ _ _ _ h => hk _ _ _ h).len fun _ _ h => h
    have hlt : i < r.length := (List.getElem?_eq_some_iff.1 hi').1
    have hm := Nat.mul_le_mul_right k (Nat.succ_le_of_lt hlt)
    rw [Nat.succ_mul] at hm
    rw [h1, show (i + 1) * k = c1.length + i * k by rw [hk _ _ _ h5, Nat.add_mul]; omega]
    exact splice_in (by rw [hk _ _ _ hx]; omega)
theorem upd1 {e : Ty} {mi : Mem} {ec : List Value} {a x' : e.Den} {v : Value} (he : Ow e mi ec a) (h1 : e.sz = 1) (hf : e.flat = true) (hv : Rd e mnil [v] x') : Ow e mi (splice ec 0 [v]) x' := by
  have := he.len
  rw [h1] at this
  match ec, this with
  | [c], _ => exact Ow.of hf hv

section
variable {P : Program} {n : Nat} {w0 : World} {σ : Env} {Ω : Ctx} {ops : Array Oper} {K : Env → Ctx → Prop} {R : Exit → Env → Ctx → Prop}
variable {ty : TypeId} {pos : String} {af : Array Edge} {d : Option Tmp} {gd : Option (Nat × Bool)} {r : List Oper}
theorem store_wp {t : TypeId} {x y : Operand} {g off : Nat} {v : Value} {k : Nat} {i : Nat} {m : Mem} {c : Array Value} {E : TypeId} {a : Act} {W : World} (he : EnvOk n σ a) (hi : Inv w0 Ω W)
    (hx : ev σ x = some (.pointer (some ⟨g, off, none⟩))) (hy : ev σ y = some v) (ht : tk P t = some (some k) ∨ (tk P t = some none ∧ k = 1)) (hk : Nat.beq v.cells.size k = true) (hn : nice v = true)
    (hm : cget Ω i = some m) (hg : m g = some (.cells c E (0, 0))) (hl : off + k ≤ c.size) {K' : Act → World → Prop} {Q : Exit → Act → World → Prop}
    (hK : ∀ W', Inv w0 (cset Ω i (mset m g (.cells (splice c.toList off v.cells.toList).toArray E (0, 0)))) W' → K' (a.put d undef) W') :
    (⟨d, .store t x y, ty, pos, af, gd⟩ : Oper).wp P a W K' Q :=
  Stp.store (P := P) (n := n) (w0 := w0) (σ := σ) (Ω := Ω) (d := d) (ty := ty) (pos := pos) (af := af) (gd := gd) i hx hy ht hk hn hm hg (by simpa using hl) a W he hi K' Q fun u Ω' W' ⟨h1, h2⟩ hi' => by subst h1; subst h2; exact hK W' hi'
theorem cget_hd (i : Nat) (m : Mem) (r : Ctx) : cget ((i, m) :: r) i = some m := by simp [cget]
theorem put_none (a : Act) (v : Value) : a.put none v = a := rfl
/-- Cells of an element of a list of one's own are stored. -/
theorem VO.upd {e : Ty} {t : TypeId} {x y : Operand} {g off o l c k i : Nat} {v : Value} {xs : List e.Den} {a x' : e.Den} (cid eo : Nat) {m : Mem}
    (hx : ev σ x = some (.pointer (some ⟨g, o, none⟩))) (hy : ev σ y = some v) (ht : tk P t = some (some k) ∨ (tk P t = some none ∧ k = 1)) (hk : Nat.beq v.cells.size k = true) (hn : nice v = true)
    (hm : cget Ω cid = some m) (hown : Ow (.sl e) m [.slice (some ⟨g, off, none⟩) l c] xs) (ho : o = off + i * e.sz + eo) (hi : xs[i]? = some a) (hle : Nat.ble (eo + k) e.sz = true)
    (hup : ∀ mi ec, Ow e mi ec a → Ow e mi (splice ec eo v.cells.toList) x')
    (h : ∀ m', Ow (.sl e) m' [.slice (some ⟨g, off, none⟩) l c] (xs.set i x') → VO P n w0 ops r σ (cset Ω cid m') K) : VO P n w0 ops (⟨none, .store t x y, ty, pos, af, none⟩ :: r) σ Ω K :=
  fun Q hQ act W he hinv => wpList_plain rfl fun K' hK => by
    obtain ⟨m0, m1, rc, hS, hA, hL⟩ := hown.opn
    have d01 : mdj m0 m1 := by have := hS.2; simpa using this
    have l0 := hS.1 m0 (.head _)
    have l1 := hS.1 m1 (.tail _ (.head _))
    have hlt : i < xs.length := (List.getElem?_eq_some_iff.1 hi).1
    have hks : v.cells.toList.length = k := by simpa using Nat.eq_of_beq_eq_true hk
    have hle' := Nat.le_of_ble_eq_true hle
    have hm2 : i * e.sz + e.sz ≤ xs.length * e.sz := by
      have := Nat.mul_le_mul_right e.sz (Nat.succ_le_of_lt hlt)
      rwa [Nat.succ_mul] at this
    generalize hv : Value.slice (some ⟨g, off, none⟩) l c = sv at hA
    generalize hq : xs.length = q at hA
    cases hA with
    | nil B => omega
    | row g' off' len cap E c' k1 k2 k3 =>
      simp only [Value.slice.injEq, Option.some.injEq, Addr.mk.injEq, and_true] at hv
      obtain ⟨⟨rfl, rfl⟩, rfl, rfl⟩ := hv
      have k2' := Nat.mul_le_mul_right e.sz k2
      have hg : m g = some (.cells c'.toArray E (0, 0)) := l0 g _ (mone_self _ _)
      have hmx : xs.length * e.sz = l * e.sz := by rw [hq]
      refine store_wp he hinv hx hy ht hk hn hm hg (by simp only [List.size_toArray]; omega) fun W' hi' => ?_
      rw [put_none]
      have hsp := splice_row (c := c') (vs := v.cells.toList) (off := off) (q := l * e.sz) (o := i * e.sz + eo) (by rw [hks]; omega) (by omega)
      have hA' : OwnA e.sz (mone g (.cells (splice c' o v.cells.toList).toArray E (0, 0))) (.slice (some ⟨g, off, none⟩) l c) l (splice ((c'.drop off).take (l * e.sz)) (i * e.sz + eo) v.cells.toList) := by
        have := OwnA.row (sz := e.sz) g off l c E (splice c' o v.cells.toList) (by rw [splice_len _ _ _ (by rw [hks]; omega)]; exact k1) k2 k3
        rw [ho, show off + i * e.sz + eo = off + (i * e.sz + eo) by omega] at this ⊢
        rwa [hsp] at this
      have hL' := OwAll.upd (fun _ _ _ h => h.len) (by rw [hks]; exact hle') hup hL hi
      refine hK _ _ (h _ ?_ Q hQ _ _ he hi')
      have g1 : m1 g = none := by
        rcases d01 g with h | h
        · rw [mone_self] at h; cases h
        · exact h
      refine Ow.cls (m0 := mone g (.cells (splice c' o v.cells.toList).toArray E (0, 0))) (m1 := m1) (.two (fun q' => ?_) (fun q' o' hq' => ?_) (fun q' o' hq' => ?_)) (rc := splice ((c'.drop off).take (l * e.sz)) (i * e.sz + eo) v.cells.toList) (by rw [List.length_set, hq]; exact hA') hL'
      · by_cases hqg : q' = g
        · subst hqg; exact .inr g1
        · exact .inl (mone_ne _ hqg)
      · unfold mone at hq'
        split at hq'
        · rename_i hqg; subst hqg; simp [mset, ← hq']
        · cases hq'
      · have hqg : q' ≠ g := by rintro rfl; rw [g1] at hq'; cases hq'
        simp [mset, hqg, l1 q' o' hq']
/-- A thing with memory of its own (chunk j) takes an element's place. -/
theorem VO.setE {e : Ty} {t : TypeId} {x y : Operand} {g off o l c k i : Nat} {v : Value} {xs : List e.Den} {a x' : e.Den} (cid j : Nat) {m mj : Mem}
    (hx : ev σ x = some (.pointer (some ⟨g, o, none⟩))) (hy : ev σ y = some v) (ht : tk P t = some (some k) ∨ (tk P t = some none ∧ k = 1)) (hk : Nat.beq v.cells.size k = true) (hn : nice v = true)
    (hm : cget Ω cid = some m) (hj : cget (cdel Ω cid) j = some mj) (hown : Ow (.sl e) m [.slice (some ⟨g, off, none⟩) l c] xs) (ho : o = off + i * e.sz) (hi : xs[i]? = some a)
    (hx' : Ow e mj v.cells.toList x')
    (h : ∀ m', Ow (.sl e) m' [.slice (some ⟨g, off, none⟩) l c] (xs.set i x') → VO P n w0 ops r σ ((cid, m') :: cdel (cdel Ω cid) j) K) : VO P n w0 ops (⟨none, .store t x y, ty, pos, af, none⟩ :: r) σ Ω K :=
  fun Q hQ act W he hinv => wpList_plain rfl fun K' hK => by
    obtain ⟨m0, m1, rc, hS, hA, hL⟩ := hown.opn
    obtain ⟨q1, q2, q3, q4, _⟩ := hinv.gets (ids := [cid, j]) (l := [m, mj]) (by simp [cgets, hm, hj])
    have dmj : mdj m mj := by simpa using q1
    have d01 : mdj m0 m1 := by have := hS.2; simpa using this
    have l0 := hS.1 m0 (.head _)
    have l1 := hS.1 m1 (.tail _ (.head _))
    have d1j : mdj m1 mj := dmj.mono l1 (mle_refl _)
    have hΩ2 : Inv w0 ((cid, m0) :: (j, mun m1 mj) :: cdel (cdel Ω cid) j) W := by
      have hdel : Inv w0 (cdel (cdel Ω cid) j) W := q4
      have f1 : ∀ p ∈ cdel (cdel Ω cid) j, mdj m p.2 := fun p hp => q3 m (.head _) p hp
      have f2 : ∀ p ∈ cdel (cdel Ω cid) j, mdj mj p.2 := fun p hp => q3 mj (.tail _ (.head _)) p hp
      refine ⟨hinv.os, hinv.tape, hinv.output, hinv.size, fun p hp => ?_, List.pairwise_cons.2 ⟨fun p hp => ?_, List.pairwise_cons.2 ⟨fun p hp => ?_, hdel.dj⟩⟩⟩
      · rcases List.mem_cons.1 hp with rfl | hp
        · exact l0.trans (hinv.at hm)
        · rcases List.mem_cons.1 hp with rfl | hp
          · exact mun_le (l1.trans (hinv.at hm)) (q2 mj (.tail _ (.head _)))
          · exact hdel.le p hp
      · rcases List.mem_cons.1 hp with rfl | hp
        · exact (mdj_un d01.symm (dmj.mono l0 (mle_refl _)).symm).symm
        · exact (f1 p hp).mono l0 (mle_refl _)
      · exact mdj_un ((f1 p hp).mono l1 (mle_refl _)) (f2 p hp)
    have hlt : i < xs.length := (List.getElem?_eq_some_iff.1 hi).1
    have hks : v.cells.toList.length = k := by simpa using Nat.eq_of_beq_eq_true hk
    have hke : k = e.sz := by rw [← hks]; exact hx'.len
    have hm2 : i * e.sz + e.sz ≤ xs.length * e.sz := by
      have := Nat.mul_le_mul_right e.sz (Nat.succ_le_of_lt hlt)
      rwa [Nat.succ_mul] at this
    generalize hv : Value.slice (some ⟨g, off, none⟩) l c = sv at hA
    generalize hq : xs.length = q at hA
    cases hA with
    | nil B => omega
    | row g' off' len cap E c' k1 k2 k3 =>
      simp only [Value.slice.injEq, Option.some.injEq, Addr.mk.injEq, and_true] at hv
      obtain ⟨⟨rfl, rfl⟩, rfl, rfl⟩ := hv
      have k2' := Nat.mul_le_mul_right e.sz k2
      have hmx : xs.length * e.sz = l * e.sz := by rw [hq]
      refine store_wp (i := cid) he hΩ2 hx hy ht hk hn (cget_hd _ _ _) (mone_self _ _) (show _ ≤ c'.toArray.size by rw [List.size_toArray]; omega) fun W' hi' => ?_
      rw [put_none]
      have hsp := splice_row (c := c') (vs := v.cells.toList) (off := off) (q := l * e.sz) (o := i * e.sz) (by rw [hks]; omega) (by omega)
      have hA' : OwnA e.sz (mone g (.cells (splice c' o v.cells.toList).toArray E (0, 0))) (.slice (some ⟨g, off, none⟩) l c) l (splice ((c'.drop off).take (l * e.sz)) (i * e.sz) v.cells.toList) := by
        have := OwnA.row (sz := e.sz) g off l c E (splice c' o v.cells.toList) (by rw [splice_len _ _ _ (by rw [hks]; omega)]; exact k1) k2 k3
        rw [ho] at this ⊢
        rwa [hsp] at this
      have hL' := OwAll.put (fun _ _ _ h => h.len) hx' hL hi d1j
      have hc' : ∀ (a b : Mem) (r' : Ctx), cset ((cid, a) :: r') cid b = (cid, b) :: r' := fun a b r' => by simp [cset]
      have hc'' : cset ((cid, mone g (.cells c'.toArray E (0, 0))) :: (j, mun m1 mj) :: cdel (cdel Ω cid) j) cid (mset (mone g (.cells c'.toArray E (0, 0))) g (.cells (splice c'.toArray.toList o v.cells.toList).toArray E (0, 0))) = (cid, mone g (.cells (splice c' o v.cells.toList).toArray E (0, 0))) :: (j, mun m1 mj) :: cdel (cdel Ω cid) j := by
        rw [hc', mset_one]
      rw [hc''] at hi'
      have hdj := (List.pairwise_cons.1 hi'.dj).1 _ (.head _)
      refine hK _ _ (h (mun (mone g (.cells (splice c' o v.cells.toList).toArray E (0, 0))) (mun m1 mj)) (Ow.cls (.two hdj (mle_un_left _ _) (mle_un_right hdj)) (rc := splice ((c'.drop off).take (l * e.sz)) (i * e.sz) v.cells.toList) (by rw [List.length_set, hq]; exact hA') hL') Q hQ _ _ he ?_)
      refine ⟨hi'.os, hi'.tape, hi'.output, hi'.size, fun p hp => ?_, List.pairwise_cons.2 ⟨fun p hp => ?_, (List.pairwise_cons.1 (List.pairwise_cons.1 hi'.dj).2).2⟩⟩
      · rcases List.mem_cons.1 hp with rfl | hp
        · exact mun_le (hi'.le (_, mone g _) (.head _)) (hi'.le (j, mun m1 mj) (.tail _ (.head _)))
        · exact hi'.le p (.tail _ (.tail _ hp))
      · exact mdj_un ((List.pairwise_cons.1 hi'.dj).1 p (.tail _ hp)) ((List.pairwise_cons.1 (List.pairwise_cons.1 hi'.dj).2).1 p hp)

/-! ### Made slices -/
theorem OwAll.rep {α : Type} {R : Mem → List Value → α → Prop} {z : List Value} {y : α} (hz : R mnil z y) : ∀ k : Nat, OwAll R mnil (List.replicate k z).flatten (List.replicate k y)
  | 0 => rfl
  | k + 1 => ⟨z, _, mnil, mnil, by simp [List.replicate_succ], mdj_nil _, mle_nil _, mle_nil _, hz, OwAll.rep hz k⟩
theorem rep_cells {v : Value} {z : List Value} {s : Nat} (hv : v.cells.toList = z) (hs : z.length = s) : ∀ k : Nat, (List.range (k * s)).map (fun x => v.cells[x % s]!) = (List.replicate k z).flatten
  | 0 => by simp
  | k + 1 => by
    have ih := rep_cells hv hs k
    rw [Nat.add_mul, Nat.one_mul, Nat.add_comm (k * s) s, List.range_add, List.map_append, List.replicate_succ, List.flatten_cons, ← ih, List.map_map]
    congr 1
    · apply List.ext_getElem
      · simp [hs]
      · intro i h1 h2
        simp only [List.length_map, List.length_range] at h1
        have e1 : v.cells.size = s := by rw [← hs, ← hv]; simp
        simp only [List.getElem_map, List.getElem_range, Nat.mod_eq_of_lt h1, ← hv]
        rw [getElem!_pos v.cells i (by omega)]
        simp
    · apply List.map_congr_left
      intro x _
      simp
theorem VO.mks {e : Ty} {dd : Nat} {t et : TypeId} {b k : Nat} {x u : Operand} {kk kk' : IntKind} {a : Int} {z : List Value} {y : e.Den} (i : Nat) (hd : Nat.blt dd n = true) (hx : ev σ x = some (.int kk a)) (hu : ev σ u = some (.int kk' a)) (ha : a = k) (ht : tsl P t = some (et, e.sz, b)) (hz : tz P et = some z)
    (hy : Ow e mnil z y) (hml : k ≤ maxLen) (hb : k * b ≤ 140737488355328) (hb0 : b ≠ 0) (h : ∀ v m', Ow (.sl e) m' [v] (List.replicate k y) → VO P n w0 ops r ((dd, v) :: σ) ((i, m') :: Ω) K) :
    VO P n w0 ops (⟨some dd, .makeSlice t x u, ty, pos, af, none⟩ :: r) σ Ω K :=
  fun Q hQ act W he hi => wpList_plain rfl fun K' hK => by
    obtain ⟨h1, i', h2, h3, h4⟩ := tsl_run ht
    obtain ⟨v, hv, hzero⟩ : ∃ v : Value, v.cells.toList = z ∧ i'.zero = some v := by
      unfold tz at hz
      rw [h2] at hz
      simp only at hz
      split at hz
      · rename_i v hv
        split at hz
        · simp only [Option.some.injEq] at hz; exact ⟨v, hz, hv⟩
        · cases hz
      · cases hz
    have hzl : z.length = e.sz := hy.len
    have hml' : (k : Int) ≤ 9223372036854775807 := by simp only [maxLen] at hml; omega
    have hcells : madeCells v.cells (k * e.sz) = ((List.replicate k z).flatten).toArray := by
      apply Array.toList_inj.1
      have hs : v.cells.size = e.sz := by rw [← hzl, ← hv]; simp
      unfold madeCells
      rw [Array.toList_map, Array.toList_range, hs]
      exact rep_cells hv hzl k
    have hrun : (Instr.makeSlice t (.int kk (k : Int)) (.int kk' (k : Int))).run P W = .ok (.slice (some ⟨W.heap.size, 0, none⟩) k k) (W.alloc (.cells ((List.replicate k z).flatten).toArray et (0, 0))) := by
      have hlim : (i'.bytes : Int) * (k : Int) ≤ 281474976710656 := by
        have : ((k * b : Nat) : Int) ≤ ((140737488355328 : Nat) : Int) := Int.ofNat_le.2 hb
        rw [h4, Int.mul_comm]
        rw [Int.natCast_mul] at this
        omega
      have := run_make (P := P) W t et i' v h1 h2 hzero kk kk' k k (by omega) (Int.le_refl _) hlim hml'
      simp only [Int.toNat_natCast, h3, hcells] at this
      exact this
    unfold Oper.wp
    have hex : (execOp act.eval ⟨some dd, .makeSlice t x u, ty, pos, af, none⟩).run P W = .ok (.value (.slice (some ⟨W.heap.size, 0, none⟩) k k)) (W.alloc (.cells ((List.replicate k z).flatten).toArray et (0, 0))) := by
      subst ha
      simp [execOp, he.eval hx, he.eval hu, hrun]
    rw [hex]
    have hl : (List.replicate k z).flatten.length = k * e.sz := by simp [hzl]
    have hA : OwnA e.sz (mone W.heap.size (.cells ((List.replicate k z).flatten).toArray et (0, 0))) (.slice (some ⟨W.heap.size, 0, none⟩) k k) k (List.replicate k z).flatten := by
      have := OwnA.row (sz := e.sz) W.heap.size 0 k k et (List.replicate k z).flatten (by rw [hl]; omega) (Nat.le_refl _) hml
      rwa [List.drop_zero, List.take_of_length_le (by rw [hl]; omega)] at this
    exact hK _ _ (h _ _ (Ow.cls (.two (mdj_nil _) (mle_refl _) (mle_nil _)) (by rw [List.length_replicate]; exact hA) (OwAll.rep hy k)) Q hQ _ _ (he.put hd _) (hi.alloc i _))
theorem VO.gstore {b : Bool} {jj : Nat} {t : TypeId} {x y : Operand} {g off : Nat} {v : Value} {k : Nat} (i : Nat) {c : Array Value} {E : TypeId} {c' : List Value}
    (hx : ev σ x = some (.pointer (some ⟨g, off, none⟩))) (hgd : gyes σ ops jj b) (hy : ev σ y = some v) (ht : tk P t = some (some k) ∨ (tk P t = some none ∧ k = 1)) (hk : Nat.beq v.cells.size k = true) (hn : nice v = true)
    (hm : cget Ω i = some (mone g (.cells c E (0, 0)))) (hl : Nat.ble (off + k) c.size = true) (hc : splice c.toList off v.cells.toList = c')
    (h : VO P n w0 ops r σ (cset Ω i (mone g (.cells c'.toArray E (0, 0)))) K) : VO P n w0 ops (⟨none, .store t x y, ty, pos, af, some (jj, b)⟩ :: r) σ Ω K :=
  fun Q hQ a W he hi => wpList_step fun K' hK => by
    rw [if_pos (by simp [Region.wanted, yielded_of he hgd])]
    exact Stp.store i hx hy ht hk hn hm (mone_self _ _) hl a W he hi K' Q fun u Ω' W' ⟨h1, h2⟩ hi' => by
      subst h1; subst h2
      rw [mset_one, hc] at hi'
      exact hK _ _ (h Q hQ _ _ he hi')
theorem Yld.b2sN {x : Operand} {s t e : TypeId} (hx : ev σ x = some (.slice none 0 0)) (hs : P.underlying s = some (.slice e)) (ht : P.underlying t = some .string) (he' : P.underlying e = some (.int .u8)) :
    Yld P n w0 σ Ω ⟨d, .convert s t x, ty, pos, af, gd⟩ (str []) := fun a W he _ => by
  have key : (Conv.bytesToString (.slice none 0 0)).run P W = .ok (str []) W := rfl
  simp only [execOp, convert, he.eval hx, Sem.run_bind, run_underlying' hs, run_underlying' ht, Result.andThen_ok, run_underlying' he', key, Sem.run_pure]
end
theorem Inv.num {w0 W : World} {Ω : Ctx} (h : Inv w0 Ω W) (a b : Nat) {m : Mem} (ha : cget Ω a = some m) : Inv w0 ((b, m) :: cdel Ω a) W := by
  obtain ⟨h1, h2⟩ := cdel_dj ha h.dj
  refine ⟨h.os, h.tape, h.output, h.size, fun p hp => ?_, List.pairwise_cons.2 ⟨h1, h2⟩⟩
  rcases List.mem_cons.1 hp with rfl | hp
  · exact h.at ha
  · exact h.le p (cdel_mem hp)
theorem muns_one (m : Mem) : muns [m] = m := by
  funext g
  show (match m g with | some o => some o | none => none) = m g
  cases m g <;> rfl
theorem Seps.grpM {M : Mem} {ls : List (List Mem)} {l : List Mem} (h : Seps M ls.flatten) (hl : ls.map muns = l) : Seps M l := hl ▸ h.grp
end Go.Proofs.Ytfaknkkaegjdaaa
