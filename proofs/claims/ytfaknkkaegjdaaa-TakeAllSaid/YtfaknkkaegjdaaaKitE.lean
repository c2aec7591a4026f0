/- Own library, part E: strings, bytes, bits, structs, arrays, literals, append. -/
import Derived.Test.YtfaknkkaegjdaaaKitD
namespace Go.Proofs.Ytfaknkkaegjdaaa

abbrev str (l : List UInt8) : Value := .string ⟨l.toArray⟩
abbrev byV (b : UInt8) : Value := .int .u8 (b.toNat : Int)

theorem ba_toList (l : List UInt8) : (⟨l.toArray⟩ : ByteArray).toList = l := by rw [ByteArray.toList_eq]
theorem ba_size (l : List UInt8) : (⟨l.toArray⟩ : ByteArray).size = l.length := by show l.toArray.size = _; simp
theorem ba_get? (l : List UInt8) (i : Nat) : (⟨l.toArray⟩ : ByteArray)[i]? = l[i]? := by
  by_cases h : i < l.length
  · rw [getElem?_pos _ _ (by rw [ba_size]; exact h), List.getElem?_eq_getElem h]; rfl
  · rw [getElem?_neg _ _ (by rw [ba_size]; exact h), List.getElem?_eq_none (by omega)]
theorem ba_extract (l : List UInt8) (i j : Nat) : (⟨l.toArray⟩ : ByteArray).extract i j = ⟨((l.take j).drop i).toArray⟩ := by
  apply ByteArray.ext
  rw [ByteArray.data_extract]
  apply Array.toList_inj.1
  simp [List.drop_take]
theorem ba_append (a b : List UInt8) : (⟨a.toArray⟩ : ByteArray) ++ ⟨b.toArray⟩ = ⟨(a ++ b).toArray⟩ := by
  apply ByteArray.ext
  simp
theorem beq_dec {α : Type} [BEq α] [LawfulBEq α] [DecidableEq α] (a b : α) : (a == b) = decide (a = b) := by
  by_cases h : a = b
  · subst h; simp
  · rw [decide_eq_false h]; exact beq_eq_false_iff_ne.2 h
theorem ba_beq (a b : List UInt8) : ((⟨a.toArray⟩ : ByteArray) == ⟨b.toArray⟩) = decide (a = b) := by
  rw [beq_toListBytes, ba_toList, ba_toList]
  exact beq_dec a b

section
variable {P : Program} {n : Nat} {w0 : World} {σ : Env} {Ω : Ctx} {ops : Array Oper} {K : Env → Ctx → Prop}
variable {ty : TypeId} {pos : String} {af : Array Edge} {d : Option Tmp} {gd : Option (Nat × Bool)} {r : List Oper}

/-! ### Strings -/
section
variable {x y : Operand} {t u : TypeId} {a b : List UInt8}
theorem eqGuard_str (op : BinOp) (t : TypeId) (x y : Operand) (a b : ByteArray) (W : World) : (eqGuard op t x y (.string a) (.string b)).run P W = .ok () W := by
  unfold eqGuard; cases op <;> simp
theorem Yld.seql (hx : ev σ x = some (str a)) (hy : ev σ y = some (str b)) : Yld P n w0 σ Ω ⟨d, .binOp .eql t x y u, ty, pos, af, gd⟩ (.bool (decide (a = b))) := fun A W he _ => by
  simp [execOp, he.eval hx, he.eval hy, eqGuard_str, binOp, Op.stringOp]
  exact beq_dec a b
theorem Yld.sneq (hx : ev σ x = some (str a)) (hy : ev σ y = some (str b)) : Yld P n w0 σ Ω ⟨d, .binOp .neq t x y u, ty, pos, af, gd⟩ (.bool (decide (¬ a = b))) := fun A W he _ => by
  simp [execOp, he.eval hx, he.eval hy, eqGuard_str, binOp, Op.stringOp]
  exact beq_dec a b
theorem Yld.scat (hx : ev σ x = some (str a)) (hy : ev σ y = some (str b)) (hl : a.length + b.length ≤ 9223372036854775807) : Yld P n w0 σ Ω ⟨d, .binOp .add t x y u, ty, pos, af, gd⟩ (str (a ++ b)) := fun A W he _ => by
  simp [execOp, he.eval hx, he.eval hy, eqGuard_str, binOp, Op.stringOp, ba_append, ba_size]
  omega
end
theorem Yld.ixT {x y : Operand} {t : TypeId} {s : List UInt8} {k : IntKind} {i : Nat} {b : UInt8} (hx : ev σ x = some (str s)) (hy : ev σ y = some (.int k i)) (ht : P.underlying t = some .string) (hi : s[i]? = some b) :
    Yld P n w0 σ Ω ⟨d, .index t x y, ty, pos, af, gd⟩ (byV b) := fun A W he _ => by
  simp [execOp, Instr.index, asIntOf, he.eval hx, he.eval hy, run_underlying' ht, ba_get?, hi]
theorem Yld.slT {x lo hi : Operand} {t : TypeId} {s : List UInt8} {i j : Nat} {k k' : IntKind} (hx : ev σ x = some (str s)) (hlo : ev σ lo = some (.int k i)) (hhi : ev σ hi = some (.int k' j)) (ht : P.underlying t = some .string)
    (hij : i ≤ j) (hjc : j ≤ s.length) : Yld P n w0 σ Ω ⟨d, .slice t x (some lo) (some hi) none, ty, pos, af, gd⟩ (str ((s.take j).drop i)) := fun a W he _ => by
  simp [execOp, Instr.sliceAt, Instr.slice, Instr.sliceBounds, Instr.sliceBound, asIntOf, he.eval hx, he.eval hlo, he.eval hhi, run_underlying' ht, hij, hjc, ba_size, ba_extract]
theorem Yld.slTL {x lo : Operand} {t : TypeId} {s : List UInt8} {i : Nat} {k : IntKind} (hx : ev σ x = some (str s)) (hlo : ev σ lo = some (.int k i)) (ht : P.underlying t = some .string)
    (hil : i ≤ s.length) : Yld P n w0 σ Ω ⟨d, .slice t x (some lo) none none, ty, pos, af, gd⟩ (str (s.drop i)) := fun a W he _ => by
  simp [execOp, Instr.sliceAt, Instr.slice, Instr.sliceBounds, Instr.sliceBound, asIntOf, he.eval hx, he.eval hlo, run_underlying' ht, hil, ba_size, ba_extract]
theorem Yld.slTH {x hi : Operand} {t : TypeId} {s : List UInt8} {j : Nat} {k : IntKind} (hx : ev σ x = some (str s)) (hhi : ev σ hi = some (.int k j)) (ht : P.underlying t = some .string)
    (hjc : j ≤ s.length) : Yld P n w0 σ Ω ⟨d, .slice t x none (some hi) none, ty, pos, af, gd⟩ (str (s.take j)) := fun a W he _ => by
  simp [execOp, Instr.sliceAt, Instr.slice, Instr.sliceBounds, Instr.sliceBound, asIntOf, he.eval hx, he.eval hhi, run_underlying' ht, hjc, ba_size, ba_extract]

/-! ### Truth values, numbers of other kinds -/
theorem eqGuard_bool (op : BinOp) (t : TypeId) (x y : Operand) (a b : Bool) (W : World) : (eqGuard op t x y (.bool a) (.bool b)).run P W = .ok () W := by
  unfold eqGuard; cases op <;> simp
theorem Yld.beql {x y : Operand} {t u : TypeId} {a b : Bool} (hx : ev σ x = some (.bool a)) (hy : ev σ y = some (.bool b)) (ht : P.underlying t = some .bool) : Yld P n w0 σ Ω ⟨d, .binOp .eql t x y u, ty, pos, af, gd⟩ (.bool (decide (a = b))) := fun A W he _ => by
  simp [execOp, he.eval hx, he.eval hy, eqGuard_bool, binOp, Op.equal, Op.maxDepth, run_equalIn_bool' W 9999 t a b ht]
  rfl
theorem Yld.bneq {x y : Operand} {t u : TypeId} {a b : Bool} (hx : ev σ x = some (.bool a)) (hy : ev σ y = some (.bool b)) (ht : P.underlying t = some .bool) : Yld P n w0 σ Ω ⟨d, .binOp .neq t x y u, ty, pos, af, gd⟩ (.bool (decide (¬ a = b))) := fun A W he _ => by
  simp [execOp, he.eval hx, he.eval hy, eqGuard_bool, binOp, Op.equal, Op.maxDepth, run_equalIn_bool' W 9999 t a b ht]
  cases a <;> cases b <;> rfl
theorem Yld.cvI {x : Operand} {s t : TypeId} {k k' : IntKind} {a : Int} {c : Int} (hx : ev σ x = some (.int k a)) (hs : ∃ k0, P.underlying s = some (.int k0)) (ht : P.underlying t = some (.int k')) (hc : k'.wrap a = c) :
    Yld P n w0 σ Ω ⟨d, .convert s t x, ty, pos, af, gd⟩ (.int k' c) := fun A W he _ => by
  obtain ⟨k0, hs⟩ := hs
  simp [execOp, convert, he.eval hx, run_underlying' hs, run_underlying' ht, Conv.intToInt, hc]
theorem Yld.bit {op : BinOp} {x y : Operand} {t u : TypeId} {k : IntKind} {a b c : Int} (hop : op = .and ∨ op = .or ∨ op = .xor ∨ op = .andNot) (hx : ev σ x = some (.int k a)) (hy : ev σ y = some (.int k b)) (hc : ∀ W, (Op.intBits op k a b).run P W = .ok (.int k c) W) :
    Yld P n w0 σ Ω ⟨d, .binOp op t x y u, ty, pos, af, gd⟩ (.int k c) := fun A W he _ => by
  rcases hop with rfl | rfl | rfl | rfl <;> simp [execOp, he.eval hx, he.eval hy, eqGuard_int, binOp, hc]
theorem Yld.shf {op : BinOp} {x y : Operand} {t u : TypeId} {k k' : IntKind} {a b c : Int} (hop : op = .shl ∨ op = .shr) (hx : ev σ x = some (.int k a)) (hy : ev σ y = some (.int k' b)) (hc : ∀ W, (Op.shift op k a k' b).run P W = .ok (.int k c) W) :
    Yld P n w0 σ Ω ⟨d, .binOp op t x y u, ty, pos, af, gd⟩ (.int k c) := fun A W he _ => by
  rcases hop with rfl | rfl <;> simp [execOp, he.eval hx, he.eval hy, eqGuard_int, binOp, hc]
theorem Yld.quo {op : BinOp} {x y : Operand} {t u : TypeId} {k : IntKind} {a b c : Int} (hop : op = .quo ∨ op = .rem) (hx : ev σ x = some (.int k a)) (hy : ev σ y = some (.int k b)) (hc : ∀ W, (Op.intDiv op k a b).run P W = .ok (.int k c) W) :
    Yld P n w0 σ Ω ⟨d, .binOp op t x y u, ty, pos, af, gd⟩ (.int k c) := fun A W he _ => by
  rcases hop with rfl | rfl <;> simp [execOp, he.eval hx, he.eval hy, eqGuard_int, binOp, hc]

/-! ### Structs by value -/
theorem Yld.fld1 {x : Operand} {t : TypeId} {i o z : Nat} {fs : List (Nat × Nat)} {cs : Array Value} {v : Value} (hx : ev σ x = some (.agg cs)) (ht : tst P t = some fs) (hi : fs[i]? = some (o, z)) (hf : ∀ F : Array Field, P.underlying t = some (.struct F) → ∀ f, F[i]? = some f → tk P f.type = some none)
    (hv : cs[o]? = some v) : Yld P n w0 σ Ω ⟨d, .field t x i, ty, pos, af, gd⟩ v := fun a W he hinv => by
  obtain ⟨F, h1, f, h2, h3, j, h4, h5, h6⟩ := tst_field ht hi
  obtain ⟨hk, _⟩ := tk_none (hf F h1 f h2) W
  simp [execOp, Instr.field, he.eval hx, asAgg, run_underlying' h1, h2, part, hk, h3, hv]

/-- The parts of a literal, laid into cells. -/
def bld (place : Nat → Option (Nat × Nat)) (cells : List Value) : List (Nat × Value) → Option (List Value)
  | [] => some cells
  | (i, v) :: rest => match place i with
    | none => none
    | some (off, size) => bif Nat.beq v.cells.size size && Nat.ble (off + v.cells.size) cells.length then bld place (splice cells off v.cells.toList) rest else none

theorem foldl_set : ∀ (l : List Value) (off k : Nat) (cs : Array Value), off + k + l.length ≤ cs.size →
    (l.zipIdx k).foldl (fun (cs : Array Value) (p : Value × Nat) => cs.setIfInBounds (off + p.2) p.1) cs = (splice cs.toList (off + k) l).toArray
  | [], off, k, cs, _ => by simp [splice]
  | v :: l, off, k, cs, h => by
    simp only [List.length_cons] at h
    simp only [List.zipIdx_cons, List.foldl_cons]
    rw [foldl_set l off (k + 1) _ (by simp; omega), Array.toList_setIfInBounds, ← Nat.add_assoc]
    exact congrArg _ (splice_set cs.toList (off + k) v l (by simp; omega))

theorem fill_eq (place : Nat → Option (Nat × Nat)) : ∀ (ps : List (Nat × Value)) (cells : Array Value) (out : List Value), bld place cells.toList ps = some out → Instr.fill place cells ps = some out.toArray
  | [], cells, out, h => by simp [bld] at h; simp [Instr.fill, ← h]
  | (i, v) :: rest, cells, out, h => by
    unfold bld at h
    unfold Instr.fill
    split at h
    · cases h
    · rename_i off size hp
      cases hb : (Nat.beq v.cells.size size && Nat.ble (off + v.cells.size) cells.toList.length) with
      | false => rw [hb] at h; cases h
      | true =>
        rw [hb] at h
        simp only [Bool.and_eq_true] at hb
        have h1 := Nat.eq_of_beq_eq_true hb.1
        have h2 : off + v.cells.size ≤ cells.size := by simpa using Nat.le_of_ble_eq_true hb.2
        simp only [hp]
        rw [if_neg (by simp [h1]; omega)]
        have e : v.cells.zipIdx.foldl (fun cs (x : Value × Nat) => match x with | (c, j) => cs.setIfInBounds (off + j) c) cells = (splice cells.toList off v.cells.toList).toArray := by
          rw [← Array.foldl_toList, Array.toList_zipIdx]
          exact foldl_set v.cells.toList off 0 cells (by simpa using h2)
        rw [e]
        exact fill_eq place rest _ out (by simpa using h)

def evp (σ : Env) : List (Nat × Operand) → Option (List (Nat × Value))
  | [] => some []
  | (i, x) :: r => match ev σ x, evp σ r with
    | some v, some vs => some ((i, v) :: vs)
    | _, _ => none
theorem evp_map {a : Act} (he : EnvOk n σ a) : ∀ {l : List (Nat × Operand)} {ps : List (Nat × Value)}, evp σ l = some ps → l.map (fun (i, x) => (i, a.eval x)) = ps
  | [], ps, h => by simp [evp] at h; simp [h]
  | (i, x) :: r, ps, h => by
    unfold evp at h
    split at h
    · rename_i v vs h1 h2
      simp only [Option.some.injEq] at h
      subst h
      simp only [List.map_cons, he.eval h1]
      rw [evp_map he h2]
    · cases h

theorem mapM_run_places {t : TypeId} {fs : List (Nat × Nat)} (h : tst P t = some fs) (W : World) : ∃ F : Array Field, P.underlying t = some (.struct F) ∧ (F.mapM (m := Sem) fun f => do pure (f.offset, ← sizeOf f.type)).run P W = .ok fs.toArray W := by
  unfold tst at h
  split at h
  · rename_i F hF
    refine ⟨F, hF, ?_⟩
    rw [← Array.toArray_toList (xs := F), List.mapM_toArray]
    have key : ∀ (l : List Field) (r : List (Nat × Nat)), l.mapM (fun f => (P.info? f.type).bind fun i => if i.size = 0 then none else some (f.offset, i.size)) = some r →
        (l.mapM (m := Sem) fun f => do pure (f.offset, ← sizeOf f.type)).run P W = .ok r W := by
      intro l
      induction l with
      | nil => intro r hr; simp at hr; subst hr; rfl
      | cons f l ih =>
        intro r hr
        simp only [List.mapM_cons, Option.bind_eq_bind, Option.bind_eq_some_iff] at hr
        obtain ⟨z, ⟨i, hi, hz⟩, r', hr', hr⟩ := hr
        split at hz
        · cases hz
        · simp only [Option.some.injEq] at hz
          simp only [Option.pure_def, Option.some.injEq] at hr
          subst hz; subst hr
          simp only [List.mapM_cons, Sem.run_bind, run_sizeOf' hi, Result.andThen_ok, Sem.run_pure, ih r' hr']
    rw [Sem.run_map, key _ _ h]
    rfl
  · cases h

theorem Yld.bst {t : TypeId} {l : List (Nat × Operand)} {ps : List (Nat × Value)} {fs : List (Nat × Nat)} {z cs : List Value} (hl : evp σ l = some ps) (ht : tst P t = some fs) (hz : tz P t = some z) (hb : bld (fun i => fs[i]?) z ps = some cs) :
    Yld P n w0 σ Ω ⟨d, .build t l.toArray, ty, pos, af, gd⟩ (.agg cs.toArray) := fun a W he _ => by
  obtain ⟨v, hv, hzr⟩ := tz_run hz
  obtain ⟨F, h1, h2⟩ := mapM_run_places ht W
  have hf : Instr.fill (fun i => fs.toArray[i]?) v.cells ps = some cs.toArray := fill_eq _ ps v.cells cs (by rw [hv]; simpa using hb)
  have hm : (l.toArray.map fun (i, x) => (i, a.eval x)).toList = ps := by rw [← evp_map he hl]; simp
  simp only [execOp, Instr.build, Sem.run_bind, hzr, Result.andThen_ok, run_underlying' h1, h2]
  rw [hm, hf]
  simp

/-! ### Literal slices -/
theorem Stp.bsl {t e : TypeId} {s b len : Nat} {l : List (Nat × Operand)} {ps : List (Nat × Value)} {z cs : List Value} (i : Nat) (hl : evp σ l = some ps) (ht : tsl P t = some (e, s, b)) (hz : tz P e = some z)
    (hsmall : Nat.ble (len * s) 16777216 = true) (hb : bld (fun i => some (i * s, s)) ((List.range (len * s)).map fun j => z.toArray[j % z.toArray.size]!) ps = some cs) :
    Stp P n w0 σ Ω ⟨d, .buildSlice t len l.toArray, ty, pos, af, gd⟩ (fun v Ω' => ∃ g, v = .slice (some ⟨g, 0, none⟩) len len ∧ Ω' = (i, mone g (.cells cs.toArray e (0, 0))) :: Ω) := fun a W he hi K' Q hK => by
  obtain ⟨h1, i', h2, h3, _⟩ := tsl_run ht
  obtain ⟨v, hv, hzr⟩ := tz_run hz
  have hv' : v.cells = z.toArray := by rw [← hv]
  have hm : (l.toArray.map fun (i, x) => (i, a.eval x)).toList = ps := by rw [← evp_map he hl]; simp
  have hsm : ¬ (len * s > 2 ^ 24) := by have := Nat.le_of_ble_eq_true hsmall; omega
  unfold Oper.wp
  have hex : (execOp a.eval ⟨d, .buildSlice t len l.toArray, ty, pos, af, gd⟩).run P W = .ok (.value (.slice (some ⟨W.heap.size, 0, none⟩) len len)) (W.alloc (.cells cs.toArray e (0, 0))) := by
    simp only [execOp, Instr.buildSlice, Sem.run_bind, run_underlying' h1, Result.andThen_ok, run_sizeOf' h2, h3, hsm, if_false, hm]
    by_cases h0 : len * s = 0
    · have hf : Instr.fill (fun i => some (i * s, s)) ((Array.range (len * s)).map (fun x => (#[] : Array Value)[x % (#[] : Array Value).size]!)) ps = some cs.toArray := by
        refine fill_eq _ ps _ cs ?_
        rw [h0] at hb ⊢
        simpa using hb
      simp [h0, newRow] at hf ⊢
      simp [hf]
    · have hf : Instr.fill (fun i => some (i * s, s)) ((Array.range (len * s)).map (fun x => v.cells[x % v.cells.size]!)) ps = some cs.toArray := by
        refine fill_eq _ ps _ cs ?_
        rw [hv', Array.toList_map, Array.toList_range]
        exact hb
      simp only [h0, if_false, Sem.run_bind, hzr, Result.andThen_ok, Sem.run_pure, hf, newRow, run_newObj]
      rfl
  rw [hex]
  exact hK _ _ _ ⟨_, rfl, rfl⟩ (hi.alloc i _)
theorem VO.bsl {dd : Nat} {t e : TypeId} {s b len : Nat} {l : List (Nat × Operand)} {ps : List (Nat × Value)} {z cs : List Value} (i : Nat) (hd : Nat.blt dd n = true) (hl : evp σ l = some ps) (ht : tsl P t = some (e, s, b)) (hz : tz P e = some z)
    (hsmall : Nat.ble (len * s) 16777216 = true) (hb : bld (fun i => some (i * s, s)) ((List.range (len * s)).map fun j => z.toArray[j % z.toArray.size]!) ps = some cs)
    (h : ∀ g, VO P n w0 ops r ((dd, .slice (some ⟨g, 0, none⟩) len len) :: σ) ((i, mone g (.cells cs.toArray e (0, 0))) :: Ω) K) : VO P n w0 ops (⟨some dd, .buildSlice t len l.toArray, ty, pos, af, none⟩ :: r) σ Ω K :=
  VO.s hd (Stp.bsl i hl ht hz hsmall hb) fun _ _ ⟨g, hv, hΩ⟩ => hv ▸ hΩ ▸ h g
end
end Go.Proofs.Ytfaknkkaegjdaaa
