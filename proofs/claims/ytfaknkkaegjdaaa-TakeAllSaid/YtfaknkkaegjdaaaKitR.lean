/- Own library, part R: a law's row: readings of arguments as plain data, the frame round a walk. -/
import Derived.Test.YtfaknkkaegjdaaaKitH
import Derived.ProofKit
import Derived.OpenShut
import Derived.Carry
set_option linter.unusedVariables false
namespace Go.Proofs.Ytfaknkkaegjdaaa
open Go.ChangeShapes Go.WideShapes Go.ChangeAt Go.RowKit

theorem Ty.sz_pos : ∀ t : Ty, 0 < t.sz
  | .int _ | .byte | .bool | .str | .sl _ | .spl _ | .ptr _ | .addr => Nat.one_pos
  | .pair a b => Nat.add_pos_left (sz_pos a) _

/-- Go type t reads as ty: x is a type, or the fields from an offset on. -/
def tyOk (P : Program) : Nat → Ty → TypeId ⊕ (List Field × Nat) → Bool
  | 0, _, _ => false
  | n + 1, ty, .inl t => match P.underlying t, ty with
    | some .bool, .bool => true
    | some .string, .str => true
    | some (.int .u8), .byte => true
    | some (.int k), .int k' => k == k'
    | some (.slice u), .sl e => tyOk P n e (.inl u) && P.cellsOf u == e.sz
    | some (.struct fs), ty => P.cellsOf t == ty.sz && tyOk P n ty (.inr (fs.toList, 0))
    | _, _ => false
  | n + 1, ty, .inr ([f], off) => f.offset == off && P.cellsOf f.type == ty.sz && tyOk P n ty (.inl f.type)
  | n + 1, .pair a b, .inr (f :: r, off) => f.offset == off && P.cellsOf f.type == a.sz && tyOk P n a (.inl f.type) && tyOk P n b (.inr (r, off + a.sz))
  | _, _, _ => false

theorem inK_wf {k : IntKind} {n : Int} (h : (Lit.int k n).wf = true) : inK k n := by
  cases k <;> simp [Lit.wf, IntKind.min, IntKind.max, IntKind.signed, IntKind.bits] at h <;> simp [inK] <;> omega

theorem cells_of {w : World} {a : Addr} {k : Nat} {ci : List Value} (h : w.cells? 0 a k = some ci) : ci.length = k ∧ ∀ j, j < k → w.cell? (a.add j) = ci[j]? := by
  unfold World.cells? at h
  rw [if_pos (Nat.zero_le _)] at h
  exact ⟨by simpa using mapM_some_length h, fun j hj => mapM_some_get h j j (by simp [hj])⟩

theorem add_block (a : Addr) (n : Nat) : (a.add n).block = a.block ∧ (a.add n).off = a.off + n := by
  unfold Addr.add
  split
  · rename_i h; subst h; exact ⟨rfl, rfl⟩
  · exact ⟨rfl, rfl⟩

theorem all2c_of {α : Type} {R : List Value → α → Prop} {k : Nat} {c : List Value} : ∀ (len off : Nat), (∀ i, i < len → ∃ x, R ((c.drop (off + i * k)).take k) x) → off + len * k ≤ c.length →
    ∃ xs : List α, xs.length = len ∧ All2c R ((c.drop off).take (len * k)) xs
  | 0, off, _, _ => ⟨[], rfl, by simp [All2c]⟩
  | len + 1, off, h, hl => by
    have e : (len + 1) * k = k + len * k := by rw [Nat.add_mul]; omega
    obtain ⟨x, hx⟩ := h 0 (by omega)
    obtain ⟨xs, h1, h2⟩ := all2c_of (c := c) (k := k) len (off + k) (fun i hi => by
      have := h (i + 1) (by omega)
      rwa [show off + (i + 1) * k = off + k + i * k by rw [Nat.add_mul]; omega] at this) (by omega)
    refine ⟨x :: xs, by simp [h1], _, _, ?_, by simpa using hx, h2⟩
    rw [e, List.take_add, List.drop_drop]

section
variable {H : Type} {enc : TypeId × Value → H} {P : Program} {w : World} {spare : Nat → Bool} {held : Bool}

theorem rd_of_trod : ∀ (n : Nat) (ty : Ty), (∀ (t : TypeId) (fuel : Nat) (cs : List Value) (x : DataW H × List MemPlace), tyOk P n ty (.inl t) = true → DataW.trod enc P w 0 spare held fuel t cs = some x → ∃ d, Rd ty (wm w) cs d) ∧
    (∀ (fs : List Field) (off : Nat) (cs : List Value), tyOk P n ty (.inr (fs, off)) = true → off + ty.sz ≤ cs.length → (∀ f ∈ fs, ∃ fuel x, DataW.trod enc P w 0 spare held fuel f.type ((cs.drop f.offset).take (P.cellsOf f.type)) = some x) → ∃ d, Rd ty (wm w) ((cs.drop off).take ty.sz) d)
  | 0, ty => ⟨fun _ _ _ _ h => by simp [tyOk] at h, fun _ _ _ h => by simp [tyOk] at h⟩
  | n + 1, ty => by
    constructor
    · intro t fuel cs x ht hx
      unfold tyOk at ht
      split at ht
      · rename_i hu
        obtain ⟨b, rfl, _⟩ := DataW.trod_bool hu hx
        exact ⟨b, rfl⟩
      · rename_i hu
        obtain ⟨s, rfl, _, hs⟩ := DataW.trod_string hu hx
        exact ⟨s.data.toList, by cases s; rfl, hs⟩
      · rename_i hu
        obtain ⟨q, rfl, _, hq⟩ := DataW.trod_int hu hx
        have := inK_wf hq
        simp only [inK] at this
        refine ⟨UInt8.ofNat q.toNat, ?_⟩
        show _ = [byV _]
        simp only [byV, List.cons.injEq, Value.int.injEq, and_true, true_and]
        simp
        omega
      · rename_i k k' hu
        have ek : k = k' := eq_of_beq ht
        subst ek
        obtain ⟨q, rfl, _, hq⟩ := DataW.trod_int hu hx
        exact ⟨q, rfl, inK_wf hq⟩
      · rename_i u e hu
        simp only [Bool.and_eq_true, beq_iff_eq] at ht
        obtain ⟨ht1, ht2⟩ := ht
        rcases DataW.trod_slice hu hx with ⟨rfl, _⟩ | ⟨a, len, cap, elems, rest, m, _, rfl, _, _, hl, hc, hel, hget, _⟩
        · exact ⟨[], Rd.nil _ _ _ _ (Nat.zero_le _)⟩
        · rcases Nat.eq_zero_or_pos len with h0 | h0
          · subst h0; exact ⟨[], Rd.nil _ _ _ _ hc⟩
          · rw [ht2] at hget
            have hk := e.sz_pos
            have hcell : ∀ i, i < len → ∃ ci, w.cells? 0 (a.add (i * e.sz)) e.sz = some ci ∧ ∃ x, Rd e (wm w) ci x := fun i hi => by
              have := hget i hi
              rw [List.getElem?_eq_getElem (by omega), Option.bind_eq_some_iff] at this
              obtain ⟨ci, h1, h2⟩ := this
              exact ⟨ci, h1, (rd_of_trod n e).1 u _ _ _ ht1 h2⟩
            obtain ⟨c0, h1, x0, _⟩ := hcell 0 h0
            obtain ⟨hl0, hg0⟩ := cells_of h1
            have h00 := hg0 0 hk
            rw [List.getElem?_eq_getElem (by omega), Nat.zero_mul] at h00
            have ha0 : (a.add 0).add 0 = a := by simp [Addr.add]
            rw [ha0] at h00
            obtain ⟨g, off, spot⟩ := a
            unfold World.cell? at h00
            dsimp only at h00
            split at h00
            · rename_i c E fz hheap
              split at h00
              · cases h00
              · rename_i hs
                have hs' : spot = none := by cases spot <;> simp_all
                subst hs'
                have hget2 : ∀ i, i < len → ∀ j, j < e.sz → off + i * e.sz + j < c.size ∧ ∀ ci, w.cells? 0 ((Addr.mk g off none).add (i * e.sz)) e.sz = some ci → c[off + i * e.sz + j]? = ci[j]? := fun i hi j hj => by
                  obtain ⟨ci, q1, _⟩ := hcell i hi
                  obtain ⟨q2, q3⟩ := cells_of q1
                  have := q3 j hj
                  rw [add_off, add_off] at this
                  simp only [World.cell?, hheap, Option.isSome_none, Bool.false_eq_true, if_false] at this
                  refine ⟨?_, fun ci' h => ?_⟩
                  · rw [List.getElem?_eq_getElem (by omega)] at this
                    exact (Array.getElem?_eq_some_iff.1 this).1
                  · rw [q1] at h; cases h; exact this
                have hsz : off + len * e.sz ≤ c.size := by
                  have := (hget2 (len - 1) (by omega) (e.sz - 1) (by omega)).1
                  have e1 : len * e.sz = (len - 1) * e.sz + e.sz := by
                    conv => lhs; rw [show len = len - 1 + 1 by omega, Nat.add_mul, Nat.one_mul]
                  omega
                obtain ⟨xs, k1, k2⟩ := all2c_of (R := Rd e (wm w)) (k := e.sz) (c := c.toList) len off (fun i hi => by
                  obtain ⟨ci, q1, x, q2⟩ := hcell i hi
                  refine ⟨x, ?_⟩
                  rwa [show (c.toList.drop (off + i * e.sz)).take e.sz = ci from ?_]
                  have := (cells_of q1).1
                  have e2 : i * e.sz + e.sz ≤ len * e.sz := by
                    have := Nat.mul_le_mul_right e.sz (Nat.succ_le_of_lt hi)
                    rwa [Nat.succ_mul] at this
                  apply List.ext_getElem?
                  intro j
                  by_cases hj : j < e.sz
                  · rw [List.getElem?_take_of_lt hj, List.getElem?_drop, ← (hget2 i hi j hj).2 ci q1]
                    simp
                  · rw [List.getElem?_eq_none (by simp; omega), List.getElem?_eq_none (by omega)]) (by simpa using hsz)
                refine ⟨xs, some ⟨g, off, none⟩, cap, by rw [k1], by omega, hc, .inr ⟨g, off, _, rfl, ⟨c, E, fz, hheap, by rw [k1]; exact hsz, rfl⟩, ?_⟩⟩
                rw [k1]; exact k2
            · cases h00
      · rename_i fs hu
        simp only [Bool.and_eq_true, beq_iff_eq] at ht
        obtain ⟨ht1, ht2⟩ := ht
        obtain ⟨xs, m, _, _, hcl, hxl, hf⟩ := DataW.trod_struct hu hx
        have := (rd_of_trod n _).2 fs.toList 0 cs ht2 (by rw [hcl, ht1]; omega) (fun f hm => by
          obtain ⟨i, hi, rfl⟩ := List.getElem_of_mem hm
          have := hf i fs.toList[i] (by simp at hi; simp [hi])
          rw [List.getElem?_eq_getElem (by simp at hi; omega)] at this
          exact ⟨_, _, this⟩)
        rwa [List.drop_zero, List.take_of_length_le (by omega)] at this
      · cases ht
    · intro fs off cs ht hl hf
      match fs, ht, hf with
      | [], ht, _ => cases ty <;> simp [tyOk] at ht
      | [f], ht, hf =>
        have ht' : (f.offset == off && P.cellsOf f.type == ty.sz && tyOk P n ty (.inl f.type)) = true := by cases ty <;> simpa [tyOk] using ht
        simp only [Bool.and_eq_true, beq_iff_eq] at ht'
        obtain ⟨⟨h1, h2⟩, h3⟩ := ht'
        obtain ⟨fuel, x, hx⟩ := hf f (.head _)
        rw [h1, h2] at hx
        exact (rd_of_trod n ty).1 _ _ _ _ h3 hx
      | f :: g :: r, ht, hf =>
        match ty, ht, hl with
        | .pair a b, ht, hl =>
          have ht' : (f.offset == off && P.cellsOf f.type == a.sz && tyOk P n a (.inl f.type) && tyOk P n b (.inr (g :: r, off + a.sz))) = true := ht
          simp only [Bool.and_eq_true, beq_iff_eq] at ht'
          obtain ⟨⟨⟨h1, h2⟩, h3⟩, h4⟩ := ht'
          obtain ⟨fuel, x, hx⟩ := hf f (.head _)
          rw [h1, h2] at hx
          have hs : (Ty.pair a b).sz = a.sz + b.sz := rfl
          rw [hs] at hl
          obtain ⟨d1, k1⟩ := (rd_of_trod n a).1 _ _ _ _ h3 hx
          obtain ⟨d2, k2⟩ := (rd_of_trod n b).2 (g :: r) (off + a.sz) cs h4 (by omega) (fun q hq => hf q (.tail _ hq))
          refine ⟨(d1, d2), _, _, ?_, k1, k2⟩
          rw [hs, List.take_add, List.drop_drop]
theorem arg_rd {ty : Ty} {t : TypeId} {v : Value} {d : DataW H} {ps : List MemPlace} {cs : List Value} (n : Nat) (ht : tyOk P n ty (.inl t) = true) (hv : v.cells.toList = cs) (h : DataW.Trod enc P w 0 spare held t v d ps) : ∃ d, Rd ty (wm w) cs d := by
  obtain ⟨fuel, hf⟩ := h
  rw [hv] at hf
  exact (rd_of_trod n ty).1 t fuel cs _ ht hf
variable {b0 : Nat} {t : TypeId} {v : Value} {d : DataW H} {ps : List MemPlace} {r : Reach}
theorem arg_int {k : IntKind} (hu : P.underlying t = some (.int k)) (hv : Value.okWide P w r b0 t v) (h : DataW.Trod enc P w 0 spare held t v d ps) : ∃ n, v = .int k n ∧ inK k n := by
  obtain ⟨n, rfl, _, _, hw⟩ := open_int hu hv h
  exact ⟨n, rfl, inK_wf hw⟩
theorem arg_byte (hu : P.underlying t = some (.int .u8)) (hv : Value.okWide P w r b0 t v) (h : DataW.Trod enc P w 0 spare held t v d ps) : ∃ b, v = byV b := by
  obtain ⟨q, rfl, hq⟩ := arg_int hu hv h
  simp only [inK] at hq
  refine ⟨UInt8.ofNat q.toNat, ?_⟩
  simp only [byV, Value.int.injEq, true_and]
  simp
  omega
theorem arg_bool (hu : P.underlying t = some .bool) (hv : Value.okWide P w r b0 t v) : ∃ b, v = .bool b := okWide_bool hu hv
theorem arg_str (hu : P.underlying t = some .string) (hv : Value.okWide P w r b0 t v) (h : DataW.Trod enc P w 0 spare held t v d ps) : ∃ s, v = str s ∧ s.length ≤ maxLen := by
  obtain ⟨s, rfl⟩ := okWide_string hu hv
  obtain ⟨fuel, hf⟩ := h
  obtain ⟨s', he, _, hs⟩ := DataW.trod_string hu hf
  simp [Value.cells] at he
  subst he
  exact ⟨s.data.toList, by cases s; rfl, hs⟩
theorem arg_sl {u : TypeId} {e : Ty} (n : Nat) (ht : tyOk P n (.sl e) (.inl t) = true) (hu : P.underlying t = some (.slice u)) (hv : Value.okWide P w r b0 t v) (h : DataW.Trod enc P w 0 spare held t v d ps) : ∃ d, Rd (.sl e) (wm w) [v] d := by
  obtain ⟨a, l, c, rfl⟩ := okWide_slice hu hv
  exact arg_rd n ht rfl h
theorem arg_st {fs : Array Field} {ty : Ty} (n : Nat) (ht : tyOk P n ty (.inl t) = true) (hu : P.underlying t = some (.struct fs)) (hv : Value.okWide P w r b0 t v) (h : DataW.Trod enc P w 0 spare held t v d ps) : ∃ cs d, v = .agg cs.toArray ∧ Rd ty (wm w) cs d := by
  obtain ⟨cs, rfl, _⟩ := okWide_struct hu hv
  obtain ⟨d, hd⟩ := arg_rd n ht rfl h
  exact ⟨cs.toList, d, by simp, hd⟩

theorem stay : ∀ {ts : List TypeId} {vs : List Value} {ds : List (DataW H)} {ps : List MemPlace} {W' : World} {sp : Nat → Bool}, laidOutB P = true → ts.all (fun t => P.readableRec t && Nat.blt t P.types.size) = true →
    DataW.TrodAll enc P w 0 (fun _ => true) true ts vs ds ps → Below w.heap.size w W' → (∀ x ∈ ps, x.block < w.heap.size) → (∀ x ∈ ps, sp x.block = true) → DataW.TrodAll enc P W' 0 sp true ts vs ds ps
  | [], [], [], _, _, _, _, _, h, _, _, _ => h
  | t :: ts, v :: vs, d :: ds, _, W', sp, hl, ha, ⟨p, q, h1, h2, rfl⟩, hb, hlt, hs => by
    rw [List.all_cons, Bool.and_eq_true, Bool.and_eq_true] at ha
    refine ⟨p, q, WideElems.Trod_stays hl ha.1.1 (Nat.le_of_ble_eq_true ha.1.2) h1 (fun x hx => hb.same (hlt x (List.mem_append_left _ hx))) (fun x hx => hs x (List.mem_append_left _ hx)), ?_, rfl⟩
    exact stay hl ha.2 h2 hb (fun x hx => hlt x (List.mem_append_right _ hx)) (fun x hx => hs x (List.mem_append_right _ hx))
end

theorem calls_of {P : Program} {f : FuncId} {args : List Value} {W : World} {b : Bool} (h : CallR P f args W mnil (fun v _ => v = .bool b)) : Calls P f args.toArray W fun e W' => e = .returned (.bool b) ∧ Below W.heap.size W W' :=
  Calls.mono h fun e W' ⟨v, m', h1, h2, h3⟩ => ⟨by rw [h1, h2], h3.os, h3.tape, h3.output, h3.size, fun k hk => by
    have := h3.keep k W.heap[k] (by simp [mout, mnil, wm, hk])
    simp only [wm] at this
    rw [this, Array.getElem?_eq_getElem hk]⟩

theorem law_post {H : Type} {enc : TypeId × Value → H} {P : Program} {f : Func} {s : ChangeSpec} {apart fresh handsOn again : Bool} {W W' : World} {args : List Value} {ds gs : List (DataW H)} {before : List MemPlace} {tb : TypeId} {b : Bool}
    (hW : DataW.Whole enc P f.params.toList s.vars apart W args ds gs before) (hb : Below W.heap.size W W') (hl : laidOutB P = true) (ha : f.params.toList.all (fun t => P.readableRec t && Nat.blt t P.types.size) = true)
    (hrt : f.resultTypes = #[tb]) (hub : P.underlying tb = some .bool) (hv : s.vars = []) (hr : (s.fn H ds).results = [.lit (.bool b)]) (hs : (s.fn H ds).args = ds) (hv2 : (s.fn H ds).vars = []) :
    s.post enc P f apart fresh handsOn again W args.toArray (.bool b) W' := by
  have hW' := hW
  have hlt : ∀ p ∈ before, p.block < W.heap.size := fun p hp => by simpa using hW.lt p hp
  obtain ⟨p, q, hA, hV, rfl, hz, hn⟩ := hW
  rw [hv] at hV
  obtain ⟨rfl, rfl⟩ := trodVars_none hV
  simp only [List.append_nil] at hlt hz hn hW'
  have hargs : ∀ sp : Nat → Bool, (∀ x ∈ p, sp x.block = true) → DataW.TrodAll enc P W' 0 sp true f.params.toList args (s.fn H ds).args p := fun sp h => by
    rw [hs]; exact stay hl ha hA hb hlt h
  have hres : ∀ (n : Nat) (sp : Nat → Bool) (hd : Bool), DataW.TrodAll enc P W' n sp hd f.resultTypes.toList ((Value.bool b).resultList f.resultTypes.size) (s.fn H ds).results [] := fun n sp hd => by
    rw [hr, hrt]; exact trodAll_mk1 (shut_bool hub _)
  have hold : ∀ x ∈ p, (fun n => decide (n < W.heap.size)) x.block = true := fun x hx => by simpa using hlt x hx
  have hvs : ∀ sp, DataW.TrodVars enc P W' sp s.vars (s.fn H ds).vars [] := fun sp => by rw [hv, hv2]; rfl
  have e : args.toArray.toList = args := by simp
  refine ⟨ds, [], p, [], p, [], by rw [e]; exact hW', ?_, ?_, ?_, ?_, fun _ => ⟨?_, ?_⟩⟩
  · rw [List.append_nil]; exact hres _ _ _
  · rw [List.append_nil, e]; exact hargs _ hold
  · rw [List.append_nil]; exact hvs _
  · exact hb.frame _
  · rw [hrt]
    intro j t r h1 h2
    match j, h1, h2 with
    | 0, h1, h2 =>
      simp [Value.resultList] at h1 h2
      subst h1; subst h2
      exact okWide_bool_mk hub _
  · refine ⟨_, _, ([] ++ p) ++ [], ⟨[] ++ p, [], trodAll_append (by rw [e]; exact hargs (fun _ => true) (fun _ _ => rfl)) (hres _ _ _), hvs (fun _ => true), rfl, ?_, ?_⟩, ?_⟩
    · intro k off hp
      have hp' : MemPlace.cell k off ∈ p := by simpa using hp
      rw [hb.frozen (hlt _ hp')]
      exact hz k off hp'
    · intro ha'
      simpa using hn ha'
    · intro x hx _
      simpa using hx
end Go.Proofs.Ytfaknkkaegjdaaa
