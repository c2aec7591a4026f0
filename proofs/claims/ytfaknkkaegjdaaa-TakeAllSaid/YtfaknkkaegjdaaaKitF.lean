/- Own library, part F: append, struct equality, bytes to text, made slices. -/
import Derived.Test.YtfaknkkaegjdaaaKitE
namespace Go.Proofs.Ytfaknkkaegjdaaa

/-- A slice of one's own: without room, or a part of block g up to its capacity; chunk m is that block; 'cs': its cells. -/
inductive OwnA (sz : Nat) : Mem → Value → Nat → List Value → Prop
  | nil (A : Option Addr) : OwnA sz mnil (.slice A 0 0) 0 []
  | row (g off len cap : Nat) (e : TypeId) (c : List Value) (h1 : off + cap * sz ≤ c.length) (h2 : len ≤ cap) (h3 : cap ≤ maxLen) :
      OwnA sz (mone g (.cells c.toArray e (0, 0))) (.slice (some ⟨g, off, none⟩) len cap) len ((c.drop off).take (len * sz))

/-- What may be appended. -/
inductive Src (P : Program) (Ω : Ctx) (sz : Nat) (xt : TypeId) : Value → Nat → List Value → Prop
  | str (s : List UInt8) (h : P.underlying xt = some .string) (h1 : sz = 1) : Src P Ω sz xt (str s) s.length (s.map byV)
  | zero (A : Option Addr) (c : Nat) (e : TypeId) (h : P.underlying xt = some (.slice e)) : Src P Ω sz xt (.slice A 0 c) 0 []
  | row (i : Nat) (m : Mem) (g off k c : Nat) (xs : List Value) (e : TypeId) (h : P.underlying xt = some (.slice e)) (hm : cget Ω i = some m) (hc : cellsAt m g off (k * sz) xs) : Src P Ω sz xt (.slice (some ⟨g, off, none⟩) k c) k xs

section
variable {P : Program} {n : Nat} {w0 : World} {σ : Env} {Ω : Ctx} {ops : Array Oper} {K : Env → Ctx → Prop}
variable {ty : TypeId} {pos : String} {af : Array Edge} {d : Option Tmp} {gd : Option (Nat × Bool)} {r : List Oper}

theorem OwnA.len_eq {sz len : Nat} {m : Mem} {v : Value} {cs : List Value} (h : OwnA sz m v len cs) : cs.length = len * sz := by
  cases h with
  | nil => simp
  | row g off len cap e c h1 h2 h3 =>
    have := Nat.mul_le_mul_right sz h2
    simp; omega

theorem run_firstCells_ok {W : World} {sz : Nat} {xt : TypeId} {x : Value} {k : Nat} {xs : List Value} (h : Src P Ω sz xt x k xs) (hi : Inv w0 Ω W) : (Builtin.firstCells sz k x).run P W = .ok xs.toArray W := by
  cases h with
  | str s h1 h2 =>
    have : (⟨s.toArray⟩ : ByteArray).extract 0 s.length = ⟨s.toArray⟩ := by rw [ba_extract]; simp
    simp [Builtin.firstCells, this]
  | zero A c e h =>
    cases A with
    | none => simp [Builtin.firstCells]
    | some a => simp [Builtin.firstCells, loadCells, loadCellsFrom]
  | row i m g off k c xs e h hm hc => exact run_loadCells' (hc.mono (hi.at hm))
theorem run_lenOf_ok {W : World} {sz : Nat} {xt : TypeId} {x : Value} {k : Nat} {xs : List Value} (h : Src P Ω sz xt x k xs) : (Builtin.lenOf x).run P W = .ok k W := by
  cases h with
  | str s h1 h2 => simp [Builtin.lenOf, ba_size]
  | zero A c e h => simp [Builtin.lenOf]
  | row i m g off k c xs e h hm hc => simp [Builtin.lenOf]
theorem Src.type {sz : Nat} {xt : TypeId} {x : Value} {k : Nat} {xs : List Value} (h : Src P Ω sz xt x k xs) : ∃ D, P.underlying xt = some D ∧ (∀ k, D ≠ .int k) := by
  cases h with
  | str s h1 h2 => exact ⟨_, h1, by simp⟩
  | zero A c e h => exact ⟨_, h, by simp⟩
  | row i m g off k c xs e h hm hc => exact ⟨_, h, by simp⟩
theorem Src.len {sz : Nat} {xt : TypeId} {x : Value} {k : Nat} {xs : List Value} (h : Src P Ω sz xt x k xs) : xs.length = k * sz := by
  cases h with
  | str s h1 h2 => simp [h2]
  | zero A c e h => simp
  | row i m g off k c xs e h hm hc => exact hc.len

/-- The same, of one world. -/
structure SrcW (P : Program) (W : World) (sz : Nat) (xt : TypeId) (x : Value) (k : Nat) (xs : List Value) : Prop where
  type : ∃ D, P.underlying xt = some D ∧ (∀ k, D ≠ .int k)
  len : xs.length = k * sz
  fc : ∀ W', W'.heap = W.heap → (Builtin.firstCells sz k x).run P W' = .ok xs.toArray W'
  ln : ∀ W' : World, (Builtin.lenOf x).run P W' = .ok k W'
theorem firstCells_row {W : World} {sz g off k c : Nat} {xs : List Value} (h : cellsAt (wm W) g off (k * sz) xs) : (Builtin.firstCells sz k (.slice (some ⟨g, off, none⟩) k c)).run P W = .ok xs.toArray W := run_loadCells' h
theorem Src.w {W : World} {sz : Nat} {xt : TypeId} {x : Value} {k : Nat} {xs : List Value} (h : Src P Ω sz xt x k xs) (hi : Inv w0 Ω W) : SrcW P W sz xt x k xs :=
  ⟨h.type, h.len, fun W' hW => run_firstCells_ok h ⟨rfl, rfl, rfl, Nat.le_refl _, fun p hp => by have := hi.le p hp; unfold wm at this ⊢; rw [hW]; exact this, hi.dj⟩, fun W' => run_lenOf_ok h⟩

theorem append_eq {t xt e : TypeId} {sz b : Nat} {A : Option Addr} {len cap k : Nat} {x : Value} {xs : List Value} {W : World} (ht : tsl P t = some (e, sz, b)) (hs : SrcW P W sz xt x k xs) (ty : TypeId)
    (hle : len + k ≤ cap) : (Builtin.append_ #[t, xt] ty #[.slice A len cap, x]).run P W = (match A with
      | some a => (storeCells (a.add (len * sz)) xs).run P W
      | none => .ok () W).andThen fun _ W' => .ok (.slice A (len + k) cap) W' := by
  obtain ⟨h1, i, h2, h3, h4⟩ := tsl_run ht
  obtain ⟨D, hD, hne⟩ := hs.type
  cases A with
  | none => simp [Builtin.append_, run_underlying' h1, run_underlying' hD, run_sizeOf' h2, hs.ln, hle, h3, hs.fc W rfl]
  | some a => simp [Builtin.append_, run_underlying' h1, run_underlying' hD, run_sizeOf' h2, hs.ln, hle, h3, hs.fc W rfl]

theorem append_grow {t xt e : TypeId} {sz b : Nat} {A : Option Addr} {len cap k : Nat} {x : Value} {xs cs z : List Value} {W : World} (ht : tsl P t = some (e, sz, b)) (hz : tz P e = some z) (hs : SrcW P W sz xt x k xs) (ty : TypeId)
    (hold : ∀ W', W'.heap = W.heap → (Builtin.firstCells sz len (.slice A len cap)).run P W' = .ok cs.toArray W')
    (hgt : cap < len + k) (hml : len + k ≤ maxLen) (hb : (len + k) * b ≤ 140737488355328) (hb0 : b ≠ 0) :
    ∃ ncap rest, len + k ≤ ncap ∧ ncap ≤ maxLen ∧ rest.length = (ncap - (len + k)) * z.length ∧ (Builtin.append_ #[t, xt] ty #[.slice A len cap, x]).run P W =
      .ok (.slice (some ⟨W.heap.size, 0, none⟩) (len + k) ncap) (W.drew.alloc (.cells (cs ++ xs ++ rest).toArray e (0, 0))) := by
  obtain ⟨h1, i, h2, h3, h4⟩ := tsl_run ht
  obtain ⟨D, hD, hne⟩ := hs.type
  obtain ⟨v, hv, hzr⟩ := tz_run hz
  have hge := grownCap_ge W (len + k) cap e
  have hcm := grownCap_le_maxLen W (len + k) cap e hml
  refine ⟨grownCap W (len + k) cap e, (Builtin.zeroCells v.cells (grownCap W (len + k) cap e - (len + k))).toList, hge, hcm, by simp [size_zeroCells, ← hv], ?_⟩
  have hnot : ¬ (len + k ≤ cap) := by omega
  have hfit : ¬ (Builtin.nextslicecap (len + k) cap * i.bytes > 2 ^ 48) := by
    have := growslice_fits (need := len + k) (old := cap) (bytes := i.bytes) hgt (by rw [h4]; exact hb)
    omega
  have hsrc : (Builtin.firstCells sz k x).run P W.drew = .ok xs.toArray W.drew := hs.fc _ rfl
  have hb0' : i.bytes ≠ 0 := by rw [h4]; exact hb0
  simp [Builtin.append_, run_underlying' h1, run_underlying' hD, run_sizeOf' h2, run_typeInfo' h2, hs.ln, hnot, h3, hfit, hb0', hzr, hold W.drew rfl, hsrc, newRow]
  rw [if_neg (by simp [Question.forced])]
  simp
  refine ⟨rfl, ?_⟩
  congr 2
  apply Array.toList_inj.1
  simp
  rfl

theorem app_wp {s x : Operand} {t xt e : TypeId} {sz b len k : Nat} {v xv : Value} {cs xs z : List Value} {i : Nat} {m m0 : Mem} {a : Act} {W : World} (he : EnvOk n σ a) (hi : Inv w0 Ω W) (hsv : ev σ s = some v) (hxv : ev σ x = some xv) (ht : tsl P t = some (e, sz, b)) (hz : tz P e = some z) (hzl : z.length = sz)
    (hm : cget Ω i = some m) (hm0 : mle m0 m) (hown : OwnA sz m0 v len cs) (hs : SrcW P W sz xt xv k xs) (h1 : ∀ u ∈ xs, u.oneCell' = true) (hml : len + k ≤ maxLen) (hb : (len + k) * b ≤ 140737488355328) (hb0 : b ≠ 0)
    {K' : Act → World → Prop} {Q : Exit → Act → World → Prop} (hK : ∀ v' m' W', OwnA sz m' v' (len + k) (cs ++ xs) → Inv w0 (cset Ω i m') W' → K' (a.put d v') W') :
    (⟨d, .call { callee := .builtin .append, args := [s, x].toArray, argTypes := [t, xt].toArray }, ty, pos, af, gd⟩ : Oper).wp P a W K' Q := by
  have hex : ∀ (res : Value) (W' : World), (Builtin.append_ #[t, xt] ty #[v, xv]).run P W = .ok res W' → (execOp a.eval ⟨d, .call { callee := .builtin .append, args := [s, x].toArray, argTypes := [t, xt].toArray }, ty, pos, af, gd⟩).run P W = .ok (.value res) W' := by
    intro res W' h
    simp [execOp, resolve, invoke, builtin, he.eval hsv, he.eval hxv, h]
  have grow : ∀ (A : Option Addr) (cap : Nat), v = .slice A len cap → (∀ W', W'.heap = W.heap → (Builtin.firstCells sz len (.slice A len cap)).run P W' = .ok cs.toArray W') → cap < len + k →
      (⟨d, .call { callee := .builtin .append, args := [s, x].toArray, argTypes := [t, xt].toArray }, ty, pos, af, gd⟩ : Oper).wp P a W K' Q := by
    intro A cap hv hold hgt
    subst hv
    obtain ⟨ncap, rest, hn1, hn2, hr, hrun⟩ := append_grow ht hz hs ty hold hgt hml hb hb0
    unfold Oper.wp
    rw [hex _ _ hrun]
    have hl1 := hown.len_eq
    have hl2 := hs.len
    refine hK _ (mone W.heap.size (.cells (cs ++ xs ++ rest).toArray e (0, 0))) _ ?_ (hi.set hm rfl rfl rfl (by simp) ?_ (mone_le ?_) fun g => ?_)
    · have hlen : (cs ++ xs ++ rest).length = ncap * sz := by
        simp only [List.length_append, hl1, hl2, hr, hzl, ← Nat.add_mul]
        congr 1; omega
      have := OwnA.row (sz := sz) W.heap.size 0 (len + k) ncap e (cs ++ xs ++ rest) (by rw [hlen]; omega) hn1 hn2
      rw [List.drop_zero, List.take_append_of_le_length (by simp [hl1, hl2, Nat.add_mul]), List.take_of_length_le (by simp [hl1, hl2, Nat.add_mul])] at this
      exact this
    · exact (mout_le _ _).trans (wm_alloc W.drew _)
    · exact wm_alloc_new W.drew _
    · by_cases hg : g = W.heap.size
      · exact .inr (.inr (Nat.le_of_eq hg.symm))
      · exact .inl (mone_ne _ hg)
  cases hown with
  | nil A =>
    by_cases hk : k = 0
    · subst hk
      have hx : xs = [] := List.eq_nil_of_length_eq_zero (by simpa using hs.len)
      subst hx
      unfold Oper.wp
      rw [hex (.slice A 0 0) W (by rw [append_eq ht hs ty (by omega)]; cases A <;> rfl)]
      exact hK _ mnil _ (.nil A) (hi.set hm rfl rfl rfl (Nat.le_refl _) (mout_le _ _) (mle_nil _) fun g => .inl rfl)
    · exact grow A 0 rfl (fun W' _ => by cases A <;> simp [Builtin.firstCells, loadCells, loadCellsFrom]) (by omega)
  | row g off len cap E c h1' h2' h3' =>
    by_cases hle : len + k ≤ cap
    · have hg := hi.at hm g _ (hm0 g _ (mone_self _ _))
      have hmul := Nat.mul_le_mul_right sz hle
      have hl2 := hs.len
      obtain ⟨W', hrun, ho, htp, hu, hsz, hfar, hgg⟩ := setCells_heap (P := P) xs W g (off + len * sz) c.toArray E (0, 0) hg (by simp [hl2]; rw [Nat.add_mul] at hmul; omega) (Nat.le_refl _) h1 0 (off + len * sz) rfl
      unfold Oper.wp
      rw [hex (.slice (some ⟨g, off, none⟩) (len + k) cap) W' (by rw [append_eq ht hs ty hle]; simp only [add_off, hrun]; rfl)]
      have hsl : splice c (off + len * sz) xs = c.take (off + len * sz) ++ (xs ++ c.drop (off + len * sz + xs.length)) := rfl
      have hlc : (splice c (off + len * sz) xs).length = c.length := by rw [hsl]; simp [hl2]; rw [Nat.add_mul] at hmul; omega
      refine hK _ (mone g (.cells (splice c (off + len * sz) xs).toArray E (0, 0))) _ ?_ (hi.set hm ho htp hu (Nat.le_of_eq hsz.symm) ?_ (mone_le hgg) fun g' => ?_)
      · have := OwnA.row (sz := sz) g off (len + k) cap E (splice c (off + len * sz) xs) (by rw [hlc]; exact h1') hle h3'
        have e1 : List.take ((len + k) * sz) (List.drop off (splice c (off + len * sz) xs)) = List.take (len * sz) (List.drop off c) ++ xs := by
          rw [hsl, List.drop_append_of_le_length (by simp; rw [Nat.add_mul] at hmul; omega), ← List.append_assoc]
          have e2 : List.drop off (List.take (off + len * sz) c) = List.take (len * sz) (List.drop off c) := by
            rw [List.drop_take]; congr 1; omega
          rw [e2]
          have e3 : (List.take (len * sz) (List.drop off c) ++ xs).length = (len + k) * sz := by
            rw [Nat.add_mul] at hmul ⊢
            simp [hl2]; omega
          rw [← e3]
          exact List.take_left
        rw [e1] at this
        exact this
      · intro q o h
        unfold mout at h
        split at h
        · cases h
        · rename_i hn
          have hne : q ≠ g := by rintro rfl; rw [hm0 _ _ (mone_self _ _)] at hn; cases hn
          unfold wm at h ⊢
          rw [hfar q hne]; exact h
      · by_cases hgg' : g' = g
        · subst hgg'; right; left; rw [hm0 _ _ (mone_self _ _)]; simp
        · exact .inl (mone_ne _ hgg')
    · refine grow (some ⟨g, off, none⟩) cap rfl (fun W' hW' => ?_) (by omega)
      have hg := hi.at hm g _ (hm0 g _ (mone_self _ _))
      have hmul := Nat.mul_le_mul_right sz h2'
      refine run_loadCells' ⟨c.toArray, E, (0, 0), ?_, by simp; omega, rfl⟩
      unfold wm at hg ⊢
      rw [hW']; exact hg

theorem Stp.app {s x : Operand} {t xt e : TypeId} {sz b len k : Nat} {v xv : Value} {cs xs z : List Value} (i : Nat) {m m0 : Mem} (hsv : ev σ s = some v) (hxv : ev σ x = some xv) (ht : tsl P t = some (e, sz, b)) (hz : tz P e = some z) (hzl : z.length = sz)
    (hm : cget Ω i = some m) (hm0 : mle m0 m) (hown : OwnA sz m0 v len cs) (hs : Src P Ω sz xt xv k xs) (h1 : ∀ u ∈ xs, u.oneCell' = true) (hml : len + k ≤ maxLen) (hb : (len + k) * b ≤ 140737488355328) (hb0 : b ≠ 0) :
    Stp P n w0 σ Ω ⟨d, .call { callee := .builtin .append, args := [s, x].toArray, argTypes := [t, xt].toArray }, ty, pos, af, gd⟩ (fun v' Ω' => ∃ m', OwnA sz m' v' (len + k) (cs ++ xs) ∧ Ω' = cset Ω i m') := fun a W he hi K' Q hK =>
  app_wp he hi hsv hxv ht hz hzl hm hm0 hown (hs.w hi) h1 hml hb hb0 fun v' m' W' h1 h2 => hK v' _ W' ⟨m', h1, rfl⟩ h2
theorem VO.app {s x : Operand} {t xt e : TypeId} {sz b len k dd : Nat} {v xv : Value} {cs xs z : List Value} (i : Nat) {m m0 : Mem} (hd : Nat.blt dd n = true) (hsv : ev σ s = some v) (hxv : ev σ x = some xv) (ht : tsl P t = some (e, sz, b)) (hz : tz P e = some z) (hzl : z.length = sz)
    (hm : cget Ω i = some m) (hm0 : mle m0 m) (hown : OwnA sz m0 v len cs) (hs : Src P Ω sz xt xv k xs) (h1 : ∀ u ∈ xs, u.oneCell' = true) (hml : len + k ≤ maxLen) (hb : (len + k) * b ≤ 140737488355328) (hb0 : b ≠ 0)
    (h : ∀ v' m', OwnA sz m' v' (len + k) (cs ++ xs) → VO P n w0 ops r ((dd, v') :: σ) (cset Ω i m') K) :
    VO P n w0 ops (⟨some dd, .call { callee := .builtin .append, args := [s, x].toArray, argTypes := [t, xt].toArray }, ty, pos, af, none⟩ :: r) σ Ω K :=
  VO.s hd (Stp.app i hsv hxv ht hz hzl hm hm0 hown hs h1 hml hb hb0) fun v' _ ⟨m', hp, hΩ⟩ => hΩ ▸ h v' m' hp

/-! ### Two structs held against each other -/
/-- cells of plain kinds, one by one. -/
def ceq : List Value → List Value → Bool
  | [], [] => true
  | .int _ a :: r, .int _ b :: s => decide (a = b) && ceq r s
  | .bool a :: r, .bool b :: s => decide (a = b) && ceq r s
  | .string a :: r, .string b :: s => decide (a.toList = b.toList) && ceq r s
  | _, _ => false
/-- Do these fields, all of plain kinds and named, lie one behind the other, from cell o on, in these cells? -/
def plainF (P : Program) : List Field → Nat → List Value → Bool
  | [], _, [] => true
  | f :: r, o, v :: s => decide (f.name ≠ "_") && decide (f.offset = o) && (match P.underlying f.type, v with
      | some (.int k), .int k' _ => decide (k = k')
      | some .bool, .bool _ => true
      | some .string, .string _ => true
      | _, _ => false) && plainF P r (o + 1) s
  | _, _, _ => false
/-- A struct of plain fields, comparable; given cells of these kinds. -/
def plainS (P : Program) (t : TypeId) (cs : List Value) : Bool := match P.underlying t with
  | some (.struct F) => plainF P F.toList 0 cs && !P.stoodInHeld t && !P.eqGuardType P.depth t
  | _ => false
end
end Go.Proofs.Ytfaknkkaegjdaaa
