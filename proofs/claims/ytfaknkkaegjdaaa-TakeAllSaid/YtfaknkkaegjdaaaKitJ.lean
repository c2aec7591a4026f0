/- Own library, part J: chunks joined, literals as one's own, slices held against nil, calls that are handed a chunk. -/
import Derived.Test.YtfaknkkaegjdaaaKitI
set_option linter.unusedVariables false
namespace Go.Proofs.Ytfaknkkaegjdaaa
theorem mle_unR {m n k : Mem} (h1 : mle m k) (h2 : mle n k) : mle n (mun m n) := fun g o e => by
  unfold mun
  cases h : m g with
  | none => exact e
  | some o' =>
    have a1 := h1 g o' h
    have a2 := h2 g o e
    rw [a1] at a2
    exact a2
theorem All2c.cons {α : Type} {R : List Value → α → Prop} {c1 c2 : List Value} {x : α} {xs : List α} (h : R c1 x) (h2 : All2c R c2 xs) : All2c R (c1 ++ c2) (x :: xs) := ⟨c1, c2, rfl, h, h2⟩
theorem All2c.nil {α : Type} {R : List Value → α → Prop} : All2c R [] [] := rfl
theorem OwnL.lit {e : Ty} {E : TypeId} {g : Nat} {k : Mem} {cs : List Value} {xs : List e.Den} (len : Nat) (h : All2c (Rd e k) cs xs) (hl : xs.length = len) (hm : Nat.ble len 1000 = true) :
    OwnL e (mone g (.cells cs.toArray E (0, 0))) k (.slice (some ⟨g, 0, none⟩) len len) xs := by
  subst hl
  have hc := h.len (fun _ _ h => h.len)
  refine ⟨_, cs, mle_refl _, ?_, h⟩
  have := OwnA.row (sz := e.sz) g 0 xs.length xs.length E cs (by rw [hc]; omega) (Nat.le_refl _) (Nat.le_trans (Nat.le_of_ble_eq_true hm) (by decide))
  rwa [List.drop_zero, List.take_of_length_le (by rw [hc]; omega)] at this

theorem OwnL.elem {e : Ty} {m n : Mem} {A : Option Addr} {l c i : Nat} {xs : List e.Den} {x : e.Den} (h : OwnL e m n (.slice A l c) xs) (hi : xs[i]? = some x) :
    ∃ g off ec, A = some ⟨g, off, none⟩ ∧ cellsAt m g (off + i * e.sz) e.sz ec ∧ Rd e n ec x := by
  obtain ⟨m0, cs, k0, k1, k2⟩ := h
  have hlt : i < xs.length := (List.getElem?_eq_some_iff.1 hi).1
  obtain ⟨g, off, c', hv, hc⟩ := k1.cells (by omega)
  simp only [Value.slice.injEq] at hv
  have hm : i * e.sz + e.sz ≤ xs.length * e.sz := by
    have := Nat.mul_le_mul_right e.sz (Nat.succ_le_of_lt hlt)
    rw [Nat.succ_mul] at this; exact this
  exact ⟨g, off, _, hv.1, (hc.sub hm).mono k0, k2.get (fun _ _ h => h.len) hi⟩
theorem Rd.room {e : Ty} {m : Mem} {A : Option Addr} {l c : Nat} {xs : List e.Den} (h : Rd (.sl e) m [.slice A l c] xs) : l ≤ c ∧ c ≤ 9223372036854775807 := by
  obtain ⟨A', c', he, h1, h2⟩ := h.slice
  simp only [Value.slice.injEq, maxLen] at he h2
  omega
section
variable {P : Program} {n : Nat} {w0 : World} {σ : Env} {Ω : Ctx} {ops : Array Oper} {K : Env → Ctx → Prop} {R : Exit → Env → Ctx → Prop}
variable {ty : TypeId} {pos : String} {af : Array Edge} {d : Option Tmp} {gd : Option (Nat × Bool)} {r : List Oper}
theorem Inv.joinK {W : World} (h : Inv w0 Ω W) (k : Nat) {i j : Nat} {m q : Mem} (hi : cget Ω i = some m) (hj : cget (cdel Ω i) j = some q) :
    Inv w0 ((k, mun m q) :: cdel (cdel Ω i) j) W := by
  have := h.join hi hj
  refine ⟨this.os, this.tape, this.output, this.size, fun p hp => ?_, ?_⟩
  · rcases List.mem_cons.1 hp with rfl | hp
    · exact this.le (i, mun m q) (.head _)
    · exact this.le p (.tail _ hp)
  · have := this.dj
    rw [List.pairwise_cons] at this ⊢
    exact this
theorem VO.join (i j k : Nat) {m q : Mem} (hi : cget Ω i = some m) (hj : cget (cdel Ω i) j = some q) (h : mle q (mun m q) → VO P n w0 ops r σ ((k, mun m q) :: cdel (cdel Ω i) j) K) : VO P n w0 ops r σ Ω K :=
  fun Q hQ a W he hI => h (mle_un_right (hI.dj_of hi hj)) Q hQ a W he (hI.joinK k hi hj)
theorem VC.join {c : Code} (i j k : Nat) {m q : Mem} (hi : cget Ω i = some m) (hj : cget (cdel Ω i) j = some q) (h : mle q (mun m q) → VC P n w0 c R σ ((k, mun m q) :: cdel (cdel Ω i) j)) : VC P n w0 c R σ Ω :=
  fun Q hQ a W he hI => h (mle_un_right (hI.dj_of hi hj)) Q hQ a W he (hI.joinK k hi hj)
theorem Yld.minM {x y : Operand} {t u : TypeId} {k : IntKind} {a b : Int} (hx : ev σ x = some (.int k a)) (hy : ev σ y = some (.int k b)) :
    Yld P n w0 σ Ω ⟨d, .call { callee := .builtin .min, args := [x, y].toArray, argTypes := [t, u].toArray }, ty, pos, af, gd⟩ (.int k (Min.min a b)) := by
  have h := Yld.min (P := P) (n := n) (w0 := w0) (Ω := Ω) (t := t) (u := u) (ty := ty) (pos := pos) (af := af) (d := d) (gd := gd) hx hy
  rwa [show (if b < a then b else a) = Min.min a b by split <;> omega] at h
theorem Yld.maxM {x y : Operand} {t u : TypeId} {k : IntKind} {a b : Int} (hx : ev σ x = some (.int k a)) (hy : ev σ y = some (.int k b)) :
    Yld P n w0 σ Ω ⟨d, .call { callee := .builtin .max, args := [x, y].toArray, argTypes := [t, u].toArray }, ty, pos, af, gd⟩ (.int k (Max.max a b)) := by
  have h := Yld.max (P := P) (n := n) (w0 := w0) (Ω := Ω) (t := t) (u := u) (ty := ty) (pos := pos) (af := af) (d := d) (gd := gd) hx hy
  rwa [show (if b > a then b else a) = Max.max a b by split <;> omega] at h
/-- A slice against nil. -/
theorem eqGuard_sl (op : BinOp) (t : TypeId) (x y : Operand) (A B : Option Addr) (l c l' c' : Nat) (W : World) : (eqGuard op t x y (.slice A l c) (.slice B l' c')).run P W = .ok () W := by
  unfold eqGuard; cases op <;> simp
theorem run_equalIn_snil (W : World) (k : Nat) {t e : TypeId} (A : Option Addr) (l c : Nat) (ht : P.underlying t = some (.slice e)) : (Op.equalIn (k + 1) t (.slice A l c) (.slice none 0 0)).run P W = .ok (decide (A = none)) W := by
  unfold Op.equalIn
  rw [Sem.run_bind, run_underlying' ht]
  cases A <;> rfl
theorem Yld.snil {x y : Operand} {t u e : TypeId} {A : Option Addr} {l c : Nat} (hx : ev σ x = some (.slice A l c)) (hy : ev σ y = some (.slice none 0 0)) (ht : P.underlying t = some (.slice e)) :
    Yld P n w0 σ Ω ⟨d, .binOp .eql t x y u, ty, pos, af, gd⟩ (.bool (decide (A = none))) := fun a W he _ => by
  have h2 : (binOp .eql t (.slice A l c) (.slice none 0 0)).run P W = .ok (.bool (decide (A = none))) W := by
    have h3 : binOp .eql t (.slice A l c) (.slice none 0 0) = (do pure (.bool (← Op.equal t (.slice A l c) (.slice none 0 0)))) := by
      cases A <;> rfl
    rw [h3, Sem.run_bind]
    unfold Op.equal
    rw [show Op.maxDepth = 9999 + 1 from rfl, run_equalIn_snil W 9999 A l c ht]
    rfl
  simp [execOp, he.eval hx, he.eval hy, eqGuard_sl, h2]
theorem VO.gbsl {b' : Bool} {jj dd : Nat} {t e : TypeId} {s b len : Nat} {l : List (Nat × Operand)} {ps : List (Nat × Value)} {z cs : List Value} (i : Nat) (hd : Nat.blt dd n = true) (hg : gyes σ ops jj b') (hl : evp σ l = some ps) (ht : tsl P t = some (e, s, b)) (hz : tz P e = some z)
    (hsmall : Nat.ble (len * s) 16777216 = true) (hb : bld (fun i => some (i * s, s)) ((List.range (len * s)).map fun j => z.toArray[j % z.toArray.size]!) ps = some cs)
    (h : ∀ g, VO P n w0 ops r ((dd, .slice (some ⟨g, 0, none⟩) len len) :: σ) ((i, mone g (.cells cs.toArray e (0, 0))) :: Ω) K) : VO P n w0 ops (⟨some dd, .buildSlice t len l.toArray, ty, pos, af, some (jj, b')⟩ :: r) σ Ω K :=
  VO.gs hd hg (Stp.bsl i hl ht hz hsmall hb) fun _ _ ⟨g, hv, hΩ⟩ => hv ▸ hΩ ▸ h g
/-- A call that is handed chunk m as its own. -/
theorem CallR.ofB {f : FuncId} {fn : Func} {c : Code} {args : List Value} {W : World} {m : Mem} {Post : Value → Mem → Prop} (hm : mle m (wm W)) (hf : P.funcs[f]? = some fn) (hb : fn.body = some c) (hn : fn.ntmps = n)
    (hsz : Nat.ble args.length n = true) (h : VC P n W c (retR P n W fn m Post) (zipE 0 args) [(0, mout (wm W) m), (1, m)]) : CallR P f args W m Post := CallR.of hf hb hn hsz hm h
theorem VO.gcall {b : Bool} {dd j : Nat} {f : FuncId} {xs : List Operand} {ats : Array TypeId} {vs : List Value} {Post : Value → Mem → Prop}
    (i : Nat) {m : Mem} (hd : Nat.blt dd n = true) (hg : gyes σ ops j b) (hf : fnOk P f = true) (ha : evs σ xs = some vs) (hm : cget Ω i = some m) (hc : ∀ W, Inv w0 Ω W → CallR P f vs W m Post)
    (h : ∀ v m', Post v m' → VO P n w0 ops r ((dd, v) :: σ) (cset Ω i m') K) :
    VO P n w0 ops (⟨some dd, .call { callee := .value (.func f), args := xs.toArray, argTypes := ats }, ty, pos, af, some (j, b)⟩ :: r) σ Ω K :=
  VO.gs hd hg (Stp.call i hf ha hm hc) fun v _ ⟨m', hp, hΩ⟩ => hΩ ▸ h v m' hp
end
end Go.Proofs.Ytfaknkkaegjdaaa
