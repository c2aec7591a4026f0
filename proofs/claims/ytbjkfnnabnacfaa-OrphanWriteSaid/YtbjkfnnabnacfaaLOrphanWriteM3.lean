/- Part 3 of the proof of LOrphanWrite: what it needs of the library, the walks and the plain laws. Conditions: those named in each theorem. -/
import Derived.Test.YtbjkfnnabnacfaaLOrphanWriteM2
namespace Go.Proofs.Ytbjkfnnabnacfaa
section
set_option linter.unusedVariables false
theorem Rd.relen {e : Ty} {m : Mem} {A : Option Addr} {l k c : Nat} {xs : List e.Den} (h : Rd (.sl e) m [.slice A l c] xs) (hk : k = xs.length) : Rd (.sl e) m [.slice A k c] xs := by
  obtain ⟨A', c', h1, h2⟩ := h
  simp only [List.cons.injEq, Value.slice.injEq, and_true] at h1
  obtain ⟨rfl, _, rfl⟩ := h1
  exact ⟨_, _, by rw [hk], h2⟩
theorem Ow.full {e : Ty} {m : Mem} {A : Option Addr} {l c : Nat} {x : List e.Den × List e.Den} (h : Ow (.spl e) m [.slice A l c] x) : l = x.1.length ∧ Ow (.sl e) m [.slice A (x.1 ++ x.2).length c] (x.1 ++ x.2) := by
  obtain ⟨A', c', m0, m1, rc, h1, h2, h3, h4, h5, h6⟩ := h
  simp only [List.cons.injEq, Value.slice.injEq, and_true] at h1
  obtain ⟨rfl, rfl, rfl⟩ := h1
  exact ⟨rfl, _, m0, m1, rc, rfl, h2, h3, h4, h5, h6⟩
theorem Ow.mkSpl {e : Ty} {m : Mem} {A : Option Addr} {l c k : Nat} {xs ys : List e.Den} (h : Ow (.sl e) m [.slice A l c] (xs ++ ys)) (hk : k = xs.length) : Ow (.spl e) m [.slice A k c] (xs, ys) := by
  have hl := slice_len h
  obtain ⟨v, m0, m1, rc, h1, h2, h3, h4, h5, h6⟩ := h
  simp only [List.cons.injEq, and_true] at h1
  subst h1
  exact ⟨A, c, m0, m1, rc, by rw [hk], h2, h3, h4, by rw [← hl] at h5; exact h5, h6⟩
theorem Ow.pre2 {e : Ty} {m : Mem} {A : Option Addr} {l c : Nat} {xs ys : List e.Den} (h : Ow (.sl e) m [.slice A l c] (xs ++ ys)) : Ow (.sl e) m [.slice A xs.length c] xs := by
  have := Ow.pre (j := xs.length) h (by simp)
  rwa [List.take_left] at this
theorem Ow.nilSpl (e : Ty) (m : Mem) : Ow (.spl e) m [.slice none 0 0] ([], []) := Ow.mkSpl (xs := []) (ys := []) (Ow.nil e m) rfl
theorem Rd.nilSpl (e : Ty) (m : Mem) : Rd (.spl e) m [.slice none 0 0] ([], []) := (Ow.nilSpl e m).rd (mle_refl _)
theorem OwAll.map {α β : Type} {R : Mem → List Value → α → Prop} {S : Mem → List Value → β → Prop} (f : α → β) (hf : ∀ m c x, R m c x → S m c (f x)) : ∀ {xs : List α} {m : Mem} {cs : List Value}, OwAll R m cs xs → OwAll S m cs (xs.map f)
  | [], _, _, h => h
  | _ :: _, _, _, ⟨c1, c2, m1, m2, h1, h2, h3, h4, h5, h6⟩ => ⟨c1, c2, m1, m2, h1, h2, h3, h4, hf _ _ _ h5, h6.map f hf⟩
theorem Rd.mapL {e e' : Ty} (f : e.Den → e'.Den) (hz : e'.sz = e.sz) (hf : ∀ m c x, Rd e m c x → Rd e' m c (f x)) {m : Mem} {cs : List Value} {xs : List e.Den} (h : Rd (.sl e) m cs xs) : Rd (.sl e') m cs (xs.map f) := by
  obtain ⟨A, c, h1, h2, h3, h4⟩ := h
  have hl : (xs.map f).length = xs.length := List.length_map ..
  refine ⟨A, c, by rw [hl]; exact h1, by rw [hl]; exact h2, h3, ?_⟩
  rw [hl, hz]
  exact h4.imp id fun ⟨g, off, all, k1, k2, k3⟩ => ⟨g, off, all, k1, k2, k3.map _ (hf m)⟩
theorem Ow.mapL {e e' : Ty} (f : e.Den → e'.Den) (hz : e'.sz = e.sz) (hf : ∀ m c x, Ow e m c x → Ow e' m c (f x)) {m : Mem} {cs : List Value} {xs : List e.Den} (h : Ow (.sl e) m cs xs) : Ow (.sl e') m cs (xs.map f) := by
  obtain ⟨v, m0, m1, rc, h1, h2, h3, h4, h5, h6⟩ := h
  have hl : (xs.map f).length = xs.length := List.length_map ..
  refine ⟨v, m0, m1, rc, h1, h2, h3, h4, ?_, h6.map _ hf⟩
  rw [hl, hz]; exact h5
theorem VO.apart {P : Program} {n : Nat} {w0 : World} {σ : Env} {Ω : Ctx} {ops : Array Oper} {K : Env → Ctx → Prop} {r : List Oper} (ids : List Nat) {l : List Mem} (hg : cgets Ω ids = some l) (h : l.Pairwise mdj → VO P n w0 ops r σ Ω K) : VO P n w0 ops r σ Ω K :=
  fun Q hQ a W he hi => h (hi.gets hg).1 Q hQ a W he hi
theorem VD.apart {P : Program} {n : Nat} {w0 : World} {σ : Env} {Ω ΩS : Ctx} {ops : Array Oper} {K : Env → Ctx → Prop} {t : Nat} {ss : List (Nat × Bool)} (ids : List Nat) {l : List Mem} (hg : cgets Ω ids = some l) (h : l.Pairwise mdj → VD P n w0 ops ΩS t ss σ Ω K) : VD P n w0 ops ΩS t ss σ Ω K :=
  fun Q hn hQ listed a W he hi => h (hi.gets hg).1 Q hn hQ listed a W he hi
theorem VD.gbsl {P : Program} {n : Nat} {w0 : World} {σ : Env} {Ω ΩS : Ctx} {ops : Array Oper} {t : Nat} {K : Env → Ctx → Prop} {ty : TypeId} {pos : String} {af : Array Edge} {i : Nat} {rr : List (Nat × Bool)} {dd : Nat} {t' e : TypeId} {s b len : Nat} {l : List (Nat × Operand)} {ps : List (Nat × Value)} {z cs : List Value} {jj : Nat} {b' : Bool} (j : Nat) (hd : Nat.blt dd n = true) (ho : ops[i]? = some ⟨some dd, .buildSlice t' len l.toArray, ty, pos, af, some (jj, b')⟩) (hg : gyes σ ops jj b')
    (hl : evp σ l = some ps) (ht : tsl P t' = some (e, s, b)) (hz : tz P e = some z)
    (hsmall : Nat.ble (len * s) 16777216 = true) (hb : bld (fun i => some (i * s, s)) ((List.range (len * s)).map fun j => z.toArray[j % z.toArray.size]!) ps = some cs) (hS : ∀ W, Inv w0 Ω W → Inv w0 ΩS W)
    (h : ∀ g, VD P n w0 ops ΩS t rr ((dd, .slice (some ⟨g, 0, none⟩) len len) :: σ) ((j, mone g (.cells cs.toArray e (0, 0))) :: Ω) K) : VD P n w0 ops ΩS t ((i, false) :: rr) σ Ω K :=
  VD.s (fun v => (dd, v) :: σ) ho (fun v _ he => he.put hd v) (.inr ⟨_, _, rfl, hg⟩) (Stp.bsl j hl ht hz hsmall hb) (fun _ _ ⟨_, _, hΩ⟩ W hW => hS W (by subst hΩ; exact hW.tl)) (fun _ _ ⟨g, hv, hΩ⟩ => hv ▸ hΩ ▸ h g)
abbrev Hd := Option Addr × Nat × Nat
def hv (h : Hd) : Value := .slice h.1 h.2.1 h.2.2
abbrev tC (e : Ty) : Ty := .pair (.int .i64) (.pair (.int .i64) (.sl e))
abbrev DH := Int × Int × Hd
def Pc (e : Ty) (m : Mem) (h : DH) (x : (tC e).Den) : Prop := h.1 = x.1 ∧ h.2.1 = x.2.1 ∧ Rd (.sl e) m [hv h.2.2] x.2.2
inductive F2 {α β : Type} (R : α → β → Prop) : List α → List β → Prop
  | nil : F2 R [] []
  | cons {a : α} {b : β} {l : List α} {r : List β} (h : R a b) (t : F2 R l r) : F2 R (a :: l) (b :: r)
theorem F2.mono {α β : Type} {R S : α → β → Prop} {l : List α} {r : List β} (h : F2 R l r) (hs : ∀ a b, R a b → S a b) : F2 S l r := by
  induction h with
  | nil => exact .nil
  | cons h _ ih => exact .cons (hs _ _ h) ih
theorem F2.len {α β : Type} {R : α → β → Prop} {l : List α} {r : List β} (h : F2 R l r) : l.length = r.length := by
  induction h with
  | nil => rfl
  | cons _ _ ih => simp [ih]
theorem F2.get {α β : Type} {R : α → β → Prop} {l : List α} {r : List β} (h : F2 R l r) {i : Nat} {a : α} (ha : l[i]? = some a) : ∃ b, r[i]? = some b ∧ R a b := by
  induction h generalizing i with
  | nil => simp at ha
  | cons h _ ih =>
    cases i with
    | zero => simp at ha; subst ha; exact ⟨_, rfl, h⟩
    | succ i => simp at ha; simpa using ih ha
variable {e : Ty}
theorem Pc.mono {m m' : Mem} {h : DH} {x : (tC e).Den} (hp : Pc e m h x) (hm : mle m m') : Pc e m' h x := ⟨hp.1, hp.2.1, hp.2.2.mono hm⟩
theorem OwAll.len {α : Type} {R : Mem → List Value → α → Prop} {k : Nat} (hk : ∀ m c x, R m c x → c.length = k) : ∀ {xs : List α} {m : Mem} {cs : List Value}, OwAll R m cs xs → cs.length = xs.length * k
  | [], _, _, h => by rw [show _ = [] from h]; simp
  | _ :: r, _, _, ⟨c1, c2, m1, m2, h1, _, _, _, h5, h6⟩ => by
    rw [h1, List.length_append, hk _ _ _ h5, OwAll.len hk h6, List.length_cons, Nat.add_mul]; omega
end
section
set_option linter.unusedVariables false
set_option linter.unusedSimpArgs false
set_option maxRecDepth 4000
theorem fnOk108 : fnOk Try.prog 108 = true := by kernel_rfl
theorem fnOk112 : fnOk Try.prog 112 = true := by kernel_rfl
theorem fnOk88 : fnOk Try.prog 88 = true := by kernel_rfl
theorem fnOk98 : fnOk Try.prog 98 = true := by kernel_rfl
theorem fin0_cEncode_ok_ {P : Prop} (h : P := by first | omega | (simp only [List.length_append, List.length_nil, List.length_cons, List.length_take, List.length_drop] at *; omega) | (have h_ := cCheck_zero (Decidable.not_not.1 ‹¬ ¬ cCheck d0 = 0›); omega) | (have h_ := cCheck_zero (Decidable.not_not.1 ‹¬ ¬ cCheck d0 = 0›); simp only [List.length_append, List.length_nil, List.length_cons] at *; omega)) : P := h
theorem cEncode_ok_ (W : World) {v0 : List Value} {d0 : DCommit} (h0 : Rd TCommit (wm W) v0 d0) : CallR Try.prog 56 [.agg v0.toArray] W (mnil) (fun v m' => ∃ (s0 : Value), v = .tuple #[s0, .int .i64 ((cEncode d0).2)] ∧ Ow (.sl .byte) m' [s0] ((cEncode d0).1)) := by
 obtain ⟨p0_A2, p0_c2, rfl, p0_0, p0_1, p0_2⟩ := open_Commit (x0 := d0.1) (x1 := d0.2.1) (x2 := d0.2.2) h0
 simp only [inK] at p0_0 p0_1
 have p0_r2 := Rd.room p0_2
 refine CallR.ofA (n := 23) Try.func56 rfl rfl rfl ?_
 refine VC.rs ?_
 refine VO.box (cs := [.int .i64 (d0.1), .int .i64 (d0.2.1), .slice p0_A2 (d0.2.2.length) (p0_c2)]) 102 rfl rfl rfl (fun g1 => ?_)
 refine VO.as (VO.as (VO.k4 0 1 2 3 (VC.seq (VC.rs (VO.y rfl (.ldA 102 rfl tk32 rfl (cellsAt_one rfl rfl)) ?_)))))
 refine VO.callN 103 rfl fnOk86 rfl (fun W hW => cCheck_ok_ W (Rd.mono h0 (hW.at (i := 0) rfl))) (fun v3 m3 hv3 => ?_)
 subst hv3
 have hfa4 := cCheck_range d0
 refine VO.as (VO.k5 0 1 2 3 4 (VC.rs (VO.mv (VO.y rfl (.neq rfl rfl) ?_))))
 refine VO.kp [102, 0] [(102, mone g1 (.cells #[.int .i64 (d0.1), .int .i64 (d0.2.1), .slice p0_A2 (d0.2.2.length) (p0_c2)] 32 (0, 0))), (0, wm W)] ?_
 refine VO.k6 0 1 2 3 4 8 ?_
 refine VC.cond rfl (fun hc5 => ?_) (fun hc5 => ?_)
 · refine VC.rs (VO.mv (VO.as (VO.as (VO.k6 0 1 2 3 4 8 (VC.ret (outR ?_))))))
   refine ⟨_, _, res_run (rs := [.tmp 2, .tmp 3]) rfl (.tmp rfl (.tmp rfl .nil)), fun W_ hI => out_of (l := []) hI [] rfl rfl (mle_refl _) (fun hS_ => ?_)⟩
   dsimp only [packV]
   have he0 : ((cEncode d0).1 : Ty.Den (.sl .byte)) = [] := by first | rfl | (first | (rw [cEncode_bad (by assumption)]; done) | (rw [cEncode_good (by assumption)]; done))
   refine ⟨Value.slice none (0) (0), ?_, ?_⟩
   rotate_left
   · rw [he0]; exact (Ow.nil _ _)
   all_goals (first | rfl | (first | (rw [cEncode_bad (by assumption)] <;> rfl) | (rw [cEncode_good (by assumption)] <;> rfl)))
 · refine VC.skip (outN (VC.seq ?_))
   refine VC.regD _ 13 [(0, true), (1, true), (2, true), (4, true), (5, true), (6, true), (8, true), (9, true), (3, false), (7, false), (10, false), (11, true), (12, true)] follows (by kernel_rfl) (fun _ h => h.sub [102, 0]) ?_
   refine VD.y rfl rfl (.inl rfl) (.fa rfl tst32 rfl) (VD.y rfl rfl (.inl rfl) (.ld1 102 rfl tk3 rfl (cellsAt_one rfl rfl)) ?_)
   refine VD.y rfl rfl (.inl rfl) (.cvI (c := ((d0.1).toNat : Int)) rfl ⟨_, Try.underlying3⟩ Try.underlying82 (by rw [IntWalk.u64_in _ (by exact fin0_cEncode_ok_)]; first | omega | (exact fin0_cEncode_ok_))) ?_
   refine VD.y rfl rfl (.inl rfl) (.fa rfl tst32 rfl) (VD.y rfl rfl (.inl rfl) (.ld1 102 rfl tk3 rfl (cellsAt_one rfl rfl)) ?_)
   refine VD.y rfl rfl (.inl rfl) (.cvI (c := ((d0.2.1).toNat : Int)) rfl ⟨_, Try.underlying3⟩ Try.underlying82 (by rw [IntWalk.u64_in _ (by exact fin0_cEncode_ok_)]; first | omega | (exact fin0_cEncode_ok_))) ?_
   refine VD.y rfl rfl (.inl rfl) (.fa rfl tst32 rfl) (VD.y rfl rfl (.inl rfl) (.ld1 102 rfl tk30 rfl (cellsAt_one rfl rfl)) ?_)
   refine VD.callN 106 rfl rfl (.inl rfl) fnOk54 rfl (fun _ h => h.sub [102, 0]) (fun W hW => vAppend_ok W (Rd.nil _ _ none 0 (Nat.zero_le _)) ((d0.1).toNat) (by exact fin0_cEncode_ok_) (by exact fin0_cEncode_ok_)) (fun v6 m6 hv6 => ?_)
   obtain ⟨s6_0, rfl, f6_0⟩ := hv6
   have hfa7 := venc_len (x := ((d0.1).toNat)) (by first | omega | exact or64 (by assumption) _)
   simp only [List.nil_append] at f6_0
   obtain ⟨A6_0, c6_0, eq6_0, l6_0, k6_0⟩ := f6_0.slice
   subst eq6_0
   simp only [maxLen] at k6_0
   refine VD.callN 108 rfl rfl (.inl rfl) fnOk54 rfl (fun _ h => h.sub [102, 0]) (fun W hW => vAppend_ok W (OwnL.rd (Ow.ownl f6_0 rfl mnil) (hW.at (i := 106) rfl) (mle_nil _)) ((d0.2.1).toNat) (by exact fin0_cEncode_ok_) (by exact fin0_cEncode_ok_)) (fun v8 m8 hv8 => ?_)
   obtain ⟨s8_0, rfl, f8_0⟩ := hv8
   have hfa9 := venc_len (x := ((d0.2.1).toNat)) (by first | omega | exact or64 (by assumption) _)
   obtain ⟨A8_0, c8_0, eq8_0, l8_0, k8_0⟩ := f8_0.slice
   subst eq8_0
   simp only [maxLen] at k8_0
   refine VD.callN 110 rfl rfl (.inl rfl) fnOk88 rfl (fun _ h => h.sub [102, 0]) (fun W hW => bAppend_ok W (OwnL.rd (Ow.ownl f8_0 rfl mnil) (hW.at (i := 108) rfl) (mle_nil _)) (Rd.mono p0_2 (hW.at (i := 0) rfl)) (by exact fin0_cEncode_ok_)) (fun v10 m10 hv10 => ?_)
   obtain ⟨s10_0, rfl, f10_0⟩ := hv10
   have hfa11 := bAppend_len ((venc ((d0.1).toNat)) ++ venc ((d0.2.1).toNat)) d0.2.2
   obtain ⟨A10_0, c10_0, eq10_0, l10_0, k10_0⟩ := f10_0.slice
   subst eq10_0
   simp only [maxLen] at k10_0
   refine VD.y rfl rfl (.inl rfl) (.ext rfl rfl) (VD.y rfl rfl (.inl rfl) (.ext rfl rfl) ?_)
   refine VD.nil rfl ?_ rfl
   refine VO.as (VO.as (VO.k6 0 1 2 3 4 8 (outN (VC.ret ?_))))
   refine ⟨_, _, res_run (rs := [.tmp 2, .tmp 3]) rfl (.tmp rfl (.tmp rfl .nil)), fun W_ hI => out_of (l := [m10]) hI [110] rfl rfl (mle_refl _) (fun hS_ => ?_)⟩
   dsimp only [packV]
   have he0 : ((cEncode d0).1 : Ty.Den (.sl .byte)) = (bAppend ((venc ((d0.1).toNat)) ++ venc ((d0.2.1).toNat)) d0.2.2).1 := by first | rfl | (first | (rw [cEncode_bad (by assumption)]; done) | (rw [cEncode_good (by assumption)]; done))
   refine ⟨Value.slice A10_0 (((bAppend ((venc ((d0.1).toNat)) ++ venc ((d0.2.1).toNat)) d0.2.2).1).length) (c10_0), ?_, ?_⟩
   rotate_left
   · rw [he0]; exact (Ow.up (OwnL.ow (Ow.ownl f10_0 rfl mnil) rfl) (hS_.1 _ (.head _)))
   all_goals (first | rfl | (first | (rw [cEncode_bad (by assumption)] <;> rfl) | (rw [cEncode_good (by assumption)] <;> rfl)))
theorem c4Check_ok (W : World) {v0 : List Value} {d0 : DCommit} (h0 : Rd TCommit (wm W) v0 d0) : CallR Try.prog 98 [.agg v0.toArray] W (mnil) (fun v m' => v = .int .i64 (cCheck d0)) := by
 obtain ⟨p0_A2, p0_c2, rfl, p0_0, p0_1, p0_2⟩ := open_Commit (x0 := d0.1) (x1 := d0.2.1) (x2 := d0.2.2) h0
 simp only [inK] at p0_0 p0_1
 have p0_r2 := Rd.room p0_2
 refine CallR.ofA (n := 24) Try.func98 rfl rfl rfl ?_
 refine VC.rs ?_
 refine VO.box (cs := [.int .i64 (d0.1), .int .i64 (d0.2.1), .slice p0_A2 (d0.2.2.length) (p0_c2)]) 102 rfl rfl rfl (fun g1 => ?_)
 refine VO.as (VO.k3 0 1 2 (VC.seq (VC.rs (VO.y rfl (.fa rfl tst32 rfl) (VO.y rfl (.ld1 102 rfl tk3 rfl (cellsAt_one rfl rfl)) (VO.y rfl (.lss rfl rfl) (VO.mv ?_)))))))
 refine VO.dec (t := 6) rfl (fun hc3 => ?_) (fun hc3 => ?_)
 · refine VO.gN (VO.gN (VO.gN (VO.y rfl (.pT rfl rfl) (VO.mv (VO.gN (VO.gN (VO.gN (VO.y rfl (.pT rfl rfl) (VO.mv (VO.gN (VO.gN ?_)))))))))))
   refine VO.gN (VO.y rfl (.pT rfl rfl) (VO.k4 0 1 2 20 (VC.condT rfl (VC.rs (VO.as ?_)))))
   refine VO.kp [102, 0] [(102, mone g1 (.cells #[.int .i64 (d0.1), .int .i64 (d0.2.1), .slice p0_A2 (d0.2.2.length) (p0_c2)] 32 (0, 0))), (0, wm W)] ?_
   refine VO.k4 0 1 2 20 (VC.ret (outR ?_))
   refine ⟨_, _, res_run (rs := [.tmp 2]) rfl (.tmp rfl .nil), fun W_ hI => out_of (l := []) hI [] rfl rfl (mle_refl _) (fun hS_ => ?_)⟩
   dsimp only [packV]
   all_goals (first | rfl | (unfold cCheck; congr 1; split <;> (try split) <;> first | rfl | omega))
 refine VO.gy rfl ⟨_, rfl, rfl⟩ (.fa rfl tst32 rfl) ?_
 refine VO.gy rfl ⟨_, rfl, rfl⟩ (.ld1 102 rfl tk3 rfl (cellsAt_one rfl rfl)) ?_
 refine VO.gy rfl ⟨_, rfl, rfl⟩ (.gtr rfl rfl) (VO.y rfl (.pF rfl rfl) (VO.mv ?_))
 refine VO.dec (t := 11) rfl (fun hc4 => ?_) (fun hc4 => ?_)
 · refine VO.gN (VO.gN (VO.gN (VO.y rfl (.pT rfl rfl) (VO.mv (VO.gN (VO.gN (VO.gN (VO.y rfl (.pT rfl rfl) (VO.k4 0 1 2 20 (VC.condT rfl (VC.rs ?_)))))))))))
   refine VO.as ?_
   refine VO.kp [102, 0] [(102, mone g1 (.cells #[.int .i64 (d0.1), .int .i64 (d0.2.1), .slice p0_A2 (d0.2.2.length) (p0_c2)] 32 (0, 0))), (0, wm W)] ?_
   refine VO.k4 0 1 2 20 (VC.ret (outR ?_))
   refine ⟨_, _, res_run (rs := [.tmp 2]) rfl (.tmp rfl .nil), fun W_ hI => out_of (l := []) hI [] rfl rfl (mle_refl _) (fun hS_ => ?_)⟩
   dsimp only [packV]
   all_goals (first | rfl | (unfold cCheck; congr 1; split <;> (try split) <;> first | rfl | omega))
 refine VO.gy rfl ⟨_, rfl, rfl⟩ (.fa rfl tst32 rfl) ?_
 refine VO.gy rfl ⟨_, rfl, rfl⟩ (.ld1 102 rfl tk3 rfl (cellsAt_one rfl rfl)) ?_
 refine VO.gy rfl ⟨_, rfl, rfl⟩ (.lss rfl rfl) (VO.y rfl (.pF rfl rfl) (VO.mv ?_))
 refine VO.dec (t := 16) rfl (fun hc5 => ?_) (fun hc5 => ?_)
 · refine VO.gN (VO.gN (VO.gN (VO.y rfl (.pT rfl rfl) (VO.k4 0 1 2 20 (VC.condT rfl (VC.rs (VO.as ?_)))))))
   refine VO.kp [102, 0] [(102, mone g1 (.cells #[.int .i64 (d0.1), .int .i64 (d0.2.1), .slice p0_A2 (d0.2.2.length) (p0_c2)] 32 (0, 0))), (0, wm W)] ?_
   refine VO.k4 0 1 2 20 (VC.ret (outR ?_))
   refine ⟨_, _, res_run (rs := [.tmp 2]) rfl (.tmp rfl .nil), fun W_ hI => out_of (l := []) hI [] rfl rfl (mle_refl _) (fun hS_ => ?_)⟩
   dsimp only [packV]
   all_goals (first | rfl | (unfold cCheck; congr 1; split <;> (try split) <;> first | rfl | omega))
 refine VO.gy rfl ⟨_, rfl, rfl⟩ (.fa rfl tst32 rfl) ?_
 refine VO.gy rfl ⟨_, rfl, rfl⟩ (.ld1 102 rfl tk3 rfl (cellsAt_one rfl rfl)) ?_
 refine VO.gy rfl ⟨_, rfl, rfl⟩ (.gtr rfl rfl) (VO.y rfl (.pF rfl rfl) (VO.k4 0 1 2 20 ?_))
 refine VC.cond rfl (fun hc6 => ?_) (fun hc6 => ?_)
 · refine VC.rs (VO.as ?_)
   refine VO.kp [102, 0] [(102, mone g1 (.cells #[.int .i64 (d0.1), .int .i64 (d0.2.1), .slice p0_A2 (d0.2.2.length) (p0_c2)] 32 (0, 0))), (0, wm W)] ?_
   refine VO.k4 0 1 2 20 (VC.ret (outR ?_))
   refine ⟨_, _, res_run (rs := [.tmp 2]) rfl (.tmp rfl .nil), fun W_ hI => out_of (l := []) hI [] rfl rfl (mle_refl _) (fun hS_ => ?_)⟩
   dsimp only [packV]
   all_goals (first | rfl | (unfold cCheck; congr 1; split <;> (try split) <;> first | rfl | omega))
 · refine VC.skip (outN (VC.rs (VO.y rfl (.fa rfl tst32 rfl) (VO.y rfl (.ld1 102 rfl tk30 rfl (cellsAt_one rfl rfl)) ?_))))
   refine VO.callN 107 rfl fnOk116 rfl (fun W hW => rbCheck_ok W (Rd.mono p0_2 (hW.at (i := 0) rfl))) (fun v7 m7 hv7 => ?_)
   subst hv7
   have hfa8 := batchCheck_range d0.2.2
   refine VO.as ?_
   refine VO.kp [102, 0] [(102, mone g1 (.cells #[.int .i64 (d0.1), .int .i64 (d0.2.1), .slice p0_A2 (d0.2.2.length) (p0_c2)] 32 (0, 0))), (0, wm W)] ?_
   refine VO.k4 0 1 2 20 (VC.ret ?_)
   refine ⟨_, _, res_run (rs := [.tmp 2]) rfl (.tmp rfl .nil), fun W_ hI => out_of (l := []) hI [] rfl rfl (mle_refl _) (fun hS_ => ?_)⟩
   dsimp only [packV]
   all_goals (first | rfl | (unfold cCheck; congr 1; split <;> (try split) <;> first | rfl | omega))
theorem fin0_c4Encode_ok {P : Prop} (h : P := by first | omega | (simp only [List.length_append, List.length_nil, List.length_cons, List.length_take, List.length_drop] at *; omega) | (have h_ := cCheck_zero (Decidable.not_not.1 ‹¬ ¬ cCheck d0 = 0›); omega) | (have h_ := cCheck_zero (Decidable.not_not.1 ‹¬ ¬ cCheck d0 = 0›); simp only [List.length_append, List.length_nil, List.length_cons] at *; omega)) : P := h
theorem c4Encode_ok (W : World) {v0 : List Value} {d0 : DCommit} (h0 : Rd TCommit (wm W) v0 d0) : CallR Try.prog 90 [.agg v0.toArray] W (mnil) (fun v m' => ∃ (s0 : Value), v = .tuple #[s0, .int .i64 ((cEncode d0).2)] ∧ Ow (.sl .byte) m' [s0] ((cEncode d0).1)) := by
 obtain ⟨p0_A2, p0_c2, rfl, p0_0, p0_1, p0_2⟩ := open_Commit (x0 := d0.1) (x1 := d0.2.1) (x2 := d0.2.2) h0
 simp only [inK] at p0_0 p0_1
 have p0_r2 := Rd.room p0_2
 refine CallR.ofA (n := 24) Try.func90 rfl rfl rfl ?_
 refine VC.rs ?_
 refine VO.box (cs := [.int .i64 (d0.1), .int .i64 (d0.2.1), .slice p0_A2 (d0.2.2.length) (p0_c2)]) 102 rfl rfl rfl (fun g1 => ?_)
 refine VO.as (VO.as (VO.k4 0 1 2 3 (VC.rs (VO.y rfl (.ldA 102 rfl tk32 rfl (cellsAt_one rfl rfl)) ?_))))
 refine VO.callN 103 rfl fnOk98 rfl (fun W hW => c4Check_ok W (Rd.mono h0 (hW.at (i := 0) rfl))) (fun v3 m3 hv3 => ?_)
 subst hv3
 have hfa4 := cCheck_range d0
 refine VO.as (VO.k5 0 1 2 3 4 (VC.seq (VC.rs (VO.mv (VO.y rfl (.neq rfl rfl) ?_)))))
 refine VO.kp [102, 0] [(102, mone g1 (.cells #[.int .i64 (d0.1), .int .i64 (d0.2.1), .slice p0_A2 (d0.2.2.length) (p0_c2)] 32 (0, 0))), (0, wm W)] ?_
 refine VO.k6 0 1 2 3 4 9 ?_
 refine VC.cond rfl (fun hc5 => ?_) (fun hc5 => ?_)
 · refine VC.rs (VO.mv (VO.as (VO.as (VO.k6 0 1 2 3 4 9 (VC.ret (outR ?_))))))
   refine ⟨_, _, res_run (rs := [.tmp 2, .tmp 3]) rfl (.tmp rfl (.tmp rfl .nil)), fun W_ hI => out_of (l := []) hI [] rfl rfl (mle_refl _) (fun hS_ => ?_)⟩
   dsimp only [packV]
   have he0 : ((cEncode d0).1 : Ty.Den (.sl .byte)) = [] := by first | rfl | (first | (rw [cEncode_bad (by assumption)]; done) | (rw [cEncode_good (by assumption)]; done))
   refine ⟨Value.slice none (0) (0), ?_, ?_⟩
   rotate_left
   · rw [he0]; exact (Ow.nil _ _)
   all_goals (first | rfl | (first | (rw [cEncode_bad (by assumption)] <;> rfl) | (rw [cEncode_good (by assumption)] <;> rfl)))
 · refine VC.skip (outN (VC.rs (VO.y rfl (.fa rfl tst32 rfl) (VO.y rfl (.ld1 102 rfl tk3 rfl (cellsAt_one rfl rfl)) ?_))))
   refine VO.callN 106 rfl fnOk57 rfl (fun W hW => rPut_ok W (Rd.nil _ _ none 0 (Nat.zero_le _)) d0.1 (by simp only [inK]; (exact fin0_c4Encode_ok)) (by exact fin0_c4Encode_ok) (by exact fin0_c4Encode_ok)) (fun v6 m6 hv6 => ?_)
   obtain ⟨s6_0, rfl, f6_0⟩ := hv6
   have hfa7 := venc_len (x := d0.1.toNat) (by omega)
   simp only [List.nil_append] at f6_0
   obtain ⟨A6_0, c6_0, eq6_0, l6_0, k6_0⟩ := f6_0.slice
   subst eq6_0
   simp only [maxLen] at k6_0
   refine VO.as (VO.k7 0 1 2 3 4 5 9 (VC.rs (VO.mv (VO.y rfl (.fa rfl tst32 rfl) (VO.y rfl (.ld1 102 rfl tk3 rfl (cellsAt_one rfl rfl)) ?_)))))
   refine VO.callN 108 rfl fnOk57 rfl (fun W hW => rPut_ok W (OwnL.rd (Ow.ownl f6_0 rfl mnil) (hW.at (i := 106) rfl) (mle_nil _)) d0.2.1 (by simp only [inK]; (exact fin0_c4Encode_ok)) (by exact fin0_c4Encode_ok) (by exact fin0_c4Encode_ok)) (fun v8 m8 hv8 => ?_)
   obtain ⟨s8_0, rfl, f8_0⟩ := hv8
   have hfa9 := venc_len (x := d0.2.1.toNat) (by omega)
   obtain ⟨A8_0, c8_0, eq8_0, l8_0, k8_0⟩ := f8_0.slice
   subst eq8_0
   simp only [maxLen] at k8_0
   refine VO.as (VO.k7 0 1 2 3 4 5 9 (VC.rs (VO.mv (VO.y rfl (.fa rfl tst32 rfl) (VO.y rfl (.ld1 102 rfl tk30 rfl (cellsAt_one rfl rfl)) ?_)))))
   refine VO.callN 110 rfl fnOk108 rfl (fun W hW => rbAppend_ok W (OwnL.rd (Ow.ownl f8_0 rfl mnil) (hW.at (i := 108) rfl) (mle_nil _)) (Rd.mono p0_2 (hW.at (i := 0) rfl)) (by exact fin0_c4Encode_ok)) (fun v10 m10 hv10 => ?_)
   obtain ⟨s10_0, rfl, f10_0⟩ := hv10
   have hfa11 := bAppend_len ((venc d0.1.toNat) ++ venc d0.2.1.toNat) d0.2.2
   obtain ⟨A10_0, c10_0, eq10_0, l10_0, k10_0⟩ := f10_0.slice
   subst eq10_0
   simp only [maxLen] at k10_0
   refine VO.y rfl (.ext rfl rfl) (VO.y rfl (.ext rfl rfl) (VO.as (VO.as ?_)))
   refine VO.kp [110, 108, 102, 0] [(110, m10), (108, m8), (102, mone g1 (.cells #[.int .i64 (d0.1), .int .i64 (d0.2.1), .slice p0_A2 (d0.2.2.length) (p0_c2)] 32 (0, 0))), (0, wm W)] ?_
   refine VO.k7 0 1 2 3 4 5 9 (VC.ret ?_)
   refine ⟨_, _, res_run (rs := [.tmp 2, .tmp 3]) rfl (.tmp rfl (.tmp rfl .nil)), fun W_ hI => out_of (l := [m10]) hI [110] rfl rfl (mle_refl _) (fun hS_ => ?_)⟩
   dsimp only [packV]
   have he0 : ((cEncode d0).1 : Ty.Den (.sl .byte)) = (bAppend ((venc d0.1.toNat) ++ venc d0.2.1.toNat) d0.2.2).1 := by first | rfl | (first | (rw [cEncode_bad (by assumption)]; done) | (rw [cEncode_good (by assumption)]; done))
   refine ⟨Value.slice A10_0 (((bAppend ((venc d0.1.toNat) ++ venc d0.2.1.toNat) d0.2.2).1).length) (c10_0), ?_, ?_⟩
   rotate_left
   · rw [he0]; exact (Ow.up (OwnL.ow (Ow.ownl f10_0 rfl mnil) rfl) (hS_.1 _ (.head _)))
   all_goals (first | rfl | (first | (rw [cEncode_bad (by assumption)] <;> rfl) | (rw [cEncode_good (by assumption)] <;> rfl)))
theorem fin0_cDecode_ok_ {P : Prop} (h : P := by first | (rw [cDecode_e1 (by assumption)] <;> rfl) | (rw [cDecode_e2 (by assumption)] <;> rfl) | (rw [cDecode_e3 (by assumption)] <;> rfl) | (rw [cDecode_e4 (by assumption)] <;> rfl) | (rw [cDecode_e5 (by assumption)] <;> rfl) | (rw [cDecode_ok (by assumption) (by assumption) (by assumption) (by assumption) (by assumption)] <;> rfl)) : P := h
theorem cDecode_ok_ (W : World) {v0 : Value} {d0 : List UInt8} (h0 : Rd (.sl .byte) (wm W) [v0] d0) : CallR Try.prog 93 [v0] W (mnil) (fun v m' => ∃ (s0 : List Value), v = .tuple #[.agg s0.toArray, .int .i64 ((cDecode d0).2)] ∧ Ow TCommit m' s0 ((cDecode d0).1)) := by
 obtain ⟨A0, c0, rfl, l0, k0⟩ := h0.slice
 simp only [maxLen] at k0
 refine CallR.ofA (n := 65) Try.func93 rfl rfl rfl ?_
 refine VC.rs ?_
 refine VO.alloc 102 rfl tz32 (fun g1 => ?_)
 refine VO.as (VO.k3 0 2 3 (VC.rs (VO.mv ?_)))
 refine VO.callN 103 rfl fnOk111 rfl (fun W hW => vSmall_ok W (Rd.mono h0 (hW.at (i := 0) rfl)) 1048576 bdk) (fun v3 m3 hv3 => ?_)
 subst hv3
 have hfa4 := s_bounds d0 1048576 (by omega)
 refine VO.mv (VO.y rfl (.ext rfl rfl) (VO.y rfl (.ext rfl rfl) (VO.y rfl (.ext rfl rfl) (VO.as (VO.as (VO.as (VO.k6 0 2 3 4 5 6 (VC.seq (VC.rs (VO.mv (VO.y rfl (.neq rfl rfl) ?_)))))))))))
 refine VO.kp [102, 0] [(102, mone g1 (.cells #[.int .i64 (0), .int .i64 (0), .slice none (0) (0)] 32 (0, 0))), (0, wm W)] ?_
 refine VO.k7 0 2 3 4 5 6 19 ?_
 refine VC.cond rfl (fun hc5 => ?_) (fun hc5 => ?_)
 · refine VC.rs ?_
   refine VO.y rfl (.bst (cs := [.int .i64 (0), .int .i64 (0), .slice none (0) (0)]) rfl tst32 tz32 rfl) ?_
   refine VO.store (k := 3) (c' := [Value.int .i64 (0), Value.int .i64 (0), Value.slice none (0) (0)]) 102 rfl rfl (.inl tk32) rfl rfl rfl rfl rfl ?_
   refine VO.as (VO.k7 0 2 3 4 5 6 19 (VC.ret (outR ?_)))
   refine ⟨_, _, res_run (rs := [.cell 2 32, .tmp 3]) rfl (.agg 102 rfl tk32 rfl ⟨_, _, _, mone_self _ _, Nat.le_of_ble_eq_true rfl, rfl⟩ (.tmp rfl .nil)), fun W_ hI => out_of (l := []) hI [] rfl rfl (mle_refl _) (fun hS_ => ?_)⟩
   dsimp only [packV]
   have he0 : ((cDecode d0).1 : Ty.Den TCommit) = (0, 0, []) := by first | rfl | (exact fin0_cDecode_ok_)
   refine ⟨[Value.int .i64 (0), Value.int .i64 (0), Value.slice none (0) (0)], ?_, ?_⟩
   rotate_left
   · rw [he0]; exact (mkO_Commit 0 0 [] (Seps.nilAt 0 hS_) bdk bdk (Ow.nil _ _))
   all_goals (first | rfl | (exact fin0_cDecode_ok_))
 refine VC.skip (outN (VC.rs (VO.mv (VO.mv ?_))))
 obtain ⟨A6, hA6, hs6⟩ := h0.drop 1 (sN d0 1048576) rfl bd
 refine VO.y rfl (.slLI (sN d0 1048576) A6 rfl rfl tsl25 rfl hA6 bd) ?_
 refine VO.callN 107 rfl fnOk111 rfl (fun W hW => vSmall_ok W (Rd.mono hs6 (hW.at (i := 0) rfl)) 1048576 bdk) (fun v7 m7 hv7 => ?_)
 subst hv7
 have hfa8 := s_bounds (d0.drop (sN d0 1048576)) 1048576 (by omega)
 refine VO.mv (VO.y rfl (.ext rfl rfl) (VO.y rfl (.ext rfl rfl) (VO.y rfl (.ext rfl rfl) (VO.as (VO.as (VO.as (VO.k9 0 2 3 4 5 6 7 8 19 (VC.seq (VC.rs (VO.mv (VO.y rfl (.neq rfl rfl) ?_)))))))))))
 refine VO.k10 0 2 3 4 5 6 7 8 19 30 ?_
 refine VC.cond rfl (fun hc9 => ?_) (fun hc9 => ?_)
 · refine VC.rs ?_
   refine VO.y rfl (.bst (cs := [.int .i64 (0), .int .i64 (0), .slice none (0) (0)]) rfl tst32 tz32 rfl) ?_
   refine VO.store (k := 3) (c' := [Value.int .i64 (0), Value.int .i64 (0), Value.slice none (0) (0)]) 102 rfl rfl (.inl tk32) rfl rfl rfl rfl rfl ?_
   refine VO.as ?_
   refine VO.kp [102, 0] [(102, mone g1 (.cells #[.int .i64 (0), .int .i64 (0), .slice none (0) (0)] 32 (0, 0))), (0, wm W)] ?_
   refine VO.k10 0 2 3 4 5 6 7 8 19 30 (VC.ret (outR ?_))
   refine ⟨_, _, res_run (rs := [.cell 2 32, .tmp 3]) rfl (.agg 102 rfl tk32 rfl ⟨_, _, _, mone_self _ _, Nat.le_of_ble_eq_true rfl, rfl⟩ (.tmp rfl .nil)), fun W_ hI => out_of (l := []) hI [] rfl rfl (mle_refl _) (fun hS_ => ?_)⟩
   dsimp only [packV]
   have he0 : ((cDecode d0).1 : Ty.Den TCommit) = (0, 0, []) := by first | rfl | (exact fin0_cDecode_ok_)
   refine ⟨[Value.int .i64 (0), Value.int .i64 (0), Value.slice none (0) (0)], ?_, ?_⟩
   rotate_left
   · rw [he0]; exact (mkO_Commit 0 0 [] (Seps.nilAt 0 hS_) bdk bdk (Ow.nil _ _))
   all_goals (first | rfl | (exact fin0_cDecode_ok_))
 refine VC.skip (outN (VC.rs (VO.mv (VO.mv (VO.mv ?_)))))
 refine VO.y rfl (.add (c := ((sN d0 1048576 + (sN (d0.drop (sN d0 1048576)) 1048576) : Nat) : Int)) rfl rfl (by omega) ⟨bd, bd⟩) ?_
 obtain ⟨A10, hA10, hs10⟩ := h0.drop 1 (sN d0 1048576 + (sN (d0.drop (sN d0 1048576)) 1048576)) rfl bd
 refine VO.y rfl (.slLI (sN d0 1048576 + (sN (d0.drop (sN d0 1048576)) 1048576)) A10 rfl rfl tsl25 rfl hA10 bd) ?_
 refine VO.callN 111 rfl fnOk112 rfl (fun W hW => bRead_ok W (Rd.mono hs10 (hW.at (i := 0) rfl))) (fun v11 m11 hv11 => ?_)
 obtain ⟨s11_0, rfl, f11_0⟩ := hv11
 have hfa12 := bRead_fits (d0.drop (sN d0 1048576 + (sN (d0.drop (sN d0 1048576)) 1048576)))
 obtain ⟨A11_0, c11_0, eq11_0, l11_0, k11_0⟩ := f11_0.slice
 subst eq11_0
 simp only [maxLen] at k11_0
 refine VO.mv (VO.y rfl (.ext rfl rfl) (VO.y rfl (.ext rfl rfl) (VO.y rfl (.ext rfl rfl) (VO.as (VO.as (VO.as ?_))))))
 refine VO.kp [111, 102, 0] [(111, m11), (102, mone g1 (.cells #[.int .i64 (0), .int .i64 (0), .slice none (0) (0)] 32 (0, 0))), (0, wm W)] ?_
 refine VO.k12 0 2 3 4 5 6 7 8 9 10 19 30 (VC.rs (VO.mv (VO.mv (VO.mv ?_))))
 refine VO.y rfl (.bst (cs := [.int .i64 (((sX d0 1048576 : Nat) : Int)), .int .i64 (((sX (d0.drop (sN d0 1048576)) 1048576 : Nat) : Int)), .slice A11_0 (((bRead (d0.drop (sN d0 1048576 + (sN (d0.drop (sN d0 1048576)) 1048576)))).1).length) (c11_0)]) rfl tst32 tz32 rfl) ?_
 refine VO.alloc 114 rfl tz32 (fun g13 => ?_)
 refine VO.store (k := 3) (c' := [Value.int .i64 (((sX d0 1048576 : Nat) : Int)), Value.int .i64 (((sX (d0.drop (sN d0 1048576)) 1048576 : Nat) : Int)), Value.slice A11_0 (((bRead (d0.drop (sN d0 1048576 + (sN (d0.drop (sN d0 1048576)) 1048576)))).1).length) (c11_0)]) 114 rfl rfl (.inl tk32) rfl rfl rfl rfl rfl ?_
 refine VO.k13 0 2 3 4 5 6 7 8 9 10 11 19 30 (VC.seq (VC.rs (VO.mv (VO.y rfl (.neq rfl rfl) (VO.mv ?_)))))
 refine VO.dec (t := 48) rfl (fun hc15 => ?_) (fun hc15 => ?_)
 · refine VO.gN (VO.gN (VO.gN (VO.gN (VO.gN (VO.gN (VO.gN (VO.gN (VO.y rfl (.pT rfl rfl) (VO.mv (VO.gN (VO.gN ?_)))))))))))
   refine VO.gN (VO.y rfl (.pT rfl rfl) (VO.k14 0 2 3 4 5 6 7 8 9 10 11 19 30 62 (VC.condT rfl (VC.rs ?_))))
   refine VO.y rfl (.bst (cs := [.int .i64 (0), .int .i64 (0), .slice none (0) (0)]) rfl tst32 tz32 rfl) ?_
   refine VO.store (k := 3) (c' := [Value.int .i64 (0), Value.int .i64 (0), Value.slice none (0) (0)]) 102 rfl rfl (.inl tk32) rfl rfl rfl rfl rfl ?_
   refine VO.as ?_
   refine VO.kp [114, 111, 102, 0] [(114, mone g13 (.cells #[.int .i64 (((sX d0 1048576 : Nat) : Int)), .int .i64 (((sX (d0.drop (sN d0 1048576)) 1048576 : Nat) : Int)), .slice A11_0 (((bRead (d0.drop (sN d0 1048576 + (sN (d0.drop (sN d0 1048576)) 1048576)))).1).length) (c11_0)] 32 (0, 0))), (111, m11), (102, mone g1 (.cells #[.int .i64 (0), .int .i64 (0), .slice none (0) (0)] 32 (0, 0))), (0, wm W)] ?_
   refine VO.k14 0 2 3 4 5 6 7 8 9 10 11 19 30 62 (VC.ret (outR ?_))
   refine ⟨_, _, res_run (rs := [.cell 2 32, .tmp 3]) rfl (.agg 102 rfl tk32 rfl ⟨_, _, _, mone_self _ _, Nat.le_of_ble_eq_true rfl, rfl⟩ (.tmp rfl .nil)), fun W_ hI => out_of (l := []) hI [] rfl rfl (mle_refl _) (fun hS_ => ?_)⟩
   dsimp only [packV]
   have he0 : ((cDecode d0).1 : Ty.Den TCommit) = (0, 0, []) := by first | rfl | (exact fin0_cDecode_ok_)
   refine ⟨[Value.int .i64 (0), Value.int .i64 (0), Value.slice none (0) (0)], ?_, ?_⟩
   rotate_left
   · rw [he0]; exact (mkO_Commit 0 0 [] (Seps.nilAt 0 hS_) bdk bdk (Ow.nil _ _))
   all_goals (first | rfl | (exact fin0_cDecode_ok_))
 refine VO.gy rfl ⟨_, rfl, rfl⟩ (.mv rfl) (VO.gy rfl ⟨_, rfl, rfl⟩ (.mv rfl) ?_)
 refine VO.gy rfl ⟨_, rfl, rfl⟩ (.add (c := ((sN d0 1048576 + (sN (d0.drop (sN d0 1048576)) 1048576) : Nat) : Int)) rfl rfl (by omega) ⟨bd, bd⟩) ?_
 refine VO.gy rfl ⟨_, rfl, rfl⟩ (.mv rfl) ?_
 refine VO.gy rfl ⟨_, rfl, rfl⟩ (.add rfl rfl rfl ⟨bd, bd⟩) ?_
 refine VO.gy rfl ⟨_, rfl, rfl⟩ (.mv rfl) ?_
 refine VO.gy rfl ⟨_, rfl, rfl⟩ (.lenS rfl tsl25) ?_
 refine VO.gy rfl ⟨_, rfl, rfl⟩ (.neq rfl rfl) (VO.y rfl (.pF rfl rfl) (VO.mv ?_))
 refine VO.dec (t := 58) rfl (fun hc16 => ?_) (fun hc16 => ?_)
 · refine VO.gN (VO.gN (VO.gN (VO.y rfl (.pT rfl rfl) (VO.k14 0 2 3 4 5 6 7 8 9 10 11 19 30 62 (VC.condT rfl (VC.rs ?_))))))
   refine VO.y rfl (.bst (cs := [.int .i64 (0), .int .i64 (0), .slice none (0) (0)]) rfl tst32 tz32 rfl) ?_
   refine VO.store (k := 3) (c' := [Value.int .i64 (0), Value.int .i64 (0), Value.slice none (0) (0)]) 102 rfl rfl (.inl tk32) rfl rfl rfl rfl rfl ?_
   refine VO.as ?_
   refine VO.kp [114, 111, 102, 0] [(114, mone g13 (.cells #[.int .i64 (((sX d0 1048576 : Nat) : Int)), .int .i64 (((sX (d0.drop (sN d0 1048576)) 1048576 : Nat) : Int)), .slice A11_0 (((bRead (d0.drop (sN d0 1048576 + (sN (d0.drop (sN d0 1048576)) 1048576)))).1).length) (c11_0)] 32 (0, 0))), (111, m11), (102, mone g1 (.cells #[.int .i64 (0), .int .i64 (0), .slice none (0) (0)] 32 (0, 0))), (0, wm W)] ?_
   refine VO.k14 0 2 3 4 5 6 7 8 9 10 11 19 30 62 (VC.ret (outR ?_))
   refine ⟨_, _, res_run (rs := [.cell 2 32, .tmp 3]) rfl (.agg 102 rfl tk32 rfl ⟨_, _, _, mone_self _ _, Nat.le_of_ble_eq_true rfl, rfl⟩ (.tmp rfl .nil)), fun W_ hI => out_of (l := []) hI [] rfl rfl (mle_refl _) (fun hS_ => ?_)⟩
   dsimp only [packV]
   have he0 : ((cDecode d0).1 : Ty.Den TCommit) = (0, 0, []) := by first | rfl | (exact fin0_cDecode_ok_)
   refine ⟨[Value.int .i64 (0), Value.int .i64 (0), Value.slice none (0) (0)], ?_, ?_⟩
   rotate_left
   · rw [he0]; exact (mkO_Commit 0 0 [] (Seps.nilAt 0 hS_) bdk bdk (Ow.nil _ _))
   all_goals (first | rfl | (exact fin0_cDecode_ok_))
 refine VO.gy rfl ⟨_, rfl, rfl⟩ (.ldA 114 rfl tk32 rfl (cellsAt_one rfl rfl)) ?_
 refine VO.gcallN 117 rfl ⟨_, rfl, rfl⟩ fnOk86 rfl (fun W hW => cCheck_ok_ W (mk_Commit (m := wm W) ((sX d0 1048576 : Nat) : Int) ((sX (d0.drop (sN d0 1048576)) 1048576 : Nat) : Int) ((bRead (d0.drop (sN d0 1048576 + (sN (d0.drop (sN d0 1048576)) 1048576)))).1) bdk bdk (OwnL.rd (Ow.ownl f11_0 rfl mnil) (hW.at (i := 111) rfl) (mle_nil _)))) (fun v17 m17 hv17 => ?_)
 try dsimp only at hv17
 subst hv17
 have hfa18 := cCheck_range (((sX d0 1048576 : Nat) : Int), ((sX (d0.drop (sN d0 1048576)) 1048576 : Nat) : Int), (bRead (d0.drop (sN d0 1048576 + (sN (d0.drop (sN d0 1048576)) 1048576)))).1)
 refine VO.gy rfl ⟨_, rfl, rfl⟩ (.neq rfl rfl) (VO.y rfl (.pF rfl rfl) (VO.k14 0 2 3 4 5 6 7 8 9 10 11 19 30 62 ?_))
 refine VC.cond rfl (fun hc19 => ?_) (fun hc19 => ?_)
 · refine VC.rs ?_
   refine VO.y rfl (.bst (cs := [.int .i64 (0), .int .i64 (0), .slice none (0) (0)]) rfl tst32 tz32 rfl) ?_
   refine VO.store (k := 3) (c' := [Value.int .i64 (0), Value.int .i64 (0), Value.slice none (0) (0)]) 102 rfl rfl (.inl tk32) rfl rfl rfl rfl rfl ?_
   refine VO.as ?_
   refine VO.kp [114, 111, 102, 0] [(114, mone g13 (.cells #[.int .i64 (((sX d0 1048576 : Nat) : Int)), .int .i64 (((sX (d0.drop (sN d0 1048576)) 1048576 : Nat) : Int)), .slice A11_0 (((bRead (d0.drop (sN d0 1048576 + (sN (d0.drop (sN d0 1048576)) 1048576)))).1).length) (c11_0)] 32 (0, 0))), (111, m11), (102, mone g1 (.cells #[.int .i64 (0), .int .i64 (0), .slice none (0) (0)] 32 (0, 0))), (0, wm W)] ?_
   refine VO.k14 0 2 3 4 5 6 7 8 9 10 11 19 30 62 (VC.ret (outR ?_))
   refine ⟨_, _, res_run (rs := [.cell 2 32, .tmp 3]) rfl (.agg 102 rfl tk32 rfl ⟨_, _, _, mone_self _ _, Nat.le_of_ble_eq_true rfl, rfl⟩ (.tmp rfl .nil)), fun W_ hI => out_of (l := []) hI [] rfl rfl (mle_refl _) (fun hS_ => ?_)⟩
   dsimp only [packV]
   have he0 : ((cDecode d0).1 : Ty.Den TCommit) = (0, 0, []) := by first | rfl | (exact fin0_cDecode_ok_)
   refine ⟨[Value.int .i64 (0), Value.int .i64 (0), Value.slice none (0) (0)], ?_, ?_⟩
   rotate_left
   · rw [he0]; exact (mkO_Commit 0 0 [] (Seps.nilAt 0 hS_) bdk bdk (Ow.nil _ _))
   all_goals (first | rfl | (exact fin0_cDecode_ok_))
 · refine VC.skip (outN (VC.rs (VO.y rfl (.ldA 114 rfl tk32 rfl (cellsAt_one rfl rfl)) ?_)))
   refine VO.store (k := 3) (c' := [Value.int .i64 (((sX d0 1048576 : Nat) : Int)), Value.int .i64 (((sX (d0.drop (sN d0 1048576)) 1048576 : Nat) : Int)), Value.slice A11_0 (((bRead (d0.drop (sN d0 1048576 + (sN (d0.drop (sN d0 1048576)) 1048576)))).1).length) (c11_0)]) 102 rfl rfl (.inl tk32) rfl rfl rfl rfl rfl ?_
   refine VO.as ?_
   refine VO.kp [114, 111, 102, 0] [(114, mone g13 (.cells #[.int .i64 (((sX d0 1048576 : Nat) : Int)), .int .i64 (((sX (d0.drop (sN d0 1048576)) 1048576 : Nat) : Int)), .slice A11_0 (((bRead (d0.drop (sN d0 1048576 + (sN (d0.drop (sN d0 1048576)) 1048576)))).1).length) (c11_0)] 32 (0, 0))), (111, m11), (102, mone g1 (.cells #[.int .i64 (((sX d0 1048576 : Nat) : Int)), .int .i64 (((sX (d0.drop (sN d0 1048576)) 1048576 : Nat) : Int)), .slice A11_0 (((bRead (d0.drop (sN d0 1048576 + (sN (d0.drop (sN d0 1048576)) 1048576)))).1).length) (c11_0)] 32 (0, 0))), (0, wm W)] ?_
   refine VO.k14 0 2 3 4 5 6 7 8 9 10 11 19 30 62 (VC.ret ?_)
   refine ⟨_, _, res_run (rs := [.cell 2 32, .tmp 3]) rfl (.agg 102 rfl tk32 rfl ⟨_, _, _, mone_self _ _, Nat.le_of_ble_eq_true rfl, rfl⟩ (.tmp rfl .nil)), fun W_ hI => out_of (l := [m11]) hI [111] rfl rfl (mle_refl _) (fun hS_ => ?_)⟩
   dsimp only [packV]
   have he0 : ((cDecode d0).1 : Ty.Den TCommit) = (((sX d0 1048576 : Nat) : Int), ((sX (d0.drop (sN d0 1048576)) 1048576 : Nat) : Int), (bRead (d0.drop (sN d0 1048576 + (sN (d0.drop (sN d0 1048576)) 1048576)))).1) := by first | rfl | (exact fin0_cDecode_ok_)
   refine ⟨[Value.int .i64 (((sX d0 1048576 : Nat) : Int)), Value.int .i64 (((sX (d0.drop (sN d0 1048576)) 1048576 : Nat) : Int)), Value.slice A11_0 (((bRead (d0.drop (sN d0 1048576 + (sN (d0.drop (sN d0 1048576)) 1048576)))).1).length) (c11_0)], ?_, ?_⟩
   rotate_left
   · rw [he0]; exact (mkO_Commit ((sX d0 1048576 : Nat) : Int) ((sX (d0.drop (sN d0 1048576)) 1048576 : Nat) : Int) ((bRead (d0.drop (sN d0 1048576 + (sN (d0.drop (sN d0 1048576)) 1048576)))).1) hS_ bdk bdk (OwnL.ow (Ow.ownl f11_0 rfl mnil) rfl))
   all_goals (first | rfl | (exact fin0_cDecode_ok_))
end
section
set_option linter.unusedVariables false
abbrev TLCommit : Ty := .pair (.int .i64) (.pair (.int .i64) (.spl TOp))
abbrev DLCommit := Int × Int × (List DOp × List DOp)
theorem open_LCommit {m : Mem} {cs : List Value} {x0 : Int} {x1 : Int} {x2 : List DOp × List DOp} (h : Rd TLCommit m cs (x0, x1, x2)) : ∃ (A2 : Option Addr), ∃ (c2 : Nat), cs = [(.int .i64 x0 : Value), .int .i64 x1, .slice A2 x2.1.length c2] ∧ inK .i64 x0 ∧ inK .i64 x1 ∧ Rd (.spl TOp) m [.slice A2 x2.1.length c2] x2 := by
  obtain ⟨p1, q1, rfl, u1, w1⟩ := Rd.pair h
  obtain ⟨rfl, z2⟩ := (show _ = _ ∧ _ from u1)
  obtain ⟨p3, q3, rfl, u3, w3⟩ := Rd.pair w1
  obtain ⟨rfl, z4⟩ := (show _ = _ ∧ _ from u3)
  have z5 := w3
  obtain ⟨A5, c5, rfl, _⟩ := Rd.spl1 w3
  exact ⟨A5, c5, rfl, z2, z4, z5⟩
theorem openO_LCommit {m : Mem} {cs : List Value} {x0 : Int} {x1 : Int} {x2 : List DOp × List DOp} (h : Ow TLCommit m cs (x0, x1, x2)) : ∃ (A2 : Option Addr), ∃ (c2 : Nat), ∃ (n2 : Mem), cs = [(.int .i64 x0 : Value), .int .i64 x1, .slice A2 x2.1.length c2] ∧ Seps m [n2] ∧ inK .i64 x0 ∧ inK .i64 x1 ∧ Ow (.spl TOp) n2 [.slice A2 x2.1.length c2] x2 := by
  obtain ⟨p1, q1, ma1, mb1, rfl, dj1, la1, lb1, u1, w1⟩ := Ow.pair h
  obtain ⟨rfl, z2⟩ := (show _ = _ ∧ _ from u1)
  obtain ⟨p3, q3, ma3, mb3, rfl, dj3, la3, lb3, u3, w3⟩ := Ow.pair w1
  obtain ⟨rfl, z4⟩ := (show _ = _ ∧ _ from u3)
  have z5 := w3
  obtain ⟨A5, c5, rfl, _⟩ := Ow.spl1 w3
  exact ⟨A5, c5, _, rfl, (Seps.app dj1 la1 lb1 (Seps.nil _) (Seps.app dj3 la3 lb3 (Seps.nil _) (Seps.one (mle_refl _)))), z2, z4, z5⟩
theorem mkO_LCommit {m : Mem} {n2 : Mem} (x0 : Int) (x1 : Int) (x2 : List DOp × List DOp) (hS : Seps m [n2]) (h0 : inK .i64 x0) (h1 : inK .i64 x1) {v2 : Value} (h2 : Ow (.spl TOp) n2 [v2] x2) : Ow TLCommit m [.int .i64 x0, .int .i64 x1, v2] (x0, x1, x2) := by
  obtain ⟨e1, la1, lb1, Sa1, Sb1⟩ := Seps.cut (l := []) (r := [n2]) hS
  obtain ⟨e2, la2, lb2, Sa2, Sb2⟩ := Seps.cut (l := []) (r := [n2]) Sb1
  exact (Ow.mkPair (c1 := [_]) e1 la1 lb1 (show Ow (.int .i64) _ [_] _ from ⟨rfl, h0⟩) (Ow.mkPair (c1 := [_]) e2 la2 lb2 (show Ow (.int .i64) _ [_] _ from ⟨rfl, h1⟩) (h2.up (Sb2.1 _ (.head _)))))
abbrev DHC := Int × Int × Hd
instance decHC : DecidableEq DHC := (@instDecidableEqProd _ _ inferInstance (@instDecidableEqProd _ _ inferInstance inferInstance))
end
section
set_option linter.unusedVariables false
def lentC (c : DCommit) : DLCommit := (c.1, c.2.1, c.2.2, spareO)
def spareC : List DLCommit := [(-7, 0, [], []), (-7, 0, [], []), (-7, 0, [], [])]
def fgC (c : DLCommit) : DCommit := (c.1, c.2.1, c.2.2.1)
theorem fg_lent (l : List DCommit) : (l.map lentC).map fgC = l := by
  rw [List.map_map]; exact List.map_id l
theorem lent_take (l : List DCommit) : ((l.map lentC ++ spareC).take l.length) = l.map lentC := by
  rw [List.take_append_of_le_length (by simp), List.take_of_length_le (by simp)]
theorem lent_fg (l : List DCommit) : ((l.map lentC ++ spareC).take l.length).map fgC = l := by rw [lent_take, fg_lent]
theorem fgC_rd1 {m : Mem} {c : List Value} {x : DLCommit} (h : Rd TLCommit m c x) : Rd TCommit m c (fgC x) := by
  obtain ⟨A, k, rfl, z0, z1, z2⟩ := open_LCommit (x0 := x.1) (x1 := x.2.1) (x2 := x.2.2) h
  exact mk_Commit (m := m) _ _ _ z0 z1 (Rd.pre2 (Rd.full z2).2)
theorem fgC_rd {m : Mem} {cs : List Value} {l : List DLCommit} (h : Rd (.sl TLCommit) m cs l) : Rd (.sl TCommit) m cs (l.map fgC) := Rd.mapL (e := TLCommit) (e' := TCommit) fgC rfl (fun _ _ _ h => fgC_rd1 h) h
theorem lent_rd {m : Mem} {cs : List Value} {l : List DCommit} (h : Rd (.sl TLCommit) m cs ((l.map lentC ++ spareC).take l.length)) : Rd (.sl TCommit) m cs l := by
  have h2 := fgC_rd h
  rwa [lent_fg] at h2
theorem lent_len (l : List DCommit) : (l.map lentC ++ spareC).length = l.length + 3 := by simp [spareC]
theorem lent_next {out : List DLCommit} {l0 : List DCommit} {k : Nat} {c : DCommit} (h : out = (l0.take k).map lentC) (hc : l0[k]? = some c) : out ++ [lentC c] = (l0.take (k + 1)).map lentC := by
  rw [h, take_one hc, List.map_append]; rfl
theorem spareC_next {out d : List DLCommit} {k : Nat} (h : out = d ++ spareC.take k) (hk : k < 3) : out ++ [(-7, 0, [], [])] = d ++ spareC.take (k + 1) := by
  rw [h, List.append_assoc]
  congr 1
  rcases k with _ | _ | _ | k
  · rfl
  · rfl
  · rfl
  · omega
theorem lent_at {full : List DLCommit} {l : List DCommit} {k : Nat} {x : DLCommit} {c : DCommit} (e : full = l.map lentC ++ spareC) (hx : full[k]? = some x) (hc : l[k]? = some c) : x = lentC c := by
  obtain ⟨hk, _⟩ := List.getElem?_eq_some_iff.1 hc
  rw [e, List.getElem?_append_left (by simpa using hk), List.getElem?_map, hc] at hx
  exact (Option.some.inj hx).symm
theorem spare_at {full : List DLCommit} {l : List DCommit} {k : Nat} {x : DLCommit} (h : full = l.map lentC ++ spareC) (hk : l.length ≤ k) (hx : full[k]? = some x) : x = (-7, 0, [], []) := by
  obtain ⟨hk2, _⟩ := List.getElem?_eq_some_iff.1 hx
  rw [h, lent_len] at hk2
  rw [h, List.getElem?_append_right (by simpa using hk), List.length_map] at hx
  have h3 : k - l.length = 0 ∨ k - l.length = 1 ∨ k - l.length = 2 := by omega
  rcases h3 with e | e | e <;> rw [e] at hx <;> exact (Option.some.inj hx).symm
theorem opsLent {l : List DOp} {n : Nat} (h : n = l.length) : (l ++ spareO).take (n + 3) = l ++ spareO := by
  rw [List.take_of_length_le]; simp [spareO]; omega
end
section
set_option linter.unusedVariables false
set_option linter.unusedSimpArgs false
set_option maxRecDepth 4000
theorem fnOk52 : fnOk Try.prog 52 = true := by kernel_rfl
theorem fnOk64 : fnOk Try.prog 64 = true := by kernel_rfl
theorem fnOk99 : fnOk Try.prog 99 = true := by kernel_rfl
theorem LentCommit_ok (W : World) {v0 : List Value} {d0 : DCommit} (h0 : Rd TCommit (wm W) v0 d0) (e0 : d0.2.2.length ≤ 3518437208800) : CallR Try.prog 52 [.agg v0.toArray] W (mnil) (fun v m' => ∃ (s0 : List Value), v = .agg s0.toArray ∧ Ow TLCommit m' s0 (lentC d0)) := by
 obtain ⟨p0_A2, p0_c2, rfl, p0_0, p0_1, p0_2⟩ := open_Commit (x0 := d0.1) (x1 := d0.2.1) (x2 := d0.2.2) h0
 simp only [inK] at p0_0 p0_1
 have p0_r2 := Rd.room p0_2
 refine CallR.ofA (n := 15) Try.func52 rfl rfl rfl ?_
 refine VC.rs ?_
 refine VO.box (cs := [.int .i64 (d0.1), .int .i64 (d0.2.1), .slice p0_A2 (d0.2.2.length) (p0_c2)]) 102 rfl rfl rfl (fun g1 => ?_)
 refine VO.alloc 104 rfl tz32 (fun g3 => ?_)
 refine VO.k3 0 1 2 (VC.seq ?_)
 refine VC.regD _ 11 [(0, true), (1, true), (2, true), (3, true), (4, true), (5, true), (7, true), (8, true), (9, true), (6, false), (10, true)] follows (by kernel_rfl) (fun _ h => h.sub [104, 102, 0]) ?_
 refine VD.y rfl rfl (.inl rfl) (.fa rfl tst32 rfl) (VD.y rfl rfl (.inl rfl) (.ld1 102 rfl tk3 rfl (cellsAt_one rfl rfl)) (VD.y rfl rfl (.inl rfl) (.fa rfl tst32 rfl) (VD.y rfl rfl (.inl rfl) (.ld1 102 rfl tk3 rfl (cellsAt_one rfl rfl)) (VD.y rfl rfl (.inl rfl) (.fa rfl tst32 rfl) (VD.y rfl rfl (.inl rfl) (.ld1 102 rfl tk30 rfl (cellsAt_one rfl rfl)) (VD.y rfl rfl (.inl rfl) (.fa rfl tst32 rfl) (VD.y rfl rfl (.inl rfl) (.ld1 102 rfl tk30 rfl (cellsAt_one rfl rfl)) ?_)))))))
 refine VD.y rfl rfl (.inl rfl) (.lenS rfl tsl30) ?_
 refine VD.callN 105 rfl rfl (.inl rfl) fnOk87 rfl (fun _ h => h.sub [104, 102, 0]) (fun W hW => LentOps_ok W (Rd.mono p0_2 (hW.at (i := 0) rfl)) bd) (fun v5 m5 hv5 => ?_)
 obtain ⟨s5_0, rfl, f5_0⟩ := hv5
 obtain ⟨A5_0, c5_0, eq5_0, l5_0, k5_0⟩ := f5_0.slice
 subst eq5_0
 simp only [maxLen] at k5_0
 have hs6 := (OwnL.rd (Ow.ownl f5_0 rfl mnil) (mle_refl _) (mle_nil _)).pre (j := d0.2.2.length) bd
 rw [List.take_left] at hs6
 refine VD.y rfl rfl (.inl rfl) (.slHI d0.2.2.length rfl rfl tsl30 rfl bd) ?_
 refine VD.nil rfl ?_ rfl
 refine VO.y rfl (.bst (cs := [.int .i64 (d0.1), .int .i64 (d0.2.1), .slice A5_0 (d0.2.2.length) (c5_0)]) rfl tst32 tz32 rfl) ?_
 refine VO.store (k := 3) (c' := [Value.int .i64 (d0.1), Value.int .i64 (d0.2.1), Value.slice A5_0 (d0.2.2.length) (c5_0)]) 104 rfl rfl (.inl tk32) rfl rfl rfl rfl rfl ?_
 refine VO.k3 0 1 2 (outN (VC.ret ?_))
 refine ⟨_, _, res_run (rs := [.cell 2 32]) rfl (.agg 104 rfl tk32 rfl ⟨_, _, _, mone_self _ _, Nat.le_of_ble_eq_true rfl, rfl⟩ .nil), fun W_ hI => out_of (l := [m5]) hI [105] rfl rfl (mle_refl _) (fun hS_ => ?_)⟩
 dsimp only [packV]
 have he0 : (lentC d0 : Ty.Den TLCommit) = (d0.1, d0.2.1, (d0.2.2, spareO)) := by first | rfl | (simp [*]; done)
 refine ⟨[Value.int .i64 (d0.1), Value.int .i64 (d0.2.1), Value.slice A5_0 (d0.2.2.length) (c5_0)], ?_, ?_⟩
 rotate_left
 · rw [he0]; exact (mkO_LCommit d0.1 d0.2.1 (d0.2.2, spareO) hS_ bdk bdk (Ow.mkSpl (e := TOp) (xs := d0.2.2) (ys := spareO) (OwnL.ow (Ow.ownl f5_0 rfl mnil) rfl) (by first | rfl | simp)))
 all_goals (first | rfl | (simp [*]; done))
theorem KeptCommit_ok (W : World) {v0 : List Value} {d0 : DLCommit} (h0 : Rd TLCommit (wm W) v0 d0) {v1 : List Value} {d1 : DCommit} (h1 : Rd TCommit (wm W) v1 d1) (e0 : d0 = lentC d1) (e1 : d1.2.2.length ≤ 3518437208800) : CallR Try.prog 64 [.agg v0.toArray, .agg v1.toArray] W (mnil) (fun v m' => v = .bool true) := by
 have ea := congrArg Prod.fst e0; have eb := congrArg (fun x => x.2.1) e0; have ec := congrArg (fun x => x.2.2.1) e0; have ed := congrArg (fun x => x.2.2.2) e0; simp only [lentC] at ea eb ec ed; have el := congrArg List.length ec; have em := congrArg List.length ed; simp only [spareO, List.length_cons, List.length_nil] at em
 obtain ⟨p0_A2, p0_c2, rfl, p0_0, p0_1, p0_2⟩ := open_LCommit (x0 := d0.1) (x1 := d0.2.1) (x2 := d0.2.2) h0
 simp only [inK] at p0_0 p0_1
 have p0_f2 := (Rd.full p0_2).2
 have p0_s2 := Rd.pre2 p0_f2
 have p0_r2 := Rd.room p0_f2
 obtain ⟨p1_A2, p1_c2, rfl, p1_0, p1_1, p1_2⟩ := open_Commit (x0 := d1.1) (x1 := d1.2.1) (x2 := d1.2.2) h1
 simp only [inK] at p1_0 p1_1
 have p1_r2 := Rd.room p1_2
 refine CallR.ofA (n := 38) Try.func64 rfl rfl rfl ?_
 refine VC.rs ?_
 refine VO.box (cs := [.int .i64 (d0.1), .int .i64 (d0.2.1), .slice p0_A2 (d0.2.2.1.length) (p0_c2)]) 102 rfl rfl rfl (fun g1 => ?_)
 refine VO.box (cs := [.int .i64 (d1.1), .int .i64 (d1.2.1), .slice p1_A2 (d1.2.2.length) (p1_c2)]) 104 rfl rfl rfl (fun g3 => ?_)
 refine VO.as (VO.k5 0 1 2 3 4 (VC.seq ?_))
 refine VC.regD _ 31 [(0, true), (1, true), (2, true), (3, true), (4, true), (5, true), (6, true), (7, true), (8, true), (9, true), (10, true), (11, true), (12, true), (13, true), (14, true), (15, true), (16, true), (17, true), (18, true), (19, true), (20, true), (21, true), (22, true), (23, true), (24, true), (25, true), (26, true), (27, true), (28, true), (29, true), (30, true)] follows (by kernel_rfl) (fun _ h => h.sub [104, 102, 0]) ?_
 refine VD.y rfl rfl (.inl rfl) (.fa rfl tst32 rfl) (VD.y rfl rfl (.inl rfl) (.ld1 102 rfl tk3 rfl (cellsAt_one rfl rfl)) (VD.y rfl rfl (.inl rfl) (.fa rfl tst32 rfl) (VD.y rfl rfl (.inl rfl) (.ld1 104 rfl tk3 rfl (cellsAt_one rfl rfl)) (VD.y rfl rfl (.inl rfl) (.eql rfl rfl) (VD.y rfl rfl (.inl rfl) (.mv rfl) ?_)))))
 refine VD.dec (s := 10) rfl (fun hc5 => ?_) (fun hc5 => ?_)
 refine VD.y rfl rfl (.inr ⟨_, _, rfl, _, rfl, rfl⟩) (.fa rfl tst32 rfl) ?_
 refine VD.y rfl rfl (.inr ⟨_, _, rfl, _, rfl, rfl⟩) (.ld1 102 rfl tk3 rfl (cellsAt_one rfl rfl)) ?_
 refine VD.y rfl rfl (.inr ⟨_, _, rfl, _, rfl, rfl⟩) (.fa rfl tst32 rfl) ?_
 refine VD.y rfl rfl (.inr ⟨_, _, rfl, _, rfl, rfl⟩) (.ld1 104 rfl tk3 rfl (cellsAt_one rfl rfl)) ?_
 refine VD.y rfl rfl (.inr ⟨_, _, rfl, _, rfl, rfl⟩) (.eql rfl rfl) ?_
 refine VD.y rfl rfl (.inl rfl) (.pT rfl rfl) (VD.y rfl rfl (.inl rfl) (.mv rfl) ?_)
 refine VD.dec (s := 17) rfl (fun hc6 => ?_) (fun hc6 => ?_)
 refine VD.y rfl rfl (.inr ⟨_, _, rfl, _, rfl, rfl⟩) (.fa rfl tst32 rfl) ?_
 refine VD.y rfl rfl (.inr ⟨_, _, rfl, _, rfl, rfl⟩) (.ld1 102 rfl tk30 rfl (cellsAt_one rfl rfl)) ?_
 refine VD.y rfl rfl (.inr ⟨_, _, rfl, _, rfl, rfl⟩) (.lenS rfl tsl30) ?_
 refine VD.y rfl rfl (.inr ⟨_, _, rfl, _, rfl, rfl⟩) (.fa rfl tst32 rfl) ?_
 refine VD.y rfl rfl (.inr ⟨_, _, rfl, _, rfl, rfl⟩) (.ld1 104 rfl tk30 rfl (cellsAt_one rfl rfl)) ?_
 refine VD.y rfl rfl (.inr ⟨_, _, rfl, _, rfl, rfl⟩) (.lenS rfl tsl30) ?_
 refine VD.y rfl rfl (.inr ⟨_, _, rfl, _, rfl, rfl⟩) (.eql rfl rfl) ?_
 refine VD.y rfl rfl (.inl rfl) (.pT rfl rfl) (VD.y rfl rfl (.inl rfl) (.mv rfl) ?_)
 refine VD.dec (s := 26) rfl (fun hc7 => ?_) (fun hc7 => ?_)
 · refine VD.y rfl rfl (.inr ⟨_, _, rfl, _, rfl, rfl⟩) (.fa rfl tst32 rfl) ?_
   refine VD.y rfl rfl (.inr ⟨_, _, rfl, _, rfl, rfl⟩) (.ld1 102 rfl tk30 rfl (cellsAt_one rfl rfl)) ?_
   refine VD.y rfl rfl (.inr ⟨_, _, rfl, _, rfl, rfl⟩) (.fa rfl tst32 rfl) ?_
   refine VD.y rfl rfl (.inr ⟨_, _, rfl, _, rfl, rfl⟩) (.ld1 104 rfl tk30 rfl (cellsAt_one rfl rfl)) ?_
   refine VD.y rfl rfl (.inr ⟨_, _, rfl, _, rfl, rfl⟩) (.lenS rfl tsl30) ?_
   refine VD.y rfl rfl (.inr ⟨_, _, rfl, _, rfl, rfl⟩) (.add (c := ((d1.2.2.length + 3 : Nat) : Int)) rfl rfl (by omega) ⟨bd, bd⟩) ?_
   have hs8 := p0_f2.pre (j := (d1.2.2.length + 3)) bd
   refine VD.y rfl rfl (.inr ⟨_, _, rfl, _, rfl, rfl⟩) (.slHI (d1.2.2.length + 3) rfl rfl tsl30 rfl bd) ?_
   refine VD.y rfl rfl (.inr ⟨_, _, rfl, _, rfl, rfl⟩) (.fa rfl tst32 rfl) ?_
   refine VD.y rfl rfl (.inr ⟨_, _, rfl, _, rfl, rfl⟩) (.ld1 104 rfl tk30 rfl (cellsAt_one rfl rfl)) ?_
   refine VD.nil rfl ?_ rfl
   refine VO.gcallN 109 rfl ⟨_, rfl, rfl⟩ fnOk99 rfl (fun W hW => KeptOps_ok W (Rd.mono hs8 (hW.at (i := 0) rfl)) (Rd.mono p1_2 (hW.at (i := 0) rfl)) bd) (fun v9 m9 hv9 => ?_)
   subst hv9
   refine VO.y rfl (.pT rfl rfl) (VO.as (VO.k5 0 1 2 3 4 (outN (VC.ret ?_))))
   refine ⟨_, _, res_run (rs := [.tmp 4]) rfl (.tmp rfl .nil), fun W_ hI => out_of (l := []) hI [] rfl rfl (mle_refl _) (fun hS_ => ?_)⟩
   dsimp only [packV]
   all_goals (first | rfl | (exact congrArg Value.bool (decide_eq_true (by rw [ec, ed]; exact opsLent (by omega)))))
 exact absurd (by rw [el]) hc7
 exact absurd eb hc6
 exact absurd ea hc5
theorem fin0_LentCommits_ok {P : Prop} (h : P := by first | omega | (simp only [List.length_append, List.length_nil, List.length_cons, List.length_take, List.length_drop] at *; omega) | exact e1 _ (List.mem_of_getElem? ‹d0[_]? = some _›)) : P := h
theorem LentCommits_ok (W : World) {v0 : Value} {d0 : List DCommit} (h0 : Rd (.sl TCommit) (wm W) [v0] d0) (e0 : d0.length ≤ 3518437200000) (e1 : ∀ c ∈ d0, c.2.2.length ≤ 3518437208800) : CallR Try.prog 14 [v0] W (mnil) (fun v m' => ∃ (s0 : Value), v = s0 ∧ Ow (.sl TLCommit) m' [s0] (d0.map lentC ++ spareC)) := by
 obtain ⟨A0, c0, rfl, l0, k0⟩ := h0.slice
 simp only [maxLen] at k0
 refine CallR.ofA (n := 29) Try.func14 rfl rfl rfl ?_
 refine VC.rs (VO.as (VO.k2 0 2 (VC.rs (VO.as (VO.k3 0 2 3 (VC.seq (VC.rs (VO.as ?_))))))))
 refine VO.kp [0] [(0, wm W)] ?_
 refine VO.k4 0 2 3 4 (VC.block ?_)
 refine VC.inv ((101, mnil) :: _) (fun _ h => h.nilc 101) ?_
 refine VC.loop (G := Nat × (List DLCommit) × (Option Addr) × Nat × Mem) (fun g => [(3, .slice (g.2.2.1) ((g.2.1).length) ((g.2.2.2.1))), (4, .int .i64 ((((g.1) : Nat) : Int))), (0, .slice A0 (d0.length) (c0)), (2, .slice none (0) (0))]) (fun g => [(101, (g.2.2.2.2)), (0, wm W)]) (fun g => ((g.1) ≤ d0.length) ∧ ((g.2.1) = (d0.take (g.1)).map lentC) ∧ (Ow (.sl TLCommit) (g.2.2.2.2) [.slice (g.2.2.1) (g.2.1).length (g.2.2.2.1)] (g.2.1))) (fun g => d0.length - (g.1)) (0, [], none, 0, mnil) (⟨by omega, by rfl, (Ow.nil TLCommit mnil)⟩) ⟨⟨rfl, rfl, rfl, rfl, trivial⟩, fun _ h => h.sub [101, 0]⟩ ?_
 rintro ⟨k, out, out_A, out_c, out_m⟩ ⟨hk, ho, h_out⟩
 replace hk : k ≤ d0.length := hk
 replace ho : out = (d0.take k).map lentC := ho
 replace h_out : Ow (.sl TLCommit) out_m [.slice out_A out.length out_c] out := h_out
 show VC _ _ _ _ _ [(3, .slice out_A (out.length) (out_c)), (4, .int .i64 (((k : Nat) : Int))), (0, .slice A0 (d0.length) (c0)), (2, .slice none (0) (0))] [(101, out_m), (0, wm W)]
 have l_out : out.length ≤ out_c := by obtain ⟨_, _, he, hl, _⟩ := h_out.slice; simp only [Value.slice.injEq] at he; omega
 have k_out : out_c ≤ 9223372036854775807 := by obtain ⟨_, _, he, _, hl⟩ := h_out.slice; simp only [Value.slice.injEq, maxLen] at he hl; omega
 have hlo : out.length ≤ k := by rw [ho]; simp; omega
 refine VC.seq (VC.rs (VO.mv (VO.mv ?_)))
 refine VO.y rfl (.lenS rfl tsl22) ?_
 refine VO.y rfl (.lss rfl rfl) (VO.k5 0 2 3 4 9 ?_)
 refine VC.cond rfl (fun hc2 => ?_) (fun hc2 => ?_)
 · refine VC.skip (outN (VC.seq (VC.block ?_)))
   refine VC.reg ?_
   refine VO.mv (VO.mv (VO.mv ?_))
   obtain ⟨x3, hx3⟩ : ∃ z_, (d0)[k]? = some z_ := ⟨_, List.getElem?_eq_getElem (by exact fin0_LentCommits_ok)⟩
   obtain ⟨gg3, oo3, ec3, ea3, hce3, hre3⟩ := h0.elem hx3
   cases ea3
   obtain ⟨q3_A2, q3_c2, rfl, q3_0, q3_1, q3_2⟩ := open_Commit (x0 := x3.1) (x1 := x3.2.1) (x2 := x3.2.2) hre3
   simp only [inK] at q3_0 q3_1
   have q3_r2 := Rd.room q3_2
   refine VO.y rfl (.ixI k rfl rfl tsl22 rfl (by exact fin0_LentCommits_ok)) ?_
   refine VO.y rfl (.ldA 0 rfl tk32 rfl hce3) ?_
   refine VO.callN 104 rfl fnOk52 rfl (fun W hW => LentCommit_ok W (Rd.mono hre3 (hW.at (i := 0) rfl)) (by exact fin0_LentCommits_ok)) (fun v4 m4 hv4 => ?_)
   obtain ⟨s4_0, rfl, f4_0⟩ := hv4
   obtain ⟨q4_0_A2, q4_0_c2, q4_0_n2, rfl, q4_0_S, q4_0_0, q4_0_1, q4_0_2⟩ := openO_LCommit (x0 := x3.1) (x1 := x3.2.1) (x2 := (x3.2.2, spareO)) f4_0
   simp only [inK] at q4_0_0 q4_0_1
   have q4_0_f2 := (Rd.full (q4_0_2.rd (mle_refl _))).2
   have q4_0_s2 := Rd.pre2 q4_0_f2
   have q4_0_r2 := Rd.room q4_0_f2
   dsimp only at q4_0_f2 q4_0_s2 q4_0_r2
   have q4_0_o2 := (Ow.full q4_0_2).2
   have q4_0_p2 := Ow.pre2 q4_0_o2
   dsimp only at q4_0_o2 q4_0_p2
   refine VO.inv _ (fun _ h => h.parts (i := 104) rfl q4_0_S [105]) ?_
   refine VO.bsl (cs := [Value.int .i64 (x3.1), Value.int .i64 (x3.2.1), Value.slice q4_0_A2 (x3.2.2.length) (q4_0_c2)]) 107 rfl rfl tsl22 tz32 rfl rfl (fun g6 => ?_)
   refine VO.appO (e := TLCommit) 101 105 107 rfl rfl rfl tsl22 tz32 rfl rfl rfl rfl h_out (mkO_LCommit x3.1 x3.2.1 (x3.2.2, spareO) (Seps.one (mle_refl _)) (by simp only [inK]; (exact fin0_LentCommits_ok)) (by simp only [inK]; (exact fin0_LentCommits_ok)) q4_0_2) Try.underlying22 (cellsAt_one rfl rfl) (by simp only [maxLen]; (exact fin0_LentCommits_ok)) (by exact fin0_LentCommits_ok) (by decide) (fun v8 m8 ho8 => ?_)
   obtain ⟨A8, c8, rfl, l8, k8⟩ := ho8.slice
   simp only [maxLen] at k8
   refine VO.as (VO.k5 0 2 3 4 9 (outBN (outN ?_)))
   refine VC.reg ?_
   refine VO.mv ?_
   refine VO.y rfl (.add (c := ((k + 1 : Nat) : Int)) rfl rfl (by omega) ⟨by exact fin0_LentCommits_ok, by exact fin0_LentCommits_ok⟩) ?_
   refine VO.as ?_
   refine VO.kp [101, 0] [(101, m8), (0, wm W)] ?_
   refine VO.k5 0 2 3 4 9 ?_
   exact outN ⟨⟨k + 1, out ++ [(x3.1, x3.2.1, (x3.2.2, spareO))], A8, c8, m8⟩, ⟨by omega, by exact lent_next ho ‹d0[k]? = some _›, ho8⟩, by exact fin0_LentCommits_ok, ⟨⟨rfl, rfl, rfl, rfl, trivial⟩, fun _ h => Inv.sub h [101, 0]⟩⟩
 refine VC.exit (outE (outE (outBB (outN (VC.seq (VC.rs (VO.as (VO.k6 0 2 3 4 5 9 (VC.block ?_)))))))))
 refine VC.loop (G := Nat × (List DLCommit) × (Option Addr) × Nat × Mem) (fun g => [(3, .slice (g.2.2.1) ((g.2.1).length) ((g.2.2.2.1))), (5, .int .i64 ((((g.1) : Nat) : Int))), (0, .slice A0 (d0.length) (c0)), (2, .slice none (0) (0)), (4, .int .i64 (((k : Nat) : Int))), (9, .bool (decide (((k : Nat) : Int) < ((d0.length : Nat) : Int))))]) (fun g => [(101, (g.2.2.2.2)), (0, wm W)]) (fun g => ((g.1) ≤ 3) ∧ ((g.2.1) = d0.map lentC ++ spareC.take (g.1)) ∧ (Ow (.sl TLCommit) (g.2.2.2.2) [.slice (g.2.2.1) (g.2.1).length (g.2.2.2.1)] (g.2.1))) (fun g => 3 - (g.1)) (0, out, out_A, out_c, out_m) (⟨by omega, by (rw [ho, List.take_of_length_le (by omega)]; simp), h_out⟩) ⟨⟨rfl, rfl, rfl, rfl, rfl, rfl, trivial⟩, fun _ h => h.sub [101, 0]⟩ ?_
 rintro ⟨j, out, out_A, out_c, out_m⟩ ⟨hj, ho2, h_out⟩
 replace hj : j ≤ 3 := hj
 replace ho2 : out = d0.map lentC ++ spareC.take j := ho2
 replace h_out : Ow (.sl TLCommit) out_m [.slice out_A out.length out_c] out := h_out
 show VC _ _ _ _ _ [(3, .slice out_A (out.length) (out_c)), (5, .int .i64 (((j : Nat) : Int))), (0, .slice A0 (d0.length) (c0)), (2, .slice none (0) (0)), (4, .int .i64 (((k : Nat) : Int))), (9, .bool (decide (((k : Nat) : Int) < ((d0.length : Nat) : Int))))] [(101, out_m), (0, wm W)]
 have l_out : out.length ≤ out_c := by obtain ⟨_, _, he, hl, _⟩ := h_out.slice; simp only [Value.slice.injEq] at he; omega
 have k_out : out_c ≤ 9223372036854775807 := by obtain ⟨_, _, he, _, hl⟩ := h_out.slice; simp only [Value.slice.injEq, maxLen] at he hl; omega
 have hlo : out.length ≤ d0.length + 3 := by rw [ho2]; simp [spareC]; omega
 refine VC.seq (VC.rs (VO.mv (VO.y rfl (.lss rfl rfl) ?_)))
 refine VO.kp [101, 0] [(101, out_m), (0, wm W)] ?_
 refine VO.k7 0 2 3 4 5 9 21 ?_
 refine VC.cond rfl (fun hc9 => ?_) (fun hc9 => ?_)
 refine VC.skip (outN (VC.seq (VC.block ?_)))
 refine VC.reg ?_
 refine VO.mv ?_
 refine VO.y rfl (.bst (cs := [.int .i64 ((-7)), .int .i64 (0), .slice none (0) (0)]) rfl tst32 tz32 rfl) ?_
 refine VO.bsl (cs := [Value.int .i64 ((-7)), Value.int .i64 (0), Value.slice none (0) (0)]) 111 rfl rfl tsl22 tz32 rfl rfl (fun g10 => ?_)
 refine VO.inv ((113, mnil) :: _) (fun _ h => h.nilc 113) ?_
 refine VO.appO (e := TLCommit) 101 113 111 rfl rfl rfl tsl22 tz32 rfl rfl rfl rfl h_out (mkO_LCommit (-7) 0 ([], []) (Seps.nilAt 0 (Seps.nil _)) (by simp only [inK]; (exact fin0_LentCommits_ok)) (by simp only [inK]; (exact fin0_LentCommits_ok)) (Ow.nilSpl _ _)) Try.underlying22 (cellsAt_one rfl rfl) (by simp only [maxLen]; (exact fin0_LentCommits_ok)) (by exact fin0_LentCommits_ok) (by decide) (fun v12 m12 ho12 => ?_)
 obtain ⟨A12, c12, rfl, l12, k12⟩ := ho12.slice
 simp only [maxLen] at k12
 refine VO.as (VO.k7 0 2 3 4 5 9 21 (outBN (outN ?_)))
 refine VC.reg ?_
 refine VO.mv ?_
 refine VO.y rfl (.add (c := ((j + 1 : Nat) : Int)) rfl rfl (by omega) ⟨by exact fin0_LentCommits_ok, by exact fin0_LentCommits_ok⟩) ?_
 refine VO.as (VO.k7 0 2 3 4 5 9 21 ?_)
 exact outN ⟨⟨j + 1, out ++ [(((-7), 0, ([], [])) : DLCommit)], A12, c12, m12⟩, ⟨by omega, by exact spareC_next ho2 (by omega), ho12⟩, by exact fin0_LentCommits_ok, ⟨⟨rfl, rfl, rfl, rfl, rfl, rfl, trivial⟩, fun _ h => Inv.sub h [101, 0]⟩⟩
 · refine VC.exit (outE (outE (outBB (outN (VC.rs (VO.mv (VO.as (VO.k7 0 2 3 4 5 9 21 (VC.ret ?_)))))))))
   refine ⟨_, _, res_run (rs := [.tmp 2]) rfl (.tmp rfl .nil), fun W_ hI => out_of (l := [out_m]) hI [101] rfl rfl (mle_refl _) (fun hS_ => ?_)⟩
   dsimp only [packV]
   have he0 : (d0.map lentC ++ spareC : Ty.Den (.sl TLCommit)) = out := by first | rfl | (have : j = 3 := (by omega); subst this; exact ho2.symm)
   refine ⟨Value.slice out_A (out.length) (out_c), ?_, ?_⟩
   rotate_left
   · rw [he0]; exact (Ow.up h_out (hS_.1 _ (.head _)))
   all_goals (first | rfl | (simp [*]; done))
theorem fin0_KeptCommits_ok {P : Prop} (h : P := by first | omega | (simp only [List.length_append, List.length_nil, List.length_cons, List.length_take, List.length_drop] at *; omega) | exact lent_at e0 ‹d0[_]? = some _› ‹d1[_]? = some _› | exact e2 _ (List.mem_of_getElem? ‹d1[_]? = some _›)) : P := h
theorem KeptCommits_ok (W : World) {v0 : Value} {d0 : List DLCommit} (h0 : Rd (.sl TLCommit) (wm W) [v0] d0) {v1 : Value} {d1 : List DCommit} (h1 : Rd (.sl TCommit) (wm W) [v1] d1) (e0 : d0 = d1.map lentC ++ spareC) (e1 : d1.length ≤ 3518437200000) (e2 : ∀ c ∈ d1, c.2.2.length ≤ 3518437208800) : CallR Try.prog 24 [v0, v1] W (mnil) (fun v m' => v = .bool true) := by
 have el := congrArg List.length e0; rw [lent_len] at el
 obtain ⟨A0, c0, rfl, l0, k0⟩ := h0.slice
 simp only [maxLen] at k0
 obtain ⟨A1, c1, rfl, l1, k1⟩ := h1.slice
 simp only [maxLen] at k1
 refine CallR.ofA (n := 44) Try.func24 rfl rfl rfl ?_
 refine VC.rs (VO.as (VO.k3 0 1 4 (VC.seq (VC.rs (VO.mv ?_)))))
 refine VO.y rfl (.lenS rfl tsl22) ?_
 refine VO.mv ?_
 refine VO.y rfl (.lenS rfl tsl22) ?_
 refine VO.y rfl (.add (c := ((d1.length + 3 : Nat) : Int)) rfl rfl (by omega) ⟨by exact fin0_KeptCommits_ok, by exact fin0_KeptCommits_ok⟩) ?_
 refine VO.y rfl (.neq rfl rfl) (VO.k4 0 1 4 12 ?_)
 refine VC.cond rfl (fun hc1 => ?_) (fun hc1 => ?_)
 omega
 refine VC.skip (outN (VC.seq (VC.rs (VO.as ?_))))
 refine VO.kp [0] [(0, wm W)] ?_
 refine VO.k5 0 1 4 5 12 (VC.block ?_)
 refine VC.loop (G := Nat) (fun k => [(5, .int .i64 (((k : Nat) : Int))), (0, .slice A0 (d0.length) (c0)), (1, .slice A1 (d1.length) (c1)), (12, .bool (decide (¬ ((d0.length : Nat) : Int) = ((d1.length + 3 : Nat) : Int))))]) (fun k => [(0, wm W)]) (fun k => (k ≤ d1.length)) (fun k => d1.length - k) 0 (by omega) ⟨⟨rfl, rfl, rfl, rfl, trivial⟩, fun _ h => h.sub [0]⟩ ?_
 rintro k hk
 refine VC.seq (VC.rs (VO.mv (VO.mv ?_)))
 refine VO.y rfl (.lenS rfl tsl22) ?_
 refine VO.y rfl (.lss rfl rfl) (VO.k5 0 1 5 12 16 ?_)
 refine VC.cond rfl (fun hc2 => ?_) (fun hc2 => ?_)
 · refine VC.skip (outN (VC.seq (VC.block (VC.seq ?_))))
   refine VC.regD _ 8 [(0, true), (1, true), (2, true), (3, true), (4, true), (5, true), (6, true), (7, true)] follows (by kernel_rfl) (fun _ h => h.sub [0]) ?_
   refine VD.y rfl rfl (.inl rfl) (.mv rfl) (VD.y rfl rfl (.inl rfl) (.mv rfl) ?_)
   obtain ⟨x3, hx3⟩ : ∃ z_, (d0)[k]? = some z_ := ⟨_, List.getElem?_eq_getElem (by exact fin0_KeptCommits_ok)⟩
   obtain ⟨gg3, oo3, ec3, ea3, hce3, hre3⟩ := h0.elem hx3
   cases ea3
   obtain ⟨q3_A2, q3_c2, rfl, q3_0, q3_1, q3_2⟩ := open_LCommit (x0 := x3.1) (x1 := x3.2.1) (x2 := x3.2.2) hre3
   simp only [inK] at q3_0 q3_1
   have q3_f2 := (Rd.full q3_2).2
   have q3_s2 := Rd.pre2 q3_f2
   have q3_r2 := Rd.room q3_f2
   refine VD.y rfl rfl (.inl rfl) (.ixI k rfl rfl tsl22 rfl (by exact fin0_KeptCommits_ok)) ?_
   refine VD.y rfl rfl (.inl rfl) (.ldA 0 rfl tk32 rfl hce3) ?_
   refine VD.y rfl rfl (.inl rfl) (.mv rfl) (VD.y rfl rfl (.inl rfl) (.mv rfl) ?_)
   obtain ⟨x4, hx4⟩ : ∃ z_, (d1)[k]? = some z_ := ⟨_, List.getElem?_eq_getElem (by exact fin0_KeptCommits_ok)⟩
   obtain ⟨gg4, oo4, ec4, ea4, hce4, hre4⟩ := h1.elem hx4
   cases ea4
   obtain ⟨q4_A2, q4_c2, rfl, q4_0, q4_1, q4_2⟩ := open_Commit (x0 := x4.1) (x1 := x4.2.1) (x2 := x4.2.2) hre4
   simp only [inK] at q4_0 q4_1
   have q4_r2 := Rd.room q4_2
   refine VD.y rfl rfl (.inl rfl) (.ixI k rfl rfl tsl22 rfl (by exact fin0_KeptCommits_ok)) ?_
   refine VD.y rfl rfl (.inl rfl) (.ldA 0 rfl tk32 rfl hce4) ?_
   refine VD.nil rfl ?_ rfl
   refine VO.callN 105 rfl fnOk64 rfl (fun W hW => KeptCommit_ok W (Rd.mono hre3 (hW.at (i := 0) rfl)) (Rd.mono hre4 (hW.at (i := 0) rfl)) (by exact lent_at e0 ‹d0[k]? = some _› ‹d1[k]? = some _›) (by exact fin0_KeptCommits_ok)) (fun v5 m5 hv5 => ?_)
   subst hv5
   refine VO.y rfl (.not rfl) (VO.k6 0 1 5 12 16 28 (outN (VC.condF rfl (VC.skip (outBN (outN ?_))))))
   refine VC.reg ?_
   refine VO.mv ?_
   refine VO.y rfl (.add (c := ((k + 1 : Nat) : Int)) rfl rfl (by omega) ⟨by exact fin0_KeptCommits_ok, by exact fin0_KeptCommits_ok⟩) ?_
   refine VO.as ?_
   refine VO.kp [0] [(0, wm W)] ?_
   refine VO.k6 0 1 5 12 16 28 ?_
   exact outN ⟨k + 1, by omega, by exact fin0_KeptCommits_ok, ⟨⟨rfl, rfl, rfl, rfl, trivial⟩, fun _ h => Inv.sub h [0]⟩⟩
 refine VC.exit (outE (outE (outBB (outN (VC.seq (VC.rs (VO.mv ?_)))))))
 refine VO.y rfl (.lenS rfl tsl22) ?_
 refine VO.as (VO.k6 0 1 5 6 12 16 (VC.block ?_))
 refine VC.loop (G := Nat) (fun j => [(6, .int .i64 (((j : Nat) : Int))), (0, .slice A0 (d0.length) (c0)), (1, .slice A1 (d1.length) (c1)), (5, .int .i64 (((k : Nat) : Int))), (12, .bool (decide (¬ ((d0.length : Nat) : Int) = ((d1.length + 3 : Nat) : Int)))), (16, .bool (decide (((k : Nat) : Int) < ((d1.length : Nat) : Int))))]) (fun j => [(0, wm W)]) (fun j => (d1.length ≤ j ∧ j ≤ d0.length)) (fun j => d0.length - j) d1.length (by omega) ⟨⟨rfl, rfl, rfl, rfl, rfl, rfl, trivial⟩, fun _ h => h.sub [0]⟩ ?_
 rintro j hj
 refine VC.seq (VC.rs (VO.mv (VO.mv ?_)))
 refine VO.y rfl (.lenS rfl tsl22) ?_
 refine VO.y rfl (.lss rfl rfl) ?_
 refine VO.kp [0] [(0, wm W)] ?_
 refine VO.k7 0 1 5 6 12 16 34 ?_
 refine VC.cond rfl (fun hc6 => ?_) (fun hc6 => ?_)
 refine VC.skip (outN (VC.seq (VC.block (VC.rs (VO.mv (VO.mv ?_))))))
 obtain ⟨x7, hx7⟩ : ∃ z_, (d0)[j]? = some z_ := ⟨_, List.getElem?_eq_getElem (by exact fin0_KeptCommits_ok)⟩
 obtain ⟨gg7, oo7, ec7, ea7, hce7, hre7⟩ := h0.elem hx7
 cases ea7
 obtain ⟨q7_A2, q7_c2, rfl, q7_0, q7_1, q7_2⟩ := open_LCommit (x0 := x7.1) (x1 := x7.2.1) (x2 := x7.2.2) hre7
 simp only [inK] at q7_0 q7_1
 have q7_f2 := (Rd.full q7_2).2
 have q7_s2 := Rd.pre2 q7_f2
 have q7_r2 := Rd.room q7_f2
 refine VO.y rfl (.ixI j rfl rfl tsl22 rfl (by exact fin0_KeptCommits_ok)) ?_
 refine VO.y rfl (.ldA 0 rfl tk32 rfl hce7) ?_
 refine VO.y rfl (.bst (cs := [.int .i64 ((-7)), .int .i64 (0), .slice none (0) (0)]) rfl tst32 tz32 rfl) ?_
 refine VO.callN 108 rfl fnOk65 rfl (fun W hW => SameCommit_ok W (mk_Commit (m := wm W) x7.1 x7.2.1 x7.2.2.1 (by simp only [inK]; (exact fin0_KeptCommits_ok)) (by simp only [inK]; (exact fin0_KeptCommits_ok)) (Rd.mono q7_s2 (hW.at (i := 0) rfl))) (mk_Commit (m := wm W) (-7) 0 [] (by simp only [inK]; (exact fin0_KeptCommits_ok)) (by simp only [inK]; (exact fin0_KeptCommits_ok)) (Rd.nil _ _ none 0 (Nat.zero_le _)))) (fun v8 m8 hv8 => ?_)
 try dsimp only at hv8
 subst hv8
 refine VO.y rfl (.notD rfl) (VO.k8 0 1 5 6 12 16 34 43 ?_)
 refine VC.cond rfl (fun hc9 => ?_) (fun hc9 => ?_)
 have h_ := spare_at e0 hj.1 ‹d0[j]? = some _›; exact absurd (by rw [h_]) hc9
 refine VC.skip (outBN (outN ?_))
 refine VC.reg ?_
 refine VO.mv ?_
 refine VO.y rfl (.add (c := ((j + 1 : Nat) : Int)) rfl rfl (by omega) ⟨by exact fin0_KeptCommits_ok, by exact fin0_KeptCommits_ok⟩) ?_
 refine VO.as (VO.k8 0 1 5 6 12 16 34 43 ?_)
 exact outN ⟨j + 1, by omega, by exact fin0_KeptCommits_ok, ⟨⟨rfl, rfl, rfl, rfl, rfl, rfl, trivial⟩, fun _ h => Inv.sub h [0]⟩⟩
 · refine VC.exit (outE (outE (outBB (outN (VC.rs (VO.as (VO.k8 0 1 4 5 6 12 16 34 (VC.ret ?_))))))))
   refine ⟨_, _, res_run (rs := [.tmp 4]) rfl (.tmp rfl .nil), fun W_ hI => out_of (l := []) hI [] rfl rfl (mle_refl _) (fun hS_ => ?_)⟩
   dsimp only [packV]
   all_goals (first | rfl | (simp [*]; done))
theorem fin0_c4Follows_ok {P : Prop} (h : P := by first | omega | (simp only [List.length_append, List.length_nil, List.length_cons, List.length_take, List.length_drop] at *; omega) | (have := cCheck_ok (by first | assumption | exact Decidable.not_not.1 (by assumption) : cCheck _ = 0); omega)) : P := h
theorem c4Follows_ok (W : World) (d0 : Int) (h0 : inK .i64 d0) (d1 : Int) (h1 : inK .i64 d1) {v2 : Value} {d2 : List DCommit} (h2 : Rd (.sl TCommit) (wm W) [v2] d2) : CallR Try.prog 62 [.int .i64 d0, .int .i64 d1, v2] W (mnil) (fun v m' => ∃ (s0 : List Value), v = .agg s0.toArray ∧ Ow TFault m' s0 (cFollows d0 d1 d2)) := by
 have h0' := h0; simp only [inK] at h0'
 have h1' := h1; simp only [inK] at h1'
 obtain ⟨A2, c2, rfl, l2, k2⟩ := h2.slice
 simp only [maxLen] at k2
 refine CallR.ofA (n := 55) Try.func62 rfl rfl rfl ?_
 refine VC.rs ?_
 refine VO.alloc 102 rfl tz75 (fun g1 => ?_)
 refine VO.k4 0 1 2 6 (VC.seq (VC.rs (VO.as (VO.k5 0 1 2 6 7 (VC.block ?_)))))
 refine VC.loop (G := Nat × Int × Int) (fun g => [(0, .int .i64 ((g.2.1))), (1, .int .i64 ((g.2.2))), (7, .int .i64 ((((g.1) : Nat) : Int))), (2, .slice A2 (d2.length) (c2)), (6, .pointer (some ⟨g1, 0, none⟩))]) (fun g => [(102, mone g1 (.cells #[.int .i64 (0), .int .i64 (0)] 75 (0, 0))), (0, wm W)]) (fun g => ((g.1) ≤ d2.length) ∧ (cFollows d0 d1 d2 = cFollowsAt (g.2.1) (g.2.2) (g.1) (d2.drop (g.1)))) (fun g => d2.length - (g.1)) (0, d0, d1) (⟨by omega, by rfl⟩) ⟨⟨rfl, rfl, rfl, rfl, rfl, trivial⟩, fun _ h => h.sub [102, 0]⟩ ?_
 rintro ⟨k, e, nn⟩ ⟨hk, hf⟩
 replace hk : k ≤ d2.length := hk
 replace hf : cFollows d0 d1 d2 = cFollowsAt e nn k (d2.drop k) := hf
 show VC _ _ _ _ _ [(0, .int .i64 (e)), (1, .int .i64 (nn)), (7, .int .i64 (((k : Nat) : Int))), (2, .slice A2 (d2.length) (c2)), (6, .pointer (some ⟨g1, 0, none⟩))] [(102, mone g1 (.cells #[.int .i64 (0), .int .i64 (0)] 75 (0, 0))), (0, wm W)]
 refine VC.seq (VC.rs (VO.mv (VO.mv ?_)))
 refine VO.y rfl (.lenS rfl tsl22) ?_
 refine VO.y rfl (.lss rfl rfl) ?_
 refine VO.kp [102, 0] [(102, mone g1 (.cells #[.int .i64 (0), .int .i64 (0)] 75 (0, 0))), (0, wm W)] ?_
 refine VO.k6 0 1 2 6 7 12 ?_
 refine VC.cond rfl (fun hc3 => ?_) (fun hc3 => ?_)
 refine VC.skip (outN (VC.seq (VC.block (VC.rs (VO.mv (VO.mv ?_))))))
 obtain ⟨x4, hx4⟩ : ∃ z_, (d2)[k]? = some z_ := ⟨_, List.getElem?_eq_getElem (by exact fin0_c4Follows_ok)⟩
 obtain ⟨gg4, oo4, ec4, ea4, hce4, hre4⟩ := h2.elem hx4
 cases ea4
 obtain ⟨q4_A2, q4_c2, rfl, q4_0, q4_1, q4_2⟩ := open_Commit (x0 := x4.1) (x1 := x4.2.1) (x2 := x4.2.2) hre4
 simp only [inK] at q4_0 q4_1
 have q4_r2 := Rd.room q4_2
 refine VO.y rfl (.ixI k rfl rfl tsl22 rfl (by exact fin0_c4Follows_ok)) ?_
 refine VO.y rfl (.ldA 0 rfl tk32 rfl hce4) ?_
 refine VO.callN 105 rfl fnOk98 rfl (fun W hW => c4Check_ok W (Rd.mono hre4 (hW.at (i := 0) rfl))) (fun v5 m5 hv5 => ?_)
 subst hv5
 have hfa6 := cCheck_range x4
 refine VO.as (VO.k7 0 1 2 6 7 8 12 (VC.seq (VC.rs (VO.mv (VO.y rfl (.neq rfl rfl) (VO.k8 0 1 2 6 7 8 12 21 ?_))))))
 refine VC.cond rfl (fun hc7 => ?_) (fun hc7 => ?_)
 · refine VC.rs (VO.mv (VO.mv ?_))
   refine VO.y rfl (.bst (cs := [.int .i64 (cCheck x4), .int .i64 (((k : Nat) : Int))]) rfl tst75 tz75 rfl) ?_
   refine VO.store (k := 2) (c' := [Value.int .i64 (cCheck x4), Value.int .i64 (((k : Nat) : Int))]) 102 rfl rfl (.inl tk75) rfl rfl rfl rfl rfl ?_
   refine VO.kp [102, 0] [(102, mone g1 (.cells #[.int .i64 (cCheck x4), .int .i64 (((k : Nat) : Int))] 75 (0, 0))), (0, wm W)] ?_
   refine VO.k8 0 1 2 6 7 8 12 21 (VC.ret (outR (outBR (outR (outR (outBR (outR ?_)))))))
   refine ⟨_, _, res_run (rs := [.cell 6 75]) rfl (.agg 102 rfl tk75 rfl ⟨_, _, _, mone_self _ _, Nat.le_of_ble_eq_true rfl, rfl⟩ .nil), fun W_ hI => out_of (l := []) hI [] rfl rfl (mle_refl _) (fun hS_ => ?_)⟩
   dsimp only [packV]
   have he0 : (cFollows d0 d1 d2 : Ty.Den TFault) = (cCheck x4, ((k : Nat) : Int)) := by first | rfl | (first | (rw [hf, List.drop_of_length_le (by omega)]; rfl) | (rw [hf, follows_bad ‹d2[k]? = some _› (by first | assumption | omega)]) | (rw [hf, follows_order ‹d2[k]? = some _› (by first | assumption | omega) (by omega)]) | (exfalso; omega))
   refine ⟨[Value.int .i64 (cCheck x4), Value.int .i64 (((k : Nat) : Int))], ?_, ?_⟩
   rotate_left
   · rw [he0]; exact (Ow.of (m := mnil) rfl (mk_Fault (m := _) (cCheck x4) ((k : Nat) : Int) (by simp only [inK]; (exact fin0_c4Follows_ok)) (by simp only [inK]; (exact fin0_c4Follows_ok))))
   all_goals (first | rfl | (rfl))
 refine VC.skip (outN (VC.seq (VC.rs (VO.mv (VO.mv ?_)))))
 refine VO.y rfl (.ixI k rfl rfl tsl22 rfl (by exact fin0_c4Follows_ok)) ?_
 refine VO.y rfl (.fa rfl tst32 rfl) ?_
 refine VO.y rfl (.ld1 0 rfl tk3 rfl (hce4.at1 (j := 1) rfl)) ?_
 refine VO.y rfl (.sub rfl rfl rfl ⟨by exact fin0_c4Follows_ok, by exact fin0_c4Follows_ok⟩) ?_
 refine VO.mv (VO.y rfl (.neq rfl rfl) (VO.mv ?_))
 refine VO.dec (t := 33) rfl (fun hc9 => ?_) (fun hc9 => ?_)
 · refine VO.gN (VO.gN (VO.gN (VO.gN (VO.gN (VO.gN (VO.gN (VO.y rfl (.pT rfl rfl) ?_)))))))
   refine VO.kp [102, 0] [(102, mone g1 (.cells #[.int .i64 (0), .int .i64 (0)] 75 (0, 0))), (0, wm W)] ?_
   refine VO.k9 0 1 2 6 7 8 12 21 41 (VC.condT rfl (VC.rs (VO.mv ?_)))
   refine VO.y rfl (.bst (cs := [.int .i64 (15), .int .i64 (((k : Nat) : Int))]) rfl tst75 tz75 rfl) ?_
   refine VO.store (k := 2) (c' := [Value.int .i64 (15), Value.int .i64 (((k : Nat) : Int))]) 102 rfl rfl (.inl tk75) rfl rfl rfl rfl rfl ?_
   refine VO.k9 0 1 2 6 7 8 12 21 41 (VC.ret (outR (outBR (outR (outR (outBR (outR ?_)))))))
   refine ⟨_, _, res_run (rs := [.cell 6 75]) rfl (.agg 102 rfl tk75 rfl ⟨_, _, _, mone_self _ _, Nat.le_of_ble_eq_true rfl, rfl⟩ .nil), fun W_ hI => out_of (l := []) hI [] rfl rfl (mle_refl _) (fun hS_ => ?_)⟩
   dsimp only [packV]
   have he0 : (cFollows d0 d1 d2 : Ty.Den TFault) = (15, ((k : Nat) : Int)) := by first | rfl | (first | (rw [hf, List.drop_of_length_le (by omega)]; rfl) | (rw [hf, follows_bad ‹d2[k]? = some _› (by first | assumption | omega)]) | (rw [hf, follows_order ‹d2[k]? = some _› (by first | assumption | omega) (by omega)]) | (exfalso; omega))
   refine ⟨[Value.int .i64 (15), Value.int .i64 (((k : Nat) : Int))], ?_, ?_⟩
   rotate_left
   · rw [he0]; exact (Ow.of (m := mnil) rfl (mk_Fault (m := _) 15 ((k : Nat) : Int) (by simp only [inK]; (exact fin0_c4Follows_ok)) (by simp only [inK]; (exact fin0_c4Follows_ok))))
   all_goals (first | rfl | (rfl))
 refine VO.gy rfl ⟨_, rfl, rfl⟩ (.mv rfl) (VO.gy rfl ⟨_, rfl, rfl⟩ (.mv rfl) ?_)
 refine VO.gy rfl ⟨_, rfl, rfl⟩ (.ixI k rfl rfl tsl22 rfl (by exact fin0_c4Follows_ok)) ?_
 refine VO.gy rfl ⟨_, rfl, rfl⟩ (.fa rfl tst32 rfl) ?_
 refine VO.gy rfl ⟨_, rfl, rfl⟩ (.ld1 0 rfl tk3 rfl (hce4.at1 (j := 0) rfl)) ?_
 refine VO.gy rfl ⟨_, rfl, rfl⟩ (.mv rfl) (VO.gy rfl ⟨_, rfl, rfl⟩ (.lss rfl rfl) (VO.y rfl (.pF rfl rfl) ?_))
 refine VO.kp [102, 0] [(102, mone g1 (.cells #[.int .i64 (0), .int .i64 (0)] 75 (0, 0))), (0, wm W)] ?_
 refine VO.k9 0 1 2 6 7 8 12 21 41 ?_
 refine VC.cond rfl (fun hc11 => ?_) (fun hc11 => ?_)
 · refine VC.rs (VO.mv ?_)
   refine VO.y rfl (.bst (cs := [.int .i64 (15), .int .i64 (((k : Nat) : Int))]) rfl tst75 tz75 rfl) ?_
   refine VO.store (k := 2) (c' := [Value.int .i64 (15), Value.int .i64 (((k : Nat) : Int))]) 102 rfl rfl (.inl tk75) rfl rfl rfl rfl rfl ?_
   refine VO.k9 0 1 2 6 7 8 12 21 41 (VC.ret (outR (outBR (outR (outR (outBR (outR ?_)))))))
   refine ⟨_, _, res_run (rs := [.cell 6 75]) rfl (.agg 102 rfl tk75 rfl ⟨_, _, _, mone_self _ _, Nat.le_of_ble_eq_true rfl, rfl⟩ .nil), fun W_ hI => out_of (l := []) hI [] rfl rfl (mle_refl _) (fun hS_ => ?_)⟩
   dsimp only [packV]
   have he0 : (cFollows d0 d1 d2 : Ty.Den TFault) = (15, ((k : Nat) : Int)) := by first | rfl | (first | (rw [hf, List.drop_of_length_le (by omega)]; rfl) | (rw [hf, follows_bad ‹d2[k]? = some _› (by first | assumption | omega)]) | (rw [hf, follows_order ‹d2[k]? = some _› (by first | assumption | omega) (by omega)]) | (exfalso; omega))
   refine ⟨[Value.int .i64 (15), Value.int .i64 (((k : Nat) : Int))], ?_, ?_⟩
   rotate_left
   · rw [he0]; exact (Ow.of (m := mnil) rfl (mk_Fault (m := _) 15 ((k : Nat) : Int) (by simp only [inK]; (exact fin0_c4Follows_ok)) (by simp only [inK]; (exact fin0_c4Follows_ok))))
   all_goals (first | rfl | (rfl))
 refine VC.skip (outN ?_)
 refine VC.regD _ 11 [(0, true), (1, true), (2, true), (3, true), (4, true), (5, true), (6, true), (7, true), (8, true), (9, true), (10, true)] follows (by kernel_rfl) (fun _ h => h.sub [102, 0]) ?_
 refine VD.y rfl rfl (.inl rfl) (.mv rfl) (VD.y rfl rfl (.inl rfl) (.mv rfl) ?_)
 refine VD.y rfl rfl (.inl rfl) (.ixI k rfl rfl tsl22 rfl (by exact fin0_c4Follows_ok)) ?_
 refine VD.y rfl rfl (.inl rfl) (.fa rfl tst32 rfl) ?_
 refine VD.y rfl rfl (.inl rfl) (.ld1 0 rfl tk3 rfl (hce4.at1 (j := 0) rfl)) ?_
 refine VD.y rfl rfl (.inl rfl) (.mv rfl) (VD.y rfl rfl (.inl rfl) (.mv rfl) ?_)
 refine VD.y rfl rfl (.inl rfl) (.ixI k rfl rfl tsl22 rfl (by exact fin0_c4Follows_ok)) ?_
 refine VD.y rfl rfl (.inl rfl) (.fa rfl tst32 rfl) ?_
 refine VD.y rfl rfl (.inl rfl) (.ld1 0 rfl tk3 rfl (hce4.at1 (j := 1) rfl)) ?_
 refine VD.y rfl rfl (.inl rfl) (.as rfl) ?_
 refine VD.nil rfl ?_ rfl
 refine VO.as (VO.k9 0 1 2 6 7 8 12 21 41 (outBN (outN ?_)))
 refine VC.reg ?_
 refine VO.mv ?_
 refine VO.y rfl (.add (c := ((k + 1 : Nat) : Int)) rfl rfl (by omega) ⟨by exact fin0_c4Follows_ok, by exact fin0_c4Follows_ok⟩) ?_
 refine VO.as (VO.k9 0 1 2 6 7 8 12 21 41 ?_)
 exact outN ⟨⟨k + 1, x4.1, x4.2.1⟩, ⟨by omega, by first | (exfalso; omega) | (rw [hf, follows_step ‹d2[k]? = some _› (by first | assumption | omega) (by omega) (by omega)]; rfl)⟩, by exact fin0_c4Follows_ok, ⟨⟨rfl, rfl, rfl, rfl, rfl, trivial⟩, fun _ h => Inv.sub h [102, 0]⟩⟩
 · refine VC.exit (outE (outE (outBB (outN (VC.rs ?_)))))
   refine VO.y rfl (.bst (cs := [.int .i64 (0), .int .i64 (0)]) rfl tst75 tz75 rfl) ?_
   refine VO.store (k := 2) (c' := [Value.int .i64 (0), Value.int .i64 (0)]) 102 rfl rfl (.inl tk75) rfl rfl rfl rfl rfl ?_
   refine VO.k6 0 1 2 6 7 12 (VC.ret ?_)
   refine ⟨_, _, res_run (rs := [.cell 6 75]) rfl (.agg 102 rfl tk75 rfl ⟨_, _, _, mone_self _ _, Nat.le_of_ble_eq_true rfl, rfl⟩ .nil), fun W_ hI => out_of (l := []) hI [] rfl rfl (mle_refl _) (fun hS_ => ?_)⟩
   dsimp only [packV]
   have he0 : (cFollows d0 d1 d2 : Ty.Den TFault) = (0, 0) := by first | rfl | (first | (rw [hf, List.drop_of_length_le (by omega)]; rfl) | (rw [hf, follows_bad ‹d2[k]? = some _› (by first | assumption | omega)]) | (rw [hf, follows_order ‹d2[k]? = some _› (by first | assumption | omega) (by omega)]) | (exfalso; omega))
   refine ⟨[Value.int .i64 (0), Value.int .i64 (0)], ?_, ?_⟩
   rotate_left
   · rw [he0]; exact (Ow.of (m := mnil) rfl (mk_Fault (m := _) 0 0 (by simp only [inK]; (exact fin0_c4Follows_ok)) (by simp only [inK]; (exact fin0_c4Follows_ok))))
   all_goals (first | rfl | (rfl))
end
section
set_option linter.unusedVariables false
def fEnc (r : Bytes) : Bytes := venc r.length ++ r
def fAppend (b r : Bytes) : Bytes × Int := if 131072 < r.length then ([], 3) else (b ++ fEnc r, 0)
def fRead (b : Bytes) : Bytes × Int × Int := if sE b 131072 = 0 ∧ (sX b 131072 : Int) ≤ (b.length : Int) - sN b 131072 then ((b.drop (sN b 131072)).take (sX b 131072), (sN b 131072 : Int) + sX b 131072, 0) else ([], 0, 5)
theorem fAppend_long {b r : Bytes} (h : (131072 : Int) < r.length) : fAppend b r = ([], 3) := if_pos (by omega)
theorem fAppend_good {b r : Bytes} (h : ¬ (131072 : Int) < r.length) : fAppend b r = (b ++ fEnc r, 0) := if_neg (by omega)
theorem fEnc_len {r : Bytes} (h : r.length ≤ 131072) : (fEnc r).length ≤ r.length + 10 := by
  have := venc_len (x := r.length) (by omega)
  simp only [fEnc, List.length_append]; omega
theorem fEnc_pos (r : Bytes) : 1 ≤ (fEnc r).length := by
  have := venc_pos r.length
  simp only [fEnc, List.length_append]; omega
theorem sN_pos {b : Bytes} {m : Int} (h : sE b m = 0) : 1 ≤ sN b m := by
  unfold sE at h; unfold sN
  cases hv : vsmall b m with
  | none => rw [hv] at h; cases h
  | some p =>
    obtain ⟨x, n⟩ := p
    unfold vsmall at hv
    cases hr : vread b with
    | none => rw [hr] at hv; cases hv
    | some q =>
      obtain ⟨y, k⟩ := q
      rw [hr] at hv
      dsimp only at hv
      split at hv
      · cases hv; exact (vread_bounds hr).2.1
      · cases hv
theorem fRead_bounds (b : Bytes) : 0 ≤ (fRead b).2.1 ∧ (fRead b).2.1 ≤ b.length ∧ (fRead b).1.length ≤ 131072 ∧ ((fRead b).2.2 = 0 ∨ (fRead b).2.2 = 5) ∧ ((fRead b).2.2 = 0 → 1 ≤ (fRead b).2.1) ∧ (fRead b).1.length ≤ b.length := by
  have hb := s_bounds b 131072 (by omega)
  have := hb.2.1 (by omega)
  unfold fRead
  split
  · rename_i h
    have := sN_pos h.1
    refine ⟨by dsimp only; omega, by dsimp only; omega, by simp only [List.length_take]; omega, .inl rfl, fun _ => by dsimp only; omega, by simp only [List.length_take, List.length_drop]; omega⟩
  · exact ⟨Int.le_refl _, by simp, by simp, .inr rfl, fun h => (by cases h), by simp⟩
theorem fRead_there {r : Bytes} (h : r.length ≤ 131072) (s : Bytes) : fRead (fEnc r ++ s) = (r, ((fEnc r).length : Int), 0) := by
  obtain ⟨a1, a2, a3⟩ := s_there (x := r.length) (m := 131072) (by omega) (by omega) (r ++ s)
  unfold fEnc
  rw [List.append_assoc]
  unfold fRead
  rw [a1, a2, a3, if_pos ⟨rfl, by simp only [List.length_append]; omega⟩, List.drop_left, List.take_left]
  simp only [List.length_append, Int.natCast_add]
def fWhole (b : Bytes) : Int × Int × Bool := if sE b 131072 = 0 ∧ (sX b 131072 : Int) ≤ (b.length : Int) - sN b 131072 then ((sN b 131072 : Int), (sN b 131072 : Int) + sX b 131072, true) else (0, 0, false)
theorem whole_no1 {b : Bytes} (h : ¬ sE b 131072 = 0) : fWhole b = (0, 0, false) := if_neg fun q => h q.1
theorem whole_no2 {b : Bytes} (h : (b.length : Int) - sN b 131072 < sX b 131072) : fWhole b = (0, 0, false) := if_neg fun q => by have := q.2; omega
theorem whole_yes {b : Bytes} (h : ¬ ¬ sE b 131072 = 0) (h2 : ¬ (b.length : Int) - sN b 131072 < sX b 131072) : fWhole b = ((sN b 131072 : Int), (sN b 131072 : Int) + sX b 131072, true) := if_pos ⟨Decidable.not_not.1 h, by omega⟩
theorem fWhole_bounds (b : Bytes) : 0 ≤ (fWhole b).1 ∧ (fWhole b).1 ≤ (fWhole b).2.1 ∧ (fWhole b).2.1 ≤ b.length ∧ (fWhole b).2.1 - (fWhole b).1 ≤ 131072 := by
  have hb := s_bounds b 131072 (by omega)
  have := hb.2.1 (by omega)
  unfold fWhole
  split
  · rename_i h; exact ⟨by dsimp only; omega, by dsimp only; omega, by dsimp only; omega, by dsimp only; omega⟩
  · exact ⟨Int.le_refl _, Int.le_refl _, by simp, by decide⟩
theorem fRead_bad {b : Bytes} (h : (fWhole b).2.2 = false) : fRead b = ([], 0, 5) := by
  unfold fWhole at h; unfold fRead
  split at h
  · cases h
  · rename_i h0; exact if_neg h0
theorem fRead_good {b : Bytes} (h : (fWhole b).2.2 = true) : fRead b = ((b.take (fWhole b).2.1.toNat).drop (fWhole b).1.toNat, (fWhole b).2.1, 0) := by
  have hb := s_bounds b 131072 (by omega)
  unfold fWhole at h ⊢; unfold fRead
  split at h
  · rename_i h0
    rw [if_pos h0, if_pos h0]
    dsimp only
    rw [List.drop_take, Int.toNat_natCast, show ((sN b 131072 : Int) + sX b 131072).toNat - sN b 131072 = sX b 131072 by omega]
  · cases h
theorem clone_nil' {e : Ty} {m : Mem} {A : Option Addr} {c : Nat} {l : List e.Den} (h : Rd (.sl e) m [.slice A l.length c] l) (hA : A = none) : l = [] := by
  subst hA
  obtain ⟨A', c', h1, _, _, h4⟩ := h
  rcases h4 with h4 | ⟨g, off, all, k1, _⟩
  · exact List.eq_nil_of_length_eq_zero h4
  · simp only [List.cons.injEq, Value.slice.injEq, and_true] at h1
    rw [← h1.1] at k1; cases k1
theorem fAppend_len (b r : Bytes) : (fAppend b r).1.length ≤ b.length + 131082 := by
  unfold fAppend
  split
  · simp
  · have := fEnc_len (r := r) (by omega)
    simp only [List.length_append]; omega
theorem fAppend_range (b r : Bytes) : 0 ≤ (fAppend b r).2 ∧ (fAppend b r).2 ≤ 3 := by unfold fAppend; split <;> exact ⟨by dsimp only; omega, by dsimp only; omega⟩
theorem cEnc_len {c : DCommit} (h : cCheck c = 0) : (cEnc c).length ≤ 700 := by
  have := cEncode_len c
  unfold cEncode at this
  rwa [if_pos h] at this
def cFrame (c : DCommit) : Bytes := fEnc (cEnc c)
def cFrames (l : List DCommit) : Bytes := (l.map cFrame).flatten
theorem cFrame_len {c : DCommit} (h : cCheck c = 0) : (cFrame c).length ≤ 710 ∧ 1 ≤ (cFrame c).length := by
  have h1 := cEnc_len h
  have h2 := fEnc_len (r := cEnc c) (by omega)
  exact ⟨by unfold cFrame; omega, fEnc_pos _⟩
theorem cFrames_cons (c : DCommit) (l : List DCommit) : cFrames (c :: l) = cFrame c ++ cFrames l := rfl
theorem cFrames_len : ∀ {l : List DCommit}, (∀ c ∈ l, cCheck c = 0) → (cFrames l).length ≤ 710 * l.length
  | [], _ => by simp [cFrames]
  | c :: l, h => by
    have h1 := cFrame_len (h c (.head _))
    have h2 := cFrames_len (l := l) fun x hx => h x (.tail _ hx)
    rw [cFrames_cons]
    simp only [List.length_append, List.length_cons]; omega
theorem frame_there {c : DCommit} (h : cCheck c = 0) (s : Bytes) : fRead (cFrame c ++ s) = (cEnc c, ((cFrame c).length : Int), 0) ∧ cDecode (cEnc c) = (c, 0) :=
  ⟨fRead_there (by have := cEnc_len h; omega) s, cDecode_there h⟩
def frameC (c : DCommit) : Bytes := (fAppend [] (cEncode c).1).1
theorem frameC_is {c : DCommit} (h : cCheck c = 0) : frameC c = cFrame c := by
  have := cEnc_len h
  unfold frameC cEncode; rw [if_pos h]; dsimp only
  rw [fAppend_good (by omega)]; rfl
theorem frameC_len (c : DCommit) : (frameC c).length ≤ 131082 := by
  have h := fAppend_len [] (cEncode c).1
  rw [List.length_nil, Nat.zero_add] at h; exact h
end
section
set_option linter.unusedVariables false
set_option linter.unusedSimpArgs false
set_option maxRecDepth 4000
theorem fnOk109 : fnOk Try.prog 109 = true := by kernel_rfl
theorem fnOk110 : fnOk Try.prog 110 = true := by kernel_rfl
theorem fnOk58 : fnOk Try.prog 58 = true := by kernel_rfl
theorem fnOk90 : fnOk Try.prog 90 = true := by kernel_rfl
theorem cloneB_ok (W : World) {v0 : Value} {d0 : List UInt8} (h0 : Rd (.sl .byte) (wm W) [v0] d0) (e0 : d0.length ≤ 140737488355000) : CallR Try.prog 110 [v0] W (mnil) (fun v m' => ∃ (s0 : Value), v = s0 ∧ Ow (.sl .byte) m' [s0] (d0)) := by
 obtain ⟨A0, c0, rfl, l0, k0⟩ := h0.slice
 simp only [maxLen] at k0
 refine CallR.ofA (n := 8) Try.func110 rfl rfl rfl ?_
 refine VC.rs (VO.as (VO.k2 0 2 (VC.seq (VC.rs (VO.mv ?_)))))
 refine VO.y rfl (.snil rfl rfl Try.underlying25) ?_
 refine VO.k3 0 2 4 ?_
 refine VC.cond rfl (fun hc1 => ?_) (fun hc1 => ?_)
 · refine VC.rs (VO.as ?_)
   refine VO.kp [0] [(0, wm W)] ?_
   refine VO.k3 0 2 4 (VC.ret (outR ?_))
   refine ⟨_, _, res_run (rs := [.tmp 2]) rfl (.tmp rfl .nil), fun W_ hI => out_of (l := []) hI [] rfl rfl (mle_refl _) (fun hS_ => ?_)⟩
   dsimp only [packV]
   have he0 : (d0 : Ty.Den (.sl .byte)) = [] := by first | rfl | (exact clone_nil' h0 ‹_ = none›)
   refine ⟨Value.slice none (0) (0), ?_, ?_⟩
   rotate_left
   · rw [he0]; exact (Ow.nil _ _)
   all_goals (first | rfl | (simp [*]; done))
 · refine VC.skip (outN (VC.rs ?_))
   refine VO.bsl (cs := []) 103 rfl rfl tsl25 tz5 rfl rfl (fun g2 => ?_)
   refine VO.mv ?_
   have ho5 : OwnL .byte (mone g2 (.cells [].toArray 5 (0, 0))) mnil (Value.slice (some ⟨g2, 0, none⟩) (0) (0)) [] := OwnL.lit 0 All2c.nil rfl rfl
   obtain ⟨mo4, cs4, hM4, hA4, hC4⟩ := ho5
   obtain ⟨all4, hS4, hR4⟩ := Rd.srcI (P := Try.prog) (h0) Try.underlying25
   refine VO.app 103 rfl rfl rfl tsl25 tz5 rfl rfl hM4 hA4 (hS4 _ 0 rfl) hR4.nice bdm bd (by decide) (fun v4 m4 hN4 => ?_)
   have ho4 : OwnL .byte m4 mnil v4 (d0) := OwnL.more hC4 hN4 (All2c.mono hR4 fun _ _ h => Rd.flat rfl h _)
   obtain ⟨A4, c4, rfl, l4, k4⟩ := ho4.slice
   simp only [maxLen] at k4
   refine VO.as ?_
   refine VO.kp [103, 0] [(103, m4), (0, wm W)] ?_
   refine VO.k3 0 2 4 (VC.ret ?_)
   refine ⟨_, _, res_run (rs := [.tmp 2]) rfl (.tmp rfl .nil), fun W_ hI => out_of (l := [m4]) hI [103] rfl rfl (mle_refl _) (fun hS_ => ?_)⟩
   dsimp only [packV]
   have he0 : (d0 : Ty.Den (.sl .byte)) = d0 := by first | rfl | (exact clone_nil' h0 ‹_ = none›)
   refine ⟨Value.slice A4 ((d0).length) (c4), ?_, ?_⟩
   rotate_left
   · rw [he0]; exact (Ow.up (OwnL.ow ho4 rfl) (hS_.1 _ (.head _)))
   all_goals (first | rfl | (simp [*]; done))
theorem fAppend_ok (W : World) {v0 : Value} {d0 : List UInt8} (h0 : Rd (.sl .byte) (wm W) [v0] d0) {v1 : Value} {d1 : List UInt8} (h1 : Rd (.sl .byte) (wm W) [v1] d1) (e0 : d0.length ≤ 140737488000000) : CallR Try.prog 55 [v0, v1] W (mnil) (fun v m' => ∃ (s0 : Value), v = .tuple #[s0, .int .i64 ((fAppend d0 d1).2)] ∧ Ow (.sl .byte) m' [s0] ((fAppend d0 d1).1)) := by
 obtain ⟨A0, c0, rfl, l0, k0⟩ := h0.slice
 simp only [maxLen] at k0
 obtain ⟨A1, c1, rfl, l1, k1⟩ := h1.slice
 simp only [maxLen] at k1
 refine CallR.ofA (n := 16) Try.func55 rfl rfl rfl ?_
 refine VC.rs (VO.as (VO.as (VO.k4 0 1 4 5 (VC.seq (VC.rs (VO.mv ?_))))))
 refine VO.y rfl (.lenS rfl tsl25) ?_
 refine VO.y rfl (.gtr rfl rfl) (VO.k5 0 1 4 5 8 ?_)
 refine VC.cond rfl (fun hc1 => ?_) (fun hc1 => ?_)
 · refine VC.rs (VO.as (VO.as ?_))
   refine VO.kp [0] [(0, wm W)] ?_
   refine VO.k5 0 1 4 5 8 (VC.ret (outR ?_))
   refine ⟨_, _, res_run (rs := [.tmp 4, .tmp 5]) rfl (.tmp rfl (.tmp rfl .nil)), fun W_ hI => out_of (l := []) hI [] rfl rfl (mle_refl _) (fun hS_ => ?_)⟩
   dsimp only [packV]
   have he0 : ((fAppend d0 d1).1 : Ty.Den (.sl .byte)) = [] := by first | rfl | (first | (rw [fAppend_long (by omega)] <;> rfl) | (rw [fAppend_good (by omega)] <;> first | rfl | (simp only [fEnc, List.append_assoc, Int.toNat_natCast, List.nil_append]; done)))
   refine ⟨Value.slice none (0) (0), ?_, ?_⟩
   rotate_left
   · rw [he0]; exact (Ow.nil _ _)
   all_goals (first | rfl | (first | (rw [fAppend_long (by omega)] <;> rfl) | (rw [fAppend_good (by omega)] <;> first | rfl | (simp only [fEnc, List.append_assoc, Int.toNat_natCast, List.nil_append]; done))))
 · refine VC.skip (outN (VC.rs (VO.mv (VO.mv ?_))))
   refine VO.y rfl (.lenS rfl tsl25) ?_
   refine VO.y rfl (.cvI rfl ⟨_, Try.underlying3⟩ Try.underlying82 (IntWalk.u64_in _ bd)) ?_
   refine VO.callN 102 rfl fnOk54 rfl (fun W hW => vAppend_ok W (Rd.mono h0 (hW.at (i := 0) rfl)) d1.length bd bd) (fun v2 m2 hv2 => ?_)
   obtain ⟨s2_0, rfl, f2_0⟩ := hv2
   have hfa3 := venc_len (x := d1.length) (by first | omega | exact or64 (by assumption) _)
   obtain ⟨A2_0, c2_0, eq2_0, l2_0, k2_0⟩ := f2_0.slice
   subst eq2_0
   simp only [maxLen] at k2_0
   refine VO.mv ?_
   obtain ⟨mo4, cs4, hM4, hA4, hC4⟩ := (Ow.ownl f2_0 rfl mnil)
   obtain ⟨all4, hS4, hR4⟩ := Rd.srcI (P := Try.prog) (h1) Try.underlying25
   refine VO.app 102 rfl rfl rfl tsl25 tz5 rfl rfl hM4 hA4 (hS4 _ 0 rfl) hR4.nice bdm bd (by decide) (fun v4 m4 hN4 => ?_)
   have ho4 : OwnL .byte m4 mnil v4 ((d0 ++ venc d1.length) ++ d1) := OwnL.more hC4 hN4 (All2c.mono hR4 fun _ _ h => Rd.flat rfl h _)
   obtain ⟨A4, c4, rfl, l4, k4⟩ := ho4.slice
   simp only [maxLen] at k4
   refine VO.as (VO.as ?_)
   refine VO.kp [102, 0] [(102, m4), (0, wm W)] ?_
   refine VO.k5 0 1 4 5 8 (VC.ret ?_)
   refine ⟨_, _, res_run (rs := [.tmp 4, .tmp 5]) rfl (.tmp rfl (.tmp rfl .nil)), fun W_ hI => out_of (l := [m4]) hI [102] rfl rfl (mle_refl _) (fun hS_ => ?_)⟩
   dsimp only [packV]
   have he0 : ((fAppend d0 d1).1 : Ty.Den (.sl .byte)) = (d0 ++ venc d1.length) ++ d1 := by first | rfl | (first | (rw [fAppend_long (by omega)] <;> rfl) | (rw [fAppend_good (by omega)] <;> first | rfl | (simp only [fEnc, List.append_assoc, Int.toNat_natCast, List.nil_append]; done)))
   refine ⟨Value.slice A4 (((d0 ++ venc d1.length) ++ d1).length) (c4), ?_, ?_⟩
   rotate_left
   · rw [he0]; exact (Ow.up (OwnL.ow ho4 rfl) (hS_.1 _ (.head _)))
   all_goals (first | rfl | (first | (rw [fAppend_long (by omega)] <;> rfl) | (rw [fAppend_good (by omega)] <;> first | rfl | (simp only [fEnc, List.append_assoc, Int.toNat_natCast, List.nil_append]; done))))
theorem f9Append_ok (W : World) {v0 : Value} {d0 : List UInt8} (h0 : Rd (.sl .byte) (wm W) [v0] d0) {v1 : Value} {d1 : List UInt8} (h1 : Rd (.sl .byte) (wm W) [v1] d1) (e0 : d0.length ≤ 140737488000000) : CallR Try.prog 58 [v0, v1] W (mnil) (fun v m' => ∃ (s0 : Value), v = .tuple #[s0, .int .i64 ((fAppend d0 d1).2)] ∧ Ow (.sl .byte) m' [s0] ((fAppend d0 d1).1)) := by
 obtain ⟨A0, c0, rfl, l0, k0⟩ := h0.slice
 simp only [maxLen] at k0
 obtain ⟨A1, c1, rfl, l1, k1⟩ := h1.slice
 simp only [maxLen] at k1
 refine CallR.ofA (n := 17) Try.func58 rfl rfl rfl ?_
 refine VC.rs (VO.as (VO.as (VO.k4 0 1 4 5 (VC.seq (VC.rs (VO.mv ?_))))))
 refine VO.y rfl (.lenS rfl tsl25) ?_
 refine VO.y rfl (.gtr rfl rfl) (VO.k5 0 1 4 5 9 ?_)
 refine VC.cond rfl (fun hc1 => ?_) (fun hc1 => ?_)
 · refine VC.rs (VO.as (VO.as ?_))
   refine VO.kp [0] [(0, wm W)] ?_
   refine VO.k5 0 1 4 5 9 (VC.ret (outR ?_))
   refine ⟨_, _, res_run (rs := [.tmp 4, .tmp 5]) rfl (.tmp rfl (.tmp rfl .nil)), fun W_ hI => out_of (l := []) hI [] rfl rfl (mle_refl _) (fun hS_ => ?_)⟩
   dsimp only [packV]
   have he0 : ((fAppend d0 d1).1 : Ty.Den (.sl .byte)) = [] := by first | rfl | (first | (rw [fAppend_long (by omega)] <;> rfl) | (rw [fAppend_good (by omega)] <;> first | rfl | (simp only [fEnc, List.append_assoc, Int.toNat_natCast, List.nil_append]; done)))
   refine ⟨Value.slice none (0) (0), ?_, ?_⟩
   rotate_left
   · rw [he0]; exact (Ow.nil _ _)
   all_goals (first | rfl | (first | (rw [fAppend_long (by omega)] <;> rfl) | (rw [fAppend_good (by omega)] <;> first | rfl | (simp only [fEnc, List.append_assoc, Int.toNat_natCast, List.nil_append]; done))))
 · refine VC.skip (outN (VC.rs (VO.mv (VO.mv ?_))))
   refine VO.y rfl (.lenS rfl tsl25) ?_
   refine VO.callN 102 rfl fnOk57 rfl (fun W hW => rPut_ok W (Rd.mono h0 (hW.at (i := 0) rfl)) ((d1.length : Nat) : Int) bdk bd bd) (fun v2 m2 hv2 => ?_)
   obtain ⟨s2_0, rfl, f2_0⟩ := hv2
   have hfa3 := venc_len (x := ((d1.length : Nat) : Int).toNat) (by omega)
   obtain ⟨A2_0, c2_0, eq2_0, l2_0, k2_0⟩ := f2_0.slice
   subst eq2_0
   simp only [maxLen] at k2_0
   refine VO.as ?_
   refine VO.kp [102, 0] [(102, m2), (0, wm W)] ?_
   refine VO.k6 0 1 4 5 6 9 (VC.rs (VO.mv (VO.mv ?_)))
   obtain ⟨mo4, cs4, hM4, hA4, hC4⟩ := (Ow.ownl f2_0 rfl mnil)
   obtain ⟨all4, hS4, hR4⟩ := Rd.srcI (P := Try.prog) (h1) Try.underlying25
   refine VO.app 102 rfl rfl rfl tsl25 tz5 rfl rfl hM4 hA4 (hS4 _ 0 rfl) hR4.nice bdm bd (by decide) (fun v4 m4 hN4 => ?_)
   have ho4 : OwnL .byte m4 mnil v4 ((d0 ++ venc ((d1.length : Nat) : Int).toNat) ++ d1) := OwnL.more hC4 hN4 (All2c.mono hR4 fun _ _ h => Rd.flat rfl h _)
   obtain ⟨A4, c4, rfl, l4, k4⟩ := ho4.slice
   simp only [maxLen] at k4
   refine VO.as (VO.as (VO.k6 0 1 4 5 6 9 (VC.ret ?_)))
   refine ⟨_, _, res_run (rs := [.tmp 4, .tmp 5]) rfl (.tmp rfl (.tmp rfl .nil)), fun W_ hI => out_of (l := [m4]) hI [102] rfl rfl (mle_refl _) (fun hS_ => ?_)⟩
   dsimp only [packV]
   have he0 : ((fAppend d0 d1).1 : Ty.Den (.sl .byte)) = (d0 ++ venc ((d1.length : Nat) : Int).toNat) ++ d1 := by first | rfl | (first | (rw [fAppend_long (by omega)] <;> rfl) | (rw [fAppend_good (by omega)] <;> first | rfl | (simp only [fEnc, List.append_assoc, Int.toNat_natCast, List.nil_append]; done)))
   refine ⟨Value.slice A4 (((d0 ++ venc ((d1.length : Nat) : Int).toNat) ++ d1).length) (c4), ?_, ?_⟩
   rotate_left
   · rw [he0]; exact (Ow.up (OwnL.ow ho4 rfl) (hS_.1 _ (.head _)))
   all_goals (first | rfl | (first | (rw [fAppend_long (by omega)] <;> rfl) | (rw [fAppend_good (by omega)] <;> first | rfl | (simp only [fEnc, List.append_assoc, Int.toNat_natCast, List.nil_append]; done))))
theorem fWhole_ok (W : World) {v0 : Value} {d0 : List UInt8} (h0 : Rd (.sl .byte) (wm W) [v0] d0) : CallR Try.prog 109 [v0] W (mnil) (fun v m' => v = .tuple #[.int .i64 ((fWhole d0).1), .int .i64 ((fWhole d0).2.1), .bool ((fWhole d0).2.2)]) := by
 obtain ⟨A0, c0, rfl, l0, k0⟩ := h0.slice
 simp only [maxLen] at k0
 refine CallR.ofA (n := 28) Try.func109 rfl rfl rfl ?_
 refine VC.rs (VO.as (VO.as (VO.as (VO.k4 0 2 3 4 (VC.rs (VO.mv ?_))))))
 refine VO.callN 101 rfl fnOk111 rfl (fun W hW => vSmall_ok W (Rd.mono h0 (hW.at (i := 0) rfl)) 131072 bdk) (fun v1 m1 hv1 => ?_)
 subst hv1
 have hfa2 := s_bounds d0 131072 (by omega)
 refine VO.mv (VO.y rfl (.ext rfl rfl) (VO.y rfl (.ext rfl rfl) (VO.y rfl (.ext rfl rfl) (VO.as (VO.as (VO.as (VO.k7 0 2 3 4 5 6 7 (VC.seq (VC.rs (VO.mv (VO.y rfl (.neq rfl rfl) ?_)))))))))))
 refine VO.mv ?_
 refine VO.dec (t := 16) rfl (fun hc3 => ?_) (fun hc3 => ?_)
 · refine VO.gN (VO.gN (VO.gN (VO.gN (VO.gN (VO.gN (VO.y rfl (.pT rfl rfl) ?_))))))
   refine VO.kp [0] [(0, wm W)] ?_
   refine VO.k8 0 2 3 4 5 6 7 23 (VC.condT rfl (VC.rs (VO.as (VO.as (VO.as (VO.k8 0 2 3 4 5 6 7 23 (VC.ret (outR ?_))))))))
   refine ⟨_, _, res_run (rs := [.tmp 2, .tmp 3, .tmp 4]) rfl (.tmp rfl (.tmp rfl (.tmp rfl .nil))), fun W_ hI => out_of (l := []) hI [] rfl rfl (mle_refl _) (fun hS_ => ?_)⟩
   dsimp only [packV]
   all_goals (first | rfl | (first | (rw [whole_no1 (by assumption)] <;> rfl) | (rw [whole_no2 (by omega)] <;> rfl) | (rw [whole_yes (by assumption) (by omega)] <;> rfl)))
 refine VO.gy rfl ⟨_, rfl, rfl⟩ (.mv rfl) ?_
 refine VO.gy rfl ⟨_, rfl, rfl⟩ (.lenS rfl tsl25) ?_
 refine VO.gy rfl ⟨_, rfl, rfl⟩ (.mv rfl) ?_
 refine VO.gy rfl ⟨_, rfl, rfl⟩ (.sub rfl rfl rfl ⟨bd, bd⟩) ?_
 refine VO.gy rfl ⟨_, rfl, rfl⟩ (.mv rfl) (VO.gy rfl ⟨_, rfl, rfl⟩ (.lss rfl rfl) (VO.y rfl (.pF rfl rfl) ?_))
 refine VO.kp [0] [(0, wm W)] ?_
 refine VO.k8 0 2 3 4 5 6 7 23 ?_
 refine VC.cond rfl (fun hc4 => ?_) (fun hc4 => ?_)
 · refine VC.rs (VO.as (VO.as (VO.as (VO.k8 0 2 3 4 5 6 7 23 (VC.ret (outR ?_))))))
   refine ⟨_, _, res_run (rs := [.tmp 2, .tmp 3, .tmp 4]) rfl (.tmp rfl (.tmp rfl (.tmp rfl .nil))), fun W_ hI => out_of (l := []) hI [] rfl rfl (mle_refl _) (fun hS_ => ?_)⟩
   dsimp only [packV]
   all_goals (first | rfl | (first | (rw [whole_no1 (by assumption)] <;> rfl) | (rw [whole_no2 (by omega)] <;> rfl) | (rw [whole_yes (by assumption) (by omega)] <;> rfl)))
 · refine VC.skip (outN (VC.rs (VO.mv (VO.mv (VO.mv ?_)))))
   refine VO.y rfl (.add (c := ((sN d0 131072 + (sX d0 131072) : Nat) : Int)) rfl rfl (by omega) ⟨bd, bd⟩) ?_
   refine VO.as (VO.as (VO.as (VO.k8 0 2 3 4 5 6 7 23 (VC.ret ?_))))
   refine ⟨_, _, res_run (rs := [.tmp 2, .tmp 3, .tmp 4]) rfl (.tmp rfl (.tmp rfl (.tmp rfl .nil))), fun W_ hI => out_of (l := []) hI [] rfl rfl (mle_refl _) (fun hS_ => ?_)⟩
   dsimp only [packV]
   all_goals (first | rfl | (first | (rw [whole_no1 (by assumption)] <;> rfl) | (rw [whole_no2 (by omega)] <;> rfl) | (rw [whole_yes (by assumption) (by omega)] <;> rfl)))
theorem fRead_ok (W : World) {v0 : Value} {d0 : List UInt8} (h0 : Rd (.sl .byte) (wm W) [v0] d0) : CallR Try.prog 91 [v0] W (mnil) (fun v m' => ∃ (s0 : Value), v = .tuple #[s0, .int .i64 ((fRead d0).2.1), .int .i64 ((fRead d0).2.2)] ∧ Ow (.sl .byte) m' [s0] ((fRead d0).1)) := by
 obtain ⟨A0, c0, rfl, l0, k0⟩ := h0.slice
 simp only [maxLen] at k0
 refine CallR.ofA (n := 22) Try.func91 rfl rfl rfl ?_
 refine VC.rs (VO.as (VO.as (VO.as (VO.k4 0 2 3 4 (VC.rs (VO.mv ?_))))))
 refine VO.callN 101 rfl fnOk109 rfl (fun W hW => fWhole_ok W (Rd.mono h0 (hW.at (i := 0) rfl))) (fun v1 m1 hv1 => ?_)
 subst hv1
 have hfa2 := fWhole_bounds d0
 refine VO.mv (VO.y rfl (.ext rfl rfl) (VO.y rfl (.ext rfl rfl) (VO.y rfl (.ext rfl rfl) (VO.as (VO.as (VO.as (VO.k7 0 2 3 4 5 6 7 (VC.seq (VC.rs (VO.mv (VO.y rfl (.not rfl) ?_)))))))))))
 refine VO.kp [0] [(0, wm W)] ?_
 refine VO.k8 0 2 3 4 5 6 7 15 ?_
 refine VC.condBN rfl (fun hc3 => ?_) (fun hc3 => ?_)
 · refine VC.rs (VO.as (VO.as (VO.as (VO.k8 0 2 3 4 5 6 7 15 (VC.ret (outR ?_))))))
   refine ⟨_, _, res_run (rs := [.tmp 2, .tmp 3, .tmp 4]) rfl (.tmp rfl (.tmp rfl (.tmp rfl .nil))), fun W_ hI => out_of (l := []) hI [] rfl rfl (mle_refl _) (fun hS_ => ?_)⟩
   dsimp only [packV]
   have he0 : ((fRead d0).1 : Ty.Den (.sl .byte)) = [] := by first | rfl | (first | (rw [fRead_bad (by first | assumption | simpa using ‹_›)] <;> rfl) | (rw [fRead_good (by first | assumption | simpa using ‹_›)] <;> rfl))
   refine ⟨Value.slice none (0) (0), ?_, ?_⟩
   rotate_left
   · rw [he0]; exact (Ow.nil _ _)
   all_goals (first | rfl | (first | (rw [fRead_bad (by first | assumption | simpa using ‹_›)] <;> rfl) | (rw [fRead_good (by first | assumption | simpa using ‹_›)] <;> rfl)))
 · refine VC.skip (outN (VC.rs (VO.mv (VO.mv (VO.mv ?_)))))
   obtain ⟨A4, hA4, hs4⟩ := h0.sub' 1 (((fWhole d0).1).toNat) (((fWhole d0).2.1).toNat) rfl bd bd
   refine VO.y rfl (.slI (((fWhole d0).1).toNat) (((fWhole d0).2.1).toNat) A4 rfl rfl rfl tsl25 bd bd hA4 bd bd) ?_
   refine VO.callN 105 rfl fnOk110 rfl (fun W hW => cloneB_ok W (Rd.mono hs4 (hW.at (i := 0) rfl)) bd) (fun v5 m5 hv5 => ?_)
   obtain ⟨s5_0, rfl, f5_0⟩ := hv5
   obtain ⟨A5_0, c5_0, eq5_0, l5_0, k5_0⟩ := f5_0.slice
   subst eq5_0
   simp only [maxLen] at k5_0
   refine VO.mv (VO.as (VO.as (VO.as (VO.k8 0 2 3 4 5 6 7 15 (VC.ret ?_)))))
   refine ⟨_, _, res_run (rs := [.tmp 2, .tmp 3, .tmp 4]) rfl (.tmp rfl (.tmp rfl (.tmp rfl .nil))), fun W_ hI => out_of (l := [m5]) hI [105] rfl rfl (mle_refl _) (fun hS_ => ?_)⟩
   dsimp only [packV]
   have he0 : ((fRead d0).1 : Ty.Den (.sl .byte)) = ((d0.take (((fWhole d0).2.1).toNat)).drop (((fWhole d0).1).toNat)) := by first | rfl | (first | (rw [fRead_bad (by first | assumption | simpa using ‹_›)] <;> rfl) | (rw [fRead_good (by first | assumption | simpa using ‹_›)] <;> rfl))
   refine ⟨Value.slice A5_0 (((d0.take (((fWhole d0).2.1).toNat)).drop (((fWhole d0).1).toNat)).length) (c5_0), ?_, ?_⟩
   rotate_left
   · rw [he0]; exact (Ow.up (OwnL.ow (Ow.ownl f5_0 rfl mnil) rfl) (hS_.1 _ (.head _)))
   all_goals (first | rfl | (first | (rw [fRead_bad (by first | assumption | simpa using ‹_›)] <;> rfl) | (rw [fRead_good (by first | assumption | simpa using ‹_›)] <;> rfl)))
theorem c12Frame_ok (W : World) {v0 : List Value} {d0 : DCommit} (h0 : Rd TCommit (wm W) v0 d0) : CallR Try.prog 59 [.agg v0.toArray] W (mnil) (fun v m' => ∃ (s0 : Value), v = s0 ∧ Ow (.sl .byte) m' [s0] (frameC d0)) := by
 obtain ⟨p0_A2, p0_c2, rfl, p0_0, p0_1, p0_2⟩ := open_Commit (x0 := d0.1) (x1 := d0.2.1) (x2 := d0.2.2) h0
 simp only [inK] at p0_0 p0_1
 have p0_r2 := Rd.room p0_2
 refine CallR.ofA (n := 18) Try.func59 rfl rfl rfl ?_
 refine VC.rs ?_
 refine VO.box (cs := [.int .i64 (d0.1), .int .i64 (d0.2.1), .slice p0_A2 (d0.2.2.length) (p0_c2)]) 102 rfl rfl rfl (fun g1 => ?_)
 refine VO.as (VO.k3 0 1 2 (VC.rs (VO.y rfl (.ldA 102 rfl tk32 rfl (cellsAt_one rfl rfl)) ?_)))
 refine VO.callN 103 rfl fnOk90 rfl (fun W hW => c4Encode_ok W (Rd.mono h0 (hW.at (i := 0) rfl))) (fun v3 m3 hv3 => ?_)
 obtain ⟨s3_0, rfl, f3_0⟩ := hv3
 have hfa4 := cEncode_len d0
 obtain ⟨A3_0, c3_0, eq3_0, l3_0, k3_0⟩ := f3_0.slice
 subst eq3_0
 simp only [maxLen] at k3_0
 refine VO.mv (VO.y rfl (.ext rfl rfl) (VO.y rfl (.ext rfl rfl) (VO.as (VO.as (VO.k4 0 1 2 3 (VC.rs (VO.mv ?_)))))))
 refine VO.callN 105 rfl fnOk58 rfl (fun W hW => f9Append_ok W (Rd.nil _ _ none 0 (Nat.zero_le _)) (OwnL.rd (Ow.ownl f3_0 rfl mnil) (hW.at (i := 103) rfl) (mle_nil _)) bd) (fun v5 m5 hv5 => ?_)
 obtain ⟨s5_0, rfl, f5_0⟩ := hv5
 have hfa6 := fAppend_len [] ((cEncode d0).1)
 have hfa7 := fAppend_range [] ((cEncode d0).1)
 obtain ⟨A5_0, c5_0, eq5_0, l5_0, k5_0⟩ := f5_0.slice
 subst eq5_0
 simp only [maxLen] at k5_0
 refine VO.mv (VO.y rfl (.ext rfl rfl) (VO.y rfl (.ext rfl rfl) (VO.as (VO.as ?_))))
 refine VO.kp [105, 103, 102, 0] [(105, m5), (103, m3), (102, mone g1 (.cells #[.int .i64 (d0.1), .int .i64 (d0.2.1), .slice p0_A2 (d0.2.2.length) (p0_c2)] 32 (0, 0))), (0, wm W)] ?_
 refine VO.k5 0 1 2 3 5 (VC.rs (VO.mv (VO.as (VO.k5 0 1 2 3 5 (VC.ret ?_)))))
 refine ⟨_, _, res_run (rs := [.tmp 2]) rfl (.tmp rfl .nil), fun W_ hI => out_of (l := [m5]) hI [105] rfl rfl (mle_refl _) (fun hS_ => ?_)⟩
 dsimp only [packV]
 have he0 : (frameC d0 : Ty.Den (.sl .byte)) = (fAppend [] ((cEncode d0).1)).1 := by first | rfl | (simp [*]; done)
 refine ⟨Value.slice A5_0 (((fAppend [] ((cEncode d0).1)).1).length) (c5_0), ?_, ?_⟩
 rotate_left
 · rw [he0]; exact (Ow.up (OwnL.ow (Ow.ownl f5_0 rfl mnil) rfl) (hS_.1 _ (.head _)))
 all_goals (first | rfl | (simp [*]; done))
end
section
set_option linter.unusedVariables false
abbrev Tdiskstep : Ty := .pair (.int .i64) (.pair (.int .i64) (.pair (.sl .byte) (.int .i64)))
abbrev Ddiskstep := Int × Int × (List UInt8) × Int
instance decdiskstep : DecidableEq Ddiskstep := (@instDecidableEqProd _ _ inferInstance (@instDecidableEqProd _ _ inferInstance (@instDecidableEqProd _ _ inferInstance inferInstance)))
theorem open_diskstep {m : Mem} {cs : List Value} {x0 : Int} {x1 : Int} {x2 : List UInt8} {x3 : Int} (h : Rd Tdiskstep m cs (x0, x1, x2, x3)) : ∃ (A2 : Option Addr), ∃ (c2 : Nat), cs = [(.int .i64 x0 : Value), .int .i64 x1, .slice A2 x2.length c2, .int .i64 x3] ∧ inK .i64 x0 ∧ inK .i64 x1 ∧ Rd (.sl .byte) m [.slice A2 x2.length c2] x2 ∧ inK .i64 x3 := by
  obtain ⟨p1, q1, rfl, u1, w1⟩ := Rd.pair h
  obtain ⟨rfl, z2⟩ := (show _ = _ ∧ _ from u1)
  obtain ⟨p3, q3, rfl, u3, w3⟩ := Rd.pair w1
  obtain ⟨rfl, z4⟩ := (show _ = _ ∧ _ from u3)
  obtain ⟨p5, q5, rfl, u5, w5⟩ := Rd.pair w3
  have z6 := u5
  obtain ⟨A6, c6, rfl, _⟩ := Rd.slice1 u5
  obtain ⟨rfl, z7⟩ := (show _ = _ ∧ _ from w5)
  exact ⟨A6, c6, rfl, z2, z4, z6, z7⟩
theorem mk_diskstep {m : Mem} (x0 : Int) (x1 : Int) (x2 : List UInt8) (x3 : Int) (h0 : inK .i64 x0) (h1 : inK .i64 x1) {v2 : Value} (h2 : Rd (.sl .byte) m [v2] x2) (h3 : inK .i64 x3) : Rd Tdiskstep m [.int .i64 x0, .int .i64 x1, v2, .int .i64 x3] (x0, x1, x2, x3) := (Rd.mkPair (c1 := [_]) (show Rd (.int .i64) m [_] _ from ⟨rfl, h0⟩) (Rd.mkPair (c1 := [_]) (show Rd (.int .i64) m [_] _ from ⟨rfl, h1⟩) (Rd.mkPair (c1 := [_]) h2 (show Rd (.int .i64) m [_] _ from ⟨rfl, h3⟩))))
theorem mkO_diskstep {m : Mem} {n2 : Mem} (x0 : Int) (x1 : Int) (x2 : List UInt8) (x3 : Int) (hS : Seps m [n2]) (h0 : inK .i64 x0) (h1 : inK .i64 x1) {v2 : Value} (h2 : Ow (.sl .byte) n2 [v2] x2) (h3 : inK .i64 x3) : Ow Tdiskstep m [.int .i64 x0, .int .i64 x1, v2, .int .i64 x3] (x0, x1, x2, x3) := by
  obtain ⟨e1, la1, lb1, Sa1, Sb1⟩ := Seps.cut (l := []) (r := [n2]) hS
  obtain ⟨e2, la2, lb2, Sa2, Sb2⟩ := Seps.cut (l := []) (r := [n2]) Sb1
  obtain ⟨e3, la3, lb3, Sa3, Sb3⟩ := Seps.cut (l := [n2]) (r := []) Sb2
  exact (Ow.mkPair (c1 := [_]) e1 la1 lb1 (show Ow (.int .i64) _ [_] _ from ⟨rfl, h0⟩) (Ow.mkPair (c1 := [_]) e2 la2 lb2 (show Ow (.int .i64) _ [_] _ from ⟨rfl, h1⟩) (Ow.mkPair (c1 := [_]) e3 la3 lb3 (h2.up (Sa3.1 _ (.head _))) (show Ow (.int .i64) _ [_] _ from ⟨rfl, h3⟩))))
abbrev TdiskDisk : Ty := .pair .bool (.pair .bool (.pair .bool (.pair (.int .i64) (.pair (.int .i64) (.pair (.pair (.sl .byte) (.pair (.sl .byte) (.pair (.sl .byte) (.sl .byte)))) (.sl Tdiskstep))))))
abbrev DdiskDisk := Bool × Bool × Bool × Int × Int × ((List UInt8) × (List UInt8) × (List UInt8) × (List UInt8)) × (List Ddiskstep)
instance decdiskDisk : DecidableEq DdiskDisk := (@instDecidableEqProd _ _ inferInstance (@instDecidableEqProd _ _ inferInstance (@instDecidableEqProd _ _ inferInstance (@instDecidableEqProd _ _ inferInstance (@instDecidableEqProd _ _ inferInstance (@instDecidableEqProd _ _ (@instDecidableEqProd _ _ inferInstance (@instDecidableEqProd _ _ inferInstance (@instDecidableEqProd _ _ inferInstance inferInstance))) inferInstance))))))
theorem openO_diskDisk {m : Mem} {cs : List Value} {x0 : Bool} {x1 : Bool} {x2 : Bool} {x3 : Int} {x4 : Int} {x5 : List UInt8} {x6 : List UInt8} {x7 : List UInt8} {x8 : List UInt8} {x9 : List Ddiskstep} (h : Ow TdiskDisk m cs (x0, x1, x2, x3, x4, (x5, x6, x7, x8), x9)) : ∃ (A5 : Option Addr), ∃ (c5 : Nat), ∃ (A6 : Option Addr), ∃ (c6 : Nat), ∃ (A7 : Option Addr), ∃ (c7 : Nat), ∃ (A8 : Option Addr), ∃ (c8 : Nat), ∃ (A9 : Option Addr), ∃ (c9 : Nat), ∃ (n5 : Mem), ∃ (n6 : Mem), ∃ (n7 : Mem), ∃ (n8 : Mem), ∃ (n9 : Mem), cs = [(.bool x0 : Value), .bool x1, .bool x2, .int .i64 x3, .int .i64 x4, .slice A5 x5.length c5, .slice A6 x6.length c6, .slice A7 x7.length c7, .slice A8 x8.length c8, .slice A9 x9.length c9] ∧ Seps m [n5, n6, n7, n8, n9] ∧ inK .i64 x3 ∧ inK .i64 x4 ∧ Ow (.sl .byte) n5 [.slice A5 x5.length c5] x5 ∧ Ow (.sl .byte) n6 [.slice A6 x6.length c6] x6 ∧ Ow (.sl .byte) n7 [.slice A7 x7.length c7] x7 ∧ Ow (.sl .byte) n8 [.slice A8 x8.length c8] x8 ∧ Ow (.sl Tdiskstep) n9 [.slice A9 x9.length c9] x9 := by
  obtain ⟨p1, q1, ma1, mb1, rfl, dj1, la1, lb1, u1, w1⟩ := Ow.pair h
  obtain rfl := (show _ = _ from u1)
  obtain ⟨p3, q3, ma3, mb3, rfl, dj3, la3, lb3, u3, w3⟩ := Ow.pair w1
  obtain rfl := (show _ = _ from u3)
  obtain ⟨p5, q5, ma5, mb5, rfl, dj5, la5, lb5, u5, w5⟩ := Ow.pair w3
  obtain rfl := (show _ = _ from u5)
  obtain ⟨p7, q7, ma7, mb7, rfl, dj7, la7, lb7, u7, w7⟩ := Ow.pair w5
  obtain ⟨rfl, z8⟩ := (show _ = _ ∧ _ from u7)
  obtain ⟨p9, q9, ma9, mb9, rfl, dj9, la9, lb9, u9, w9⟩ := Ow.pair w7
  obtain ⟨rfl, z10⟩ := (show _ = _ ∧ _ from u9)
  obtain ⟨p11, q11, ma11, mb11, rfl, dj11, la11, lb11, u11, w11⟩ := Ow.pair w9
  obtain ⟨p12, q12, ma12, mb12, rfl, dj12, la12, lb12, u12, w12⟩ := Ow.pair u11
  have z13 := u12
  obtain ⟨A13, c13, rfl, _⟩ := Ow.slice1 u12
  obtain ⟨p14, q14, ma14, mb14, rfl, dj14, la14, lb14, u14, w14⟩ := Ow.pair w12
  have z15 := u14
  obtain ⟨A15, c15, rfl, _⟩ := Ow.slice1 u14
  obtain ⟨p16, q16, ma16, mb16, rfl, dj16, la16, lb16, u16, w16⟩ := Ow.pair w14
  have z17 := u16
  obtain ⟨A17, c17, rfl, _⟩ := Ow.slice1 u16
  have z18 := w16
  obtain ⟨A18, c18, rfl, _⟩ := Ow.slice1 w16
  have z19 := w11
  obtain ⟨A19, c19, rfl, _⟩ := Ow.slice1 w11
  exact ⟨A13, c13, A15, c15, A17, c17, A18, c18, A19, c19, _, _, _, _, _, rfl, (Seps.app dj1 la1 lb1 (Seps.nil _) (Seps.app dj3 la3 lb3 (Seps.nil _) (Seps.app dj5 la5 lb5 (Seps.nil _) (Seps.app dj7 la7 lb7 (Seps.nil _) (Seps.app dj9 la9 lb9 (Seps.nil _) (Seps.app dj11 la11 lb11 (Seps.app dj12 la12 lb12 (Seps.one (mle_refl _)) (Seps.app dj14 la14 lb14 (Seps.one (mle_refl _)) (Seps.app dj16 la16 lb16 (Seps.one (mle_refl _)) (Seps.one (mle_refl _))))) (Seps.one (mle_refl _)))))))), z8, z10, z13, z15, z17, z18, z19⟩
theorem mkO_diskDisk {m : Mem} {n5 n6 n7 n8 n9 : Mem} (x0 : Bool) (x1 : Bool) (x2 : Bool) (x3 : Int) (x4 : Int) (x5 : List UInt8) (x6 : List UInt8) (x7 : List UInt8) (x8 : List UInt8) (x9 : List Ddiskstep) (hS : Seps m [n5, n6, n7, n8, n9]) (h3 : inK .i64 x3) (h4 : inK .i64 x4) {v5 : Value} (h5 : Ow (.sl .byte) n5 [v5] x5) {v6 : Value} (h6 : Ow (.sl .byte) n6 [v6] x6) {v7 : Value} (h7 : Ow (.sl .byte) n7 [v7] x7) {v8 : Value} (h8 : Ow (.sl .byte) n8 [v8] x8) {v9 : Value} (h9 : Ow (.sl Tdiskstep) n9 [v9] x9) : Ow TdiskDisk m [.bool x0, .bool x1, .bool x2, .int .i64 x3, .int .i64 x4, v5, v6, v7, v8, v9] (x0, x1, x2, x3, x4, (x5, x6, x7, x8), x9) := by
  obtain ⟨e1, la1, lb1, Sa1, Sb1⟩ := Seps.cut (l := []) (r := [n5, n6, n7, n8, n9]) hS
  obtain ⟨e2, la2, lb2, Sa2, Sb2⟩ := Seps.cut (l := []) (r := [n5, n6, n7, n8, n9]) Sb1
  obtain ⟨e3, la3, lb3, Sa3, Sb3⟩ := Seps.cut (l := []) (r := [n5, n6, n7, n8, n9]) Sb2
  obtain ⟨e4, la4, lb4, Sa4, Sb4⟩ := Seps.cut (l := []) (r := [n5, n6, n7, n8, n9]) Sb3
  obtain ⟨e5, la5, lb5, Sa5, Sb5⟩ := Seps.cut (l := []) (r := [n5, n6, n7, n8, n9]) Sb4
  obtain ⟨e6, la6, lb6, Sa6, Sb6⟩ := Seps.cut (l := [n5, n6, n7, n8]) (r := [n9]) Sb5
  obtain ⟨e7, la7, lb7, Sa7, Sb7⟩ := Seps.cut (l := [n5]) (r := [n6, n7, n8]) Sa6
  obtain ⟨e8, la8, lb8, Sa8, Sb8⟩ := Seps.cut (l := [n6]) (r := [n7, n8]) Sb7
  obtain ⟨e9, la9, lb9, Sa9, Sb9⟩ := Seps.cut (l := [n7]) (r := [n8]) Sb8
  exact (Ow.mkPair (c1 := [_]) e1 la1 lb1 (show Ow .bool _ [_] _ from rfl) (Ow.mkPair (c1 := [_]) e2 la2 lb2 (show Ow .bool _ [_] _ from rfl) (Ow.mkPair (c1 := [_]) e3 la3 lb3 (show Ow .bool _ [_] _ from rfl) (Ow.mkPair (c1 := [_]) e4 la4 lb4 (show Ow (.int .i64) _ [_] _ from ⟨rfl, h3⟩) (Ow.mkPair (c1 := [_]) e5 la5 lb5 (show Ow (.int .i64) _ [_] _ from ⟨rfl, h4⟩) (Ow.mkPair (c1 := [_, _, _, _]) e6 la6 lb6 (Ow.mkPair (c1 := [_]) e7 la7 lb7 (h5.up (Sa7.1 _ (.head _))) (Ow.mkPair (c1 := [_]) e8 la8 lb8 (h6.up (Sa8.1 _ (.head _))) (Ow.mkPair (c1 := [_]) e9 la9 lb9 (h7.up (Sa9.1 _ (.head _))) (h8.up (Sb9.1 _ (.head _)))))) (h9.up (Sb6.1 _ (.head _)))))))))
theorem openP_diskDisk {m : Mem} {cs : List Value} {g : Nat} {x0 : Bool} {x1 : Bool} {x2 : Bool} {x3 : Int} {x4 : Int} {x5 : List UInt8} {x6 : List UInt8} {x7 : List UInt8} {x8 : List UInt8} {x9 : List Ddiskstep} (h : Ow (.ptr TdiskDisk) m cs (g, (x0, x1, x2, x3, x4, (x5, x6, x7, x8), x9))) : ∃ (E : TypeId), ∃ (A5 : Option Addr), ∃ (c5 : Nat), ∃ (A6 : Option Addr), ∃ (c6 : Nat), ∃ (A7 : Option Addr), ∃ (c7 : Nat), ∃ (A8 : Option Addr), ∃ (c8 : Nat), ∃ (A9 : Option Addr), ∃ (c9 : Nat), ∃ (n5 : Mem), ∃ (n6 : Mem), ∃ (n7 : Mem), ∃ (n8 : Mem), ∃ (n9 : Mem), cs = [.pointer (some ⟨g, 0, none⟩)] ∧ Seps m [mone g (.cells [(.bool x0 : Value), .bool x1, .bool x2, .int .i64 x3, .int .i64 x4, .slice A5 x5.length c5, .slice A6 x6.length c6, .slice A7 x7.length c7, .slice A8 x8.length c8, .slice A9 x9.length c9].toArray E (0, 0)), n5, n6, n7, n8, n9] ∧ inK .i64 x3 ∧ inK .i64 x4 ∧ Ow (.sl .byte) n5 [.slice A5 x5.length c5] x5 ∧ Ow (.sl .byte) n6 [.slice A6 x6.length c6] x6 ∧ Ow (.sl .byte) n7 [.slice A7 x7.length c7] x7 ∧ Ow (.sl .byte) n8 [.slice A8 x8.length c8] x8 ∧ Ow (.sl Tdiskstep) n9 [.slice A9 x9.length c9] x9 := by
  obtain ⟨rfl, rc, E, m1, hd, l0, l1, h1⟩ := Ow.opnP h
  obtain ⟨A5, c5, A6, c6, A7, c7, A8, c8, A9, c9, n5, n6, n7, n8, n9, rfl, hS, f3, f4, f5, f6, f7, f8, f9⟩ := openO_diskDisk h1
  exact ⟨E, A5, c5, A6, c6, A7, c7, A8, c8, A9, c9, n5, n6, n7, n8, n9, rfl, Seps.app hd l0 l1 (Seps.one (mle_refl _)) hS, f3, f4, f5, f6, f7, f8, f9⟩
theorem mkP_diskDisk {m : Mem} {g : Nat} {E : TypeId} {n5 n6 n7 n8 n9 : Mem}{v5 : Value}{v6 : Value}{v7 : Value}{v8 : Value}{v9 : Value} (x0 : Bool) (x1 : Bool) (x2 : Bool) (x3 : Int) (x4 : Int) (x5 : List UInt8) (x6 : List UInt8) (x7 : List UInt8) (x8 : List UInt8) (x9 : List Ddiskstep) (hS : Seps m [mone g (.cells [.bool x0, .bool x1, .bool x2, .int .i64 x3, .int .i64 x4, v5, v6, v7, v8, v9].toArray E (0, 0)), n5, n6, n7, n8, n9]) (h3 : inK .i64 x3) (h4 : inK .i64 x4) (h5 : Ow (.sl .byte) n5 [v5] x5) (h6 : Ow (.sl .byte) n6 [v6] x6) (h7 : Ow (.sl .byte) n7 [v7] x7) (h8 : Ow (.sl .byte) n8 [v8] x8) (h9 : Ow (.sl Tdiskstep) n9 [v9] x9) : Ow (.ptr TdiskDisk) m [.pointer (some ⟨g, 0, none⟩)] (g, (x0, x1, x2, x3, x4, (x5, x6, x7, x8), x9)) :=
  Ow.clsP hS fun hS => mkO_diskDisk x0 x1 x2 x3 x4 x5 x6 x7 x8 x9 hS h3 h4 h5 h6 h7 h8 h9
abbrev Tref05Raw : Ty := .pair (.int .i64) (.pair .bool (.pair (.int .i64) (.sl .byte)))
abbrev Dref05Raw := Int × Bool × Int × (List UInt8)
instance decref05Raw : DecidableEq Dref05Raw := (@instDecidableEqProd _ _ inferInstance (@instDecidableEqProd _ _ inferInstance (@instDecidableEqProd _ _ inferInstance inferInstance)))
theorem open_ref05Raw {m : Mem} {cs : List Value} {x0 : Int} {x1 : Bool} {x2 : Int} {x3 : List UInt8} (h : Rd Tref05Raw m cs (x0, x1, x2, x3)) : ∃ (A3 : Option Addr), ∃ (c3 : Nat), cs = [(.int .i64 x0 : Value), .bool x1, .int .i64 x2, .slice A3 x3.length c3] ∧ inK .i64 x0 ∧ inK .i64 x2 ∧ Rd (.sl .byte) m [.slice A3 x3.length c3] x3 := by
  obtain ⟨p1, q1, rfl, u1, w1⟩ := Rd.pair h
  obtain ⟨rfl, z2⟩ := (show _ = _ ∧ _ from u1)
  obtain ⟨p3, q3, rfl, u3, w3⟩ := Rd.pair w1
  obtain rfl := (show _ = _ from u3)
  obtain ⟨p5, q5, rfl, u5, w5⟩ := Rd.pair w3
  obtain ⟨rfl, z6⟩ := (show _ = _ ∧ _ from u5)
  have z7 := w5
  obtain ⟨A7, c7, rfl, _⟩ := Rd.slice1 w5
  exact ⟨A7, c7, rfl, z2, z6, z7⟩
theorem mk_ref05Raw {m : Mem} (x0 : Int) (x1 : Bool) (x2 : Int) (x3 : List UInt8) (h0 : inK .i64 x0) (h2 : inK .i64 x2) {v3 : Value} (h3 : Rd (.sl .byte) m [v3] x3) : Rd Tref05Raw m [.int .i64 x0, .bool x1, .int .i64 x2, v3] (x0, x1, x2, x3) := (Rd.mkPair (c1 := [_]) (show Rd (.int .i64) m [_] _ from ⟨rfl, h0⟩) (Rd.mkPair (c1 := [_]) (show Rd .bool m [_] _ from rfl) (Rd.mkPair (c1 := [_]) (show Rd (.int .i64) m [_] _ from ⟨rfl, h2⟩) h3)))
theorem mkO_ref05Raw {m : Mem} {n3 : Mem} (x0 : Int) (x1 : Bool) (x2 : Int) (x3 : List UInt8) (hS : Seps m [n3]) (h0 : inK .i64 x0) (h2 : inK .i64 x2) {v3 : Value} (h3 : Ow (.sl .byte) n3 [v3] x3) : Ow Tref05Raw m [.int .i64 x0, .bool x1, .int .i64 x2, v3] (x0, x1, x2, x3) := by
  obtain ⟨e1, la1, lb1, Sa1, Sb1⟩ := Seps.cut (l := []) (r := [n3]) hS
  obtain ⟨e2, la2, lb2, Sa2, Sb2⟩ := Seps.cut (l := []) (r := [n3]) Sb1
  obtain ⟨e3, la3, lb3, Sa3, Sb3⟩ := Seps.cut (l := []) (r := [n3]) Sb2
  exact (Ow.mkPair (c1 := [_]) e1 la1 lb1 (show Ow (.int .i64) _ [_] _ from ⟨rfl, h0⟩) (Ow.mkPair (c1 := [_]) e2 la2 lb2 (show Ow .bool _ [_] _ from rfl) (Ow.mkPair (c1 := [_]) e3 la3 lb3 (show Ow (.int .i64) _ [_] _ from ⟨rfl, h2⟩) (h3.up (Sb3.1 _ (.head _))))))
abbrev Tref05Disk : Ty := .pair .bool (.pair (.pair (.sl .byte) (.pair (.sl .byte) (.pair (.sl .byte) (.sl .byte)))) (.pair (.sl Tref05Raw) (.pair .bool (.pair .bool (.pair (.int .i64) (.int .i64))))))
abbrev Dref05Disk := Bool × ((List UInt8) × (List UInt8) × (List UInt8) × (List UInt8)) × (List Dref05Raw) × Bool × Bool × Int × Int
instance decref05Disk : DecidableEq Dref05Disk := (@instDecidableEqProd _ _ inferInstance (@instDecidableEqProd _ _ (@instDecidableEqProd _ _ inferInstance (@instDecidableEqProd _ _ inferInstance (@instDecidableEqProd _ _ inferInstance inferInstance))) (@instDecidableEqProd _ _ inferInstance (@instDecidableEqProd _ _ inferInstance (@instDecidableEqProd _ _ inferInstance (@instDecidableEqProd _ _ inferInstance inferInstance))))))
theorem openO_ref05Disk {m : Mem} {cs : List Value} {x0 : Bool} {x1 : List UInt8} {x2 : List UInt8} {x3 : List UInt8} {x4 : List UInt8} {x5 : List Dref05Raw} {x6 : Bool} {x7 : Bool} {x8 : Int} {x9 : Int} (h : Ow Tref05Disk m cs (x0, (x1, x2, x3, x4), x5, x6, x7, x8, x9)) : ∃ (A1 : Option Addr), ∃ (c1 : Nat), ∃ (A2 : Option Addr), ∃ (c2 : Nat), ∃ (A3 : Option Addr), ∃ (c3 : Nat), ∃ (A4 : Option Addr), ∃ (c4 : Nat), ∃ (A5 : Option Addr), ∃ (c5 : Nat), ∃ (n1 : Mem), ∃ (n2 : Mem), ∃ (n3 : Mem), ∃ (n4 : Mem), ∃ (n5 : Mem), cs = [(.bool x0 : Value), .slice A1 x1.length c1, .slice A2 x2.length c2, .slice A3 x3.length c3, .slice A4 x4.length c4, .slice A5 x5.length c5, .bool x6, .bool x7, .int .i64 x8, .int .i64 x9] ∧ Seps m [n1, n2, n3, n4, n5] ∧ Ow (.sl .byte) n1 [.slice A1 x1.length c1] x1 ∧ Ow (.sl .byte) n2 [.slice A2 x2.length c2] x2 ∧ Ow (.sl .byte) n3 [.slice A3 x3.length c3] x3 ∧ Ow (.sl .byte) n4 [.slice A4 x4.length c4] x4 ∧ Ow (.sl Tref05Raw) n5 [.slice A5 x5.length c5] x5 ∧ inK .i64 x8 ∧ inK .i64 x9 := by
  obtain ⟨p1, q1, ma1, mb1, rfl, dj1, la1, lb1, u1, w1⟩ := Ow.pair h
  obtain rfl := (show _ = _ from u1)
  obtain ⟨p3, q3, ma3, mb3, rfl, dj3, la3, lb3, u3, w3⟩ := Ow.pair w1
  obtain ⟨p4, q4, ma4, mb4, rfl, dj4, la4, lb4, u4, w4⟩ := Ow.pair u3
  have z5 := u4
  obtain ⟨A5, c5, rfl, _⟩ := Ow.slice1 u4
  obtain ⟨p6, q6, ma6, mb6, rfl, dj6, la6, lb6, u6, w6⟩ := Ow.pair w4
  have z7 := u6
  obtain ⟨A7, c7, rfl, _⟩ := Ow.slice1 u6
  obtain ⟨p8, q8, ma8, mb8, rfl, dj8, la8, lb8, u8, w8⟩ := Ow.pair w6
  have z9 := u8
  obtain ⟨A9, c9, rfl, _⟩ := Ow.slice1 u8
  have z10 := w8
  obtain ⟨A10, c10, rfl, _⟩ := Ow.slice1 w8
  obtain ⟨p11, q11, ma11, mb11, rfl, dj11, la11, lb11, u11, w11⟩ := Ow.pair w3
  have z12 := u11
  obtain ⟨A12, c12, rfl, _⟩ := Ow.slice1 u11
  obtain ⟨p13, q13, ma13, mb13, rfl, dj13, la13, lb13, u13, w13⟩ := Ow.pair w11
  obtain rfl := (show _ = _ from u13)
  obtain ⟨p15, q15, ma15, mb15, rfl, dj15, la15, lb15, u15, w15⟩ := Ow.pair w13
  obtain rfl := (show _ = _ from u15)
  obtain ⟨p17, q17, ma17, mb17, rfl, dj17, la17, lb17, u17, w17⟩ := Ow.pair w15
  obtain ⟨rfl, z18⟩ := (show _ = _ ∧ _ from u17)
  obtain ⟨rfl, z19⟩ := (show _ = _ ∧ _ from w17)
  exact ⟨A5, c5, A7, c7, A9, c9, A10, c10, A12, c12, _, _, _, _, _, rfl, (Seps.app dj1 la1 lb1 (Seps.nil _) (Seps.app dj3 la3 lb3 (Seps.app dj4 la4 lb4 (Seps.one (mle_refl _)) (Seps.app dj6 la6 lb6 (Seps.one (mle_refl _)) (Seps.app dj8 la8 lb8 (Seps.one (mle_refl _)) (Seps.one (mle_refl _))))) (Seps.app dj11 la11 lb11 (Seps.one (mle_refl _)) (Seps.app dj13 la13 lb13 (Seps.nil _) (Seps.app dj15 la15 lb15 (Seps.nil _) (Seps.app dj17 la17 lb17 (Seps.nil _) (Seps.nil _))))))), z5, z7, z9, z10, z12, z18, z19⟩
theorem mkO_ref05Disk {m : Mem} {n1 n2 n3 n4 n5 : Mem} (x0 : Bool) (x1 : List UInt8) (x2 : List UInt8) (x3 : List UInt8) (x4 : List UInt8) (x5 : List Dref05Raw) (x6 : Bool) (x7 : Bool) (x8 : Int) (x9 : Int) (hS : Seps m [n1, n2, n3, n4, n5]) {v1 : Value} (h1 : Ow (.sl .byte) n1 [v1] x1) {v2 : Value} (h2 : Ow (.sl .byte) n2 [v2] x2) {v3 : Value} (h3 : Ow (.sl .byte) n3 [v3] x3) {v4 : Value} (h4 : Ow (.sl .byte) n4 [v4] x4) {v5 : Value} (h5 : Ow (.sl Tref05Raw) n5 [v5] x5) (h8 : inK .i64 x8) (h9 : inK .i64 x9) : Ow Tref05Disk m [.bool x0, v1, v2, v3, v4, v5, .bool x6, .bool x7, .int .i64 x8, .int .i64 x9] (x0, (x1, x2, x3, x4), x5, x6, x7, x8, x9) := by
  obtain ⟨e1, la1, lb1, Sa1, Sb1⟩ := Seps.cut (l := []) (r := [n1, n2, n3, n4, n5]) hS
  obtain ⟨e2, la2, lb2, Sa2, Sb2⟩ := Seps.cut (l := [n1, n2, n3, n4]) (r := [n5]) Sb1
  obtain ⟨e3, la3, lb3, Sa3, Sb3⟩ := Seps.cut (l := [n1]) (r := [n2, n3, n4]) Sa2
  obtain ⟨e4, la4, lb4, Sa4, Sb4⟩ := Seps.cut (l := [n2]) (r := [n3, n4]) Sb3
  obtain ⟨e5, la5, lb5, Sa5, Sb5⟩ := Seps.cut (l := [n3]) (r := [n4]) Sb4
  obtain ⟨e6, la6, lb6, Sa6, Sb6⟩ := Seps.cut (l := [n5]) (r := []) Sb2
  obtain ⟨e7, la7, lb7, Sa7, Sb7⟩ := Seps.cut (l := []) (r := []) Sb6
  obtain ⟨e8, la8, lb8, Sa8, Sb8⟩ := Seps.cut (l := []) (r := []) Sb7
  obtain ⟨e9, la9, lb9, Sa9, Sb9⟩ := Seps.cut (l := []) (r := []) Sb8
  exact (Ow.mkPair (c1 := [_]) e1 la1 lb1 (show Ow .bool _ [_] _ from rfl) (Ow.mkPair (c1 := [_, _, _, _]) e2 la2 lb2 (Ow.mkPair (c1 := [_]) e3 la3 lb3 (h1.up (Sa3.1 _ (.head _))) (Ow.mkPair (c1 := [_]) e4 la4 lb4 (h2.up (Sa4.1 _ (.head _))) (Ow.mkPair (c1 := [_]) e5 la5 lb5 (h3.up (Sa5.1 _ (.head _))) (h4.up (Sb5.1 _ (.head _)))))) (Ow.mkPair (c1 := [_]) e6 la6 lb6 (h5.up (Sa6.1 _ (.head _))) (Ow.mkPair (c1 := [_]) e7 la7 lb7 (show Ow .bool _ [_] _ from rfl) (Ow.mkPair (c1 := [_]) e8 la8 lb8 (show Ow .bool _ [_] _ from rfl) (Ow.mkPair (c1 := [_]) e9 la9 lb9 (show Ow (.int .i64) _ [_] _ from ⟨rfl, h8⟩) (show Ow (.int .i64) _ [_] _ from ⟨rfl, h9⟩)))))))
theorem openP_ref05Disk {m : Mem} {cs : List Value} {g : Nat} {x0 : Bool} {x1 : List UInt8} {x2 : List UInt8} {x3 : List UInt8} {x4 : List UInt8} {x5 : List Dref05Raw} {x6 : Bool} {x7 : Bool} {x8 : Int} {x9 : Int} (h : Ow (.ptr Tref05Disk) m cs (g, (x0, (x1, x2, x3, x4), x5, x6, x7, x8, x9))) : ∃ (E : TypeId), ∃ (A1 : Option Addr), ∃ (c1 : Nat), ∃ (A2 : Option Addr), ∃ (c2 : Nat), ∃ (A3 : Option Addr), ∃ (c3 : Nat), ∃ (A4 : Option Addr), ∃ (c4 : Nat), ∃ (A5 : Option Addr), ∃ (c5 : Nat), ∃ (n1 : Mem), ∃ (n2 : Mem), ∃ (n3 : Mem), ∃ (n4 : Mem), ∃ (n5 : Mem), cs = [.pointer (some ⟨g, 0, none⟩)] ∧ Seps m [mone g (.cells [(.bool x0 : Value), .slice A1 x1.length c1, .slice A2 x2.length c2, .slice A3 x3.length c3, .slice A4 x4.length c4, .slice A5 x5.length c5, .bool x6, .bool x7, .int .i64 x8, .int .i64 x9].toArray E (0, 0)), n1, n2, n3, n4, n5] ∧ Ow (.sl .byte) n1 [.slice A1 x1.length c1] x1 ∧ Ow (.sl .byte) n2 [.slice A2 x2.length c2] x2 ∧ Ow (.sl .byte) n3 [.slice A3 x3.length c3] x3 ∧ Ow (.sl .byte) n4 [.slice A4 x4.length c4] x4 ∧ Ow (.sl Tref05Raw) n5 [.slice A5 x5.length c5] x5 ∧ inK .i64 x8 ∧ inK .i64 x9 := by
  obtain ⟨rfl, rc, E, m1, hd, l0, l1, h1⟩ := Ow.opnP h
  obtain ⟨A1, c1, A2, c2, A3, c3, A4, c4, A5, c5, n1, n2, n3, n4, n5, rfl, hS, f1, f2, f3, f4, f5, f8, f9⟩ := openO_ref05Disk h1
  exact ⟨E, A1, c1, A2, c2, A3, c3, A4, c4, A5, c5, n1, n2, n3, n4, n5, rfl, Seps.app hd l0 l1 (Seps.one (mle_refl _)) hS, f1, f2, f3, f4, f5, f8, f9⟩
theorem mkP_ref05Disk {m : Mem} {g : Nat} {E : TypeId} {n1 n2 n3 n4 n5 : Mem}{v1 : Value}{v2 : Value}{v3 : Value}{v4 : Value}{v5 : Value} (x0 : Bool) (x1 : List UInt8) (x2 : List UInt8) (x3 : List UInt8) (x4 : List UInt8) (x5 : List Dref05Raw) (x6 : Bool) (x7 : Bool) (x8 : Int) (x9 : Int) (hS : Seps m [mone g (.cells [.bool x0, v1, v2, v3, v4, v5, .bool x6, .bool x7, .int .i64 x8, .int .i64 x9].toArray E (0, 0)), n1, n2, n3, n4, n5]) (h1 : Ow (.sl .byte) n1 [v1] x1) (h2 : Ow (.sl .byte) n2 [v2] x2) (h3 : Ow (.sl .byte) n3 [v3] x3) (h4 : Ow (.sl .byte) n4 [v4] x4) (h5 : Ow (.sl Tref05Raw) n5 [v5] x5) (h8 : inK .i64 x8) (h9 : inK .i64 x9) : Ow (.ptr Tref05Disk) m [.pointer (some ⟨g, 0, none⟩)] (g, (x0, (x1, x2, x3, x4), x5, x6, x7, x8, x9)) :=
  Ow.clsP hS fun hS => mkO_ref05Disk x0 x1 x2 x3 x4 x5 x6 x7 x8 x9 hS h1 h2 h3 h4 h5 h8 h9
abbrev Dlaw05Act := Int × Int × Int × Int × (List UInt8)
instance declaw05Act : DecidableEq Dlaw05Act := (@instDecidableEqProd _ _ inferInstance (@instDecidableEqProd _ _ inferInstance (@instDecidableEqProd _ _ inferInstance (@instDecidableEqProd _ _ inferInstance inferInstance))))
end
section
set_option linter.unusedVariables false
abbrev Dur := Bytes × Bytes × Bytes × Bytes
abbrev DStep := Ddiskstep
abbrev DDisk := DdiskDisk
def getF (q : Dur) (f : Int) : Bytes := if f = 0 then q.1 else if f = 1 then q.2.1 else if f = 2 then q.2.2.1 else q.2.2.2
def setF (q : Dur) (f : Int) (b : Bytes) : Dur := if f = 0 then (b, q.2) else if f = 1 then (q.1, b, q.2.2) else if f = 2 then (q.1, q.2.1, b, q.2.2.2) else (q.1, q.2.1, q.2.2.1, b)
def doneB (b : Bytes) (s : DStep) : Bytes := if s.1 = 0 then b ++ s.2.2.1 else if s.1 = 1 then b.take s.2.2.2.toNat else b
def stepQ (q : Dur) (s : DStep) : Dur := setF q s.2.1 (doneB (getF q s.2.1) s)
def play (q : Dur) (l : List DStep) : Dur := l.foldl stepQ q
def heldStep (f : Int) (b : Bytes) (s : DStep) : Bytes := if s.2.1 = f then doneB b s else b
def heldB (q : Dur) (l : List DStep) (f : Int) : Bytes := l.foldl (heldStep f) (getF q f)
def inF (f : Int) : Prop := 0 ≤ f ∧ f < 4
instance (f : Int) : Decidable (inF f) := by unfold inF; infer_instance
theorem get_set {q : Dur} {f g : Int} {b : Bytes} (hf : inF f) (hg : inF g) : getF (setF q f b) g = if f = g then b else getF q g := by
  obtain ⟨h0, h1⟩ := hf; obtain ⟨h2, h3⟩ := hg
  obtain rfl | rfl | rfl | rfl : f = 0 ∨ f = 1 ∨ f = 2 ∨ f = 3 := by omega
  all_goals obtain rfl | rfl | rfl | rfl : g = 0 ∨ g = 1 ∨ g = 2 ∨ g = 3 := by omega
  all_goals rfl
def goodSt (q : Dur) (s : DStep) : Prop := (s.1 = 0 ∨ s.1 = 1) ∧ inF s.2.1 ∧ (s.1 = 0 → 1 ≤ s.2.2.1.length ∧ s.2.2.1.length ≤ 64) ∧ (s.1 = 1 → 0 ≤ s.2.2.2 ∧ s.2.2.2 ≤ (getF q s.2.1).length)
def goodL : Dur → List DStep → Prop
  | _, [] => True
  | q, s :: r => goodSt q s ∧ goodL (stepQ q s) r
theorem goodL_app : ∀ {l r : List DStep} {q : Dur}, goodL q (l ++ r) ↔ goodL q l ∧ goodL (play q l) r
  | [], r, q => by simp [goodL, play]
  | s :: l, r, q => by
    show goodSt q s ∧ goodL (stepQ q s) (l ++ r) ↔ (goodSt q s ∧ goodL (stepQ q s) l) ∧ goodL (play (stepQ q s) l) r
    rw [goodL_app (l := l), and_assoc]
theorem play_held : ∀ {l : List DStep} {q : Dur} {f : Int}, goodL q l → inF f → getF (play q l) f = heldB q l f
  | [], q, f, _, _ => rfl
  | s :: l, q, f, h, hf => by
    show getF (play (stepQ q s) l) f = _
    rw [play_held h.2 hf]
    show l.foldl (heldStep f) (getF (stepQ q s) f) = l.foldl (heldStep f) (heldStep f (getF q f) s)
    rw [stepQ, get_set h.1.2.1 hf]
    unfold heldStep
    split
    · rename_i he; rw [he]
    · rfl
def sizeQ (q : Dur) : Nat := q.1.length + q.2.1.length + q.2.2.1.length + q.2.2.2.length
def sizeL (l : List DStep) : Nat := (l.map fun s => s.2.2.1.length).sum
theorem sizeL_cons (s : DStep) (l : List DStep) : sizeL (s :: l) = s.2.2.1.length + sizeL l := by simp [sizeL]
theorem sizeL_app (l r : List DStep) : sizeL (l ++ r) = sizeL l + sizeL r := by simp [sizeL]
theorem getF_size (q : Dur) (f : Int) : (getF q f).length ≤ sizeQ q := by unfold getF sizeQ; split <;> (try split) <;> (try split) <;> omega
theorem setF_size {q : Dur} {f : Int} {b : Bytes} : sizeQ (setF q f b) + (getF q f).length = sizeQ q + b.length := by
  unfold setF getF sizeQ
  split
  · dsimp only; omega
  · split
    · dsimp only; omega
    · split <;> (dsimp only; omega)
theorem doneB_size (b : Bytes) (s : DStep) : (doneB b s).length ≤ b.length + s.2.2.1.length := by
  unfold doneB
  split
  · simp
  · split
    · simp only [List.length_take]; omega
    · omega
theorem stepQ_size (q : Dur) (s : DStep) : sizeQ (stepQ q s) ≤ sizeQ q + s.2.2.1.length := by
  have := setF_size (q := q) (f := s.2.1) (b := doneB (getF q s.2.1) s)
  have := doneB_size (getF q s.2.1) s
  unfold stepQ
  omega
theorem play_size : ∀ (l : List DStep) (q : Dur), sizeQ (play q l) ≤ sizeQ q + sizeL l
  | [], q => by simp [play, sizeL]
  | s :: l, q => by
    have h1 := play_size l (stepQ q s)
    have h2 := stepQ_size q s
    rw [sizeL_cons]
    show sizeQ (play (stepQ q s) l) ≤ _
    omega
theorem foldl_heldStep_size (f : Int) : ∀ (l : List DStep) (b : Bytes), (l.foldl (heldStep f) b).length ≤ b.length + sizeL l
  | [], b => by simp [sizeL]
  | s :: l, b => by
    have h1 := foldl_heldStep_size f l (heldStep f b s)
    have h2 : (heldStep f b s).length ≤ b.length + s.2.2.1.length := by
      unfold heldStep
      split
      · exact doneB_size b s
      · omega
    rw [sizeL_cons, List.foldl_cons]; omega
theorem heldB_size (q : Dur) (l : List DStep) (f : Int) : (heldB q l f).length ≤ sizeQ q + sizeL l := by
  have := foldl_heldStep_size f l (getF q f)
  have := getF_size q f
  unfold heldB; omega
def okD (d : DDisk) : Prop := goodL d.2.2.2.2.2.1 d.2.2.2.2.2.2 ∧ 0 ≤ d.2.2.2.1 ∧ 0 ≤ d.2.2.2.2.1
def wD (d : DDisk) : Nat := sizeQ d.2.2.2.2.2.1 + sizeL d.2.2.2.2.2.2 + d.2.2.2.2.2.2.length + d.2.2.2.2.1.toNat
def newD : DDisk := (true, false, false, 0, 0, ([], [], [], []), [])
def zeroD : DDisk := (false, false, false, 0, 0, ([], [], [], []), [])
theorem okD_new : okD newD := ⟨trivial, Int.le_refl _, Int.le_refl _⟩
theorem okD_zero : okD zeroD := ⟨trivial, Int.le_refl _, Int.le_refl _⟩
def wrongD (d : DDisk) : Int := if d.1 = false then 1 else if d.2.1 = true then 6 else 0
def burnD (d : DDisk) : DDisk × Bool := if d.2.2.1 = true then (if d.2.2.2.1 = 0 then ((d.1, true, d.2.2), false) else ((d.1, d.2.1, d.2.2.1, d.2.2.2.1 - 1, d.2.2.2.2.1 + 1, d.2.2.2.2.2), true)) else ((d.1, d.2.1, d.2.2.1, d.2.2.2.1, d.2.2.2.2.1 + 1, d.2.2.2.2.2), true)
def addP (d : DDisk) (s : DStep) : DDisk := (d.1, d.2.1, d.2.2.1, d.2.2.2.1, d.2.2.2.2.1, d.2.2.2.2.2.1, d.2.2.2.2.2.2 ++ [s])
theorem getF0 {q : Dur} {f : Int} (h : f = 0) : getF q f = q.1 := by subst h; rfl
theorem getF1 {q : Dur} {f : Int} (h : f = 1) : getF q f = q.2.1 := by subst h; rfl
theorem getF2 {q : Dur} {f : Int} (h : f = 2) : getF q f = q.2.2.1 := by subst h; rfl
theorem getF3 {q : Dur} {f : Int} (h : f = 3) : getF q f = q.2.2.2 := by subst h; rfl
theorem setQ0 {q : Dur} {f : Int} {b : Bytes} (h : f = 0) : setF q f b = (b, q.2) := by subst h; rfl
theorem setQ1 {q : Dur} {f : Int} {b : Bytes} (h : f = 1) : setF q f b = (q.1, b, q.2.2) := by subst h; rfl
theorem setQ2 {q : Dur} {f : Int} {b : Bytes} (h : f = 2) : setF q f b = (q.1, q.2.1, b, q.2.2.2) := by subst h; rfl
theorem setQ3 {q : Dur} {f : Int} {b : Bytes} (h : f = 3) : setF q f b = (q.1, q.2.1, q.2.2.1, b) := by subst h; rfl
def settleD (d : DDisk) (k : Nat) : DDisk := (d.1, d.2.1, d.2.2.1, d.2.2.2.1, d.2.2.2.2.1, play d.2.2.2.2.2.1 (d.2.2.2.2.2.2.take k), d.2.2.2.2.2.2.drop k)
theorem get_take {α : Type} {l : List α} {n k : Nat} {x : α} (h : (l.take n)[k]? = some x) : l[k]? = some x := by
  rw [List.getElem?_take] at h
  split at h
  · exact h
  · cases h
theorem drop_split {α : Type} {l : List α} {k : Nat} {x : α} (h : l[k]? = some x) : l = l.take k ++ x :: l.drop (k + 1) := by
  obtain ⟨h1, h2⟩ := List.getElem?_eq_some_iff.1 h
  rw [← h2, ← List.drop_eq_getElem_cons h1, List.take_append_drop]
section
variable {q : Dur} {l : List DStep} {f : Int} {b : Bytes} {k : Nat} {s : DStep}
theorem held_next (hb : b = heldB q (l.take k) f) (hs : l[k]? = some s) : heldStep f b s = heldB q (l.take (k + 1)) f := by
  rw [hb, heldB, heldB, List.take_add_one, hs, List.foldl_append]; rfl
theorem held_yes (hb : b = heldB q (l.take k) f) (hs : l[k]? = some s) (h : s.2.1 = f) : doneB b s = heldB q (l.take (k + 1)) f := by
  rw [← held_next hb hs, heldStep, if_pos h]
theorem held_no (hb : b = heldB q (l.take k) f) (hs : l[k]? = some s) (h : ¬ s.2.1 = f) : b = heldB q (l.take (k + 1)) f := by
  rw [← held_next hb hs, heldStep, if_neg h]
theorem good_at (hg : goodL q l) (hs : l[k]? = some s) : goodSt (play q (l.take k)) s ∧ goodL q (l.take k) := by
  rw [drop_split hs, goodL_app] at hg
  exact ⟨hg.2.1, hg.1⟩
theorem held_cut (hg : goodL q l) (hb : b = heldB q (l.take k) f) (hs : l[k]? = some s) (hf : inF f) (h : s.2.1 = f) : s.1 = 1 → 0 ≤ s.2.2.2 ∧ s.2.2.2 ≤ b.length := by
  obtain ⟨h1, h2⟩ := good_at hg hs
  intro h3
  have := h1.2.2.2 h3
  rw [h, play_held h2 hf, ← hb] at this
  exact this
theorem sizeL_take (hs : l[k]? = some s) : sizeL (l.take k) + s.2.2.1.length ≤ sizeL l := by
  conv => rhs; rw [drop_split hs]
  rw [sizeL_app, sizeL_cons]; omega
theorem held_room (hb : b = heldB q (l.take k) f) (hs : l[k]? = some s) : b.length + s.2.2.1.length ≤ sizeQ q + sizeL l := by
  have h1 := heldB_size q (l.take k) f
  have h2 := sizeL_take hs
  rw [hb]; omega
theorem play_next {q0 : Dur} (hb : q = play q0 (l.take k)) (hs : l[k]? = some s) : stepQ q s = play q0 (l.take (k + 1)) := by
  rw [hb, play, play, List.take_add_one, hs, List.foldl_append]; rfl
theorem play_cut {q0 : Dur} (hg : goodL q0 l) (hb : q = play q0 (l.take k)) (hs : l[k]? = some s) : inF s.2.1 ∧ (s.1 = 1 → 0 ≤ s.2.2.2 ∧ s.2.2.2 ≤ (getF q s.2.1).length) := by
  obtain ⟨h1, h2⟩ := good_at hg hs
  subst hb
  exact ⟨h1.2.1, h1.2.2.2⟩
theorem play_room {q0 : Dur} (hb : q = play q0 (l.take k)) (hs : l[k]? = some s) : (getF q s.2.1).length + s.2.2.1.length ≤ sizeQ q0 + sizeL l := by
  have h1 := play_size (l.take k) q0
  have h2 := sizeL_take hs
  have h3 := getF_size q s.2.1
  subst hb; omega
end
end
section
set_option linter.unusedVariables false
theorem burn_ok {d : DDisk} (h : okD d) : okD (burnD d).1 := by
  obtain ⟨h1, h2, h3⟩ := h
  unfold burnD
  split
  · split
    · exact ⟨h1, h2, h3⟩
    · exact ⟨h1, by dsimp only; omega, by dsimp only; omega⟩
  · exact ⟨h1, h2, by dsimp only; omega⟩
theorem burn_w {d : DDisk} (h : okD d) : wD (burnD d).1 ≤ wD d + 1 := by
  have h3 := h.2.2
  unfold burnD
  split
  · split
    · show wD d ≤ _; omega
    · simp only [wD]; omega
  · simp only [wD]; omega
theorem burn_same (d : DDisk) : (burnD d).1.1 = d.1 ∧ (burnD d).1.2.2.2.2.2 = d.2.2.2.2.2 := by
  unfold burnD
  split
  · split <;> exact ⟨rfl, rfl⟩
  · exact ⟨rfl, rfl⟩
theorem add_ok {d : DDisk} {s : DStep} (h : okD d) (hs : goodSt (play d.2.2.2.2.2.1 d.2.2.2.2.2.2) s) : okD (addP d s) :=
  ⟨goodL_app.2 ⟨h.1, hs, trivial⟩, h.2⟩
theorem add_w (d : DDisk) (s : DStep) : wD (addP d s) = wD d + s.2.2.1.length + 1 := by
  simp only [wD, addP, sizeL_app, sizeL_cons, List.length_append, List.length_cons, List.length_nil]
  show sizeQ _ + (sizeL _ + (s.2.2.1.length + sizeL [])) + _ + _ = _
  simp only [sizeL, List.map_nil, List.sum_nil]
  omega
theorem settle_ok {d : DDisk} (k : Nat) (h : okD d) : okD (settleD d k) := by
  obtain ⟨h1, h2⟩ := h
  rw [← List.take_append_drop k d.2.2.2.2.2.2, goodL_app] at h1
  exact ⟨h1.2, h2⟩
theorem settle_w (d : DDisk) (k : Nat) : wD (settleD d k) ≤ wD d := by
  have h1 := play_size (d.2.2.2.2.2.2.take k) d.2.2.2.2.2.1
  have h2 : sizeL d.2.2.2.2.2.2 = sizeL (d.2.2.2.2.2.2.take k) + sizeL (d.2.2.2.2.2.2.drop k) := by rw [← sizeL_app, List.take_append_drop]
  simp only [wD, settleD, List.length_drop]
  omega
def writeGo : Nat → DDisk → Int → Bytes → DDisk × Int
  | 0, d, _, _ => (d, 0)
  | n + 1, d, f, b => if b.length = 0 then (d, 0) else if (burnD d).2 = true then writeGo n (addP (burnD d).1 (0, f, b.take 64, 0)) f (b.drop 64) else ((burnD d).1, 6)
def dWrite (d : DDisk) (f : Int) (b : Bytes) : DDisk × Int := if ¬ wrongD d = 0 then (d, wrongD d) else if ¬ inF f then (d, 2) else writeGo b.length d f b
section
variable {d d' : DDisk} {f : Int} {b : Bytes} {n m : Nat} {p : DDisk × Int}
theorem write_end (hp : p = writeGo n d f b) (hb : b.length = 0) : p = (d, 0) := by
  rw [hp]; cases n with
  | zero => rfl
  | succ n => exact if_pos hb
theorem write_off (hp : p = writeGo n d f b) (hn : b.length ≤ n) (hb : 0 < b.length) (h : ¬ (burnD d).2 = true) : p = ((burnD d).1, 6) := by
  rw [hp]; cases n with
  | zero => omega
  | succ n => rw [writeGo, if_neg (by omega), if_neg h]
theorem write_step (hp : p = writeGo n d f b) (hn : b.length ≤ n) (hb : 0 < b.length) (h : (burnD d).2 = true) (hm : m = min b.length 64) : p = writeGo (n - 1) (addP (burnD d).1 (0, f, b.take m, 0)) f (b.drop m) := by
  rw [hp]; cases n with
  | zero => omega
  | succ n =>
    rw [writeGo, if_neg (by omega), if_pos h]
    have h1 : b.take m = b.take 64 := by
      by_cases h0 : b.length ≤ 64
      · rw [hm, List.take_of_length_le (by omega), List.take_of_length_le h0]
      · rw [hm, Nat.min_eq_right (by omega)]
    have h2 : b.drop m = b.drop 64 := by
      by_cases h0 : b.length ≤ 64
      · rw [hm, List.drop_of_length_le (by omega), List.drop_of_length_le h0]
      · rw [hm, Nat.min_eq_right (by omega)]
    rw [h1, h2]; rfl
theorem step_ok (h : okD d) (hf : inF f) (hb : 0 < b.length) (hm : m = min b.length 64) : okD (addP (burnD d).1 (0, f, b.take m, 0)) :=
  add_ok (burn_ok h) ⟨.inl rfl, hf, fun _ => by simp only [List.length_take]; omega, fun h => by cases h⟩
theorem step_w (h : okD d) (hb : 0 < b.length) (hm : m = min b.length 64) : wD (addP (burnD d).1 (0, f, b.take m, 0)) + 3 * (b.drop m).length ≤ wD d + 3 * b.length := by
  have h1 := burn_w h
  rw [add_w]
  simp only [List.length_take, List.length_drop]
  omega
theorem writeGo_ok : ∀ (n : Nat) {d : DDisk} {b : Bytes}, okD d → inF f → okD (writeGo n d f b).1 ∧ wD (writeGo n d f b).1 ≤ wD d + 3 * b.length + 1
  | 0, d, b, h, _ => ⟨h, by show wD d ≤ _; omega⟩
  | n + 1, d, b, h, hf => by
    unfold writeGo
    split
    · exact ⟨h, by show wD d ≤ _; omega⟩
    · rename_i h0
      split
      · have e1 : b.take 64 = b.take (min b.length 64) := by
          by_cases h0 : b.length ≤ 64
          · rw [Nat.min_eq_left h0, List.take_of_length_le h0, List.take_of_length_le (Nat.le_refl _)]
          · rw [Nat.min_eq_right (by omega)]
        have h1 := step_ok (m := min b.length 64) h hf (by omega) rfl
        have h2 := step_w (f := f) (m := min b.length 64) h (by omega) rfl
        rw [← e1] at h1 h2
        obtain ⟨k1, k2⟩ := writeGo_ok n (b := b.drop 64) h1 hf
        simp only [List.length_drop] at h2 k2
        exact ⟨k1, by omega⟩
      · have := burn_w h
        exact ⟨burn_ok h, by dsimp only; omega⟩
end
theorem write_ok {d : DDisk} {f : Int} {b : Bytes} (h : okD d) : okD (dWrite d f b).1 := by
  unfold dWrite; split
  · exact h
  · split
    · exact h
    · rename_i hf; exact (writeGo_ok _ h (Decidable.not_not.1 hf)).1
theorem write_w {d : DDisk} {f : Int} {b : Bytes} (h : okD d) : wD (dWrite d f b).1 ≤ wD d + 3 * b.length + 1 := by
  unfold dWrite; split
  · show wD d ≤ _; omega
  · split
    · show wD d ≤ _; omega
    · rename_i hf; exact (writeGo_ok _ h (Decidable.not_not.1 hf)).2
def dCut (d : DDisk) (f n : Int) : DDisk × Int := if ¬ wrongD d = 0 then (d, wrongD d) else if ¬ inF f ∨ n < 0 ∨ ((heldB d.2.2.2.2.2.1 d.2.2.2.2.2.2 f).length : Int) < n then (d, 2) else
  if (burnD d).2 = true then (addP (burnD d).1 (1, f, [], n), 0) else ((burnD d).1, 6)
theorem cut_ok {d : DDisk} {f n : Int} (h : okD d) : okD (dCut d f n).1 := by
  unfold dCut; split
  · exact h
  · split
    · exact h
    · rename_i h1
      have hf : inF f := Decidable.byContradiction fun q => h1 (.inl q)
      have hn : ¬ n < 0 := fun q => h1 (.inr (.inl q))
      have hl : ¬ ((heldB d.2.2.2.2.2.1 d.2.2.2.2.2.2 f).length : Int) < n := fun q => h1 (.inr (.inr q))
      split
      · refine add_ok (burn_ok h) ⟨.inr rfl, hf, fun h => (by cases h), fun _ => ?_⟩
        rw [(burn_same d).2]
        rw [play_held h.1 hf]
        dsimp only; omega
      · exact burn_ok h
theorem cut_w {d : DDisk} {f n : Int} (h : okD d) : wD (dCut d f n).1 ≤ wD d + 2 := by
  have := burn_w h
  unfold dCut; split
  · show wD d ≤ _; omega
  · split
    · show wD d ≤ _; omega
    · split
      · rw [add_w]; simp only [List.length_nil]; omega
      · dsimp only; omega
def dSync (d : DDisk) : DDisk × Int := if ¬ wrongD d = 0 then (d, wrongD d) else if (burnD d).2 = true then (settleD (burnD d).1 (burnD d).1.2.2.2.2.2.2.length, 0) else ((burnD d).1, 6)
theorem sync_ok {d : DDisk} (h : okD d) : okD (dSync d).1 := by
  unfold dSync; split
  · exact h
  · split
    · exact settle_ok _ (burn_ok h)
    · exact burn_ok h
theorem sync_w {d : DDisk} (h : okD d) : wD (dSync d).1 ≤ wD d + 1 := by
  have h1 := burn_w h
  unfold dSync; split
  · show wD d ≤ _; omega
  · split
    · have := settle_w (burnD d).1 (burnD d).1.2.2.2.2.2.2.length
      dsimp only; omega
    · dsimp only; omega
def dRead (d : DDisk) (f : Int) : Bytes × Int := if ¬ wrongD d = 0 then ([], wrongD d) else if ¬ inF f then ([], 2) else (heldB d.2.2.2.2.2.1 d.2.2.2.2.2.2 f, 0)
theorem read_size (d : DDisk) (f : Int) : (dRead d f).1.length ≤ wD d := by
  have := heldB_size d.2.2.2.2.2.1 d.2.2.2.2.2.2 f
  unfold dRead; split
  · exact Nat.zero_le _
  · split
    · exact Nat.zero_le _
    · dsimp only [wD]; omega
def dFuse (d : DDisk) (n : Int) : DDisk × Int := if ¬ wrongD d = 0 then (d, wrongD d) else if n < 0 then (d, 2) else ((d.1, d.2.1, true, n, d.2.2.2.2), 0)
theorem fuse_ok {d : DDisk} {n : Int} (h : okD d) : okD (dFuse d n).1 := by
  unfold dFuse; split
  · exact h
  · split
    · exact h
    · exact ⟨h.1, by dsimp only; omega, h.2.2⟩
theorem fuse_w (d : DDisk) (n : Int) : wD (dFuse d n).1 = wD d := by
  unfold dFuse; split
  · rfl
  · split <;> rfl
def dPull (d : DDisk) : DDisk × Int := if ¬ wrongD d = 0 then (d, wrongD d) else ((d.1, true, d.2.2), 0)
theorem pull_ok {d : DDisk} (h : okD d) : okD (dPull d).1 := by unfold dPull; split <;> exact h
theorem pull_w (d : DDisk) : wD (dPull d).1 = wD d := by unfold dPull; split <;> rfl
def tornQ (d : DDisk) (t : Int) : Dur := match d.2.2.2.2.2.2 with
  | [] => d.2.2.2.2.2.1
  | s :: _ => if s.1 = 0 then stepQ d.2.2.2.2.2.1 (s.1, s.2.1, s.2.2.1.take (min t ((s.2.2.1.length : Int) - 1)).toNat, s.2.2.2) else d.2.2.2.2.2.1
def dStart (d : DDisk) (k t : Int) : DDisk × Int := if d.1 = false then (d, 1) else if d.2.1 = false ∨ k < 0 ∨ t < 0 then (d, 2) else
  ((d.1, false, false, 0, d.2.2.2.2.1, tornQ (settleD d (min k d.2.2.2.2.2.2.length).toNat) t, []), 0)
theorem torn_size (d : DDisk) (t : Int) : sizeQ (tornQ d t) ≤ sizeQ d.2.2.2.2.2.1 + sizeL d.2.2.2.2.2.2 := by
  unfold tornQ
  split
  · omega
  · rename_i s r hl
    rw [hl, sizeL_cons]
    split
    · have := stepQ_size d.2.2.2.2.2.1 (s.1, s.2.1, s.2.2.1.take (min t ((s.2.2.1.length : Int) - 1)).toNat, s.2.2.2)
      simp only [List.length_take] at this
      omega
    · omega
theorem start_ok {d : DDisk} {k t : Int} (h : okD d) : okD (dStart d k t).1 := by
  unfold dStart; split
  · exact h
  · split
    · exact h
    · exact ⟨trivial, Int.le_refl _, h.2.2⟩
theorem start_w (d : DDisk) (k t : Int) : wD (dStart d k t).1 ≤ wD d := by
  unfold dStart; split
  · show wD d ≤ _; omega
  · split
    · show wD d ≤ _; omega
    · have h1 := torn_size (settleD d (min k d.2.2.2.2.2.2.length).toNat) t
      have h2 := settle_w d (min k d.2.2.2.2.2.2.length).toNat
      simp only [wD] at h2 ⊢
      show sizeQ _ + 0 + 0 + _ ≤ _
      have : (settleD d (min k d.2.2.2.2.2.2.length).toNat).2.2.2.2.1 = d.2.2.2.2.1 := rfl
      omega
def dSteps (d : DDisk) : Int := if d.1 = false then 0 else d.2.2.2.2.1
def dDurable (d : DDisk) (f : Int) : Bytes := if d.1 = false ∨ ¬ inF f then [] else getF d.2.2.2.2.2.1 f
theorem durable_size (d : DDisk) (f : Int) : (dDurable d f).length ≤ wD d := by
  have := getF_size d.2.2.2.2.2.1 f
  unfold dDurable; split
  · exact Nat.zero_le _
  · simp only [wD]; omega
theorem durable_go {d : DDisk} {f : Int} (h : ¬ d.1 = false) (h2 : ¬ ¬ inF f) : dDurable d f = getF d.2.2.2.2.2.1 f := if_neg fun q => q.elim h h2
theorem len_w (d : DDisk) : d.2.2.2.2.2.2.length ≤ wD d := by unfold wD; omega
theorem write_bad1 {d : DDisk} {f : Int} {b : Bytes} (h : ¬ wrongD d = 0) : dWrite d f b = (d, wrongD d) := if_pos h
theorem write_bad2 {d : DDisk} {f : Int} {b : Bytes} (h : ¬ ¬ wrongD d = 0) (h2 : ¬ inF f) : dWrite d f b = (d, 2) := by unfold dWrite; rw [if_neg h, if_pos h2]
theorem write_go {d : DDisk} {f : Int} {b : Bytes} (h : ¬ ¬ wrongD d = 0) (h2 : ¬ ¬ inF f) : dWrite d f b = writeGo b.length d f b := by unfold dWrite; rw [if_neg h, if_neg h2]
theorem cut_bad1 {d : DDisk} {f n : Int} (h : ¬ wrongD d = 0) : dCut d f n = (d, wrongD d) := if_pos h
theorem cut_bad2 {d : DDisk} {f n : Int} (h : ¬ ¬ wrongD d = 0) (h2 : ¬ inF f ∨ n < 0 ∨ ((heldB d.2.2.2.2.2.1 d.2.2.2.2.2.2 f).length : Int) < n) : dCut d f n = (d, 2) := by unfold dCut; rw [if_neg h, if_pos h2]
theorem cut_go {d : DDisk} {f n : Int} (h : ¬ ¬ wrongD d = 0) (h1 : ¬ ¬ inF f) (h2 : ¬ n < 0) (h3 : ¬ ((heldB d.2.2.2.2.2.1 d.2.2.2.2.2.2 f).length : Int) < n) (h4 : ¬ ¬ (burnD d).2 = true) : dCut d f n = (addP (burnD d).1 (1, f, [], n), 0) := by
  unfold dCut; rw [if_neg h, if_neg (fun q => q.elim h1 fun q => q.elim h2 h3), if_pos (Decidable.not_not.1 h4)]
theorem cut_off {d : DDisk} {f n : Int} (h : ¬ ¬ wrongD d = 0) (h1 : ¬ ¬ inF f) (h2 : ¬ n < 0) (h3 : ¬ ((heldB d.2.2.2.2.2.1 d.2.2.2.2.2.2 f).length : Int) < n) (h4 : ¬ (burnD d).2 = true) : dCut d f n = ((burnD d).1, 6) := by
  unfold dCut; rw [if_neg h, if_neg (fun q => q.elim h1 fun q => q.elim h2 h3), if_neg h4]
theorem sync_bad {d : DDisk} (h : ¬ wrongD d = 0) : dSync d = (d, wrongD d) := if_pos h
theorem sync_off {d : DDisk} (h : ¬ ¬ wrongD d = 0) (h4 : ¬ (burnD d).2 = true) : dSync d = ((burnD d).1, 6) := by unfold dSync; rw [if_neg h, if_neg h4]
theorem sync_go {d : DDisk} (h : ¬ ¬ wrongD d = 0) (h4 : ¬ ¬ (burnD d).2 = true) : dSync d = (settleD (burnD d).1 (burnD d).1.2.2.2.2.2.2.length, 0) := by unfold dSync; rw [if_neg h, if_pos (Decidable.not_not.1 h4)]
theorem start_bad1 {d : DDisk} {k t : Int} (h : d.1 = false) : dStart d k t = (d, 1) := if_pos h
theorem start_bad2 {d : DDisk} {k t : Int} (h : ¬ d.1 = false) (h2 : d.2.1 = false ∨ k < 0 ∨ t < 0) : dStart d k t = (d, 2) := by unfold dStart; rw [if_neg h, if_pos h2]
theorem start_go {d : DDisk} {k t : Int} (h : ¬ d.1 = false) (h2 : d.2.1 = true) (h3 : ¬ k < 0) (h4 : ¬ t < 0) : dStart d k t = ((d.1, false, false, 0, d.2.2.2.2.1, tornQ (settleD d (min k d.2.2.2.2.2.2.length).toNat) t, []), 0) := by
  unfold dStart; rw [if_neg h, if_neg (fun q => q.elim (fun q => absurd (h2.symm.trans q) (by decide)) fun q => q.elim h3 h4)]
theorem torn_nil {d : DDisk} {t : Int} (h : d.2.2.2.2.2.2.length ≤ 0) : tornQ d t = d.2.2.2.2.2.1 := by unfold tornQ; rw [List.eq_nil_of_length_eq_zero (Nat.le_zero.1 h)]
theorem torn_no {d : DDisk} {t : Int} {s : DStep} (hs : d.2.2.2.2.2.2[0]? = some s) (h : ¬ s.1 = 0) : tornQ d t = d.2.2.2.2.2.1 := by
  unfold tornQ
  cases hl : d.2.2.2.2.2.2 with
  | nil => rfl
  | cons x r => rw [hl] at hs; cases hs; exact if_neg h
theorem torn_yes {d : DDisk} {t : Int} {s : DStep} (hs : d.2.2.2.2.2.2[0]? = some s) (h : s.1 = 0) : tornQ d t = stepQ d.2.2.2.2.2.1 (s.1, s.2.1, s.2.2.1.take (min t ((s.2.2.1.length : Int) - 1)).toNat, s.2.2.2) := by
  unfold tornQ
  cases hl : d.2.2.2.2.2.2 with
  | nil => rw [hl] at hs; cases hs
  | cons x r => rw [hl] at hs; cases hs; exact if_pos h
theorem start_good {d : DDisk} {s : DStep} (h : okD d) (hs : d.2.2.2.2.2.2[0]? = some s) : inF s.2.1 ∧ (s.1 = 0 → 1 ≤ s.2.2.1.length) ∧ (getF d.2.2.2.2.2.1 s.2.1).length + s.2.2.1.length ≤ wD d := by
  obtain ⟨h1, _⟩ := good_at h.1 hs
  have h2 := play_room (q := d.2.2.2.2.2.1) (q0 := d.2.2.2.2.2.1) (by rfl) hs
  exact ⟨h1.2.1, fun h => (h1.2.2.1 h).1, by unfold wD; omega⟩
end
section
section
variable {P : Program} {n : Nat} {w0 : World} {σ : Env} {Ω ΩS : Ctx} {ops : Array Oper} {K : Env → Ctx → Prop} {R : Exit → Env → Ctx → Prop}
theorem VO.clsP {r : List Oper} (k : Nat) (ids : List Nat) {l : List Mem} (hg : cgets Ω ids = some l) {e : Ty} {v : Value} {x : Nat × e.Den} (hp : Seps (muns l) l → Ow (.ptr e) (muns l) [v] x) (h : ∀ M, Ow (.ptr e) M [v] x → VO P n w0 ops r σ ((k, M) :: cdels Ω ids) K) : VO P n w0 ops r σ Ω K :=
  VO.gather k ids hg fun hS => h _ (hp hS)
theorem VC.clsP {c : Code} (k : Nat) (ids : List Nat) {l : List Mem} (hg : cgets Ω ids = some l) {e : Ty} {v : Value} {x : Nat × e.Den} (hp : Seps (muns l) l → Ow (.ptr e) (muns l) [v] x) (h : ∀ M, Ow (.ptr e) M [v] x → VC P n w0 c R σ ((k, M) :: cdels Ω ids)) : VC P n w0 c R σ Ω :=
  VC.gather k ids hg fun hS => h _ (hp hS)
theorem VD.clsP {t : Nat} {ss : List (Nat × Bool)} (k : Nat) (ids : List Nat) {l : List Mem} (hg : cgets Ω ids = some l) {e : Ty} {v : Value} {x : Nat × e.Den} (hp : Seps (muns l) l → Ow (.ptr e) (muns l) [v] x) (h : ∀ M, Ow (.ptr e) M [v] x → VD P n w0 ops ΩS t ss σ ((k, M) :: cdels Ω ids) K) : VD P n w0 ops ΩS t ss σ Ω K :=
  VD.gather k ids hg fun hS => h _ (hp hS)
end
section
variable {P : Program} {n : Nat} {w0 : World} {σ : Env} {Ω : Ctx} {ops : Array Oper} {K : Env → Ctx → Prop}
theorem Stp.appO {e : Ty} {s x : Operand} {t xt et xe : TypeId} {b g c : Nat} {d : Option Nat} {gd : Option (Nat × Bool)} {ty : TypeId} {pos : String} {af : Array Edge} {v : Value} {xs : List e.Den} {y : e.Den} {yc z : List Value} (i j k : Nat) {m mj mk : Mem} (hsv : ev σ s = some v) (hxv : ev σ x = some (.slice (some ⟨g, 0, none⟩) 1 c)) (ht : tsl P t = some (et, e.sz, b)) (hz : tz P et = some z) (hzl : z.length = e.sz)
    (hm : cget Ω i = some m) (hj : cget (cdel Ω i) j = some mj) (hk : cget Ω k = some mk) (hown : Ow (.sl e) m [v] xs) (hy : Ow e mj yc y) (hxt : P.underlying xt = some (.slice xe)) (hc : cellsAt mk g 0 e.sz yc) (hml : xs.length + 1 ≤ maxLen) (hb : (xs.length + 1) * b ≤ 140737488355328) (hb0 : b ≠ 0) :
    Stp P n w0 σ Ω ⟨d, .call { callee := .builtin .append, args := [s, x].toArray, argTypes := [t, xt].toArray }, ty, pos, af, gd⟩ (fun v' Ω' => ∃ m', Ow (.sl e) m' [v'] (xs ++ [y]) ∧ Ω' = (i, m') :: cdel (cdel Ω i) j) :=
  fun a W he hi K' Q hK => by
    obtain ⟨m0, m1, rc, hS, hA, hL⟩ := hown.opn
    obtain ⟨q1, q2, q3, q4, _⟩ := hi.gets (ids := [i, j]) (l := [m, mj]) (by simp [cgets, hm, hj])
    have dmj : mdj m mj := by simpa using q1
    have d01 : mdj m0 m1 := by have := hS.2; simpa using this
    have l0 := hS.1 m0 (.head _)
    have l1 := hS.1 m1 (.tail _ (.head _))
    have d1j : mdj m1 mj := dmj.mono l1 (mle_refl _)
    have hnew : mdj m0 (mun m1 mj) := (mdj_un d01.symm (dmj.mono l0 (mle_refl _)).symm).symm
    have hΩ2 : Inv w0 ((i, m0) :: (j, mun m1 mj) :: cdel (cdel Ω i) j) W := by
      have hdel : Inv w0 (cdel (cdel Ω i) j) W := q4
      have f1 : ∀ p ∈ cdel (cdel Ω i) j, mdj m p.2 := fun p hp => q3 m (.head _) p hp
      have f2 : ∀ p ∈ cdel (cdel Ω i) j, mdj mj p.2 := fun p hp => q3 mj (.tail _ (.head _)) p hp
      refine ⟨hi.os, hi.tape, hi.output, hi.size, fun p hp => ?_, List.pairwise_cons.2 ⟨fun p hp => ?_, List.pairwise_cons.2 ⟨fun p hp => ?_, hdel.dj⟩⟩⟩
      · rcases List.mem_cons.1 hp with rfl | hp
        · exact l0.trans (hi.at hm)
        · rcases List.mem_cons.1 hp with rfl | hp
          · exact mun_le (l1.trans (hi.at hm)) (q2 mj (.tail _ (.head _)))
          · exact hdel.le p hp
      · rcases List.mem_cons.1 hp with rfl | hp
        · exact hnew
        · exact (f1 p hp).mono l0 (mle_refl _)
      · exact mdj_un ((f1 p hp).mono l1 (mle_refl _)) (f2 p hp)
    have hsrc : SrcW P W e.sz xt (.slice (some ⟨g, 0, none⟩) 1 c) 1 yc := by
      refine ⟨⟨_, hxt, by simp⟩, by rw [hy.len]; omega, fun W' hW => ?_, fun W' => by simp [Builtin.lenOf]⟩
      have hc2 : cellsAt (wm W') g 0 (1 * e.sz) yc := by
        rw [Nat.one_mul]
        refine hc.mono (fun q o ho => ?_)
        have := hi.at hk q o ho
        unfold wm at this ⊢
        rw [hW]; exact this
      exact firstCells_row hc2
    refine app_wp (i := i) (m := m0) (m0 := m0) he hΩ2 hsv hxv ht hz hzl (by simp [cget]) (mle_refl _) hA hsrc hy.nice hml hb hb0 fun v' m' W' hA' hi' => ?_
    have hc' : cset ((i, m0) :: (j, mun m1 mj) :: cdel (cdel Ω i) j) i m' = (i, m') :: (j, mun m1 mj) :: cdel (cdel Ω i) j := by simp [cset]
    rw [hc'] at hi'
    have hdj : mdj m' (mun m1 mj) := (List.pairwise_cons.1 hi'.dj).1 _ (.head _)
    have hall : OwAll (Ow e) (mun m1 mj) (rc ++ yc) (xs ++ [y]) := OwAll.app d1j (mle_un_left _ _) (mle_un_right d1j) hL (.one hy (mle_refl _))
    have how : Ow (.sl e) (mun m' (mun m1 mj)) [v'] (xs ++ [y]) := ⟨v', m', mun m1 mj, rc ++ yc, rfl, hdj, mle_un_left _ _, mle_un_right hdj, by simpa using hA', hall⟩
    refine hK v' ((i, mun m' (mun m1 mj)) :: cdel (cdel Ω i) j) W' ⟨_, how, rfl⟩ ?_
    refine ⟨hi'.os, hi'.tape, hi'.output, hi'.size, fun p hp => ?_, List.pairwise_cons.2 ⟨fun p hp => ?_, (List.pairwise_cons.1 (List.pairwise_cons.1 hi'.dj).2).2⟩⟩
    · rcases List.mem_cons.1 hp with rfl | hp
      · exact mun_le (hi'.le (i, m') (.head _)) (hi'.le (j, mun m1 mj) (.tail _ (.head _)))
      · exact hi'.le p (.tail _ (.tail _ hp))
    · exact mdj_un ((List.pairwise_cons.1 hi'.dj).1 p (.tail _ hp)) ((List.pairwise_cons.1 (List.pairwise_cons.1 hi'.dj).2).1 p hp)
theorem VD.appO {tt q : Nat} {ss : List (Nat × Bool)} {ΩS : Ctx} {ty : TypeId} {pos : String} {af : Array Edge} {e : Ty} {s x : Operand} {t xt et xe : TypeId} {b dd g c : Nat} {v : Value} {xs : List e.Den} {y : e.Den} {yc z : List Value} (i j k : Nat) {m mj mk : Mem} (hd : Nat.blt dd n = true) (ho : ops[q]? = some ⟨some dd, .call { callee := .builtin .append, args := [s, x].toArray, argTypes := [t, xt].toArray }, ty, pos, af, none⟩) (hsv : ev σ s = some v) (hxv : ev σ x = some (.slice (some ⟨g, 0, none⟩) 1 c)) (ht : tsl P t = some (et, e.sz, b)) (hz : tz P et = some z) (hzl : z.length = e.sz)
    (hm : cget Ω i = some m) (hj : cget (cdel Ω i) j = some mj) (hk : cget Ω k = some mk) (hown : Ow (.sl e) m [v] xs) (hy : Ow e mj yc y) (hxt : P.underlying xt = some (.slice xe)) (hc : cellsAt mk g 0 e.sz yc) (hml : xs.length + 1 ≤ maxLen) (hb : (xs.length + 1) * b ≤ 140737488355328) (hb0 : b ≠ 0) (hS : ∀ m' W, Inv w0 ((i, m') :: cdel (cdel Ω i) j) W → Inv w0 ΩS W)
    (h : ∀ v' m', Ow (.sl e) m' [v'] (xs ++ [y]) → VD P n w0 ops ΩS tt ss ((dd, v') :: σ) ((i, m') :: cdel (cdel Ω i) j) K) : VD P n w0 ops ΩS tt ((q, false) :: ss) σ Ω K :=
  VD.s (fun v => (dd, v) :: σ) ho (fun v _ he => he.put hd v) (.inl rfl) (Stp.appO i j k hsv hxv ht hz hzl hm hj hk hown hy hxt hc hml hb hb0) (fun _ _ ⟨m', _, hΩ⟩ W hW => hS m' W (by subst hΩ; exact hW)) (fun v _ ⟨m', hp, hΩ⟩ => hΩ ▸ h v m' hp)
end
end
section
set_option linter.unusedVariables false
set_option linter.unusedSimpArgs false
set_option maxRecDepth 4000
theorem fnOk73 : fnOk Try.prog 73 = true := by kernel_rfl
theorem tst101 : tst Try.prog 101 = some [(0, 1), (1, 1), (2, 1), (3, 1)] := by kernel_rfl
theorem tst72 : tst Try.prog 72 = some [(0, 1), (1, 1), (2, 1), (3, 1), (4, 1), (5, 4), (9, 1)] := by kernel_rfl
theorem tz72 : tz Try.prog 72 = some [.bool false, .bool false, .bool false, .int .i64 0, .int .i64 0, .slice none 0 0, .slice none 0 0, .slice none 0 0, .slice none 0 0, .slice none 0 0] := by kernel_rfl
theorem dNew_ok (W : World) : CallR Try.prog 28 [] W (mnil) (fun v m' => ∃ (s0 : Nat), v = .pointer (some ⟨s0, 0, none⟩) ∧ Ow (.ptr TdiskDisk) m' [.pointer (some ⟨s0, 0, none⟩)] (s0, newD)) := by
 refine CallR.ofA (n := 3) Try.func28 rfl rfl rfl ?_
 refine VC.rs (VO.as (VO.k1 0 (VC.rs ?_)))
 refine VO.y rfl (.bst (cs := [.bool true, .bool false, .bool false, .int .i64 (0), .int .i64 (0), .slice none (0) (0), .slice none (0) (0), .slice none (0) (0), .slice none (0) (0), .slice none (0) (0)]) rfl tst72 tz72 rfl) ?_
 refine VO.box (cs := [.bool true, .bool false, .bool false, .int .i64 (0), .int .i64 (0), .slice none (0) (0), .slice none (0) (0), .slice none (0) (0), .slice none (0) (0), .slice none (0) (0)]) 102 rfl rfl rfl (fun g1 => ?_)
 refine VO.as (VO.k1 0 (VC.ret ?_))
 refine ⟨_, _, res_run (rs := [.tmp 0]) rfl (.tmp rfl .nil), fun W_ hI => out_of (l := [mone g1 (.cells #[.bool true, .bool false, .bool false, .int .i64 (0), .int .i64 (0), .slice none (0) (0), .slice none (0) (0), .slice none (0) (0), .slice none (0) (0), .slice none (0) (0)] 72 (0, 0))]) hI [102] rfl rfl (mle_refl _) (fun hS_ => ?_)⟩
 dsimp only [packV]
 have he0 : (newD : DdiskDisk) = (true, false, false, 0, 0, ([], [], [], []), []) := by first | rfl | (simp [*]; done)
 refine ⟨g1, ?_, ?_⟩
 rotate_left
 · rw [he0]; exact (mkP_diskDisk true false false 0 0 [] [] [] [] [] (Seps.nilAt 5 (Seps.nilAt 4 (Seps.nilAt 3 (Seps.nilAt 2 (Seps.nilAt 1 hS_))))) bdk bdk (Ow.nil _ _) (Ow.nil _ _) (Ow.nil _ _) (Ow.nil _ _) (Ow.nil _ _))
 all_goals (first | rfl | (simp [*]; done))
theorem dIs_ok (W : World) (d0 : Int) (h0 : inK .i64 d0) : CallR Try.prog 74 [.int .i64 d0] W (mnil) (fun v m' => v = .bool (decide (inF d0))) := by
 have h0' := h0; simp only [inK] at h0'
 refine CallR.ofA (n := 9) Try.func74 rfl rfl rfl ?_
 refine VC.rs (VO.as (VO.k2 0 2 (VC.rs (VO.mv (VO.y rfl (.geq rfl rfl) (VO.mv ?_))))))
 refine VO.dec (t := 5) rfl (fun hc1 => ?_) (fun hc1 => ?_)
 · refine VO.gy rfl ⟨_, rfl, rfl⟩ (.mv rfl) (VO.gy rfl ⟨_, rfl, rfl⟩ (.lss rfl rfl) (VO.y rfl (.pT rfl rfl) (VO.as (VO.k2 0 2 (VC.ret ?_)))))
   refine ⟨_, _, res_run (rs := [.tmp 2]) rfl (.tmp rfl .nil), fun W_ hI => out_of (l := []) hI [] rfl rfl (mle_refl _) (fun hS_ => ?_)⟩
   dsimp only [packV]
   all_goals (first | rfl | (simp [inF, *]))
 · refine VO.gN (VO.gN (VO.y rfl (.pF rfl rfl) (VO.as (VO.k2 0 2 (VC.ret ?_)))))
   refine ⟨_, _, res_run (rs := [.tmp 2]) rfl (.tmp rfl .nil), fun W_ hI => out_of (l := []) hI [] rfl rfl (mle_refl _) (fun hS_ => ?_)⟩
   dsimp only [packV]
   all_goals (first | rfl | (simp [inF, *]))
theorem dNone_ok (W : World) {m0 : Mem} (hm : mle (m0) (wm W)) {g0 : Nat} {d0 : DdiskDisk} (h0 : Ow (.ptr TdiskDisk) m0 [.pointer (some ⟨g0, 0, none⟩)] (g0, d0)) : CallR Try.prog 73 [.pointer (some ⟨g0, 0, none⟩)] W (m0) (fun v m' => v = .bool (decide (d0.1 = false)) ∧ Ow (.ptr TdiskDisk) m' [.pointer (some ⟨g0, 0, none⟩)] (g0, d0)) := by
 refine CallR.ofB (n := 12) hm Try.func73 rfl rfl rfl ?_
 refine VC.rs (VO.as (VO.k2 0 2 (VC.rs (VO.mv ?_))))
 refine VO.y rfl (.pnil rfl rfl Try.underlying52 rfl) ?_
 refine VO.mv (VO.gy rfl ⟨_, rfl, rfl⟩ (.mv rfl) (VO.gy rfl ⟨_, rfl, rfl⟩ (.nilp rfl) ?_))
 refine VO.gy rfl ⟨_, rfl, rfl⟩ (.fa rfl tst72 rfl) ?_
 obtain ⟨q1_E, q1_A5, q1_c5, q1_A6, q1_c6, q1_A7, q1_c7, q1_A8, q1_c8, q1_A9, q1_c9, q1_n5, q1_n6, q1_n7, q1_n8, q1_n9, _, q1_S, q1_3, q1_4, q1_5, q1_6, q1_7, q1_8, q1_9⟩ := openP_diskDisk (x0 := d0.1) (x1 := d0.2.1) (x2 := d0.2.2.1) (x3 := d0.2.2.2.1) (x4 := d0.2.2.2.2.1) (x5 := d0.2.2.2.2.2.1.1) (x6 := d0.2.2.2.2.2.1.2.1) (x7 := d0.2.2.2.2.2.1.2.2.1) (x8 := d0.2.2.2.2.2.1.2.2.2) (x9 := d0.2.2.2.2.2.2) h0
 simp only [inK] at q1_3 q1_4
 have q1_r5 := q1_5.rm
 have q1_r6 := q1_6.rm
 have q1_r7 := q1_7.rm
 have q1_r8 := q1_8.rm
 have q1_r9 := q1_9.rm
 refine VO.inv _ (fun _ h => h.parts (i := 1) rfl q1_S [107, 102, 103, 104, 105, 106]) ?_
 refine VO.gy rfl ⟨_, rfl, rfl⟩ (.ld1 107 rfl tk4 rfl (cellsAt_one rfl rfl)) ?_
 refine VO.gy rfl ⟨_, rfl, rfl⟩ (.not rfl) (VO.y rfl (.pF rfl rfl) (VO.as ?_))
 refine VO.clsP 108 [107, 102, 103, 104, 105, 106] rfl (fun hg8 => (show Ow (.ptr TdiskDisk) _ _ (_, d0) from (mkP_diskDisk d0.1 d0.2.1 d0.2.2.1 d0.2.2.2.1 d0.2.2.2.2.1 d0.2.2.2.2.2.1.1 d0.2.2.2.2.2.1.2.1 d0.2.2.2.2.2.1.2.2.1 d0.2.2.2.2.2.1.2.2.2 d0.2.2.2.2.2.2 hg8 bdk bdk (OwnL.ow (Ow.ownl q1_5 rfl mnil) rfl) (OwnL.ow (Ow.ownl q1_6 rfl mnil) rfl) (OwnL.ow (Ow.ownl q1_7 rfl mnil) rfl) (OwnL.ow (Ow.ownl q1_8 rfl mnil) rfl) q1_9))) (fun mc8 ho8 => ?_)
 refine VO.k2 0 2 (VC.ret ?_)
 refine ⟨_, _, res_run (rs := [.tmp 2]) rfl (.tmp rfl .nil), fun W_ hI => out_of (l := [mc8]) hI [108] rfl rfl (mle_refl _) (fun hS_ => ?_)⟩
 dsimp only [packV]
 have hm0_ : (d0 : DdiskDisk) = d0 := by first | rfl | (simp [*]; done)
 refine ⟨?_, ?_⟩
 rotate_left
 · rw [hm0_]; exact (Ow.up ho8 (hS_.1 _ (.head _)))
 all_goals (first | rfl | (cases d0.1 <;> rfl))
theorem dNoneN_ok (W : World) : CallR Try.prog 73 [.pointer none] W (mnil) (fun v m' => v = .bool true) := by
 refine CallR.ofA (n := 12) Try.func73 rfl rfl rfl ?_
 refine VC.rs (VO.as (VO.k2 0 2 (VC.rs (VO.mv ?_))))
 refine VO.y rfl (.pnil rfl rfl Try.underlying52 rfl) ?_
 refine VO.mv (VO.gN (VO.gN (VO.gN (VO.gN (VO.gN (VO.y rfl (.pT rfl rfl) (VO.as (VO.k2 0 2 (VC.ret ?_)))))))))
 refine ⟨_, _, res_run (rs := [.tmp 2]) rfl (.tmp rfl .nil), fun W_ hI => out_of (l := []) hI [] rfl rfl (mle_refl _) (fun hS_ => ?_)⟩
 dsimp only [packV]
 all_goals (first | rfl | (simp [*]; done))
theorem dWrong_ok (W : World) {m0 : Mem} (hm : mle (m0) (wm W)) {g0 : Nat} {d0 : DdiskDisk} (h0 : Ow (.ptr TdiskDisk) m0 [.pointer (some ⟨g0, 0, none⟩)] (g0, d0)) : CallR Try.prog 75 [.pointer (some ⟨g0, 0, none⟩)] W (m0) (fun v m' => v = .int .i64 (wrongD d0) ∧ Ow (.ptr TdiskDisk) m' [.pointer (some ⟨g0, 0, none⟩)] (g0, d0)) := by
 refine CallR.ofB (n := 11) hm Try.func75 rfl rfl rfl ?_
 refine VC.rs (VO.as (VO.k2 0 2 (VC.seq (VC.block (VC.rs (VO.mv ?_))))))
 refine VO.call 1 rfl fnOk73 rfl rfl (fun W hW => dNone_ok W (hW.at (i := 1) rfl) h0) (fun v1 m1 hv1 => ?_)
 obtain ⟨rfl, w1_0⟩ := hv1
 refine VO.as (VO.k3 0 2 3 ?_)
 refine VC.cond rfl (fun hc2 => ?_) (fun hc2 => ?_)
 · refine VC.rs (VO.as ?_)
   refine VO.kp [1, 0] [(1, m1), (0, mout (wm W) (m0))] ?_
   refine VO.k3 0 2 3 (VC.ret (outBR (outR ?_)))
   refine ⟨_, _, res_run (rs := [.tmp 2]) rfl (.tmp rfl .nil), fun W_ hI => out_of (l := [m1]) hI [1] rfl rfl (mle_refl _) (fun hS_ => ?_)⟩
   dsimp only [packV]
   have hm0_ : (d0 : DdiskDisk) = d0 := by first | rfl | (simp [*]; done)
   refine ⟨?_, ?_⟩
   rotate_left
   · rw [hm0_]; exact (Ow.up w1_0 (hS_.1 _ (.head _)))
   all_goals (first | rfl | (simp [wrongD, *]))
 refine VC.rs (VO.mv (VO.y rfl (.nilp rfl) (VO.y rfl (.fa rfl tst72 rfl) ?_)))
 obtain ⟨q3_E, q3_A5, q3_c5, q3_A6, q3_c6, q3_A7, q3_c7, q3_A8, q3_c8, q3_A9, q3_c9, q3_n5, q3_n6, q3_n7, q3_n8, q3_n9, _, q3_S, q3_3, q3_4, q3_5, q3_6, q3_7, q3_8, q3_9⟩ := openP_diskDisk (x0 := d0.1) (x1 := d0.2.1) (x2 := d0.2.2.1) (x3 := d0.2.2.2.1) (x4 := d0.2.2.2.2.1) (x5 := d0.2.2.2.2.2.1.1) (x6 := d0.2.2.2.2.2.1.2.1) (x7 := d0.2.2.2.2.2.1.2.2.1) (x8 := d0.2.2.2.2.2.1.2.2.2) (x9 := d0.2.2.2.2.2.2) w1_0
 simp only [inK] at q3_3 q3_4
 have q3_r5 := q3_5.rm
 have q3_r6 := q3_6.rm
 have q3_r7 := q3_7.rm
 have q3_r8 := q3_8.rm
 have q3_r9 := q3_9.rm
 refine VO.inv _ (fun _ h => h.parts (i := 1) rfl q3_S [109, 104, 105, 106, 107, 108]) ?_
 refine VO.y rfl (.ld1 109 rfl tk4 rfl (cellsAt_one rfl rfl)) (VO.as ?_)
 refine VO.clsP 110 [109, 104, 105, 106, 107, 108] rfl (fun hg10 => (show Ow (.ptr TdiskDisk) _ _ (_, d0) from (mkP_diskDisk d0.1 d0.2.1 d0.2.2.1 d0.2.2.2.1 d0.2.2.2.2.1 d0.2.2.2.2.2.1.1 d0.2.2.2.2.2.1.2.1 d0.2.2.2.2.2.1.2.2.1 d0.2.2.2.2.2.1.2.2.2 d0.2.2.2.2.2.2 hg10 bdk bdk (OwnL.ow (Ow.ownl q3_5 rfl mnil) rfl) (OwnL.ow (Ow.ownl q3_6 rfl mnil) rfl) (OwnL.ow (Ow.ownl q3_7 rfl mnil) rfl) (OwnL.ow (Ow.ownl q3_8 rfl mnil) rfl) q3_9))) (fun mc10 ho10 => ?_)
 refine VO.kp [110, 0] [(110, mc10), (0, mout (wm W) (m0))] ?_
 refine VO.k4 0 2 3 6 ?_
 refine VC.condB rfl (fun hc11 => ?_) (fun hc11 => ?_)
 · refine VC.rs (VO.as (VO.k4 0 2 3 6 (VC.ret (outBR (outR ?_)))))
   refine ⟨_, _, res_run (rs := [.tmp 2]) rfl (.tmp rfl .nil), fun W_ hI => out_of (l := [mc10]) hI [110] rfl rfl (mle_refl _) (fun hS_ => ?_)⟩
   dsimp only [packV]
   have hm0_ : (d0 : DdiskDisk) = d0 := by first | rfl | (simp [*]; done)
   refine ⟨?_, ?_⟩
   rotate_left
   · rw [hm0_]; exact (Ow.up ho10 (hS_.1 _ (.head _)))
   all_goals (first | rfl | (simp [wrongD, *]))
 · refine VC.skip (outBN (outN (VC.rs (VO.as (VO.k4 0 2 3 6 (VC.ret ?_))))))
   refine ⟨_, _, res_run (rs := [.tmp 2]) rfl (.tmp rfl .nil), fun W_ hI => out_of (l := [mc10]) hI [110] rfl rfl (mle_refl _) (fun hS_ => ?_)⟩
   dsimp only [packV]
   have hm0_ : (d0 : DdiskDisk) = d0 := by first | rfl | (simp [*]; done)
   refine ⟨?_, ?_⟩
   rotate_left
   · rw [hm0_]; exact (Ow.up ho10 (hS_.1 _ (.head _)))
   all_goals (first | rfl | (simp [wrongD, *]))
theorem dWrongN_ok (W : World) : CallR Try.prog 75 [.pointer none] W (mnil) (fun v m' => v = .int .i64 (1)) := by
 refine CallR.ofA (n := 11) Try.func75 rfl rfl rfl ?_
 refine VC.rs (VO.as (VO.k2 0 2 (VC.seq (VC.block (VC.rs (VO.mv ?_))))))
 refine VO.callN 101 rfl fnOk73 rfl (fun W hW => dNoneN_ok W ) (fun v1 m1 hv1 => ?_)
 subst hv1
 refine VO.as (VO.k3 0 2 3 (VC.condT rfl (VC.rs (VO.as ?_))))
 refine VO.kp [0] [(0, wm W)] ?_
 refine VO.k3 0 2 3 (VC.ret (outBR (outR ?_)))
 refine ⟨_, _, res_run (rs := [.tmp 2]) rfl (.tmp rfl .nil), fun W_ hI => out_of (l := []) hI [] rfl rfl (mle_refl _) (fun hS_ => ?_)⟩
 dsimp only [packV]
 all_goals (first | rfl | (simp [*]; done))
theorem dBurn_ok (W : World) {m0 : Mem} (hm : mle (m0) (wm W)) {g0 : Nat} {d0 : DdiskDisk} (h0 : Ow (.ptr TdiskDisk) m0 [.pointer (some ⟨g0, 0, none⟩)] (g0, d0)) (e0 : okD d0) (e1 : wD d0 ≤ 2*1000000000000) : CallR Try.prog 76 [.pointer (some ⟨g0, 0, none⟩)] W (m0) (fun v m' => v = .bool (decide ((burnD d0).2 = true)) ∧ Ow (.ptr TdiskDisk) m' [.pointer (some ⟨g0, 0, none⟩)] (g0, (burnD d0).1)) := by
 obtain ⟨hg, hfu, hst⟩ := e0; simp only [wD] at e1
 refine CallR.ofB (n := 29) hm Try.func76 rfl rfl rfl ?_
 refine VC.rs (VO.as (VO.k2 0 2 (VC.seq (VC.rs (VO.mv (VO.y rfl (.nilp rfl) (VO.y rfl (.fa rfl tst72 rfl) ?_)))))))
 obtain ⟨q1_E, q1_A5, q1_c5, q1_A6, q1_c6, q1_A7, q1_c7, q1_A8, q1_c8, q1_A9, q1_c9, q1_n5, q1_n6, q1_n7, q1_n8, q1_n9, _, q1_S, q1_3, q1_4, q1_5, q1_6, q1_7, q1_8, q1_9⟩ := openP_diskDisk (x0 := d0.1) (x1 := d0.2.1) (x2 := d0.2.2.1) (x3 := d0.2.2.2.1) (x4 := d0.2.2.2.2.1) (x5 := d0.2.2.2.2.2.1.1) (x6 := d0.2.2.2.2.2.1.2.1) (x7 := d0.2.2.2.2.2.1.2.2.1) (x8 := d0.2.2.2.2.2.1.2.2.2) (x9 := d0.2.2.2.2.2.2) h0
 simp only [inK] at q1_3 q1_4
 have q1_r5 := q1_5.rm
 have q1_r6 := q1_6.rm
 have q1_r7 := q1_7.rm
 have q1_r8 := q1_8.rm
 have q1_r9 := q1_9.rm
 refine VO.inv _ (fun _ h => h.parts (i := 1) rfl q1_S [107, 102, 103, 104, 105, 106]) ?_
 refine VO.y rfl (.ld1 107 rfl tk4 rfl (cellsAt_one rfl rfl)) ?_
 refine VO.clsP 108 [107, 102, 103, 104, 105, 106] rfl (fun hg8 => (show Ow (.ptr TdiskDisk) _ _ (_, d0) from (mkP_diskDisk d0.1 d0.2.1 d0.2.2.1 d0.2.2.2.1 d0.2.2.2.2.1 d0.2.2.2.2.2.1.1 d0.2.2.2.2.2.1.2.1 d0.2.2.2.2.2.1.2.2.1 d0.2.2.2.2.2.1.2.2.2 d0.2.2.2.2.2.2 hg8 bdk bdk (OwnL.ow (Ow.ownl q1_5 rfl mnil) rfl) (OwnL.ow (Ow.ownl q1_6 rfl mnil) rfl) (OwnL.ow (Ow.ownl q1_7 rfl mnil) rfl) (OwnL.ow (Ow.ownl q1_8 rfl mnil) rfl) q1_9))) (fun mc8 ho8 => ?_)
 refine VO.k3 0 2 6 ?_
 refine VC.condB rfl (fun hc9 => ?_) (fun hc9 => ?_)
 refine VC.seq (VC.rs (VO.mv (VO.y rfl (.nilp rfl) (VO.y rfl (.fa rfl tst72 rfl) ?_))))
 obtain ⟨q10_E, q10_A5, q10_c5, q10_A6, q10_c6, q10_A7, q10_c7, q10_A8, q10_c8, q10_A9, q10_c9, q10_n5, q10_n6, q10_n7, q10_n8, q10_n9, _, q10_S, q10_3, q10_4, q10_5, q10_6, q10_7, q10_8, q10_9⟩ := openP_diskDisk (x0 := d0.1) (x1 := d0.2.1) (x2 := d0.2.2.1) (x3 := d0.2.2.2.1) (x4 := d0.2.2.2.2.1) (x5 := d0.2.2.2.2.2.1.1) (x6 := d0.2.2.2.2.2.1.2.1) (x7 := d0.2.2.2.2.2.1.2.2.1) (x8 := d0.2.2.2.2.2.1.2.2.2) (x9 := d0.2.2.2.2.2.2) ho8
 simp only [inK] at q10_3 q10_4
 have q10_r5 := q10_5.rm
 have q10_r6 := q10_6.rm
 have q10_r7 := q10_7.rm
 have q10_r8 := q10_8.rm
 have q10_r9 := q10_9.rm
 refine VO.inv _ (fun _ h => h.parts (i := 108) rfl q10_S [116, 111, 112, 113, 114, 115]) ?_
 refine VO.y rfl (.ld1 116 rfl tk3 rfl (cellsAt_one rfl rfl)) (VO.y rfl (.eql rfl rfl) ?_)
 refine VO.clsP 117 [116, 111, 112, 113, 114, 115] rfl (fun hg17 => (show Ow (.ptr TdiskDisk) _ _ (_, d0) from (mkP_diskDisk d0.1 d0.2.1 d0.2.2.1 d0.2.2.2.1 d0.2.2.2.2.1 d0.2.2.2.2.2.1.1 d0.2.2.2.2.2.1.2.1 d0.2.2.2.2.2.1.2.2.1 d0.2.2.2.2.2.1.2.2.2 d0.2.2.2.2.2.2 hg17 bdk bdk (OwnL.ow (Ow.ownl q10_5 rfl mnil) rfl) (OwnL.ow (Ow.ownl q10_6 rfl mnil) rfl) (OwnL.ow (Ow.ownl q10_7 rfl mnil) rfl) (OwnL.ow (Ow.ownl q10_8 rfl mnil) rfl) q10_9))) (fun mc17 ho17 => ?_)
 refine VO.kp [117, 0] [(117, mc17), (0, mout (wm W) (m0))] ?_
 refine VO.k4 0 2 6 11 ?_
 refine VC.cond rfl (fun hc18 => ?_) (fun hc18 => ?_)
 · refine VC.rs (VO.mv (VO.y rfl (.nilp rfl) (VO.y rfl (.fa rfl tst72 rfl) ?_)))
   obtain ⟨q19_E, q19_A5, q19_c5, q19_A6, q19_c6, q19_A7, q19_c7, q19_A8, q19_c8, q19_A9, q19_c9, q19_n5, q19_n6, q19_n7, q19_n8, q19_n9, _, q19_S, q19_3, q19_4, q19_5, q19_6, q19_7, q19_8, q19_9⟩ := openP_diskDisk (x0 := d0.1) (x1 := d0.2.1) (x2 := d0.2.2.1) (x3 := d0.2.2.2.1) (x4 := d0.2.2.2.2.1) (x5 := d0.2.2.2.2.2.1.1) (x6 := d0.2.2.2.2.2.1.2.1) (x7 := d0.2.2.2.2.2.1.2.2.1) (x8 := d0.2.2.2.2.2.1.2.2.2) (x9 := d0.2.2.2.2.2.2) ho17
   simp only [inK] at q19_3 q19_4
   have q19_r5 := q19_5.rm
   have q19_r6 := q19_6.rm
   have q19_r7 := q19_7.rm
   have q19_r8 := q19_8.rm
   have q19_r9 := q19_9.rm
   refine VO.inv _ (fun _ h => h.parts (i := 117) rfl q19_S [125, 120, 121, 122, 123, 124]) ?_
   refine VO.store (k := 1) 125 rfl rfl (.inr ⟨tk4, rfl⟩) rfl rfl rfl rfl rfl ?_
   refine VO.clsP 126 [125, 120, 121, 122, 123, 124] rfl (fun hg26 => (mkP_diskDisk d0.1 true d0.2.2.1 d0.2.2.2.1 d0.2.2.2.2.1 d0.2.2.2.2.2.1.1 d0.2.2.2.2.2.1.2.1 d0.2.2.2.2.2.1.2.2.1 d0.2.2.2.2.2.1.2.2.2 d0.2.2.2.2.2.2 hg26 bdk bdk (OwnL.ow (Ow.ownl q19_5 rfl mnil) rfl) (OwnL.ow (Ow.ownl q19_6 rfl mnil) rfl) (OwnL.ow (Ow.ownl q19_7 rfl mnil) rfl) (OwnL.ow (Ow.ownl q19_8 rfl mnil) rfl) q19_9)) (fun mc26 ho26 => ?_)
   refine VO.k4 0 2 6 11 (VC.rs (VO.as (VO.k4 0 2 6 11 (VC.ret (outR (outR ?_))))))
   refine ⟨_, _, res_run (rs := [.tmp 2]) rfl (.tmp rfl .nil), fun W_ hI => out_of (l := [mc26]) hI [126] rfl rfl (mle_refl _) (fun hS_ => ?_)⟩
   dsimp only [packV]
   have hm0_ : ((burnD d0).1 : DdiskDisk) = (d0.1, true, d0.2.2) := by first | rfl | (simp [burnD, *]; done)
   refine ⟨?_, ?_⟩
   rotate_left
   · rw [hm0_]; exact (Ow.up ho26 (hS_.1 _ (.head _)))
   all_goals (first | rfl | (simp [burnD, *]; done))
 · refine VC.skip (outN ?_)
   refine VC.reg ?_
   refine VO.mv (VO.y rfl (.nilp rfl) (VO.y rfl (.fa rfl tst72 rfl) ?_))
   obtain ⟨q27_E, q27_A5, q27_c5, q27_A6, q27_c6, q27_A7, q27_c7, q27_A8, q27_c8, q27_A9, q27_c9, q27_n5, q27_n6, q27_n7, q27_n8, q27_n9, _, q27_S, q27_3, q27_4, q27_5, q27_6, q27_7, q27_8, q27_9⟩ := openP_diskDisk (x0 := d0.1) (x1 := d0.2.1) (x2 := d0.2.2.1) (x3 := d0.2.2.2.1) (x4 := d0.2.2.2.2.1) (x5 := d0.2.2.2.2.2.1.1) (x6 := d0.2.2.2.2.2.1.2.1) (x7 := d0.2.2.2.2.2.1.2.2.1) (x8 := d0.2.2.2.2.2.1.2.2.2) (x9 := d0.2.2.2.2.2.2) ho17
   simp only [inK] at q27_3 q27_4
   have q27_r5 := q27_5.rm
   have q27_r6 := q27_6.rm
   have q27_r7 := q27_7.rm
   have q27_r8 := q27_8.rm
   have q27_r9 := q27_9.rm
   refine VO.inv _ (fun _ h => h.parts (i := 117) rfl q27_S [133, 128, 129, 130, 131, 132]) ?_
   refine VO.y rfl (.ld1 133 rfl tk3 rfl (cellsAt_one rfl rfl)) ?_
   refine VO.y rfl (.sub rfl rfl rfl ⟨bd, bd⟩) ?_
   refine VO.y rfl (.nilp rfl) (VO.y rfl (.fa rfl tst72 rfl) ?_)
   refine VO.store (k := 1) 133 rfl rfl (.inr ⟨tk3, rfl⟩) rfl rfl rfl rfl rfl ?_
   refine VO.clsP 134 [133, 128, 129, 130, 131, 132] rfl (fun hg34 => (mkP_diskDisk d0.1 d0.2.1 d0.2.2.1 (d0.2.2.2.1 - 1) d0.2.2.2.2.1 d0.2.2.2.2.2.1.1 d0.2.2.2.2.2.1.2.1 d0.2.2.2.2.2.1.2.2.1 d0.2.2.2.2.2.1.2.2.2 d0.2.2.2.2.2.2 hg34 bdk bdk (OwnL.ow (Ow.ownl q27_5 rfl mnil) rfl) (OwnL.ow (Ow.ownl q27_6 rfl mnil) rfl) (OwnL.ow (Ow.ownl q27_7 rfl mnil) rfl) (OwnL.ow (Ow.ownl q27_8 rfl mnil) rfl) q27_9)) (fun mc34 ho34 => ?_)
   refine VO.k4 0 2 6 11 (outN (VC.rs (VO.mv (VO.y rfl (.nilp rfl) (VO.y rfl (.fa rfl tst72 rfl) ?_)))))
   obtain ⟨q35_E, q35_A5, q35_c5, q35_A6, q35_c6, q35_A7, q35_c7, q35_A8, q35_c8, q35_A9, q35_c9, q35_n5, q35_n6, q35_n7, q35_n8, q35_n9, _, q35_S, q35_3, q35_4, q35_5, q35_6, q35_7, q35_8, q35_9⟩ := openP_diskDisk (x0 := d0.1) (x1 := d0.2.1) (x2 := d0.2.2.1) (x3 := d0.2.2.2.1 - 1) (x4 := d0.2.2.2.2.1) (x5 := d0.2.2.2.2.2.1.1) (x6 := d0.2.2.2.2.2.1.2.1) (x7 := d0.2.2.2.2.2.1.2.2.1) (x8 := d0.2.2.2.2.2.1.2.2.2) (x9 := d0.2.2.2.2.2.2) ho34
   simp only [inK] at q35_3 q35_4
   have q35_r5 := q35_5.rm
   have q35_r6 := q35_6.rm
   have q35_r7 := q35_7.rm
   have q35_r8 := q35_8.rm
   have q35_r9 := q35_9.rm
   refine VO.inv _ (fun _ h => h.parts (i := 134) rfl q35_S [141, 136, 137, 138, 139, 140]) ?_
   refine VO.y rfl (.ld1 141 rfl tk3 rfl (cellsAt_one rfl rfl)) ?_
   refine VO.y rfl (.add rfl rfl rfl ⟨bd, bd⟩) ?_
   refine VO.y rfl (.nilp rfl) (VO.y rfl (.fa rfl tst72 rfl) ?_)
   refine VO.store (k := 1) 141 rfl rfl (.inr ⟨tk3, rfl⟩) rfl rfl rfl rfl rfl ?_
   refine VO.clsP 142 [141, 136, 137, 138, 139, 140] rfl (fun hg42 => (mkP_diskDisk d0.1 d0.2.1 d0.2.2.1 (d0.2.2.2.1 - 1) (d0.2.2.2.2.1 + 1) d0.2.2.2.2.2.1.1 d0.2.2.2.2.2.1.2.1 d0.2.2.2.2.2.1.2.2.1 d0.2.2.2.2.2.1.2.2.2 d0.2.2.2.2.2.2 hg42 bdk bdk (OwnL.ow (Ow.ownl q35_5 rfl mnil) rfl) (OwnL.ow (Ow.ownl q35_6 rfl mnil) rfl) (OwnL.ow (Ow.ownl q35_7 rfl mnil) rfl) (OwnL.ow (Ow.ownl q35_8 rfl mnil) rfl) q35_9)) (fun mc42 ho42 => ?_)
   refine VO.k4 0 2 6 11 (VC.rs (VO.as ?_))
   refine VO.kp [142, 0] [(142, mc42), (0, mout (wm W) (m0))] ?_
   refine VO.k4 0 2 6 11 (VC.ret ?_)
   refine ⟨_, _, res_run (rs := [.tmp 2]) rfl (.tmp rfl .nil), fun W_ hI => out_of (l := [mc42]) hI [142] rfl rfl (mle_refl _) (fun hS_ => ?_)⟩
   dsimp only [packV]
   have hm0_ : ((burnD d0).1 : DdiskDisk) = (d0.1, d0.2.1, d0.2.2.1, d0.2.2.2.1 - 1, d0.2.2.2.2.1 + 1, d0.2.2.2.2.2) := by first | rfl | (simp [burnD, *]; done)
   refine ⟨?_, ?_⟩
   rotate_left
   · rw [hm0_]; exact (Ow.up ho42 (hS_.1 _ (.head _)))
   all_goals (first | rfl | (simp [burnD, *]; done))
 · refine VC.skip (outN (VC.rs (VO.mv (VO.y rfl (.nilp rfl) (VO.y rfl (.fa rfl tst72 rfl) ?_)))))
   obtain ⟨q43_E, q43_A5, q43_c5, q43_A6, q43_c6, q43_A7, q43_c7, q43_A8, q43_c8, q43_A9, q43_c9, q43_n5, q43_n6, q43_n7, q43_n8, q43_n9, _, q43_S, q43_3, q43_4, q43_5, q43_6, q43_7, q43_8, q43_9⟩ := openP_diskDisk (x0 := d0.1) (x1 := d0.2.1) (x2 := d0.2.2.1) (x3 := d0.2.2.2.1) (x4 := d0.2.2.2.2.1) (x5 := d0.2.2.2.2.2.1.1) (x6 := d0.2.2.2.2.2.1.2.1) (x7 := d0.2.2.2.2.2.1.2.2.1) (x8 := d0.2.2.2.2.2.1.2.2.2) (x9 := d0.2.2.2.2.2.2) ho8
   simp only [inK] at q43_3 q43_4
   have q43_r5 := q43_5.rm
   have q43_r6 := q43_6.rm
   have q43_r7 := q43_7.rm
   have q43_r8 := q43_8.rm
   have q43_r9 := q43_9.rm
   refine VO.inv _ (fun _ h => h.parts (i := 108) rfl q43_S [149, 144, 145, 146, 147, 148]) ?_
   refine VO.y rfl (.ld1 149 rfl tk3 rfl (cellsAt_one rfl rfl)) ?_
   refine VO.y rfl (.add rfl rfl rfl ⟨bd, bd⟩) ?_
   refine VO.y rfl (.nilp rfl) (VO.y rfl (.fa rfl tst72 rfl) ?_)
   refine VO.store (k := 1) 149 rfl rfl (.inr ⟨tk3, rfl⟩) rfl rfl rfl rfl rfl ?_
   refine VO.clsP 150 [149, 144, 145, 146, 147, 148] rfl (fun hg50 => (mkP_diskDisk d0.1 d0.2.1 d0.2.2.1 d0.2.2.2.1 (d0.2.2.2.2.1 + 1) d0.2.2.2.2.2.1.1 d0.2.2.2.2.2.1.2.1 d0.2.2.2.2.2.1.2.2.1 d0.2.2.2.2.2.1.2.2.2 d0.2.2.2.2.2.2 hg50 bdk bdk (OwnL.ow (Ow.ownl q43_5 rfl mnil) rfl) (OwnL.ow (Ow.ownl q43_6 rfl mnil) rfl) (OwnL.ow (Ow.ownl q43_7 rfl mnil) rfl) (OwnL.ow (Ow.ownl q43_8 rfl mnil) rfl) q43_9)) (fun mc50 ho50 => ?_)
   refine VO.kp [150, 0] [(150, mc50), (0, mout (wm W) (m0))] ?_
   refine VO.k3 0 2 6 (VC.rs (VO.as (VO.k3 0 2 6 (VC.ret ?_))))
   refine ⟨_, _, res_run (rs := [.tmp 2]) rfl (.tmp rfl .nil), fun W_ hI => out_of (l := [mc50]) hI [150] rfl rfl (mle_refl _) (fun hS_ => ?_)⟩
   dsimp only [packV]
   have hm0_ : ((burnD d0).1 : DdiskDisk) = (d0.1, d0.2.1, d0.2.2.1, d0.2.2.2.1, d0.2.2.2.2.1 + 1, d0.2.2.2.2.2) := by first | rfl | (simp [burnD, *]; done)
   refine ⟨?_, ?_⟩
   rotate_left
   · rw [hm0_]; exact (Ow.up ho50 (hS_.1 _ (.head _)))
   all_goals (first | rfl | (simp [burnD, *]; done))
theorem dDone_ok (W : World) {m0 : Mem} (hm : mle (m0) (wm W)) {v0 : Value} {d0 : List UInt8} (h0 : Ow (.sl .byte) m0 [v0] d0) {v1 : List Value} {d1 : Ddiskstep} (h1 : Rd Tdiskstep (mout (wm W) (m0)) v1 d1) (e0 : d1.1 = 1 → 0 ≤ d1.2.2.2 ∧ d1.2.2.2 ≤ d0.length) (e1 : d0.length + d1.2.2.1.length ≤ 140737488355000) : CallR Try.prog 84 [v0, .agg v1.toArray] W (m0) (fun v m' => ∃ (s0 : Value), v = s0 ∧ Ow (.sl .byte) m' [s0] (doneB d0 d1)) := by
 obtain ⟨A0, c0, e0_, l0, k0⟩ := h0.slice
 subst e0_
 simp only [maxLen] at k0
 obtain ⟨p1_A2, p1_c2, rfl, p1_0, p1_1, p1_2, p1_3⟩ := open_diskstep (x0 := d1.1) (x1 := d1.2.1) (x2 := d1.2.2.1) (x3 := d1.2.2.2) h1
 simp only [inK] at p1_0 p1_1
 have p1_r2 := Rd.room p1_2
 simp only [inK] at p1_3
 refine CallR.ofB (n := 20) hm Try.func84 rfl rfl rfl ?_
 refine VC.rs ?_
 refine VO.box (cs := [.int .i64 (d1.1), .int .i64 (d1.2.1), .slice p1_A2 (d1.2.2.1.length) (p1_c2), .int .i64 (d1.2.2.2)]) 102 rfl rfl rfl (fun g1 => ?_)
 refine VO.as (VO.k4 0 1 3 4 (VC.seq (VC.rs (VO.y rfl (.fa rfl tst101 rfl) (VO.y rfl (.ld1 102 rfl tk3 rfl (cellsAt_one rfl rfl)) (VO.k5 0 1 3 4 6 (VC.block (VC.rs (VO.y rfl (.eql rfl rfl) (VO.as ?_))))))))))
 refine VO.kp [102, 0, 1] [(102, mone g1 (.cells #[.int .i64 (d1.1), .int .i64 (d1.2.1), .slice p1_A2 (d1.2.2.1.length) (p1_c2), .int .i64 (d1.2.2.2)] 101 (0, 0))), (0, mout (wm W) (m0)), (1, m0)] ?_
 refine VO.k6 0 1 3 4 6 7 ?_
 refine VC.cond rfl (fun hc3 => ?_) (fun hc3 => ?_)
 · refine VC.rs (VO.mv (VO.y rfl (.fa rfl tst101 rfl) (VO.y rfl (.ld1 102 rfl tk25 rfl (cellsAt_one rfl rfl)) ?_)))
   obtain ⟨mo4, cs4, hM4, hA4, hC4⟩ := (Ow.ownl h0 rfl mnil)
   obtain ⟨all4, hS4, hR4⟩ := Rd.srcI (P := Try.prog) (p1_2) Try.underlying25
   refine VO.app 1 rfl rfl rfl tsl25 tz5 rfl rfl hM4 hA4 (hS4 _ 0 rfl) hR4.nice bdm bd (by decide) (fun v4 m4 hN4 => ?_)
   have ho4 : OwnL .byte m4 mnil v4 (d0 ++ d1.2.2.1) := OwnL.more hC4 hN4 (All2c.mono hR4 fun _ _ h => Rd.flat rfl h _)
   obtain ⟨A4, c4, rfl, l4, k4⟩ := ho4.slice
   simp only [maxLen] at k4
   refine VO.as (VO.k6 0 1 3 4 6 7 (VC.ret (outBR (outR ?_))))
   refine ⟨_, _, res_run (rs := [.tmp 4]) rfl (.tmp rfl .nil), fun W_ hI => out_of (l := [m4]) hI [1] rfl rfl (mle_refl _) (fun hS_ => ?_)⟩
   dsimp only [packV]
   have he0 : (doneB d0 d1 : Ty.Den (.sl .byte)) = d0 ++ d1.2.2.1 := by first | rfl | (simp [doneB, *]; done)
   refine ⟨Value.slice A4 ((d0 ++ d1.2.2.1).length) (c4), ?_, ?_⟩
   rotate_left
   · rw [he0]; exact (Ow.up (OwnL.ow ho4 rfl) (hS_.1 _ (.head _)))
   all_goals (first | rfl | (simp [*]; done))
 refine VC.rs (VO.y rfl (.eql rfl rfl) (VO.as (VO.k7 0 1 3 4 6 7 13 ?_)))
 refine VC.cond rfl (fun hc5 => ?_) (fun hc5 => ?_)
 · refine VC.rs (VO.mv (VO.y rfl (.fa rfl tst101 rfl) (VO.y rfl (.ld1 102 rfl tk3 rfl (cellsAt_one rfl rfl)) ?_)))
   have hs6 := (OwnL.rd (Ow.ownl h0 rfl mnil) (mle_refl _) (mle_nil _)).pre (j := ((d1.2.2.2).toNat)) bd
   refine VO.y rfl (.slHI ((d1.2.2.2).toNat) rfl rfl tsl25 bd bd) ?_
   refine VO.as (VO.k7 0 1 3 4 6 7 13 (VC.ret (outBR (outR ?_))))
   refine ⟨_, _, res_run (rs := [.tmp 4]) rfl (.tmp rfl .nil), fun W_ hI => out_of (l := [m0]) hI [1] rfl rfl (mle_refl _) (fun hS_ => ?_)⟩
   dsimp only [packV]
   have he0 : (doneB d0 d1 : Ty.Den (.sl .byte)) = (d0).take ((d1.2.2.2).toNat) := by first | rfl | (simp [doneB, *]; done)
   refine ⟨Value.slice A0 ((d1.2.2.2).toNat) (c0), ?_, ?_⟩
   rotate_left
   · rw [he0]; exact (Ow.up (OwnL.ow ((Ow.ownl h0 rfl mnil).pre (j := ((d1.2.2.2).toNat)) bd) rfl) (hS_.1 _ (.head _)))
   all_goals (first | rfl | (simp [*]; done))
 · refine VC.skip (outBN (outN (VC.rs (VO.mv (VO.as (VO.k7 0 1 3 4 6 7 13 (VC.ret ?_)))))))
   refine ⟨_, _, res_run (rs := [.tmp 4]) rfl (.tmp rfl .nil), fun W_ hI => out_of (l := [m0]) hI [1] rfl rfl (mle_refl _) (fun hS_ => ?_)⟩
   dsimp only [packV]
   have he0 : (doneB d0 d1 : Ty.Den (.sl .byte)) = d0 := by first | rfl | (simp [doneB, *]; done)
   refine ⟨Value.slice A0 (d0.length) (c0), ?_, ?_⟩
   rotate_left
   · rw [he0]; exact (Ow.up (OwnL.ow (Ow.ownl h0 rfl mnil) rfl) (hS_.1 _ (.head _)))
   all_goals (first | rfl | (simp [*]; done))
end
section
set_option linter.unusedVariables false
set_option linter.unusedSimpArgs false
set_option maxRecDepth 4000
theorem fnOk84 : fnOk Try.prog 84 = true := by kernel_rfl
theorem tar69 : tar Try.prog 69 = some (4, 1) := by kernel_rfl
theorem tk101 : tk Try.prog 101 = some (some 4) := by kernel_rfl
theorem tk70 : tk Try.prog 70 = some none := by kernel_rfl
theorem tsl70 : tsl Try.prog 70 = some (101, 4, 48) := by kernel_rfl
theorem tz101 : tz Try.prog 101 = some [.int .i64 0, .int .i64 0, .slice none 0 0, .int .i64 0] := by kernel_rfl
theorem dHeld_ok (W : World) {m0 : Mem} (hm : mle (m0) (wm W)) {g0 : Nat} {d0 : DdiskDisk} (h0 : Ow (.ptr TdiskDisk) m0 [.pointer (some ⟨g0, 0, none⟩)] (g0, d0)) (d1 : Int) (h1 : inK .i64 d1) (e0 : okD d0) (e1 : wD d0 ≤ 2*1000000000000) (e2 : inF d1) : CallR Try.prog 104 [.pointer (some ⟨g0, 0, none⟩), .int .i64 d1] W (m0) (fun v m' => ∃ (s0 : Value), ∃ (p0 : Mem), ∃ (p1 : Mem), v = s0 ∧ Seps m' [p0, p1] ∧ Ow (.sl .byte) p0 [s0] (heldB d0.2.2.2.2.2.1 d0.2.2.2.2.2.2 d1) ∧ Ow (.ptr TdiskDisk) p1 [.pointer (some ⟨g0, 0, none⟩)] (g0, d0)) := by
 obtain ⟨hg, hfu, hst⟩ := e0; simp only [wD, sizeQ] at e1; have hin := e2; simp only [inF] at hin
 have h1' := h1; simp only [inK] at h1'
 refine CallR.ofB (n := 33) hm Try.func104 rfl rfl rfl ?_
 refine VC.rs (VO.as (VO.k3 0 1 4 (VC.rs (VO.mv (VO.mv (VO.y rfl (.nilp rfl) (VO.y rfl (.fa rfl tst72 rfl) ?_)))))))
 rcases (show d1 = (0 : Int) ∨ d1 = (1 : Int) ∨ d1 = (2 : Int) ∨ d1 = (3 : Int) from by first | omega | (simp only [List.length_append, List.length_nil, List.length_cons, List.length_take, List.length_drop] at *; omega)) with hi1 | hi1 | hi1 | hi1
 refine VO.y rfl (.ixa (i := 0) (o := 5) rfl rfl tar69 hi1 rfl rfl) ?_
 obtain ⟨q2_E, q2_A5, q2_c5, q2_A6, q2_c6, q2_A7, q2_c7, q2_A8, q2_c8, q2_A9, q2_c9, q2_n5, q2_n6, q2_n7, q2_n8, q2_n9, _, q2_S, q2_3, q2_4, q2_5, q2_6, q2_7, q2_8, q2_9⟩ := openP_diskDisk (x0 := d0.1) (x1 := d0.2.1) (x2 := d0.2.2.1) (x3 := d0.2.2.2.1) (x4 := d0.2.2.2.2.1) (x5 := d0.2.2.2.2.2.1.1) (x6 := d0.2.2.2.2.2.1.2.1) (x7 := d0.2.2.2.2.2.1.2.2.1) (x8 := d0.2.2.2.2.2.1.2.2.2) (x9 := d0.2.2.2.2.2.2) h0
 simp only [inK] at q2_3 q2_4
 have q2_r5 := q2_5.rm
 have q2_r6 := q2_6.rm
 have q2_r7 := q2_7.rm
 have q2_r8 := q2_8.rm
 have q2_r9 := q2_9.rm
 refine VO.inv _ (fun _ h => h.parts (i := 1) rfl q2_S [108, 103, 104, 105, 106, 107]) ?_
 refine VO.y rfl (.ld1 108 rfl tk25 rfl (cellsAt_one rfl rfl)) ?_
 refine VO.inv _ (fun _ h => h.nilc 110) ?_
 obtain ⟨mo9, cs9, hM9, hA9, hC9⟩ := (OwnL.nil .byte mnil mnil)
 obtain ⟨all9, hS9, hR9⟩ := Rd.srcI (P := Try.prog) ((OwnL.rd (Ow.ownl q2_5 rfl mnil) (mle_refl _) (mle_nil _))) Try.underlying25
 refine VO.app 110 rfl rfl rfl tsl25 tz5 rfl rfl hM9 hA9 (hS9 _ 103 rfl) hR9.nice bdm bd (by decide) (fun v9 m9 hN9 => ?_)
 have ho9 : OwnL .byte m9 mnil v9 (d0.2.2.2.2.2.1.1) := OwnL.more hC9 hN9 (All2c.mono hR9 fun _ _ h => Rd.flat rfl h _)
 obtain ⟨A9, c9, rfl, l9, k9⟩ := ho9.slice
 simp only [maxLen] at k9
 refine VO.as ?_
 refine VO.clsP 111 [108, 103, 104, 105, 106, 107] rfl (fun hg11 => (show Ow (.ptr TdiskDisk) _ _ (_, d0) from (mkP_diskDisk d0.1 d0.2.1 d0.2.2.1 d0.2.2.2.1 d0.2.2.2.2.1 d0.2.2.2.2.2.1.1 d0.2.2.2.2.2.1.2.1 d0.2.2.2.2.2.1.2.2.1 d0.2.2.2.2.2.1.2.2.2 d0.2.2.2.2.2.2 hg11 bdk bdk (OwnL.ow (Ow.ownl q2_5 rfl mnil) rfl) (OwnL.ow (Ow.ownl q2_6 rfl mnil) rfl) (OwnL.ow (Ow.ownl q2_7 rfl mnil) rfl) (OwnL.ow (Ow.ownl q2_8 rfl mnil) rfl) q2_9))) (fun mc11 ho11 => ?_)
 refine VO.k4 0 1 4 5 (VC.seq (VC.rs (VO.mv (VO.y rfl (.nilp rfl) (VO.y rfl (.fa rfl tst72 rfl) ?_)))))
 obtain ⟨q12_E, q12_A5, q12_c5, q12_A6, q12_c6, q12_A7, q12_c7, q12_A8, q12_c8, q12_A9, q12_c9, q12_n5, q12_n6, q12_n7, q12_n8, q12_n9, _, q12_S, q12_3, q12_4, q12_5, q12_6, q12_7, q12_8, q12_9⟩ := openP_diskDisk (x0 := d0.1) (x1 := d0.2.1) (x2 := d0.2.2.1) (x3 := d0.2.2.2.1) (x4 := d0.2.2.2.2.1) (x5 := d0.2.2.2.2.2.1.1) (x6 := d0.2.2.2.2.2.1.2.1) (x7 := d0.2.2.2.2.2.1.2.2.1) (x8 := d0.2.2.2.2.2.1.2.2.2) (x9 := d0.2.2.2.2.2.2) ho11
 simp only [inK] at q12_3 q12_4
 have q12_r5 := q12_5.rm
 have q12_r6 := q12_6.rm
 have q12_r7 := q12_7.rm
 have q12_r8 := q12_8.rm
 have q12_r9 := q12_9.rm
 refine VO.inv _ (fun _ h => h.parts (i := 111) rfl q12_S [118, 113, 114, 115, 116, 117]) ?_
 refine VO.y rfl (.ld1 118 rfl tk70 rfl (cellsAt_one rfl rfl)) ?_
 refine VO.y rfl (.lenS rfl tsl70) ?_
 refine VO.mv ?_
 refine VO.kp [118, 113, 114, 115, 116, 117, 110, 0] [(118, mone g0 (.cells #[.bool d0.1, .bool d0.2.1, .bool d0.2.2.1, .int .i64 (d0.2.2.2.1), .int .i64 (d0.2.2.2.2.1), .slice q12_A5 (d0.2.2.2.2.2.1.1.length) (q12_c5), .slice q12_A6 (d0.2.2.2.2.2.1.2.1.length) (q12_c6), .slice q12_A7 (d0.2.2.2.2.2.1.2.2.1.length) (q12_c7), .slice q12_A8 (d0.2.2.2.2.2.1.2.2.2.length) (q12_c8), .slice q12_A9 (d0.2.2.2.2.2.2.length) (q12_c9)] q12_E (0, 0))), (113, q12_n5), (114, q12_n6), (115, q12_n7), (116, q12_n8), (117, q12_n9), (110, m9), (0, mout (wm W) (m0))] ?_
 refine VO.k7 0 1 4 5 18 19 20 (VC.block ?_)
 refine VC.loop (G := Nat × (List UInt8) × (Option Addr) × Nat × Mem) (fun g => [(5, .slice (g.2.2.1) ((g.2.1).length) ((g.2.2.2.1))), (20, .int .i64 ((((g.1) : Nat) : Int))), (0, .pointer (some ⟨g0, 0, none⟩)), (1, .int .i64 (d1)), (4, .slice none (0) (0)), (18, .slice q12_A9 (d0.2.2.2.2.2.2.length) (q12_c9)), (19, .int .i64 (((d0.2.2.2.2.2.2.length : Nat) : Int)))]) (fun g => [(118, mone g0 (.cells #[.bool d0.1, .bool d0.2.1, .bool d0.2.2.1, .int .i64 (d0.2.2.2.1), .int .i64 (d0.2.2.2.2.1), .slice q12_A5 (d0.2.2.2.2.2.1.1.length) (q12_c5), .slice q12_A6 (d0.2.2.2.2.2.1.2.1.length) (q12_c6), .slice q12_A7 (d0.2.2.2.2.2.1.2.2.1.length) (q12_c7), .slice q12_A8 (d0.2.2.2.2.2.1.2.2.2.length) (q12_c8), .slice q12_A9 (d0.2.2.2.2.2.2.length) (q12_c9)] q12_E (0, 0))), (113, q12_n5), (114, q12_n6), (115, q12_n7), (116, q12_n8), (117, q12_n9), (110, (g.2.2.2.2)), (0, mout (wm W) (m0))]) (fun g => ((g.1) ≤ d0.2.2.2.2.2.2.length) ∧ ((g.2.1) = heldB d0.2.2.2.2.2.1 (d0.2.2.2.2.2.2.take (g.1)) d1) ∧ (OwnL .byte (g.2.2.2.2) mnil (.slice (g.2.2.1) (g.2.1).length (g.2.2.2.1)) (g.2.1))) (fun g => d0.2.2.2.2.2.2.length - (g.1)) (0, d0.2.2.2.2.2.1.1, A9, c9, m9) (⟨by omega, by first | exact (getF0 ‹d1 = (0 : Int)›).symm | exact (getF1 ‹d1 = (1 : Int)›).symm | exact (getF2 ‹d1 = (2 : Int)›).symm | exact (getF3 ‹d1 = (3 : Int)›).symm, ho9⟩) ⟨⟨rfl, rfl, rfl, rfl, rfl, rfl, rfl, trivial⟩, fun _ h => h.sub [118, 113, 114, 115, 116, 117, 110, 0]⟩ ?_
 rintro ⟨k, b, b_A, b_c, b_m⟩ ⟨hk, hb, h_b⟩
 replace hk : k ≤ d0.2.2.2.2.2.2.length := hk
 replace hb : b = heldB d0.2.2.2.2.2.1 (d0.2.2.2.2.2.2.take k) d1 := hb
 replace h_b : OwnL .byte b_m mnil (.slice b_A b.length b_c) b := h_b
 show VC _ _ _ _ _ [(5, .slice b_A (b.length) (b_c)), (20, .int .i64 (((k : Nat) : Int))), (0, .pointer (some ⟨g0, 0, none⟩)), (1, .int .i64 (d1)), (4, .slice none (0) (0)), (18, .slice q12_A9 (d0.2.2.2.2.2.2.length) (q12_c9)), (19, .int .i64 (((d0.2.2.2.2.2.2.length : Nat) : Int)))] [(118, mone g0 (.cells #[.bool d0.1, .bool d0.2.1, .bool d0.2.2.1, .int .i64 (d0.2.2.2.1), .int .i64 (d0.2.2.2.2.1), .slice q12_A5 (d0.2.2.2.2.2.1.1.length) (q12_c5), .slice q12_A6 (d0.2.2.2.2.2.1.2.1.length) (q12_c6), .slice q12_A7 (d0.2.2.2.2.2.1.2.2.1.length) (q12_c7), .slice q12_A8 (d0.2.2.2.2.2.1.2.2.2.length) (q12_c8), .slice q12_A9 (d0.2.2.2.2.2.2.length) (q12_c9)] q12_E (0, 0))), (113, q12_n5), (114, q12_n6), (115, q12_n7), (116, q12_n8), (117, q12_n9), (110, b_m), (0, mout (wm W) (m0))]
 have l_b : b.length ≤ b_c := by obtain ⟨_, _, he, hl, _⟩ := h_b.slice; simp only [Value.slice.injEq] at he; omega
 have k_b : b_c ≤ 9223372036854775807 := by obtain ⟨_, _, he, _, hl⟩ := h_b.slice; simp only [Value.slice.injEq, maxLen] at he hl; omega
 refine VC.rs (VO.y rfl (.lss rfl rfl) (VO.k8 0 1 4 5 18 19 20 21 (VC.seq ?_)))
 refine VC.cond rfl (fun hc19 => ?_) (fun hc19 => ?_)
 refine VC.skip (outN (VC.seq (VC.block (VC.rs ?_))))
 obtain ⟨x20, hx20⟩ : ∃ z_, (d0.2.2.2.2.2.2)[k]? = some z_ := ⟨_, List.getElem?_eq_getElem bd⟩
 obtain ⟨gg20, oo20, ec20, ea20, hce20, hre20⟩ := (Ow.rd q12_9 (mle_refl _)).elem hx20
 cases ea20
 obtain ⟨q20_A2, q20_c2, rfl, q20_0, q20_1, q20_2, q20_3⟩ := open_diskstep (x0 := x20.1) (x1 := x20.2.1) (x2 := x20.2.2.1) (x3 := x20.2.2.2) hre20
 simp only [inK] at q20_0 q20_1
 have q20_r2 := Rd.room q20_2
 simp only [inK] at q20_3
 refine VO.y rfl (.ixI k rfl rfl tsl70 rfl bd) ?_
 refine VO.y rfl (.ldA 117 rfl tk101 rfl hce20) ?_
 refine VO.alloc 122 rfl tz101 (fun g21 => ?_)
 refine VO.store (k := 4) (c' := [Value.int .i64 (x20.1), Value.int .i64 (x20.2.1), Value.slice q20_A2 (x20.2.2.1.length) (q20_c2), Value.int .i64 (x20.2.2.2)]) 122 rfl rfl (.inl tk101) rfl rfl rfl rfl rfl ?_
 refine VO.k9 0 1 4 5 7 18 19 20 21 (VC.rs (VO.y rfl (.fa rfl tst101 rfl) (VO.y rfl (.ld1 122 rfl tk3 rfl (cellsAt_one rfl rfl)) (VO.mv (VO.y rfl (.eql rfl rfl) ?_)))))
 refine VO.kp [122, 118, 113, 114, 115, 116, 117, 110, 0] [(122, mone g21 (.cells #[.int .i64 (x20.1), .int .i64 (x20.2.1), .slice q20_A2 (x20.2.2.1.length) (q20_c2), .int .i64 (x20.2.2.2)] 101 (0, 0))), (118, mone g0 (.cells #[.bool d0.1, .bool d0.2.1, .bool d0.2.2.1, .int .i64 (d0.2.2.2.1), .int .i64 (d0.2.2.2.2.1), .slice q12_A5 (d0.2.2.2.2.2.1.1.length) (q12_c5), .slice q12_A6 (d0.2.2.2.2.2.1.2.1.length) (q12_c6), .slice q12_A7 (d0.2.2.2.2.2.1.2.2.1.length) (q12_c7), .slice q12_A8 (d0.2.2.2.2.2.1.2.2.2.length) (q12_c8), .slice (some ⟨gg20, oo20, none⟩) (d0.2.2.2.2.2.2.length) (q12_c9)] q12_E (0, 0))), (113, q12_n5), (114, q12_n6), (115, q12_n7), (116, q12_n8), (117, q12_n9), (110, b_m), (0, mout (wm W) (m0))] ?_
 refine VO.k10 0 1 4 5 7 18 19 20 21 27 ?_
 refine VC.cond rfl (fun hc23 => ?_) (fun hc23 => ?_)
 refine VC.reg ?_
 refine VO.mv (VO.y rfl (.ldA 122 rfl tk101 rfl (cellsAt_one rfl rfl)) ?_)
 refine VO.call 110 rfl fnOk84 rfl rfl (fun W hW => dDone_ok W (hW.at (i := 110) rfl) (OwnL.ow h_b rfl) (Rd.mono hre20 (hW.out (i := 110) (j := 117) rfl rfl)) (by exact held_cut hg hb ‹d0.2.2.2.2.2.2[k]? = some _› e2 ‹_ = d1›) (by (have h_ := held_room hb ‹d0.2.2.2.2.2.2[k]? = some _›; simp only [sizeQ] at h_; omega))) (fun v24 m24 hv24 => ?_)
 obtain ⟨s24_0, rfl, f24_0⟩ := hv24
 obtain ⟨A24_0, c24_0, eq24_0, l24_0, k24_0⟩ := f24_0.slice
 subst eq24_0
 simp only [maxLen] at k24_0
 refine VO.as (VO.k10 0 1 4 5 7 18 19 20 21 27 (outBN (outN ?_)))
 refine VC.reg ?_
 refine VO.y rfl (.add (c := ((k + 1 : Nat) : Int)) rfl rfl (by omega) ⟨bd, bd⟩) ?_
 refine VO.mv (VO.k10 0 1 4 5 7 18 19 20 21 27 ?_)
 exact outN ⟨⟨k + 1, doneB b x20, A24_0, c24_0, m24⟩, ⟨by omega, by first | exact held_yes hb ‹d0.2.2.2.2.2.2[k]? = some _› ‹_ = d1› | exact held_no hb ‹d0.2.2.2.2.2.2[k]? = some _› ‹¬ _ = d1›, (Ow.ownl f24_0 rfl mnil)⟩, bd, ⟨⟨rfl, rfl, rfl, rfl, rfl, rfl, rfl, trivial⟩, fun _ h => Inv.sub h [118, 113, 114, 115, 116, 117, 110, 0]⟩⟩
 refine VC.skip (outBN (outN ?_))
 refine VC.reg ?_
 refine VO.y rfl (.add (c := ((k + 1 : Nat) : Int)) rfl rfl (by omega) ⟨bd, bd⟩) ?_
 refine VO.mv (VO.k10 0 1 4 5 7 18 19 20 21 27 ?_)
 exact outN ⟨⟨k + 1, b, b_A, b_c, b_m⟩, ⟨by omega, by first | exact held_yes hb ‹d0.2.2.2.2.2.2[k]? = some _› ‹_ = d1› | exact held_no hb ‹d0.2.2.2.2.2.2[k]? = some _› ‹¬ _ = d1›, h_b⟩, bd, ⟨⟨rfl, rfl, rfl, rfl, rfl, rfl, rfl, trivial⟩, fun _ h => Inv.sub h [118, 113, 114, 115, 116, 117, 110, 0]⟩⟩
 · refine VC.exit (outE (outE (outBB (outN (VC.rs (VO.mv (VO.as (VO.k8 0 1 4 5 18 19 20 21 (VC.ret ?_)))))))))
   refine ⟨_, _, res_run (rs := [.tmp 4]) rfl (.tmp rfl .nil), fun W_ hI => out_of (l := [b_m, mone g0 (.cells #[.bool d0.1, .bool d0.2.1, .bool d0.2.2.1, .int .i64 (d0.2.2.2.1), .int .i64 (d0.2.2.2.2.1), .slice q12_A5 (d0.2.2.2.2.2.1.1.length) (q12_c5), .slice q12_A6 (d0.2.2.2.2.2.1.2.1.length) (q12_c6), .slice q12_A7 (d0.2.2.2.2.2.1.2.2.1.length) (q12_c7), .slice q12_A8 (d0.2.2.2.2.2.1.2.2.2.length) (q12_c8), .slice q12_A9 (d0.2.2.2.2.2.2.length) (q12_c9)] q12_E (0, 0)), q12_n5, q12_n6, q12_n7, q12_n8, q12_n9]) hI [110, 118, 113, 114, 115, 116, 117] rfl rfl (mle_refl _) (fun hS_ => ?_)⟩
   dsimp only [packV]
   have he0 : (heldB d0.2.2.2.2.2.1 d0.2.2.2.2.2.2 d1 : Ty.Den (.sl .byte)) = b := by first | rfl | (rw [hb, List.take_of_length_le (by omega)])
   have hm0_ : (d0 : DdiskDisk) = d0 := by first | rfl | (rw [hb, List.take_of_length_le (by omega)])
   refine ⟨Value.slice b_A (b.length) (b_c), muns [b_m], muns [mone g0 (.cells [Value.bool d0.1, Value.bool d0.2.1, Value.bool d0.2.2.1, Value.int .i64 (d0.2.2.2.1), Value.int .i64 (d0.2.2.2.2.1), Value.slice q12_A5 (d0.2.2.2.2.2.1.1.length) (q12_c5), Value.slice q12_A6 (d0.2.2.2.2.2.1.2.1.length) (q12_c6), Value.slice q12_A7 (d0.2.2.2.2.2.1.2.2.1.length) (q12_c7), Value.slice q12_A8 (d0.2.2.2.2.2.1.2.2.2.length) (q12_c8), Value.slice q12_A9 (d0.2.2.2.2.2.2.length) (q12_c9)].toArray q12_E (0, 0)), q12_n5, q12_n6, q12_n7, q12_n8, q12_n9], ?_, ?_, ?_, ?_⟩
   rotate_left
   · exact Seps.grp (ls := [[b_m], [mone g0 (.cells [Value.bool d0.1, Value.bool d0.2.1, Value.bool d0.2.2.1, Value.int .i64 (d0.2.2.2.1), Value.int .i64 (d0.2.2.2.2.1), Value.slice q12_A5 (d0.2.2.2.2.2.1.1.length) (q12_c5), Value.slice q12_A6 (d0.2.2.2.2.2.1.2.1.length) (q12_c6), Value.slice q12_A7 (d0.2.2.2.2.2.1.2.2.1.length) (q12_c7), Value.slice q12_A8 (d0.2.2.2.2.2.1.2.2.2.length) (q12_c8), Value.slice q12_A9 (d0.2.2.2.2.2.2.length) (q12_c9)].toArray q12_E (0, 0)), q12_n5, q12_n6, q12_n7, q12_n8, q12_n9]]) hS_
   · rw [he0]; exact (Ow.up (OwnL.ow h_b rfl) ((Seps.self hS_ (List.Sublist.cons_cons _ (List.Sublist.cons _ (List.Sublist.cons _ (List.Sublist.cons _ (List.Sublist.cons _ (List.Sublist.cons _ (List.Sublist.cons _ List.Sublist.slnil)))))))).1 _ (.head _)))
   · rw [hm0_]; exact (show Ow (.ptr TdiskDisk) _ _ (_, d0) from (mkP_diskDisk d0.1 d0.2.1 d0.2.2.1 d0.2.2.2.1 d0.2.2.2.2.1 d0.2.2.2.2.2.1.1 d0.2.2.2.2.2.1.2.1 d0.2.2.2.2.2.1.2.2.1 d0.2.2.2.2.2.1.2.2.2 d0.2.2.2.2.2.2 (Seps.self hS_ (List.Sublist.cons _ (List.Sublist.cons_cons _ (List.Sublist.cons_cons _ (List.Sublist.cons_cons _ (List.Sublist.cons_cons _ (List.Sublist.cons_cons _ (List.Sublist.cons_cons _ List.Sublist.slnil)))))))) bdk bdk (OwnL.ow (Ow.ownl q12_5 rfl mnil) rfl) (OwnL.ow (Ow.ownl q12_6 rfl mnil) rfl) (OwnL.ow (Ow.ownl q12_7 rfl mnil) rfl) (OwnL.ow (Ow.ownl q12_8 rfl mnil) rfl) q12_9))
   all_goals (first | rfl | (simp [*]; done))
 refine VO.y rfl (.ixa (i := 1) (o := 6) rfl rfl tar69 hi1 rfl rfl) ?_
 obtain ⟨q25_E, q25_A5, q25_c5, q25_A6, q25_c6, q25_A7, q25_c7, q25_A8, q25_c8, q25_A9, q25_c9, q25_n5, q25_n6, q25_n7, q25_n8, q25_n9, _, q25_S, q25_3, q25_4, q25_5, q25_6, q25_7, q25_8, q25_9⟩ := openP_diskDisk (x0 := d0.1) (x1 := d0.2.1) (x2 := d0.2.2.1) (x3 := d0.2.2.2.1) (x4 := d0.2.2.2.2.1) (x5 := d0.2.2.2.2.2.1.1) (x6 := d0.2.2.2.2.2.1.2.1) (x7 := d0.2.2.2.2.2.1.2.2.1) (x8 := d0.2.2.2.2.2.1.2.2.2) (x9 := d0.2.2.2.2.2.2) h0
 simp only [inK] at q25_3 q25_4
 have q25_r5 := q25_5.rm
 have q25_r6 := q25_6.rm
 have q25_r7 := q25_7.rm
 have q25_r8 := q25_8.rm
 have q25_r9 := q25_9.rm
 refine VO.inv _ (fun _ h => h.parts (i := 1) rfl q25_S [131, 126, 127, 128, 129, 130]) ?_
 refine VO.y rfl (.ld1 131 rfl tk25 rfl (cellsAt_one rfl rfl)) ?_
 refine VO.inv _ (fun _ h => h.nilc 133) ?_
 obtain ⟨mo32, cs32, hM32, hA32, hC32⟩ := (OwnL.nil .byte mnil mnil)
 obtain ⟨all32, hS32, hR32⟩ := Rd.srcI (P := Try.prog) ((OwnL.rd (Ow.ownl q25_6 rfl mnil) (mle_refl _) (mle_nil _))) Try.underlying25
 refine VO.app 133 rfl rfl rfl tsl25 tz5 rfl rfl hM32 hA32 (hS32 _ 127 rfl) hR32.nice bdm bd (by decide) (fun v32 m32 hN32 => ?_)
 have ho32 : OwnL .byte m32 mnil v32 (d0.2.2.2.2.2.1.2.1) := OwnL.more hC32 hN32 (All2c.mono hR32 fun _ _ h => Rd.flat rfl h _)
 obtain ⟨A32, c32, rfl, l32, k32⟩ := ho32.slice
 simp only [maxLen] at k32
 refine VO.as ?_
 refine VO.clsP 134 [131, 126, 127, 128, 129, 130] rfl (fun hg34 => (show Ow (.ptr TdiskDisk) _ _ (_, d0) from (mkP_diskDisk d0.1 d0.2.1 d0.2.2.1 d0.2.2.2.1 d0.2.2.2.2.1 d0.2.2.2.2.2.1.1 d0.2.2.2.2.2.1.2.1 d0.2.2.2.2.2.1.2.2.1 d0.2.2.2.2.2.1.2.2.2 d0.2.2.2.2.2.2 hg34 bdk bdk (OwnL.ow (Ow.ownl q25_5 rfl mnil) rfl) (OwnL.ow (Ow.ownl q25_6 rfl mnil) rfl) (OwnL.ow (Ow.ownl q25_7 rfl mnil) rfl) (OwnL.ow (Ow.ownl q25_8 rfl mnil) rfl) q25_9))) (fun mc34 ho34 => ?_)
 refine VO.k4 0 1 4 5 (VC.seq (VC.rs (VO.mv (VO.y rfl (.nilp rfl) (VO.y rfl (.fa rfl tst72 rfl) ?_)))))
 obtain ⟨q35_E, q35_A5, q35_c5, q35_A6, q35_c6, q35_A7, q35_c7, q35_A8, q35_c8, q35_A9, q35_c9, q35_n5, q35_n6, q35_n7, q35_n8, q35_n9, _, q35_S, q35_3, q35_4, q35_5, q35_6, q35_7, q35_8, q35_9⟩ := openP_diskDisk (x0 := d0.1) (x1 := d0.2.1) (x2 := d0.2.2.1) (x3 := d0.2.2.2.1) (x4 := d0.2.2.2.2.1) (x5 := d0.2.2.2.2.2.1.1) (x6 := d0.2.2.2.2.2.1.2.1) (x7 := d0.2.2.2.2.2.1.2.2.1) (x8 := d0.2.2.2.2.2.1.2.2.2) (x9 := d0.2.2.2.2.2.2) ho34
 simp only [inK] at q35_3 q35_4
 have q35_r5 := q35_5.rm
 have q35_r6 := q35_6.rm
 have q35_r7 := q35_7.rm
 have q35_r8 := q35_8.rm
 have q35_r9 := q35_9.rm
 refine VO.inv _ (fun _ h => h.parts (i := 134) rfl q35_S [141, 136, 137, 138, 139, 140]) ?_
 refine VO.y rfl (.ld1 141 rfl tk70 rfl (cellsAt_one rfl rfl)) ?_
 refine VO.y rfl (.lenS rfl tsl70) ?_
 refine VO.mv ?_
 refine VO.kp [141, 136, 137, 138, 139, 140, 133, 0] [(141, mone g0 (.cells #[.bool d0.1, .bool d0.2.1, .bool d0.2.2.1, .int .i64 (d0.2.2.2.1), .int .i64 (d0.2.2.2.2.1), .slice q35_A5 (d0.2.2.2.2.2.1.1.length) (q35_c5), .slice q35_A6 (d0.2.2.2.2.2.1.2.1.length) (q35_c6), .slice q35_A7 (d0.2.2.2.2.2.1.2.2.1.length) (q35_c7), .slice q35_A8 (d0.2.2.2.2.2.1.2.2.2.length) (q35_c8), .slice q35_A9 (d0.2.2.2.2.2.2.length) (q35_c9)] q35_E (0, 0))), (136, q35_n5), (137, q35_n6), (138, q35_n7), (139, q35_n8), (140, q35_n9), (133, m32), (0, mout (wm W) (m0))] ?_
 refine VO.k7 0 1 4 5 18 19 20 (VC.block ?_)
 refine VC.loop (G := Nat × (List UInt8) × (Option Addr) × Nat × Mem) (fun g => [(5, .slice (g.2.2.1) ((g.2.1).length) ((g.2.2.2.1))), (20, .int .i64 ((((g.1) : Nat) : Int))), (0, .pointer (some ⟨g0, 0, none⟩)), (1, .int .i64 (d1)), (4, .slice none (0) (0)), (18, .slice q35_A9 (d0.2.2.2.2.2.2.length) (q35_c9)), (19, .int .i64 (((d0.2.2.2.2.2.2.length : Nat) : Int)))]) (fun g => [(141, mone g0 (.cells #[.bool d0.1, .bool d0.2.1, .bool d0.2.2.1, .int .i64 (d0.2.2.2.1), .int .i64 (d0.2.2.2.2.1), .slice q35_A5 (d0.2.2.2.2.2.1.1.length) (q35_c5), .slice q35_A6 (d0.2.2.2.2.2.1.2.1.length) (q35_c6), .slice q35_A7 (d0.2.2.2.2.2.1.2.2.1.length) (q35_c7), .slice q35_A8 (d0.2.2.2.2.2.1.2.2.2.length) (q35_c8), .slice q35_A9 (d0.2.2.2.2.2.2.length) (q35_c9)] q35_E (0, 0))), (136, q35_n5), (137, q35_n6), (138, q35_n7), (139, q35_n8), (140, q35_n9), (133, (g.2.2.2.2)), (0, mout (wm W) (m0))]) (fun g => ((g.1) ≤ d0.2.2.2.2.2.2.length) ∧ ((g.2.1) = heldB d0.2.2.2.2.2.1 (d0.2.2.2.2.2.2.take (g.1)) d1) ∧ (OwnL .byte (g.2.2.2.2) mnil (.slice (g.2.2.1) (g.2.1).length (g.2.2.2.1)) (g.2.1))) (fun g => d0.2.2.2.2.2.2.length - (g.1)) (0, d0.2.2.2.2.2.1.2.1, A32, c32, m32) (⟨by omega, by first | exact (getF0 ‹d1 = (0 : Int)›).symm | exact (getF1 ‹d1 = (1 : Int)›).symm | exact (getF2 ‹d1 = (2 : Int)›).symm | exact (getF3 ‹d1 = (3 : Int)›).symm, ho32⟩) ⟨⟨rfl, rfl, rfl, rfl, rfl, rfl, rfl, trivial⟩, fun _ h => h.sub [141, 136, 137, 138, 139, 140, 133, 0]⟩ ?_
 rintro ⟨k, b, b_A, b_c, b_m⟩ ⟨hk, hb, h_b⟩
 replace hk : k ≤ d0.2.2.2.2.2.2.length := hk
 replace hb : b = heldB d0.2.2.2.2.2.1 (d0.2.2.2.2.2.2.take k) d1 := hb
 replace h_b : OwnL .byte b_m mnil (.slice b_A b.length b_c) b := h_b
 show VC _ _ _ _ _ [(5, .slice b_A (b.length) (b_c)), (20, .int .i64 (((k : Nat) : Int))), (0, .pointer (some ⟨g0, 0, none⟩)), (1, .int .i64 (d1)), (4, .slice none (0) (0)), (18, .slice q35_A9 (d0.2.2.2.2.2.2.length) (q35_c9)), (19, .int .i64 (((d0.2.2.2.2.2.2.length : Nat) : Int)))] [(141, mone g0 (.cells #[.bool d0.1, .bool d0.2.1, .bool d0.2.2.1, .int .i64 (d0.2.2.2.1), .int .i64 (d0.2.2.2.2.1), .slice q35_A5 (d0.2.2.2.2.2.1.1.length) (q35_c5), .slice q35_A6 (d0.2.2.2.2.2.1.2.1.length) (q35_c6), .slice q35_A7 (d0.2.2.2.2.2.1.2.2.1.length) (q35_c7), .slice q35_A8 (d0.2.2.2.2.2.1.2.2.2.length) (q35_c8), .slice q35_A9 (d0.2.2.2.2.2.2.length) (q35_c9)] q35_E (0, 0))), (136, q35_n5), (137, q35_n6), (138, q35_n7), (139, q35_n8), (140, q35_n9), (133, b_m), (0, mout (wm W) (m0))]
 have l_b : b.length ≤ b_c := by obtain ⟨_, _, he, hl, _⟩ := h_b.slice; simp only [Value.slice.injEq] at he; omega
 have k_b : b_c ≤ 9223372036854775807 := by obtain ⟨_, _, he, _, hl⟩ := h_b.slice; simp only [Value.slice.injEq, maxLen] at he hl; omega
 refine VC.rs (VO.y rfl (.lss rfl rfl) (VO.k8 0 1 4 5 18 19 20 21 (VC.seq ?_)))
 refine VC.cond rfl (fun hc42 => ?_) (fun hc42 => ?_)
 refine VC.skip (outN (VC.seq (VC.block (VC.rs ?_))))
 obtain ⟨x43, hx43⟩ : ∃ z_, (d0.2.2.2.2.2.2)[k]? = some z_ := ⟨_, List.getElem?_eq_getElem bd⟩
 obtain ⟨gg43, oo43, ec43, ea43, hce43, hre43⟩ := (Ow.rd q35_9 (mle_refl _)).elem hx43
 cases ea43
 obtain ⟨q43_A2, q43_c2, rfl, q43_0, q43_1, q43_2, q43_3⟩ := open_diskstep (x0 := x43.1) (x1 := x43.2.1) (x2 := x43.2.2.1) (x3 := x43.2.2.2) hre43
 simp only [inK] at q43_0 q43_1
 have q43_r2 := Rd.room q43_2
 simp only [inK] at q43_3
 refine VO.y rfl (.ixI k rfl rfl tsl70 rfl bd) ?_
 refine VO.y rfl (.ldA 140 rfl tk101 rfl hce43) ?_
 refine VO.alloc 145 rfl tz101 (fun g44 => ?_)
 refine VO.store (k := 4) (c' := [Value.int .i64 (x43.1), Value.int .i64 (x43.2.1), Value.slice q43_A2 (x43.2.2.1.length) (q43_c2), Value.int .i64 (x43.2.2.2)]) 145 rfl rfl (.inl tk101) rfl rfl rfl rfl rfl ?_
 refine VO.k9 0 1 4 5 7 18 19 20 21 (VC.rs (VO.y rfl (.fa rfl tst101 rfl) (VO.y rfl (.ld1 145 rfl tk3 rfl (cellsAt_one rfl rfl)) (VO.mv (VO.y rfl (.eql rfl rfl) ?_)))))
 refine VO.kp [145, 141, 136, 137, 138, 139, 140, 133, 0] [(145, mone g44 (.cells #[.int .i64 (x43.1), .int .i64 (x43.2.1), .slice q43_A2 (x43.2.2.1.length) (q43_c2), .int .i64 (x43.2.2.2)] 101 (0, 0))), (141, mone g0 (.cells #[.bool d0.1, .bool d0.2.1, .bool d0.2.2.1, .int .i64 (d0.2.2.2.1), .int .i64 (d0.2.2.2.2.1), .slice q35_A5 (d0.2.2.2.2.2.1.1.length) (q35_c5), .slice q35_A6 (d0.2.2.2.2.2.1.2.1.length) (q35_c6), .slice q35_A7 (d0.2.2.2.2.2.1.2.2.1.length) (q35_c7), .slice q35_A8 (d0.2.2.2.2.2.1.2.2.2.length) (q35_c8), .slice (some ⟨gg43, oo43, none⟩) (d0.2.2.2.2.2.2.length) (q35_c9)] q35_E (0, 0))), (136, q35_n5), (137, q35_n6), (138, q35_n7), (139, q35_n8), (140, q35_n9), (133, b_m), (0, mout (wm W) (m0))] ?_
 refine VO.k10 0 1 4 5 7 18 19 20 21 27 ?_
 refine VC.cond rfl (fun hc46 => ?_) (fun hc46 => ?_)
 refine VC.reg ?_
 refine VO.mv (VO.y rfl (.ldA 145 rfl tk101 rfl (cellsAt_one rfl rfl)) ?_)
 refine VO.call 133 rfl fnOk84 rfl rfl (fun W hW => dDone_ok W (hW.at (i := 133) rfl) (OwnL.ow h_b rfl) (Rd.mono hre43 (hW.out (i := 133) (j := 140) rfl rfl)) (by exact held_cut hg hb ‹d0.2.2.2.2.2.2[k]? = some _› e2 ‹_ = d1›) (by (have h_ := held_room hb ‹d0.2.2.2.2.2.2[k]? = some _›; simp only [sizeQ] at h_; omega))) (fun v47 m47 hv47 => ?_)
 obtain ⟨s47_0, rfl, f47_0⟩ := hv47
 obtain ⟨A47_0, c47_0, eq47_0, l47_0, k47_0⟩ := f47_0.slice
 subst eq47_0
 simp only [maxLen] at k47_0
 refine VO.as (VO.k10 0 1 4 5 7 18 19 20 21 27 (outBN (outN ?_)))
 refine VC.reg ?_
 refine VO.y rfl (.add (c := ((k + 1 : Nat) : Int)) rfl rfl (by omega) ⟨bd, bd⟩) ?_
 refine VO.mv (VO.k10 0 1 4 5 7 18 19 20 21 27 ?_)
 exact outN ⟨⟨k + 1, doneB b x43, A47_0, c47_0, m47⟩, ⟨by omega, by first | exact held_yes hb ‹d0.2.2.2.2.2.2[k]? = some _› ‹_ = d1› | exact held_no hb ‹d0.2.2.2.2.2.2[k]? = some _› ‹¬ _ = d1›, (Ow.ownl f47_0 rfl mnil)⟩, bd, ⟨⟨rfl, rfl, rfl, rfl, rfl, rfl, rfl, trivial⟩, fun _ h => Inv.sub h [141, 136, 137, 138, 139, 140, 133, 0]⟩⟩
 refine VC.skip (outBN (outN ?_))
 refine VC.reg ?_
 refine VO.y rfl (.add (c := ((k + 1 : Nat) : Int)) rfl rfl (by omega) ⟨bd, bd⟩) ?_
 refine VO.mv (VO.k10 0 1 4 5 7 18 19 20 21 27 ?_)
 exact outN ⟨⟨k + 1, b, b_A, b_c, b_m⟩, ⟨by omega, by first | exact held_yes hb ‹d0.2.2.2.2.2.2[k]? = some _› ‹_ = d1› | exact held_no hb ‹d0.2.2.2.2.2.2[k]? = some _› ‹¬ _ = d1›, h_b⟩, bd, ⟨⟨rfl, rfl, rfl, rfl, rfl, rfl, rfl, trivial⟩, fun _ h => Inv.sub h [141, 136, 137, 138, 139, 140, 133, 0]⟩⟩
 · refine VC.exit (outE (outE (outBB (outN (VC.rs (VO.mv (VO.as (VO.k8 0 1 4 5 18 19 20 21 (VC.ret ?_)))))))))
   refine ⟨_, _, res_run (rs := [.tmp 4]) rfl (.tmp rfl .nil), fun W_ hI => out_of (l := [b_m, mone g0 (.cells #[.bool d0.1, .bool d0.2.1, .bool d0.2.2.1, .int .i64 (d0.2.2.2.1), .int .i64 (d0.2.2.2.2.1), .slice q35_A5 (d0.2.2.2.2.2.1.1.length) (q35_c5), .slice q35_A6 (d0.2.2.2.2.2.1.2.1.length) (q35_c6), .slice q35_A7 (d0.2.2.2.2.2.1.2.2.1.length) (q35_c7), .slice q35_A8 (d0.2.2.2.2.2.1.2.2.2.length) (q35_c8), .slice q35_A9 (d0.2.2.2.2.2.2.length) (q35_c9)] q35_E (0, 0)), q35_n5, q35_n6, q35_n7, q35_n8, q35_n9]) hI [133, 141, 136, 137, 138, 139, 140] rfl rfl (mle_refl _) (fun hS_ => ?_)⟩
   dsimp only [packV]
   have he0 : (heldB d0.2.2.2.2.2.1 d0.2.2.2.2.2.2 d1 : Ty.Den (.sl .byte)) = b := by first | rfl | (rw [hb, List.take_of_length_le (by omega)])
   have hm0_ : (d0 : DdiskDisk) = d0 := by first | rfl | (rw [hb, List.take_of_length_le (by omega)])
   refine ⟨Value.slice b_A (b.length) (b_c), muns [b_m], muns [mone g0 (.cells [Value.bool d0.1, Value.bool d0.2.1, Value.bool d0.2.2.1, Value.int .i64 (d0.2.2.2.1), Value.int .i64 (d0.2.2.2.2.1), Value.slice q35_A5 (d0.2.2.2.2.2.1.1.length) (q35_c5), Value.slice q35_A6 (d0.2.2.2.2.2.1.2.1.length) (q35_c6), Value.slice q35_A7 (d0.2.2.2.2.2.1.2.2.1.length) (q35_c7), Value.slice q35_A8 (d0.2.2.2.2.2.1.2.2.2.length) (q35_c8), Value.slice q35_A9 (d0.2.2.2.2.2.2.length) (q35_c9)].toArray q35_E (0, 0)), q35_n5, q35_n6, q35_n7, q35_n8, q35_n9], ?_, ?_, ?_, ?_⟩
   rotate_left
   · exact Seps.grp (ls := [[b_m], [mone g0 (.cells [Value.bool d0.1, Value.bool d0.2.1, Value.bool d0.2.2.1, Value.int .i64 (d0.2.2.2.1), Value.int .i64 (d0.2.2.2.2.1), Value.slice q35_A5 (d0.2.2.2.2.2.1.1.length) (q35_c5), Value.slice q35_A6 (d0.2.2.2.2.2.1.2.1.length) (q35_c6), Value.slice q35_A7 (d0.2.2.2.2.2.1.2.2.1.length) (q35_c7), Value.slice q35_A8 (d0.2.2.2.2.2.1.2.2.2.length) (q35_c8), Value.slice q35_A9 (d0.2.2.2.2.2.2.length) (q35_c9)].toArray q35_E (0, 0)), q35_n5, q35_n6, q35_n7, q35_n8, q35_n9]]) hS_
   · rw [he0]; exact (Ow.up (OwnL.ow h_b rfl) ((Seps.self hS_ (List.Sublist.cons_cons _ (List.Sublist.cons _ (List.Sublist.cons _ (List.Sublist.cons _ (List.Sublist.cons _ (List.Sublist.cons _ (List.Sublist.cons _ List.Sublist.slnil)))))))).1 _ (.head _)))
   · rw [hm0_]; exact (show Ow (.ptr TdiskDisk) _ _ (_, d0) from (mkP_diskDisk d0.1 d0.2.1 d0.2.2.1 d0.2.2.2.1 d0.2.2.2.2.1 d0.2.2.2.2.2.1.1 d0.2.2.2.2.2.1.2.1 d0.2.2.2.2.2.1.2.2.1 d0.2.2.2.2.2.1.2.2.2 d0.2.2.2.2.2.2 (Seps.self hS_ (List.Sublist.cons _ (List.Sublist.cons_cons _ (List.Sublist.cons_cons _ (List.Sublist.cons_cons _ (List.Sublist.cons_cons _ (List.Sublist.cons_cons _ (List.Sublist.cons_cons _ List.Sublist.slnil)))))))) bdk bdk (OwnL.ow (Ow.ownl q35_5 rfl mnil) rfl) (OwnL.ow (Ow.ownl q35_6 rfl mnil) rfl) (OwnL.ow (Ow.ownl q35_7 rfl mnil) rfl) (OwnL.ow (Ow.ownl q35_8 rfl mnil) rfl) q35_9))
   all_goals (first | rfl | (simp [*]; done))
 refine VO.y rfl (.ixa (i := 2) (o := 7) rfl rfl tar69 hi1 rfl rfl) ?_
 obtain ⟨q48_E, q48_A5, q48_c5, q48_A6, q48_c6, q48_A7, q48_c7, q48_A8, q48_c8, q48_A9, q48_c9, q48_n5, q48_n6, q48_n7, q48_n8, q48_n9, _, q48_S, q48_3, q48_4, q48_5, q48_6, q48_7, q48_8, q48_9⟩ := openP_diskDisk (x0 := d0.1) (x1 := d0.2.1) (x2 := d0.2.2.1) (x3 := d0.2.2.2.1) (x4 := d0.2.2.2.2.1) (x5 := d0.2.2.2.2.2.1.1) (x6 := d0.2.2.2.2.2.1.2.1) (x7 := d0.2.2.2.2.2.1.2.2.1) (x8 := d0.2.2.2.2.2.1.2.2.2) (x9 := d0.2.2.2.2.2.2) h0
 simp only [inK] at q48_3 q48_4
 have q48_r5 := q48_5.rm
 have q48_r6 := q48_6.rm
 have q48_r7 := q48_7.rm
 have q48_r8 := q48_8.rm
 have q48_r9 := q48_9.rm
 refine VO.inv _ (fun _ h => h.parts (i := 1) rfl q48_S [154, 149, 150, 151, 152, 153]) ?_
 refine VO.y rfl (.ld1 154 rfl tk25 rfl (cellsAt_one rfl rfl)) ?_
 refine VO.inv _ (fun _ h => h.nilc 156) ?_
 obtain ⟨mo55, cs55, hM55, hA55, hC55⟩ := (OwnL.nil .byte mnil mnil)
 obtain ⟨all55, hS55, hR55⟩ := Rd.srcI (P := Try.prog) ((OwnL.rd (Ow.ownl q48_7 rfl mnil) (mle_refl _) (mle_nil _))) Try.underlying25
 refine VO.app 156 rfl rfl rfl tsl25 tz5 rfl rfl hM55 hA55 (hS55 _ 151 rfl) hR55.nice bdm bd (by decide) (fun v55 m55 hN55 => ?_)
 have ho55 : OwnL .byte m55 mnil v55 (d0.2.2.2.2.2.1.2.2.1) := OwnL.more hC55 hN55 (All2c.mono hR55 fun _ _ h => Rd.flat rfl h _)
 obtain ⟨A55, c55, rfl, l55, k55⟩ := ho55.slice
 simp only [maxLen] at k55
 refine VO.as ?_
 refine VO.clsP 157 [154, 149, 150, 151, 152, 153] rfl (fun hg57 => (show Ow (.ptr TdiskDisk) _ _ (_, d0) from (mkP_diskDisk d0.1 d0.2.1 d0.2.2.1 d0.2.2.2.1 d0.2.2.2.2.1 d0.2.2.2.2.2.1.1 d0.2.2.2.2.2.1.2.1 d0.2.2.2.2.2.1.2.2.1 d0.2.2.2.2.2.1.2.2.2 d0.2.2.2.2.2.2 hg57 bdk bdk (OwnL.ow (Ow.ownl q48_5 rfl mnil) rfl) (OwnL.ow (Ow.ownl q48_6 rfl mnil) rfl) (OwnL.ow (Ow.ownl q48_7 rfl mnil) rfl) (OwnL.ow (Ow.ownl q48_8 rfl mnil) rfl) q48_9))) (fun mc57 ho57 => ?_)
 refine VO.k4 0 1 4 5 (VC.seq (VC.rs (VO.mv (VO.y rfl (.nilp rfl) (VO.y rfl (.fa rfl tst72 rfl) ?_)))))
 obtain ⟨q58_E, q58_A5, q58_c5, q58_A6, q58_c6, q58_A7, q58_c7, q58_A8, q58_c8, q58_A9, q58_c9, q58_n5, q58_n6, q58_n7, q58_n8, q58_n9, _, q58_S, q58_3, q58_4, q58_5, q58_6, q58_7, q58_8, q58_9⟩ := openP_diskDisk (x0 := d0.1) (x1 := d0.2.1) (x2 := d0.2.2.1) (x3 := d0.2.2.2.1) (x4 := d0.2.2.2.2.1) (x5 := d0.2.2.2.2.2.1.1) (x6 := d0.2.2.2.2.2.1.2.1) (x7 := d0.2.2.2.2.2.1.2.2.1) (x8 := d0.2.2.2.2.2.1.2.2.2) (x9 := d0.2.2.2.2.2.2) ho57
 simp only [inK] at q58_3 q58_4
 have q58_r5 := q58_5.rm
 have q58_r6 := q58_6.rm
 have q58_r7 := q58_7.rm
 have q58_r8 := q58_8.rm
 have q58_r9 := q58_9.rm
 refine VO.inv _ (fun _ h => h.parts (i := 157) rfl q58_S [164, 159, 160, 161, 162, 163]) ?_
 refine VO.y rfl (.ld1 164 rfl tk70 rfl (cellsAt_one rfl rfl)) ?_
 refine VO.y rfl (.lenS rfl tsl70) ?_
 refine VO.mv ?_
 refine VO.kp [164, 159, 160, 161, 162, 163, 156, 0] [(164, mone g0 (.cells #[.bool d0.1, .bool d0.2.1, .bool d0.2.2.1, .int .i64 (d0.2.2.2.1), .int .i64 (d0.2.2.2.2.1), .slice q58_A5 (d0.2.2.2.2.2.1.1.length) (q58_c5), .slice q58_A6 (d0.2.2.2.2.2.1.2.1.length) (q58_c6), .slice q58_A7 (d0.2.2.2.2.2.1.2.2.1.length) (q58_c7), .slice q58_A8 (d0.2.2.2.2.2.1.2.2.2.length) (q58_c8), .slice q58_A9 (d0.2.2.2.2.2.2.length) (q58_c9)] q58_E (0, 0))), (159, q58_n5), (160, q58_n6), (161, q58_n7), (162, q58_n8), (163, q58_n9), (156, m55), (0, mout (wm W) (m0))] ?_
 refine VO.k7 0 1 4 5 18 19 20 (VC.block ?_)
 refine VC.loop (G := Nat × (List UInt8) × (Option Addr) × Nat × Mem) (fun g => [(5, .slice (g.2.2.1) ((g.2.1).length) ((g.2.2.2.1))), (20, .int .i64 ((((g.1) : Nat) : Int))), (0, .pointer (some ⟨g0, 0, none⟩)), (1, .int .i64 (d1)), (4, .slice none (0) (0)), (18, .slice q58_A9 (d0.2.2.2.2.2.2.length) (q58_c9)), (19, .int .i64 (((d0.2.2.2.2.2.2.length : Nat) : Int)))]) (fun g => [(164, mone g0 (.cells #[.bool d0.1, .bool d0.2.1, .bool d0.2.2.1, .int .i64 (d0.2.2.2.1), .int .i64 (d0.2.2.2.2.1), .slice q58_A5 (d0.2.2.2.2.2.1.1.length) (q58_c5), .slice q58_A6 (d0.2.2.2.2.2.1.2.1.length) (q58_c6), .slice q58_A7 (d0.2.2.2.2.2.1.2.2.1.length) (q58_c7), .slice q58_A8 (d0.2.2.2.2.2.1.2.2.2.length) (q58_c8), .slice q58_A9 (d0.2.2.2.2.2.2.length) (q58_c9)] q58_E (0, 0))), (159, q58_n5), (160, q58_n6), (161, q58_n7), (162, q58_n8), (163, q58_n9), (156, (g.2.2.2.2)), (0, mout (wm W) (m0))]) (fun g => ((g.1) ≤ d0.2.2.2.2.2.2.length) ∧ ((g.2.1) = heldB d0.2.2.2.2.2.1 (d0.2.2.2.2.2.2.take (g.1)) d1) ∧ (OwnL .byte (g.2.2.2.2) mnil (.slice (g.2.2.1) (g.2.1).length (g.2.2.2.1)) (g.2.1))) (fun g => d0.2.2.2.2.2.2.length - (g.1)) (0, d0.2.2.2.2.2.1.2.2.1, A55, c55, m55) (⟨by omega, by first | exact (getF0 ‹d1 = (0 : Int)›).symm | exact (getF1 ‹d1 = (1 : Int)›).symm | exact (getF2 ‹d1 = (2 : Int)›).symm | exact (getF3 ‹d1 = (3 : Int)›).symm, ho55⟩) ⟨⟨rfl, rfl, rfl, rfl, rfl, rfl, rfl, trivial⟩, fun _ h => h.sub [164, 159, 160, 161, 162, 163, 156, 0]⟩ ?_
 rintro ⟨k, b, b_A, b_c, b_m⟩ ⟨hk, hb, h_b⟩
 replace hk : k ≤ d0.2.2.2.2.2.2.length := hk
 replace hb : b = heldB d0.2.2.2.2.2.1 (d0.2.2.2.2.2.2.take k) d1 := hb
 replace h_b : OwnL .byte b_m mnil (.slice b_A b.length b_c) b := h_b
 show VC _ _ _ _ _ [(5, .slice b_A (b.length) (b_c)), (20, .int .i64 (((k : Nat) : Int))), (0, .pointer (some ⟨g0, 0, none⟩)), (1, .int .i64 (d1)), (4, .slice none (0) (0)), (18, .slice q58_A9 (d0.2.2.2.2.2.2.length) (q58_c9)), (19, .int .i64 (((d0.2.2.2.2.2.2.length : Nat) : Int)))] [(164, mone g0 (.cells #[.bool d0.1, .bool d0.2.1, .bool d0.2.2.1, .int .i64 (d0.2.2.2.1), .int .i64 (d0.2.2.2.2.1), .slice q58_A5 (d0.2.2.2.2.2.1.1.length) (q58_c5), .slice q58_A6 (d0.2.2.2.2.2.1.2.1.length) (q58_c6), .slice q58_A7 (d0.2.2.2.2.2.1.2.2.1.length) (q58_c7), .slice q58_A8 (d0.2.2.2.2.2.1.2.2.2.length) (q58_c8), .slice q58_A9 (d0.2.2.2.2.2.2.length) (q58_c9)] q58_E (0, 0))), (159, q58_n5), (160, q58_n6), (161, q58_n7), (162, q58_n8), (163, q58_n9), (156, b_m), (0, mout (wm W) (m0))]
 have l_b : b.length ≤ b_c := by obtain ⟨_, _, he, hl, _⟩ := h_b.slice; simp only [Value.slice.injEq] at he; omega
 have k_b : b_c ≤ 9223372036854775807 := by obtain ⟨_, _, he, _, hl⟩ := h_b.slice; simp only [Value.slice.injEq, maxLen] at he hl; omega
 refine VC.rs (VO.y rfl (.lss rfl rfl) (VO.k8 0 1 4 5 18 19 20 21 (VC.seq ?_)))
 refine VC.cond rfl (fun hc65 => ?_) (fun hc65 => ?_)
 refine VC.skip (outN (VC.seq (VC.block (VC.rs ?_))))
 obtain ⟨x66, hx66⟩ : ∃ z_, (d0.2.2.2.2.2.2)[k]? = some z_ := ⟨_, List.getElem?_eq_getElem bd⟩
 obtain ⟨gg66, oo66, ec66, ea66, hce66, hre66⟩ := (Ow.rd q58_9 (mle_refl _)).elem hx66
 cases ea66
 obtain ⟨q66_A2, q66_c2, rfl, q66_0, q66_1, q66_2, q66_3⟩ := open_diskstep (x0 := x66.1) (x1 := x66.2.1) (x2 := x66.2.2.1) (x3 := x66.2.2.2) hre66
 simp only [inK] at q66_0 q66_1
 have q66_r2 := Rd.room q66_2
 simp only [inK] at q66_3
 refine VO.y rfl (.ixI k rfl rfl tsl70 rfl bd) ?_
 refine VO.y rfl (.ldA 163 rfl tk101 rfl hce66) ?_
 refine VO.alloc 168 rfl tz101 (fun g67 => ?_)
 refine VO.store (k := 4) (c' := [Value.int .i64 (x66.1), Value.int .i64 (x66.2.1), Value.slice q66_A2 (x66.2.2.1.length) (q66_c2), Value.int .i64 (x66.2.2.2)]) 168 rfl rfl (.inl tk101) rfl rfl rfl rfl rfl ?_
 refine VO.k9 0 1 4 5 7 18 19 20 21 (VC.rs (VO.y rfl (.fa rfl tst101 rfl) (VO.y rfl (.ld1 168 rfl tk3 rfl (cellsAt_one rfl rfl)) (VO.mv (VO.y rfl (.eql rfl rfl) ?_)))))
 refine VO.kp [168, 164, 159, 160, 161, 162, 163, 156, 0] [(168, mone g67 (.cells #[.int .i64 (x66.1), .int .i64 (x66.2.1), .slice q66_A2 (x66.2.2.1.length) (q66_c2), .int .i64 (x66.2.2.2)] 101 (0, 0))), (164, mone g0 (.cells #[.bool d0.1, .bool d0.2.1, .bool d0.2.2.1, .int .i64 (d0.2.2.2.1), .int .i64 (d0.2.2.2.2.1), .slice q58_A5 (d0.2.2.2.2.2.1.1.length) (q58_c5), .slice q58_A6 (d0.2.2.2.2.2.1.2.1.length) (q58_c6), .slice q58_A7 (d0.2.2.2.2.2.1.2.2.1.length) (q58_c7), .slice q58_A8 (d0.2.2.2.2.2.1.2.2.2.length) (q58_c8), .slice (some ⟨gg66, oo66, none⟩) (d0.2.2.2.2.2.2.length) (q58_c9)] q58_E (0, 0))), (159, q58_n5), (160, q58_n6), (161, q58_n7), (162, q58_n8), (163, q58_n9), (156, b_m), (0, mout (wm W) (m0))] ?_
 refine VO.k10 0 1 4 5 7 18 19 20 21 27 ?_
 refine VC.cond rfl (fun hc69 => ?_) (fun hc69 => ?_)
 refine VC.reg ?_
 refine VO.mv (VO.y rfl (.ldA 168 rfl tk101 rfl (cellsAt_one rfl rfl)) ?_)
 refine VO.call 156 rfl fnOk84 rfl rfl (fun W hW => dDone_ok W (hW.at (i := 156) rfl) (OwnL.ow h_b rfl) (Rd.mono hre66 (hW.out (i := 156) (j := 163) rfl rfl)) (by exact held_cut hg hb ‹d0.2.2.2.2.2.2[k]? = some _› e2 ‹_ = d1›) (by (have h_ := held_room hb ‹d0.2.2.2.2.2.2[k]? = some _›; simp only [sizeQ] at h_; omega))) (fun v70 m70 hv70 => ?_)
 obtain ⟨s70_0, rfl, f70_0⟩ := hv70
 obtain ⟨A70_0, c70_0, eq70_0, l70_0, k70_0⟩ := f70_0.slice
 subst eq70_0
 simp only [maxLen] at k70_0
 refine VO.as (VO.k10 0 1 4 5 7 18 19 20 21 27 (outBN (outN ?_)))
 refine VC.reg ?_
 refine VO.y rfl (.add (c := ((k + 1 : Nat) : Int)) rfl rfl (by omega) ⟨bd, bd⟩) ?_
 refine VO.mv (VO.k10 0 1 4 5 7 18 19 20 21 27 ?_)
 exact outN ⟨⟨k + 1, doneB b x66, A70_0, c70_0, m70⟩, ⟨by omega, by first | exact held_yes hb ‹d0.2.2.2.2.2.2[k]? = some _› ‹_ = d1› | exact held_no hb ‹d0.2.2.2.2.2.2[k]? = some _› ‹¬ _ = d1›, (Ow.ownl f70_0 rfl mnil)⟩, bd, ⟨⟨rfl, rfl, rfl, rfl, rfl, rfl, rfl, trivial⟩, fun _ h => Inv.sub h [164, 159, 160, 161, 162, 163, 156, 0]⟩⟩
 refine VC.skip (outBN (outN ?_))
 refine VC.reg ?_
 refine VO.y rfl (.add (c := ((k + 1 : Nat) : Int)) rfl rfl (by omega) ⟨bd, bd⟩) ?_
 refine VO.mv (VO.k10 0 1 4 5 7 18 19 20 21 27 ?_)
 exact outN ⟨⟨k + 1, b, b_A, b_c, b_m⟩, ⟨by omega, by first | exact held_yes hb ‹d0.2.2.2.2.2.2[k]? = some _› ‹_ = d1› | exact held_no hb ‹d0.2.2.2.2.2.2[k]? = some _› ‹¬ _ = d1›, h_b⟩, bd, ⟨⟨rfl, rfl, rfl, rfl, rfl, rfl, rfl, trivial⟩, fun _ h => Inv.sub h [164, 159, 160, 161, 162, 163, 156, 0]⟩⟩
 · refine VC.exit (outE (outE (outBB (outN (VC.rs (VO.mv (VO.as (VO.k8 0 1 4 5 18 19 20 21 (VC.ret ?_)))))))))
   refine ⟨_, _, res_run (rs := [.tmp 4]) rfl (.tmp rfl .nil), fun W_ hI => out_of (l := [b_m, mone g0 (.cells #[.bool d0.1, .bool d0.2.1, .bool d0.2.2.1, .int .i64 (d0.2.2.2.1), .int .i64 (d0.2.2.2.2.1), .slice q58_A5 (d0.2.2.2.2.2.1.1.length) (q58_c5), .slice q58_A6 (d0.2.2.2.2.2.1.2.1.length) (q58_c6), .slice q58_A7 (d0.2.2.2.2.2.1.2.2.1.length) (q58_c7), .slice q58_A8 (d0.2.2.2.2.2.1.2.2.2.length) (q58_c8), .slice q58_A9 (d0.2.2.2.2.2.2.length) (q58_c9)] q58_E (0, 0)), q58_n5, q58_n6, q58_n7, q58_n8, q58_n9]) hI [156, 164, 159, 160, 161, 162, 163] rfl rfl (mle_refl _) (fun hS_ => ?_)⟩
   dsimp only [packV]
   have he0 : (heldB d0.2.2.2.2.2.1 d0.2.2.2.2.2.2 d1 : Ty.Den (.sl .byte)) = b := by first | rfl | (rw [hb, List.take_of_length_le (by omega)])
   have hm0_ : (d0 : DdiskDisk) = d0 := by first | rfl | (rw [hb, List.take_of_length_le (by omega)])
   refine ⟨Value.slice b_A (b.length) (b_c), muns [b_m], muns [mone g0 (.cells [Value.bool d0.1, Value.bool d0.2.1, Value.bool d0.2.2.1, Value.int .i64 (d0.2.2.2.1), Value.int .i64 (d0.2.2.2.2.1), Value.slice q58_A5 (d0.2.2.2.2.2.1.1.length) (q58_c5), Value.slice q58_A6 (d0.2.2.2.2.2.1.2.1.length) (q58_c6), Value.slice q58_A7 (d0.2.2.2.2.2.1.2.2.1.length) (q58_c7), Value.slice q58_A8 (d0.2.2.2.2.2.1.2.2.2.length) (q58_c8), Value.slice q58_A9 (d0.2.2.2.2.2.2.length) (q58_c9)].toArray q58_E (0, 0)), q58_n5, q58_n6, q58_n7, q58_n8, q58_n9], ?_, ?_, ?_, ?_⟩
   rotate_left
   · exact Seps.grp (ls := [[b_m], [mone g0 (.cells [Value.bool d0.1, Value.bool d0.2.1, Value.bool d0.2.2.1, Value.int .i64 (d0.2.2.2.1), Value.int .i64 (d0.2.2.2.2.1), Value.slice q58_A5 (d0.2.2.2.2.2.1.1.length) (q58_c5), Value.slice q58_A6 (d0.2.2.2.2.2.1.2.1.length) (q58_c6), Value.slice q58_A7 (d0.2.2.2.2.2.1.2.2.1.length) (q58_c7), Value.slice q58_A8 (d0.2.2.2.2.2.1.2.2.2.length) (q58_c8), Value.slice q58_A9 (d0.2.2.2.2.2.2.length) (q58_c9)].toArray q58_E (0, 0)), q58_n5, q58_n6, q58_n7, q58_n8, q58_n9]]) hS_
   · rw [he0]; exact (Ow.up (OwnL.ow h_b rfl) ((Seps.self hS_ (List.Sublist.cons_cons _ (List.Sublist.cons _ (List.Sublist.cons _ (List.Sublist.cons _ (List.Sublist.cons _ (List.Sublist.cons _ (List.Sublist.cons _ List.Sublist.slnil)))))))).1 _ (.head _)))
   · rw [hm0_]; exact (show Ow (.ptr TdiskDisk) _ _ (_, d0) from (mkP_diskDisk d0.1 d0.2.1 d0.2.2.1 d0.2.2.2.1 d0.2.2.2.2.1 d0.2.2.2.2.2.1.1 d0.2.2.2.2.2.1.2.1 d0.2.2.2.2.2.1.2.2.1 d0.2.2.2.2.2.1.2.2.2 d0.2.2.2.2.2.2 (Seps.self hS_ (List.Sublist.cons _ (List.Sublist.cons_cons _ (List.Sublist.cons_cons _ (List.Sublist.cons_cons _ (List.Sublist.cons_cons _ (List.Sublist.cons_cons _ (List.Sublist.cons_cons _ List.Sublist.slnil)))))))) bdk bdk (OwnL.ow (Ow.ownl q58_5 rfl mnil) rfl) (OwnL.ow (Ow.ownl q58_6 rfl mnil) rfl) (OwnL.ow (Ow.ownl q58_7 rfl mnil) rfl) (OwnL.ow (Ow.ownl q58_8 rfl mnil) rfl) q58_9))
   all_goals (first | rfl | (simp [*]; done))
 refine VO.y rfl (.ixa (i := 3) (o := 8) rfl rfl tar69 hi1 rfl rfl) ?_
 obtain ⟨q71_E, q71_A5, q71_c5, q71_A6, q71_c6, q71_A7, q71_c7, q71_A8, q71_c8, q71_A9, q71_c9, q71_n5, q71_n6, q71_n7, q71_n8, q71_n9, _, q71_S, q71_3, q71_4, q71_5, q71_6, q71_7, q71_8, q71_9⟩ := openP_diskDisk (x0 := d0.1) (x1 := d0.2.1) (x2 := d0.2.2.1) (x3 := d0.2.2.2.1) (x4 := d0.2.2.2.2.1) (x5 := d0.2.2.2.2.2.1.1) (x6 := d0.2.2.2.2.2.1.2.1) (x7 := d0.2.2.2.2.2.1.2.2.1) (x8 := d0.2.2.2.2.2.1.2.2.2) (x9 := d0.2.2.2.2.2.2) h0
 simp only [inK] at q71_3 q71_4
 have q71_r5 := q71_5.rm
 have q71_r6 := q71_6.rm
 have q71_r7 := q71_7.rm
 have q71_r8 := q71_8.rm
 have q71_r9 := q71_9.rm
 refine VO.inv _ (fun _ h => h.parts (i := 1) rfl q71_S [177, 172, 173, 174, 175, 176]) ?_
 refine VO.y rfl (.ld1 177 rfl tk25 rfl (cellsAt_one rfl rfl)) ?_
 refine VO.inv _ (fun _ h => h.nilc 179) ?_
 obtain ⟨mo78, cs78, hM78, hA78, hC78⟩ := (OwnL.nil .byte mnil mnil)
 obtain ⟨all78, hS78, hR78⟩ := Rd.srcI (P := Try.prog) ((OwnL.rd (Ow.ownl q71_8 rfl mnil) (mle_refl _) (mle_nil _))) Try.underlying25
 refine VO.app 179 rfl rfl rfl tsl25 tz5 rfl rfl hM78 hA78 (hS78 _ 175 rfl) hR78.nice bdm bd (by decide) (fun v78 m78 hN78 => ?_)
 have ho78 : OwnL .byte m78 mnil v78 (d0.2.2.2.2.2.1.2.2.2) := OwnL.more hC78 hN78 (All2c.mono hR78 fun _ _ h => Rd.flat rfl h _)
 obtain ⟨A78, c78, rfl, l78, k78⟩ := ho78.slice
 simp only [maxLen] at k78
 refine VO.as ?_
 refine VO.clsP 180 [177, 172, 173, 174, 175, 176] rfl (fun hg80 => (show Ow (.ptr TdiskDisk) _ _ (_, d0) from (mkP_diskDisk d0.1 d0.2.1 d0.2.2.1 d0.2.2.2.1 d0.2.2.2.2.1 d0.2.2.2.2.2.1.1 d0.2.2.2.2.2.1.2.1 d0.2.2.2.2.2.1.2.2.1 d0.2.2.2.2.2.1.2.2.2 d0.2.2.2.2.2.2 hg80 bdk bdk (OwnL.ow (Ow.ownl q71_5 rfl mnil) rfl) (OwnL.ow (Ow.ownl q71_6 rfl mnil) rfl) (OwnL.ow (Ow.ownl q71_7 rfl mnil) rfl) (OwnL.ow (Ow.ownl q71_8 rfl mnil) rfl) q71_9))) (fun mc80 ho80 => ?_)
 refine VO.k4 0 1 4 5 (VC.seq (VC.rs (VO.mv (VO.y rfl (.nilp rfl) (VO.y rfl (.fa rfl tst72 rfl) ?_)))))
 obtain ⟨q81_E, q81_A5, q81_c5, q81_A6, q81_c6, q81_A7, q81_c7, q81_A8, q81_c8, q81_A9, q81_c9, q81_n5, q81_n6, q81_n7, q81_n8, q81_n9, _, q81_S, q81_3, q81_4, q81_5, q81_6, q81_7, q81_8, q81_9⟩ := openP_diskDisk (x0 := d0.1) (x1 := d0.2.1) (x2 := d0.2.2.1) (x3 := d0.2.2.2.1) (x4 := d0.2.2.2.2.1) (x5 := d0.2.2.2.2.2.1.1) (x6 := d0.2.2.2.2.2.1.2.1) (x7 := d0.2.2.2.2.2.1.2.2.1) (x8 := d0.2.2.2.2.2.1.2.2.2) (x9 := d0.2.2.2.2.2.2) ho80
 simp only [inK] at q81_3 q81_4
 have q81_r5 := q81_5.rm
 have q81_r6 := q81_6.rm
 have q81_r7 := q81_7.rm
 have q81_r8 := q81_8.rm
 have q81_r9 := q81_9.rm
 refine VO.inv _ (fun _ h => h.parts (i := 180) rfl q81_S [187, 182, 183, 184, 185, 186]) ?_
 refine VO.y rfl (.ld1 187 rfl tk70 rfl (cellsAt_one rfl rfl)) ?_
 refine VO.y rfl (.lenS rfl tsl70) ?_
 refine VO.mv ?_
 refine VO.kp [187, 182, 183, 184, 185, 186, 179, 0] [(187, mone g0 (.cells #[.bool d0.1, .bool d0.2.1, .bool d0.2.2.1, .int .i64 (d0.2.2.2.1), .int .i64 (d0.2.2.2.2.1), .slice q81_A5 (d0.2.2.2.2.2.1.1.length) (q81_c5), .slice q81_A6 (d0.2.2.2.2.2.1.2.1.length) (q81_c6), .slice q81_A7 (d0.2.2.2.2.2.1.2.2.1.length) (q81_c7), .slice q81_A8 (d0.2.2.2.2.2.1.2.2.2.length) (q81_c8), .slice q81_A9 (d0.2.2.2.2.2.2.length) (q81_c9)] q81_E (0, 0))), (182, q81_n5), (183, q81_n6), (184, q81_n7), (185, q81_n8), (186, q81_n9), (179, m78), (0, mout (wm W) (m0))] ?_
 refine VO.k7 0 1 4 5 18 19 20 (VC.block ?_)
 refine VC.loop (G := Nat × (List UInt8) × (Option Addr) × Nat × Mem) (fun g => [(5, .slice (g.2.2.1) ((g.2.1).length) ((g.2.2.2.1))), (20, .int .i64 ((((g.1) : Nat) : Int))), (0, .pointer (some ⟨g0, 0, none⟩)), (1, .int .i64 (d1)), (4, .slice none (0) (0)), (18, .slice q81_A9 (d0.2.2.2.2.2.2.length) (q81_c9)), (19, .int .i64 (((d0.2.2.2.2.2.2.length : Nat) : Int)))]) (fun g => [(187, mone g0 (.cells #[.bool d0.1, .bool d0.2.1, .bool d0.2.2.1, .int .i64 (d0.2.2.2.1), .int .i64 (d0.2.2.2.2.1), .slice q81_A5 (d0.2.2.2.2.2.1.1.length) (q81_c5), .slice q81_A6 (d0.2.2.2.2.2.1.2.1.length) (q81_c6), .slice q81_A7 (d0.2.2.2.2.2.1.2.2.1.length) (q81_c7), .slice q81_A8 (d0.2.2.2.2.2.1.2.2.2.length) (q81_c8), .slice q81_A9 (d0.2.2.2.2.2.2.length) (q81_c9)] q81_E (0, 0))), (182, q81_n5), (183, q81_n6), (184, q81_n7), (185, q81_n8), (186, q81_n9), (179, (g.2.2.2.2)), (0, mout (wm W) (m0))]) (fun g => ((g.1) ≤ d0.2.2.2.2.2.2.length) ∧ ((g.2.1) = heldB d0.2.2.2.2.2.1 (d0.2.2.2.2.2.2.take (g.1)) d1) ∧ (OwnL .byte (g.2.2.2.2) mnil (.slice (g.2.2.1) (g.2.1).length (g.2.2.2.1)) (g.2.1))) (fun g => d0.2.2.2.2.2.2.length - (g.1)) (0, d0.2.2.2.2.2.1.2.2.2, A78, c78, m78) (⟨by omega, by first | exact (getF0 ‹d1 = (0 : Int)›).symm | exact (getF1 ‹d1 = (1 : Int)›).symm | exact (getF2 ‹d1 = (2 : Int)›).symm | exact (getF3 ‹d1 = (3 : Int)›).symm, ho78⟩) ⟨⟨rfl, rfl, rfl, rfl, rfl, rfl, rfl, trivial⟩, fun _ h => h.sub [187, 182, 183, 184, 185, 186, 179, 0]⟩ ?_
 rintro ⟨k, b, b_A, b_c, b_m⟩ ⟨hk, hb, h_b⟩
 replace hk : k ≤ d0.2.2.2.2.2.2.length := hk
 replace hb : b = heldB d0.2.2.2.2.2.1 (d0.2.2.2.2.2.2.take k) d1 := hb
 replace h_b : OwnL .byte b_m mnil (.slice b_A b.length b_c) b := h_b
 show VC _ _ _ _ _ [(5, .slice b_A (b.length) (b_c)), (20, .int .i64 (((k : Nat) : Int))), (0, .pointer (some ⟨g0, 0, none⟩)), (1, .int .i64 (d1)), (4, .slice none (0) (0)), (18, .slice q81_A9 (d0.2.2.2.2.2.2.length) (q81_c9)), (19, .int .i64 (((d0.2.2.2.2.2.2.length : Nat) : Int)))] [(187, mone g0 (.cells #[.bool d0.1, .bool d0.2.1, .bool d0.2.2.1, .int .i64 (d0.2.2.2.1), .int .i64 (d0.2.2.2.2.1), .slice q81_A5 (d0.2.2.2.2.2.1.1.length) (q81_c5), .slice q81_A6 (d0.2.2.2.2.2.1.2.1.length) (q81_c6), .slice q81_A7 (d0.2.2.2.2.2.1.2.2.1.length) (q81_c7), .slice q81_A8 (d0.2.2.2.2.2.1.2.2.2.length) (q81_c8), .slice q81_A9 (d0.2.2.2.2.2.2.length) (q81_c9)] q81_E (0, 0))), (182, q81_n5), (183, q81_n6), (184, q81_n7), (185, q81_n8), (186, q81_n9), (179, b_m), (0, mout (wm W) (m0))]
 have l_b : b.length ≤ b_c := by obtain ⟨_, _, he, hl, _⟩ := h_b.slice; simp only [Value.slice.injEq] at he; omega
 have k_b : b_c ≤ 9223372036854775807 := by obtain ⟨_, _, he, _, hl⟩ := h_b.slice; simp only [Value.slice.injEq, maxLen] at he hl; omega
 refine VC.rs (VO.y rfl (.lss rfl rfl) (VO.k8 0 1 4 5 18 19 20 21 (VC.seq ?_)))
 refine VC.cond rfl (fun hc88 => ?_) (fun hc88 => ?_)
 refine VC.skip (outN (VC.seq (VC.block (VC.rs ?_))))
 obtain ⟨x89, hx89⟩ : ∃ z_, (d0.2.2.2.2.2.2)[k]? = some z_ := ⟨_, List.getElem?_eq_getElem bd⟩
 obtain ⟨gg89, oo89, ec89, ea89, hce89, hre89⟩ := (Ow.rd q81_9 (mle_refl _)).elem hx89
 cases ea89
 obtain ⟨q89_A2, q89_c2, rfl, q89_0, q89_1, q89_2, q89_3⟩ := open_diskstep (x0 := x89.1) (x1 := x89.2.1) (x2 := x89.2.2.1) (x3 := x89.2.2.2) hre89
 simp only [inK] at q89_0 q89_1
 have q89_r2 := Rd.room q89_2
 simp only [inK] at q89_3
 refine VO.y rfl (.ixI k rfl rfl tsl70 rfl bd) ?_
 refine VO.y rfl (.ldA 186 rfl tk101 rfl hce89) ?_
 refine VO.alloc 191 rfl tz101 (fun g90 => ?_)
 refine VO.store (k := 4) (c' := [Value.int .i64 (x89.1), Value.int .i64 (x89.2.1), Value.slice q89_A2 (x89.2.2.1.length) (q89_c2), Value.int .i64 (x89.2.2.2)]) 191 rfl rfl (.inl tk101) rfl rfl rfl rfl rfl ?_
 refine VO.k9 0 1 4 5 7 18 19 20 21 (VC.rs (VO.y rfl (.fa rfl tst101 rfl) (VO.y rfl (.ld1 191 rfl tk3 rfl (cellsAt_one rfl rfl)) (VO.mv (VO.y rfl (.eql rfl rfl) ?_)))))
 refine VO.kp [191, 187, 182, 183, 184, 185, 186, 179, 0] [(191, mone g90 (.cells #[.int .i64 (x89.1), .int .i64 (x89.2.1), .slice q89_A2 (x89.2.2.1.length) (q89_c2), .int .i64 (x89.2.2.2)] 101 (0, 0))), (187, mone g0 (.cells #[.bool d0.1, .bool d0.2.1, .bool d0.2.2.1, .int .i64 (d0.2.2.2.1), .int .i64 (d0.2.2.2.2.1), .slice q81_A5 (d0.2.2.2.2.2.1.1.length) (q81_c5), .slice q81_A6 (d0.2.2.2.2.2.1.2.1.length) (q81_c6), .slice q81_A7 (d0.2.2.2.2.2.1.2.2.1.length) (q81_c7), .slice q81_A8 (d0.2.2.2.2.2.1.2.2.2.length) (q81_c8), .slice (some ⟨gg89, oo89, none⟩) (d0.2.2.2.2.2.2.length) (q81_c9)] q81_E (0, 0))), (182, q81_n5), (183, q81_n6), (184, q81_n7), (185, q81_n8), (186, q81_n9), (179, b_m), (0, mout (wm W) (m0))] ?_
 refine VO.k10 0 1 4 5 7 18 19 20 21 27 ?_
 refine VC.cond rfl (fun hc92 => ?_) (fun hc92 => ?_)
 refine VC.reg ?_
 refine VO.mv (VO.y rfl (.ldA 191 rfl tk101 rfl (cellsAt_one rfl rfl)) ?_)
 refine VO.call 179 rfl fnOk84 rfl rfl (fun W hW => dDone_ok W (hW.at (i := 179) rfl) (OwnL.ow h_b rfl) (Rd.mono hre89 (hW.out (i := 179) (j := 186) rfl rfl)) (by exact held_cut hg hb ‹d0.2.2.2.2.2.2[k]? = some _› e2 ‹_ = d1›) (by (have h_ := held_room hb ‹d0.2.2.2.2.2.2[k]? = some _›; simp only [sizeQ] at h_; omega))) (fun v93 m93 hv93 => ?_)
 obtain ⟨s93_0, rfl, f93_0⟩ := hv93
 obtain ⟨A93_0, c93_0, eq93_0, l93_0, k93_0⟩ := f93_0.slice
 subst eq93_0
 simp only [maxLen] at k93_0
 refine VO.as (VO.k10 0 1 4 5 7 18 19 20 21 27 (outBN (outN ?_)))
 refine VC.reg ?_
 refine VO.y rfl (.add (c := ((k + 1 : Nat) : Int)) rfl rfl (by omega) ⟨bd, bd⟩) ?_
 refine VO.mv (VO.k10 0 1 4 5 7 18 19 20 21 27 ?_)
 exact outN ⟨⟨k + 1, doneB b x89, A93_0, c93_0, m93⟩, ⟨by omega, by first | exact held_yes hb ‹d0.2.2.2.2.2.2[k]? = some _› ‹_ = d1› | exact held_no hb ‹d0.2.2.2.2.2.2[k]? = some _› ‹¬ _ = d1›, (Ow.ownl f93_0 rfl mnil)⟩, bd, ⟨⟨rfl, rfl, rfl, rfl, rfl, rfl, rfl, trivial⟩, fun _ h => Inv.sub h [187, 182, 183, 184, 185, 186, 179, 0]⟩⟩
 refine VC.skip (outBN (outN ?_))
 refine VC.reg ?_
 refine VO.y rfl (.add (c := ((k + 1 : Nat) : Int)) rfl rfl (by omega) ⟨bd, bd⟩) ?_
 refine VO.mv (VO.k10 0 1 4 5 7 18 19 20 21 27 ?_)
 exact outN ⟨⟨k + 1, b, b_A, b_c, b_m⟩, ⟨by omega, by first | exact held_yes hb ‹d0.2.2.2.2.2.2[k]? = some _› ‹_ = d1› | exact held_no hb ‹d0.2.2.2.2.2.2[k]? = some _› ‹¬ _ = d1›, h_b⟩, bd, ⟨⟨rfl, rfl, rfl, rfl, rfl, rfl, rfl, trivial⟩, fun _ h => Inv.sub h [187, 182, 183, 184, 185, 186, 179, 0]⟩⟩
 · refine VC.exit (outE (outE (outBB (outN (VC.rs (VO.mv (VO.as (VO.k8 0 1 4 5 18 19 20 21 (VC.ret ?_)))))))))
   refine ⟨_, _, res_run (rs := [.tmp 4]) rfl (.tmp rfl .nil), fun W_ hI => out_of (l := [b_m, mone g0 (.cells #[.bool d0.1, .bool d0.2.1, .bool d0.2.2.1, .int .i64 (d0.2.2.2.1), .int .i64 (d0.2.2.2.2.1), .slice q81_A5 (d0.2.2.2.2.2.1.1.length) (q81_c5), .slice q81_A6 (d0.2.2.2.2.2.1.2.1.length) (q81_c6), .slice q81_A7 (d0.2.2.2.2.2.1.2.2.1.length) (q81_c7), .slice q81_A8 (d0.2.2.2.2.2.1.2.2.2.length) (q81_c8), .slice q81_A9 (d0.2.2.2.2.2.2.length) (q81_c9)] q81_E (0, 0)), q81_n5, q81_n6, q81_n7, q81_n8, q81_n9]) hI [179, 187, 182, 183, 184, 185, 186] rfl rfl (mle_refl _) (fun hS_ => ?_)⟩
   dsimp only [packV]
   have he0 : (heldB d0.2.2.2.2.2.1 d0.2.2.2.2.2.2 d1 : Ty.Den (.sl .byte)) = b := by first | rfl | (rw [hb, List.take_of_length_le (by omega)])
   have hm0_ : (d0 : DdiskDisk) = d0 := by first | rfl | (rw [hb, List.take_of_length_le (by omega)])
   refine ⟨Value.slice b_A (b.length) (b_c), muns [b_m], muns [mone g0 (.cells [Value.bool d0.1, Value.bool d0.2.1, Value.bool d0.2.2.1, Value.int .i64 (d0.2.2.2.1), Value.int .i64 (d0.2.2.2.2.1), Value.slice q81_A5 (d0.2.2.2.2.2.1.1.length) (q81_c5), Value.slice q81_A6 (d0.2.2.2.2.2.1.2.1.length) (q81_c6), Value.slice q81_A7 (d0.2.2.2.2.2.1.2.2.1.length) (q81_c7), Value.slice q81_A8 (d0.2.2.2.2.2.1.2.2.2.length) (q81_c8), Value.slice q81_A9 (d0.2.2.2.2.2.2.length) (q81_c9)].toArray q81_E (0, 0)), q81_n5, q81_n6, q81_n7, q81_n8, q81_n9], ?_, ?_, ?_, ?_⟩
   rotate_left
   · exact Seps.grp (ls := [[b_m], [mone g0 (.cells [Value.bool d0.1, Value.bool d0.2.1, Value.bool d0.2.2.1, Value.int .i64 (d0.2.2.2.1), Value.int .i64 (d0.2.2.2.2.1), Value.slice q81_A5 (d0.2.2.2.2.2.1.1.length) (q81_c5), Value.slice q81_A6 (d0.2.2.2.2.2.1.2.1.length) (q81_c6), Value.slice q81_A7 (d0.2.2.2.2.2.1.2.2.1.length) (q81_c7), Value.slice q81_A8 (d0.2.2.2.2.2.1.2.2.2.length) (q81_c8), Value.slice q81_A9 (d0.2.2.2.2.2.2.length) (q81_c9)].toArray q81_E (0, 0)), q81_n5, q81_n6, q81_n7, q81_n8, q81_n9]]) hS_
   · rw [he0]; exact (Ow.up (OwnL.ow h_b rfl) ((Seps.self hS_ (List.Sublist.cons_cons _ (List.Sublist.cons _ (List.Sublist.cons _ (List.Sublist.cons _ (List.Sublist.cons _ (List.Sublist.cons _ (List.Sublist.cons _ List.Sublist.slnil)))))))).1 _ (.head _)))
   · rw [hm0_]; exact (show Ow (.ptr TdiskDisk) _ _ (_, d0) from (mkP_diskDisk d0.1 d0.2.1 d0.2.2.1 d0.2.2.2.1 d0.2.2.2.2.1 d0.2.2.2.2.2.1.1 d0.2.2.2.2.2.1.2.1 d0.2.2.2.2.2.1.2.2.1 d0.2.2.2.2.2.1.2.2.2 d0.2.2.2.2.2.2 (Seps.self hS_ (List.Sublist.cons _ (List.Sublist.cons_cons _ (List.Sublist.cons_cons _ (List.Sublist.cons_cons _ (List.Sublist.cons_cons _ (List.Sublist.cons_cons _ (List.Sublist.cons_cons _ List.Sublist.slnil)))))))) bdk bdk (OwnL.ow (Ow.ownl q81_5 rfl mnil) rfl) (OwnL.ow (Ow.ownl q81_6 rfl mnil) rfl) (OwnL.ow (Ow.ownl q81_7 rfl mnil) rfl) (OwnL.ow (Ow.ownl q81_8 rfl mnil) rfl) q81_9))
   all_goals (first | rfl | (simp [*]; done))
theorem fin0_dSettle_ok {P : Prop} (h : P := by first | (have h_ := play_room hb (get_take ‹(d0.2.2.2.2.2.2.take d1.toNat)[k]? = some _›); rw [getF0 ‹_ = (0 : Int)›] at h_; simp only [sizeQ] at h_; omega) | (have h_ := play_room hb (get_take ‹(d0.2.2.2.2.2.2.take d1.toNat)[k]? = some _›); rw [getF1 ‹_ = (1 : Int)›] at h_; simp only [sizeQ] at h_; omega) | (have h_ := play_room hb (get_take ‹(d0.2.2.2.2.2.2.take d1.toNat)[k]? = some _›); rw [getF2 ‹_ = (2 : Int)›] at h_; simp only [sizeQ] at h_; omega) | (have h_ := play_room hb (get_take ‹(d0.2.2.2.2.2.2.take d1.toNat)[k]? = some _›); rw [getF3 ‹_ = (3 : Int)›] at h_; simp only [sizeQ] at h_; omega)) : P := h
theorem fin1_dSettle_ok {P : Prop} (h : P := by first | (have h_ := (play_cut hg hb (get_take ‹(d0.2.2.2.2.2.2.take d1.toNat)[k]? = some _›)).2; rw [getF0 ‹_ = (0 : Int)›] at h_; exact h_) | (have h_ := (play_cut hg hb (get_take ‹(d0.2.2.2.2.2.2.take d1.toNat)[k]? = some _›)).2; rw [getF1 ‹_ = (1 : Int)›] at h_; exact h_) | (have h_ := (play_cut hg hb (get_take ‹(d0.2.2.2.2.2.2.take d1.toNat)[k]? = some _›)).2; rw [getF2 ‹_ = (2 : Int)›] at h_; exact h_) | (have h_ := (play_cut hg hb (get_take ‹(d0.2.2.2.2.2.2.take d1.toNat)[k]? = some _›)).2; rw [getF3 ‹_ = (3 : Int)›] at h_; exact h_)) : P := h
theorem fin2_dSettle_ok {P : Prop} (h : P := by first | omega | (simp only [List.length_append, List.length_nil, List.length_cons, List.length_take, List.length_drop] at *; omega) | (have h_ := (play_cut hg hb (get_take ‹(d0.2.2.2.2.2.2.take d1.toNat)[k]? = some _›)).1; simp only [inF] at h_; omega)) : P := h
theorem dSettle_ok (W : World) {m0 : Mem} (hm : mle (m0) (wm W)) {g0 : Nat} {d0 : DdiskDisk} (h0 : Ow (.ptr TdiskDisk) m0 [.pointer (some ⟨g0, 0, none⟩)] (g0, d0)) (d1 : Int) (h1 : inK .i64 d1) (e0 : okD d0) (e1 : wD d0 ≤ 2*1000000000000) (e2 : 0 ≤ d1 ∧ d1 ≤ d0.2.2.2.2.2.2.length) : CallR Try.prog 79 [.pointer (some ⟨g0, 0, none⟩), .int .i64 d1] W (m0) (fun v m' => v = .tuple #[] ∧ Ow (.ptr TdiskDisk) m' [.pointer (some ⟨g0, 0, none⟩)] (g0, settleD d0 d1.toNat)) := by
 obtain ⟨hg, hfu, hst⟩ := e0; simp only [wD, sizeQ] at e1
 have h1' := h1; simp only [inK] at h1'
 refine CallR.ofB (n := 42) hm Try.func79 rfl rfl rfl ?_
 refine VC.seq (VC.rs (VO.mv (VO.y rfl (.nilp rfl) (VO.y rfl (.fa rfl tst72 rfl) ?_))))
 obtain ⟨q1_E, q1_A5, q1_c5, q1_A6, q1_c6, q1_A7, q1_c7, q1_A8, q1_c8, q1_A9, q1_c9, q1_n5, q1_n6, q1_n7, q1_n8, q1_n9, _, q1_S, q1_3, q1_4, q1_5, q1_6, q1_7, q1_8, q1_9⟩ := openP_diskDisk (x0 := d0.1) (x1 := d0.2.1) (x2 := d0.2.2.1) (x3 := d0.2.2.2.1) (x4 := d0.2.2.2.2.1) (x5 := d0.2.2.2.2.2.1.1) (x6 := d0.2.2.2.2.2.1.2.1) (x7 := d0.2.2.2.2.2.1.2.2.1) (x8 := d0.2.2.2.2.2.1.2.2.2) (x9 := d0.2.2.2.2.2.2) h0
 simp only [inK] at q1_3 q1_4
 have q1_r5 := q1_5.rm
 have q1_r6 := q1_6.rm
 have q1_r7 := q1_7.rm
 have q1_r8 := q1_8.rm
 have q1_r9 := q1_9.rm
 refine VO.inv _ (fun _ h => h.parts (i := 1) rfl q1_S [107, 102, 103, 104, 105, 106]) ?_
 refine VO.y rfl (.ld1 107 rfl tk70 rfl (cellsAt_one rfl rfl)) (VO.mv ?_)
 have hs8 := (Ow.rd q1_9 (mle_refl _)).pre (j := ((d1).toNat)) (by exact fin2_dSettle_ok)
 refine VO.y rfl (.slHI ((d1).toNat) rfl rfl tsl70 (by exact fin2_dSettle_ok) (by exact fin2_dSettle_ok)) ?_
 refine VO.y rfl (.lenS rfl tsl70) ?_
 refine VO.mv (VO.k5 0 1 11 12 13 (VC.block ?_))
 refine VC.loop (G := Nat × (List UInt8) × (Option Addr) × Nat × Mem × (List UInt8) × (Option Addr) × Nat × Mem × (List UInt8) × (Option Addr) × Nat × Mem × (List UInt8) × (Option Addr) × Nat × Mem) (fun g => [(13, .int .i64 ((((g.1) : Nat) : Int))), (0, .pointer (some ⟨g0, 0, none⟩)), (1, .int .i64 (d1)), (11, .slice q1_A9 ((d1).toNat) (q1_c9)), (12, .int .i64 ((((d1).toNat : Nat) : Int)))]) (fun g => [(107, mone g0 (.cells #[.bool d0.1, .bool d0.2.1, .bool d0.2.2.1, .int .i64 (d0.2.2.2.1), .int .i64 (d0.2.2.2.2.1), .slice (g.2.2.1) ((g.2.1).length) ((g.2.2.2.1)), .slice (g.2.2.2.2.2.2.1) ((g.2.2.2.2.2.1).length) ((g.2.2.2.2.2.2.2.1)), .slice (g.2.2.2.2.2.2.2.2.2.2.1) ((g.2.2.2.2.2.2.2.2.2.1).length) ((g.2.2.2.2.2.2.2.2.2.2.2.1)), .slice (g.2.2.2.2.2.2.2.2.2.2.2.2.2.2.1) ((g.2.2.2.2.2.2.2.2.2.2.2.2.2.1).length) ((g.2.2.2.2.2.2.2.2.2.2.2.2.2.2.2.1)), .slice q1_A9 (d0.2.2.2.2.2.2.length) (q1_c9)] q1_E (0, 0))), (102, (g.2.2.2.2.1)), (103, (g.2.2.2.2.2.2.2.2.1)), (104, (g.2.2.2.2.2.2.2.2.2.2.2.2.1)), (105, (g.2.2.2.2.2.2.2.2.2.2.2.2.2.2.2.2)), (106, q1_n9), (0, mout (wm W) (m0))]) (fun g => ((g.1) ≤ d1.toNat) ∧ (((g.2.1), (g.2.2.2.2.2.1), (g.2.2.2.2.2.2.2.2.2.1), (g.2.2.2.2.2.2.2.2.2.2.2.2.2.1)) = play d0.2.2.2.2.2.1 (d0.2.2.2.2.2.2.take (g.1))) ∧ (OwnL .byte (g.2.2.2.2.1) mnil (.slice (g.2.2.1) (g.2.1).length (g.2.2.2.1)) (g.2.1)) ∧ (OwnL .byte (g.2.2.2.2.2.2.2.2.1) mnil (.slice (g.2.2.2.2.2.2.1) (g.2.2.2.2.2.1).length (g.2.2.2.2.2.2.2.1)) (g.2.2.2.2.2.1)) ∧ (OwnL .byte (g.2.2.2.2.2.2.2.2.2.2.2.2.1) mnil (.slice (g.2.2.2.2.2.2.2.2.2.2.1) (g.2.2.2.2.2.2.2.2.2.1).length (g.2.2.2.2.2.2.2.2.2.2.2.1)) (g.2.2.2.2.2.2.2.2.2.1)) ∧ (OwnL .byte (g.2.2.2.2.2.2.2.2.2.2.2.2.2.2.2.2) mnil (.slice (g.2.2.2.2.2.2.2.2.2.2.2.2.2.2.1) (g.2.2.2.2.2.2.2.2.2.2.2.2.2.1).length (g.2.2.2.2.2.2.2.2.2.2.2.2.2.2.2.1)) (g.2.2.2.2.2.2.2.2.2.2.2.2.2.1))) (fun g => d1.toNat - (g.1)) (0, d0.2.2.2.2.2.1.1, q1_A5, q1_c5, q1_n5, d0.2.2.2.2.2.1.2.1, q1_A6, q1_c6, q1_n6, d0.2.2.2.2.2.1.2.2.1, q1_A7, q1_c7, q1_n7, d0.2.2.2.2.2.1.2.2.2, q1_A8, q1_c8, q1_n8) (⟨by omega, by rfl, (Ow.ownl q1_5 rfl mnil), (Ow.ownl q1_6 rfl mnil), (Ow.ownl q1_7 rfl mnil), (Ow.ownl q1_8 rfl mnil)⟩) ⟨⟨rfl, rfl, rfl, rfl, rfl, trivial⟩, fun _ h => h.sub [107, 102, 103, 104, 105, 106, 0]⟩ ?_
 rintro ⟨k, b0, b0_A, b0_c, b0_m, b1, b1_A, b1_c, b1_m, b2, b2_A, b2_c, b2_m, b3, b3_A, b3_c, b3_m⟩ ⟨hk, hb, h_b0, h_b1, h_b2, h_b3⟩
 replace hk : k ≤ d1.toNat := hk
 replace hb : (b0, b1, b2, b3) = play d0.2.2.2.2.2.1 (d0.2.2.2.2.2.2.take k) := hb
 replace h_b0 : OwnL .byte b0_m mnil (.slice b0_A b0.length b0_c) b0 := h_b0
 replace h_b1 : OwnL .byte b1_m mnil (.slice b1_A b1.length b1_c) b1 := h_b1
 replace h_b2 : OwnL .byte b2_m mnil (.slice b2_A b2.length b2_c) b2 := h_b2
 replace h_b3 : OwnL .byte b3_m mnil (.slice b3_A b3.length b3_c) b3 := h_b3
 show VC _ _ _ _ _ [(13, .int .i64 (((k : Nat) : Int))), (0, .pointer (some ⟨g0, 0, none⟩)), (1, .int .i64 (d1)), (11, .slice q1_A9 ((d1).toNat) (q1_c9)), (12, .int .i64 ((((d1).toNat : Nat) : Int)))] [(107, mone g0 (.cells #[.bool d0.1, .bool d0.2.1, .bool d0.2.2.1, .int .i64 (d0.2.2.2.1), .int .i64 (d0.2.2.2.2.1), .slice b0_A (b0.length) (b0_c), .slice b1_A (b1.length) (b1_c), .slice b2_A (b2.length) (b2_c), .slice b3_A (b3.length) (b3_c), .slice q1_A9 (d0.2.2.2.2.2.2.length) (q1_c9)] q1_E (0, 0))), (102, b0_m), (103, b1_m), (104, b2_m), (105, b3_m), (106, q1_n9), (0, mout (wm W) (m0))]
 have l_b0 : b0.length ≤ b0_c := by obtain ⟨_, _, he, hl, _⟩ := h_b0.slice; simp only [Value.slice.injEq] at he; omega
 have k_b0 : b0_c ≤ 9223372036854775807 := by obtain ⟨_, _, he, _, hl⟩ := h_b0.slice; simp only [Value.slice.injEq, maxLen] at he hl; omega
 have l_b1 : b1.length ≤ b1_c := by obtain ⟨_, _, he, hl, _⟩ := h_b1.slice; simp only [Value.slice.injEq] at he; omega
 have k_b1 : b1_c ≤ 9223372036854775807 := by obtain ⟨_, _, he, _, hl⟩ := h_b1.slice; simp only [Value.slice.injEq, maxLen] at he hl; omega
 have l_b2 : b2.length ≤ b2_c := by obtain ⟨_, _, he, hl, _⟩ := h_b2.slice; simp only [Value.slice.injEq] at he; omega
 have k_b2 : b2_c ≤ 9223372036854775807 := by obtain ⟨_, _, he, _, hl⟩ := h_b2.slice; simp only [Value.slice.injEq, maxLen] at he hl; omega
 have l_b3 : b3.length ≤ b3_c := by obtain ⟨_, _, he, hl, _⟩ := h_b3.slice; simp only [Value.slice.injEq] at he; omega
 have k_b3 : b3_c ≤ 9223372036854775807 := by obtain ⟨_, _, he, _, hl⟩ := h_b3.slice; simp only [Value.slice.injEq, maxLen] at he hl; omega
 refine VC.rs (VO.y rfl (.lss rfl rfl) (VO.k6 0 1 11 12 13 14 (VC.seq ?_)))
 refine VC.cond rfl (fun hc9 => ?_) (fun hc9 => ?_)
 refine VC.skip (outN (VC.seq (VC.block (VC.rs ?_))))
 obtain ⟨x10, hx10⟩ : ∃ z_, ((d0.2.2.2.2.2.2).take ((d1).toNat))[k]? = some z_ := ⟨_, List.getElem?_eq_getElem (by exact fin2_dSettle_ok)⟩
 obtain ⟨gg10, oo10, ec10, ea10, hce10, hre10⟩ := (Ow.rd (q1_9.pre (j := ((d1).toNat)) (by exact fin2_dSettle_ok)) (mle_refl _)).elem hx10
 cases ea10
 obtain ⟨q10_A2, q10_c2, rfl, q10_0, q10_1, q10_2, q10_3⟩ := open_diskstep (x0 := x10.1) (x1 := x10.2.1) (x2 := x10.2.2.1) (x3 := x10.2.2.2) hre10
 simp only [inK] at q10_0 q10_1
 have q10_r2 := Rd.room q10_2
 simp only [inK] at q10_3
 refine VO.y rfl (.ixI k rfl rfl tsl70 rfl (by exact fin2_dSettle_ok)) ?_
 refine VO.y rfl (.ldA 106 rfl tk101 rfl hce10) ?_
 refine VO.alloc 112 rfl tz101 (fun g11 => ?_)
 refine VO.store (k := 4) (c' := [Value.int .i64 (x10.1), Value.int .i64 (x10.2.1), Value.slice q10_A2 (x10.2.2.1.length) (q10_c2), Value.int .i64 (x10.2.2.2)]) 112 rfl rfl (.inl tk101) rfl rfl rfl rfl rfl ?_
 refine VO.kp [112, 107, 102, 103, 104, 105, 106, 0] [(112, mone g11 (.cells #[.int .i64 (x10.1), .int .i64 (x10.2.1), .slice q10_A2 (x10.2.2.1.length) (q10_c2), .int .i64 (x10.2.2.2)] 101 (0, 0))), (107, mone g0 (.cells #[.bool d0.1, .bool d0.2.1, .bool d0.2.2.1, .int .i64 (d0.2.2.2.1), .int .i64 (d0.2.2.2.2.1), .slice b0_A (b0.length) (b0_c), .slice b1_A (b1.length) (b1_c), .slice b2_A (b2.length) (b2_c), .slice b3_A (b3.length) (b3_c), .slice (some ⟨gg10, oo10, none⟩) (d0.2.2.2.2.2.2.length) (q1_c9)] q1_E (0, 0))), (102, b0_m), (103, b1_m), (104, b2_m), (105, b3_m), (106, q1_n9), (0, mout (wm W) (m0))] ?_
 refine VO.k7 0 1 5 11 12 13 14 ?_
 refine VC.regD _ 14 [(0, true), (1, true), (2, true), (3, true), (4, true), (5, true), (6, true), (7, true), (8, true), (9, true), (10, true), (12, true), (13, true), (11, false)] follows (by kernel_rfl) (fun _ h => h.sub [112, 107, 106, 0]) ?_
 refine VD.y rfl rfl (.inl rfl) (.mv rfl) (VD.y rfl rfl (.inl rfl) (.fa rfl tst101 rfl) (VD.y rfl rfl (.inl rfl) (.ld1 112 rfl tk3 rfl (cellsAt_one rfl rfl)) (VD.y rfl rfl (.inl rfl) (.mv rfl) (VD.y rfl rfl (.inl rfl) (.fa rfl tst101 rfl) (VD.y rfl rfl (.inl rfl) (.ld1 112 rfl tk3 rfl (cellsAt_one rfl rfl)) (VD.y rfl rfl (.inl rfl) (.nilp rfl) (VD.y rfl rfl (.inl rfl) (.fa rfl tst72 rfl) ?_)))))))
 rcases (show x10.2.1 = (0 : Int) ∨ x10.2.1 = (1 : Int) ∨ x10.2.1 = (2 : Int) ∨ x10.2.1 = (3 : Int) from by exact fin2_dSettle_ok) with hi13 | hi13 | hi13 | hi13
 refine VD.y rfl rfl (.inl rfl) (.ixa (i := 0) (o := 5) rfl rfl tar69 hi13 rfl rfl) ?_
 refine VD.y rfl rfl (.inl rfl) (.ld1 107 rfl tk25 rfl (cellsAt_one rfl rfl)) (VD.y rfl rfl (.inl rfl) (.ldA 112 rfl tk101 rfl (cellsAt_one rfl rfl)) (VD.y rfl rfl (.inl rfl) (.nilp rfl) (VD.y rfl rfl (.inl rfl) (.fa rfl tst72 rfl) ?_)))
 refine VD.call 102 rfl rfl (.inl rfl) fnOk84 rfl rfl (fun _ _ h => h.sub [112, 107, 106, 0]) (fun W hW => dDone_ok W (hW.at (i := 102) rfl) (OwnL.ow h_b0 rfl) (Rd.mono hre10 (hW.out (i := 102) (j := 106) rfl rfl)) (by exact fin1_dSettle_ok) (by exact fin0_dSettle_ok)) (fun v14 m14 hv14 => ?_)
 obtain ⟨s14_0, rfl, f14_0⟩ := hv14
 obtain ⟨A14_0, c14_0, eq14_0, l14_0, k14_0⟩ := f14_0.slice
 subst eq14_0
 simp only [maxLen] at k14_0
 refine VD.nil rfl ?_ rfl
 refine VO.y rfl (.ixa (i := 0) (o := 5) rfl rfl tar69 hi13 rfl rfl) ?_
 refine VO.store (k := 1) 107 rfl rfl (.inr ⟨tk25, rfl⟩) rfl rfl rfl rfl rfl ?_
 refine VO.k7 0 1 5 11 12 13 14 (outBN (outN ?_))
 refine VC.reg ?_
 refine VO.y rfl (.add (c := ((k + 1 : Nat) : Int)) rfl rfl (by omega) ⟨by exact fin2_dSettle_ok, by exact fin2_dSettle_ok⟩) ?_
 refine VO.mv (VO.k7 0 1 5 11 12 13 14 ?_)
 exact outN ⟨⟨k + 1, doneB b0 x10, A14_0, c14_0, m14, b1, b1_A, b1_c, b1_m, b2, b2_A, b2_c, b2_m, b3, b3_A, b3_c, b3_m⟩, ⟨by omega, by first | (have h_ := play_next hb (get_take ‹(d0.2.2.2.2.2.2.take d1.toNat)[k]? = some _›); rw [stepQ, setQ0 ‹_ = (0 : Int)›, getF0 ‹_ = (0 : Int)›] at h_; exact h_) | (have h_ := play_next hb (get_take ‹(d0.2.2.2.2.2.2.take d1.toNat)[k]? = some _›); rw [stepQ, setQ1 ‹_ = (1 : Int)›, getF1 ‹_ = (1 : Int)›] at h_; exact h_) | (have h_ := play_next hb (get_take ‹(d0.2.2.2.2.2.2.take d1.toNat)[k]? = some _›); rw [stepQ, setQ2 ‹_ = (2 : Int)›, getF2 ‹_ = (2 : Int)›] at h_; exact h_) | (have h_ := play_next hb (get_take ‹(d0.2.2.2.2.2.2.take d1.toNat)[k]? = some _›); rw [stepQ, setQ3 ‹_ = (3 : Int)›, getF3 ‹_ = (3 : Int)›] at h_; exact h_), (Ow.ownl f14_0 rfl mnil), h_b1, h_b2, h_b3⟩, by exact fin2_dSettle_ok, ⟨⟨rfl, rfl, rfl, rfl, rfl, trivial⟩, fun _ h => Inv.sub h [107, 102, 103, 104, 105, 106, 0]⟩⟩
 refine VD.y rfl rfl (.inl rfl) (.ixa (i := 1) (o := 6) rfl rfl tar69 hi13 rfl rfl) ?_
 refine VD.y rfl rfl (.inl rfl) (.ld1 107 rfl tk25 rfl (cellsAt_one rfl rfl)) (VD.y rfl rfl (.inl rfl) (.ldA 112 rfl tk101 rfl (cellsAt_one rfl rfl)) (VD.y rfl rfl (.inl rfl) (.nilp rfl) (VD.y rfl rfl (.inl rfl) (.fa rfl tst72 rfl) ?_)))
 refine VD.call 103 rfl rfl (.inl rfl) fnOk84 rfl rfl (fun _ _ h => h.sub [112, 107, 106, 0]) (fun W hW => dDone_ok W (hW.at (i := 103) rfl) (OwnL.ow h_b1 rfl) (Rd.mono hre10 (hW.out (i := 103) (j := 106) rfl rfl)) (by exact fin1_dSettle_ok) (by exact fin0_dSettle_ok)) (fun v15 m15 hv15 => ?_)
 obtain ⟨s15_0, rfl, f15_0⟩ := hv15
 obtain ⟨A15_0, c15_0, eq15_0, l15_0, k15_0⟩ := f15_0.slice
 subst eq15_0
 simp only [maxLen] at k15_0
 refine VD.nil rfl ?_ rfl
 refine VO.y rfl (.ixa (i := 1) (o := 6) rfl rfl tar69 hi13 rfl rfl) ?_
 refine VO.store (k := 1) 107 rfl rfl (.inr ⟨tk25, rfl⟩) rfl rfl rfl rfl rfl ?_
 refine VO.k7 0 1 5 11 12 13 14 (outBN (outN ?_))
 refine VC.reg ?_
 refine VO.y rfl (.add (c := ((k + 1 : Nat) : Int)) rfl rfl (by omega) ⟨by exact fin2_dSettle_ok, by exact fin2_dSettle_ok⟩) ?_
 refine VO.mv (VO.k7 0 1 5 11 12 13 14 ?_)
 exact outN ⟨⟨k + 1, b0, b0_A, b0_c, b0_m, doneB b1 x10, A15_0, c15_0, m15, b2, b2_A, b2_c, b2_m, b3, b3_A, b3_c, b3_m⟩, ⟨by omega, by first | (have h_ := play_next hb (get_take ‹(d0.2.2.2.2.2.2.take d1.toNat)[k]? = some _›); rw [stepQ, setQ0 ‹_ = (0 : Int)›, getF0 ‹_ = (0 : Int)›] at h_; exact h_) | (have h_ := play_next hb (get_take ‹(d0.2.2.2.2.2.2.take d1.toNat)[k]? = some _›); rw [stepQ, setQ1 ‹_ = (1 : Int)›, getF1 ‹_ = (1 : Int)›] at h_; exact h_) | (have h_ := play_next hb (get_take ‹(d0.2.2.2.2.2.2.take d1.toNat)[k]? = some _›); rw [stepQ, setQ2 ‹_ = (2 : Int)›, getF2 ‹_ = (2 : Int)›] at h_; exact h_) | (have h_ := play_next hb (get_take ‹(d0.2.2.2.2.2.2.take d1.toNat)[k]? = some _›); rw [stepQ, setQ3 ‹_ = (3 : Int)›, getF3 ‹_ = (3 : Int)›] at h_; exact h_), h_b0, (Ow.ownl f15_0 rfl mnil), h_b2, h_b3⟩, by exact fin2_dSettle_ok, ⟨⟨rfl, rfl, rfl, rfl, rfl, trivial⟩, fun _ h => Inv.sub h [107, 102, 103, 104, 105, 106, 0]⟩⟩
 refine VD.y rfl rfl (.inl rfl) (.ixa (i := 2) (o := 7) rfl rfl tar69 hi13 rfl rfl) ?_
 refine VD.y rfl rfl (.inl rfl) (.ld1 107 rfl tk25 rfl (cellsAt_one rfl rfl)) (VD.y rfl rfl (.inl rfl) (.ldA 112 rfl tk101 rfl (cellsAt_one rfl rfl)) (VD.y rfl rfl (.inl rfl) (.nilp rfl) (VD.y rfl rfl (.inl rfl) (.fa rfl tst72 rfl) ?_)))
 refine VD.call 104 rfl rfl (.inl rfl) fnOk84 rfl rfl (fun _ _ h => h.sub [112, 107, 106, 0]) (fun W hW => dDone_ok W (hW.at (i := 104) rfl) (OwnL.ow h_b2 rfl) (Rd.mono hre10 (hW.out (i := 104) (j := 106) rfl rfl)) (by exact fin1_dSettle_ok) (by exact fin0_dSettle_ok)) (fun v16 m16 hv16 => ?_)
 obtain ⟨s16_0, rfl, f16_0⟩ := hv16
 obtain ⟨A16_0, c16_0, eq16_0, l16_0, k16_0⟩ := f16_0.slice
 subst eq16_0
 simp only [maxLen] at k16_0
 refine VD.nil rfl ?_ rfl
 refine VO.y rfl (.ixa (i := 2) (o := 7) rfl rfl tar69 hi13 rfl rfl) ?_
 refine VO.store (k := 1) 107 rfl rfl (.inr ⟨tk25, rfl⟩) rfl rfl rfl rfl rfl ?_
 refine VO.k7 0 1 5 11 12 13 14 (outBN (outN ?_))
 refine VC.reg ?_
 refine VO.y rfl (.add (c := ((k + 1 : Nat) : Int)) rfl rfl (by omega) ⟨by exact fin2_dSettle_ok, by exact fin2_dSettle_ok⟩) ?_
 refine VO.mv (VO.k7 0 1 5 11 12 13 14 ?_)
 exact outN ⟨⟨k + 1, b0, b0_A, b0_c, b0_m, b1, b1_A, b1_c, b1_m, doneB b2 x10, A16_0, c16_0, m16, b3, b3_A, b3_c, b3_m⟩, ⟨by omega, by first | (have h_ := play_next hb (get_take ‹(d0.2.2.2.2.2.2.take d1.toNat)[k]? = some _›); rw [stepQ, setQ0 ‹_ = (0 : Int)›, getF0 ‹_ = (0 : Int)›] at h_; exact h_) | (have h_ := play_next hb (get_take ‹(d0.2.2.2.2.2.2.take d1.toNat)[k]? = some _›); rw [stepQ, setQ1 ‹_ = (1 : Int)›, getF1 ‹_ = (1 : Int)›] at h_; exact h_) | (have h_ := play_next hb (get_take ‹(d0.2.2.2.2.2.2.take d1.toNat)[k]? = some _›); rw [stepQ, setQ2 ‹_ = (2 : Int)›, getF2 ‹_ = (2 : Int)›] at h_; exact h_) | (have h_ := play_next hb (get_take ‹(d0.2.2.2.2.2.2.take d1.toNat)[k]? = some _›); rw [stepQ, setQ3 ‹_ = (3 : Int)›, getF3 ‹_ = (3 : Int)›] at h_; exact h_), h_b0, h_b1, (Ow.ownl f16_0 rfl mnil), h_b3⟩, by exact fin2_dSettle_ok, ⟨⟨rfl, rfl, rfl, rfl, rfl, trivial⟩, fun _ h => Inv.sub h [107, 102, 103, 104, 105, 106, 0]⟩⟩
 refine VD.y rfl rfl (.inl rfl) (.ixa (i := 3) (o := 8) rfl rfl tar69 hi13 rfl rfl) ?_
 refine VD.y rfl rfl (.inl rfl) (.ld1 107 rfl tk25 rfl (cellsAt_one rfl rfl)) (VD.y rfl rfl (.inl rfl) (.ldA 112 rfl tk101 rfl (cellsAt_one rfl rfl)) (VD.y rfl rfl (.inl rfl) (.nilp rfl) (VD.y rfl rfl (.inl rfl) (.fa rfl tst72 rfl) ?_)))
 refine VD.call 105 rfl rfl (.inl rfl) fnOk84 rfl rfl (fun _ _ h => h.sub [112, 107, 106, 0]) (fun W hW => dDone_ok W (hW.at (i := 105) rfl) (OwnL.ow h_b3 rfl) (Rd.mono hre10 (hW.out (i := 105) (j := 106) rfl rfl)) (by exact fin1_dSettle_ok) (by exact fin0_dSettle_ok)) (fun v17 m17 hv17 => ?_)
 obtain ⟨s17_0, rfl, f17_0⟩ := hv17
 obtain ⟨A17_0, c17_0, eq17_0, l17_0, k17_0⟩ := f17_0.slice
 subst eq17_0
 simp only [maxLen] at k17_0
 refine VD.nil rfl ?_ rfl
 refine VO.y rfl (.ixa (i := 3) (o := 8) rfl rfl tar69 hi13 rfl rfl) ?_
 refine VO.store (k := 1) 107 rfl rfl (.inr ⟨tk25, rfl⟩) rfl rfl rfl rfl rfl ?_
 refine VO.k7 0 1 5 11 12 13 14 (outBN (outN ?_))
 refine VC.reg ?_
 refine VO.y rfl (.add (c := ((k + 1 : Nat) : Int)) rfl rfl (by omega) ⟨by exact fin2_dSettle_ok, by exact fin2_dSettle_ok⟩) ?_
 refine VO.mv (VO.k7 0 1 5 11 12 13 14 ?_)
 exact outN ⟨⟨k + 1, b0, b0_A, b0_c, b0_m, b1, b1_A, b1_c, b1_m, b2, b2_A, b2_c, b2_m, doneB b3 x10, A17_0, c17_0, m17⟩, ⟨by omega, by first | (have h_ := play_next hb (get_take ‹(d0.2.2.2.2.2.2.take d1.toNat)[k]? = some _›); rw [stepQ, setQ0 ‹_ = (0 : Int)›, getF0 ‹_ = (0 : Int)›] at h_; exact h_) | (have h_ := play_next hb (get_take ‹(d0.2.2.2.2.2.2.take d1.toNat)[k]? = some _›); rw [stepQ, setQ1 ‹_ = (1 : Int)›, getF1 ‹_ = (1 : Int)›] at h_; exact h_) | (have h_ := play_next hb (get_take ‹(d0.2.2.2.2.2.2.take d1.toNat)[k]? = some _›); rw [stepQ, setQ2 ‹_ = (2 : Int)›, getF2 ‹_ = (2 : Int)›] at h_; exact h_) | (have h_ := play_next hb (get_take ‹(d0.2.2.2.2.2.2.take d1.toNat)[k]? = some _›); rw [stepQ, setQ3 ‹_ = (3 : Int)›, getF3 ‹_ = (3 : Int)›] at h_; exact h_), h_b0, h_b1, h_b2, (Ow.ownl f17_0 rfl mnil)⟩, by exact fin2_dSettle_ok, ⟨⟨rfl, rfl, rfl, rfl, rfl, trivial⟩, fun _ h => Inv.sub h [107, 102, 103, 104, 105, 106, 0]⟩⟩
 · refine VC.exit (outE (outE (outBB (outN ?_))))
   refine VC.reg ?_
   refine VO.mv (VO.mv (VO.y rfl (.nilp rfl) (VO.y rfl (.fa rfl tst72 rfl) (VO.y rfl (.ld1 107 rfl tk70 rfl (cellsAt_one rfl rfl)) (VO.mv ?_)))))
   obtain ⟨A18, hA18, ho18⟩ := q1_9.drop' 4 ((d1).toNat) rfl (by exact fin2_dSettle_ok)
   refine VO.y rfl (.slLI ((d1).toNat) A18 rfl rfl tsl70 (by exact fin2_dSettle_ok) hA18 (by exact fin2_dSettle_ok)) ?_
   refine VO.y rfl (.nilp rfl) (VO.y rfl (.fa rfl tst72 rfl) ?_)
   refine VO.store (k := 1) 107 rfl rfl (.inr ⟨tk70, rfl⟩) rfl rfl rfl rfl rfl ?_
   refine VO.kp [107, 102, 103, 104, 105, 106, 0] [(107, mone g0 (.cells #[.bool d0.1, .bool d0.2.1, .bool d0.2.2.1, .int .i64 (d0.2.2.2.1), .int .i64 (d0.2.2.2.2.1), .slice b0_A (b0.length) (b0_c), .slice b1_A (b1.length) (b1_c), .slice b2_A (b2.length) (b2_c), .slice b3_A (b3.length) (b3_c), .slice A18 (d0.2.2.2.2.2.2.length - ((d1).toNat)) (q1_c9 - ((d1).toNat))] q1_E (0, 0))), (102, b0_m), (103, b1_m), (104, b2_m), (105, b3_m), (106, q1_n9), (0, mout (wm W) (m0))] ?_
   refine VO.k6 0 1 11 12 13 14 ?_
   refine ⟨_, _, res_run (rs := []) rfl .nil, fun W_ hI => out_of (l := [mone g0 (.cells #[.bool d0.1, .bool d0.2.1, .bool d0.2.2.1, .int .i64 (d0.2.2.2.1), .int .i64 (d0.2.2.2.2.1), .slice b0_A (b0.length) (b0_c), .slice b1_A (b1.length) (b1_c), .slice b2_A (b2.length) (b2_c), .slice b3_A (b3.length) (b3_c), .slice A18 (d0.2.2.2.2.2.2.length - ((d1).toNat)) (q1_c9 - ((d1).toNat))] q1_E (0, 0)), b0_m, b1_m, b2_m, b3_m, q1_n9]) hI [107, 102, 103, 104, 105, 106] rfl rfl (mle_refl _) (fun hS_ => ?_)⟩
   dsimp only [packV]
   have hm0_ : (settleD d0 d1.toNat : DdiskDisk) = (d0.1, d0.2.1, d0.2.2.1, d0.2.2.2.1, d0.2.2.2.2.1, (b0, b1, b2, b3), d0.2.2.2.2.2.2.drop ((d1).toNat)) := by first | rfl | ((have hk2 : k = d1.toNat := (by omega); subst hk2; unfold settleD; rw [← hb]))
   refine ⟨?_, ?_⟩
   rotate_left
   · rw [hm0_]; exact (mkP_diskDisk d0.1 d0.2.1 d0.2.2.1 d0.2.2.2.1 d0.2.2.2.2.1 b0 b1 b2 b3 (d0.2.2.2.2.2.2.drop ((d1).toNat)) hS_ (by simp only [inK]; (exact fin2_dSettle_ok)) (by simp only [inK]; (exact fin2_dSettle_ok)) (OwnL.ow h_b0 rfl) (OwnL.ow h_b1 rfl) (OwnL.ow h_b2 rfl) (OwnL.ow h_b3 rfl) ho18)
   all_goals (first | rfl | (simp [*]; done))
end
end Go.Proofs.Ytbjkfnnabnacfaa
