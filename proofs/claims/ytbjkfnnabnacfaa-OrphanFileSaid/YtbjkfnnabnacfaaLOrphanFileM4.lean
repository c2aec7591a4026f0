/- Part 4 of the proof of LOrphanFile: what it needs of the library, the walks and the plain laws. Conditions: those named in each theorem. -/
import Derived.Test.YtbjkfnnabnacfaaLOrphanFileM3
namespace Go.Proofs.Ytbjkfnnabnacfaa
section
section
variable {P : Program} {n : Nat} {w0 : World} {σ : Env} {Ω ΩS : Ctx} {ops : Array Oper} {K : Env → Ctx → Prop}
theorem VD.store {tt q : Nat} {ss : List (Nat × Bool)} {ty : TypeId} {pos : String} {af : Array Edge} {t : TypeId} {x y : Operand} {g off : Nat} {v : Value} {k : Nat} (i : Nat) {c : Array Value} {E : TypeId} {c' : List Value}
    (ho : ops[q]? = some ⟨none, .store t x y, ty, pos, af, none⟩)
    (hx : ev σ x = some (.pointer (some ⟨g, off, none⟩))) (hy : ev σ y = some v) (ht : tk P t = some (some k) ∨ (tk P t = some none ∧ k = 1)) (hk : Nat.beq v.cells.size k = true) (hn : nice v = true)
    (hm : cget Ω i = some (mone g (.cells c E (0, 0)))) (hl : Nat.ble (off + k) c.size = true) (hc : splice c.toList off v.cells.toList = c')
    (hS : ∀ W, Inv w0 (cset Ω i (mone g (.cells c'.toArray E (0, 0)))) W → Inv w0 ΩS W)
    (h : VD P n w0 ops ΩS tt ss σ (cset Ω i (mone g (.cells c'.toArray E (0, 0)))) K) : VD P n w0 ops ΩS tt ((q, false) :: ss) σ Ω K :=
  VD.s (fun _ => σ) ho (fun _ _ he => he) (.inl rfl) (Stp.store i hx hy ht hk hn hm (mone_self _ _) hl) (fun _ _ ⟨_, hΩ⟩ W hW => hS W (by rw [hΩ, mset_one, hc] at hW; exact hW)) (fun _ _ ⟨_, hΩ⟩ => by rw [hΩ, mset_one, hc]; exact h)
end
/-- what a slice of one's own was, is still to be read -/
def KeptA (sz : Nat) (m : Mem) (v : Value) (len : Nat) (cs : List Value) : Prop := ∃ A cap, v = .slice A len cap ∧ len ≤ cap ∧ cap ≤ maxLen ∧ ((len = 0 ∧ cs = []) ∨ ∃ g off, A = some ⟨g, off, none⟩ ∧ cellsAt m g off (len * sz) cs)
section
variable {P : Program} {n : Nat} {w0 : World} {σ : Env} {Ω ΩS : Ctx} {ops : Array Oper} {K : Env → Ctx → Prop}
variable {ty : TypeId} {pos : String} {af : Array Edge} {d : Option Tmp} {gd : Option (Nat × Bool)} {r : List Oper}
theorem Stp.appK {s x : Operand} {t xt e : TypeId} {sz b len k : Nat} {v xv : Value} {cs xs z : List Value} (i : Nat) {m m0 : Mem} (hsv : ev σ s = some v) (hxv : ev σ x = some xv) (ht : tsl P t = some (e, sz, b)) (hz : tz P e = some z) (hzl : z.length = sz)
    (hm : cget Ω i = some m) (hm0 : mle m0 m) (hown : OwnA sz m0 v len cs) (hs' : Src P Ω sz xt xv k xs) (h1 : ∀ u ∈ xs, u.oneCell' = true) (hml : len + k ≤ maxLen) (hb : (len + k) * b ≤ 140737488355328) (hb0 : b ≠ 0) :
    Stp P n w0 σ Ω ⟨d, .call { callee := .builtin .append, args := [s, x].toArray, argTypes := [t, xt].toArray }, ty, pos, af, gd⟩ (fun v' Ω' => ∃ m' mo, mle mo m' ∧ OwnA sz mo v' (len + k) (cs ++ xs) ∧ KeptA sz m' v len cs ∧ Ω' = cset Ω i m') := fun a W he hi K' Q hK => by
  have hs : SrcW P W sz xt xv k xs := hs'.w hi
  have hex : ∀ (res : Value) (W' : World), (Builtin.append_ #[t, xt] ty #[v, xv]).run P W = .ok res W' → (execOp a.eval ⟨d, .call { callee := .builtin .append, args := [s, x].toArray, argTypes := [t, xt].toArray }, ty, pos, af, gd⟩).run P W = .ok (.value res) W' := by
    intro res W' h
    simp [execOp, resolve, invoke, builtin, he.eval hsv, he.eval hxv, h]
  have grow : ∀ (A : Option Addr) (cap : Nat), v = .slice A len cap → (∀ W', W'.heap = W.heap → (Builtin.firstCells sz len (.slice A len cap)).run P W' = .ok cs.toArray W') → cap < len + k → KeptA sz m0 v len cs →
      (⟨d, .call { callee := .builtin .append, args := [s, x].toArray, argTypes := [t, xt].toArray }, ty, pos, af, gd⟩ : Oper).wp P a W K' Q := by
    intro A cap hv hold hgt hkp
    subst hv
    obtain ⟨ncap, rest, hn1, hn2, hr, hrun⟩ := append_grow ht hz hs ty hold hgt hml hb hb0
    unfold Oper.wp
    rw [hex _ _ hrun]
    have hl1 := hown.len_eq
    have hl2 := hs.len
    have hnew : ∀ q o, m0 q = some o → q ≠ W.heap.size := fun q o hq hqq => by
      subst hqq
      have := hi.at hm _ o (hm0 _ o hq)
      unfold wm at this
      simp at this
    have hdj : mdj m0 (mone W.heap.size (.cells (cs ++ xs ++ rest).toArray e (0, 0))) := fun q => by
      by_cases hq : q = W.heap.size
      · left
        cases hmq : m0 q with
        | none => rfl
        | some o => exact absurd hq (hnew q o hmq)
      · exact .inr (mone_ne _ hq)
    refine hK _ _ _ ⟨mun m0 (mone W.heap.size (.cells (cs ++ xs ++ rest).toArray e (0, 0))), mone W.heap.size (.cells (cs ++ xs ++ rest).toArray e (0, 0)), mle_un_right hdj, ?_, ?_, rfl⟩ (hi.set hm rfl rfl rfl (by simp) ?_ (mun_le (fun q o hq => ?_) (mone_le ?_)) fun g => ?_)
    · have hlen : (cs ++ xs ++ rest).length = ncap * sz := by
        simp only [List.length_append, hl1, hl2, hr, hzl, ← Nat.add_mul]
        congr 1; omega
      have := OwnA.row (sz := sz) W.heap.size 0 (len + k) ncap e (cs ++ xs ++ rest) (by rw [hlen]; omega) hn1 hn2
      rw [List.drop_zero, List.take_append_of_le_length (by simp [hl1, hl2, Nat.add_mul]), List.take_of_length_le (by simp [hl1, hl2, Nat.add_mul])] at this
      exact this
    · obtain ⟨A', c', e1, e2, e3, e4⟩ := hkp
      exact ⟨A', c', e1, e2, e3, e4.imp id fun ⟨g, off, q1, q2⟩ => ⟨g, off, q1, q2.mono (mle_un_left _ _)⟩⟩
    · exact (mout_le _ _).trans (wm_alloc W.drew _)
    · exact wm_alloc W.drew _ q o (hi.at hm q o (hm0 q o hq))
    · exact wm_alloc_new W.drew _
    · by_cases hg : g = W.heap.size
      · exact .inr (.inr (Nat.le_of_eq hg.symm))
      · cases hmg : m0 g with
        | none => left; unfold mun; rw [hmg]; exact mone_ne _ hg
        | some o => right; left; rw [hm0 g o hmg]; simp
  cases hown with
  | nil A =>
    by_cases hk : k = 0
    · subst hk
      have hx : xs = [] := List.eq_nil_of_length_eq_zero (by simpa using hs.len)
      subst hx
      unfold Oper.wp
      rw [hex (.slice A 0 0) W (by rw [append_eq ht hs ty (by omega)]; cases A <;> rfl)]
      exact hK _ _ _ ⟨mnil, mnil, mle_refl _, .nil A, ⟨A, 0, rfl, Nat.le_refl _, Nat.zero_le _, .inl ⟨rfl, rfl⟩⟩, rfl⟩ (hi.set hm rfl rfl rfl (Nat.le_refl _) (mout_le _ _) (mle_nil _) fun g => .inl rfl)
    · exact grow A 0 rfl (fun W' _ => by cases A <;> simp [Builtin.firstCells, loadCells, loadCellsFrom]) (by omega) ⟨A, 0, rfl, Nat.le_refl _, Nat.zero_le _, .inl ⟨rfl, rfl⟩⟩
  | row g off len cap E c h1' h2' h3' =>
    have hmul0 := Nat.mul_le_mul_right sz h2'
    have kept0 : ∀ c2 : List Value, c2.length = c.length → (c2.drop off).take (len * sz) = (c.drop off).take (len * sz) → KeptA sz (mone g (.cells c2.toArray E (0, 0))) (.slice (some ⟨g, off, none⟩) len cap) len ((c.drop off).take (len * sz)) := fun c2 hl hc =>
      ⟨_, _, rfl, h2', h3', .inr ⟨g, off, rfl, c2.toArray, E, (0, 0), mone_self _ _, by simp; omega, by simp [hc]⟩⟩
    by_cases hle : len + k ≤ cap
    · have hg := hi.at hm g _ (hm0 g _ (mone_self _ _))
      have hmul := Nat.mul_le_mul_right sz hle
      have hl2 := hs.len
      obtain ⟨W', hrun, ho, htp, hu, hsz, hfar, hgg⟩ := setCells_heap (P := P) xs W g (off + len * sz) c.toArray E (0, 0) hg (by simp [hl2]; rw [Nat.add_mul] at hmul; omega) (Nat.le_refl _) h1 0 (off + len * sz) rfl
      unfold Oper.wp
      rw [hex (.slice (some ⟨g, off, none⟩) (len + k) cap) W' (by rw [append_eq ht hs ty hle]; simp only [add_off, hrun]; rfl)]
      have hsl : splice c (off + len * sz) xs = c.take (off + len * sz) ++ (xs ++ c.drop (off + len * sz + xs.length)) := rfl
      have hlc : (splice c (off + len * sz) xs).length = c.length := by rw [hsl]; simp [hl2]; rw [Nat.add_mul] at hmul; omega
      have e0 : List.drop off (splice c (off + len * sz) xs) = List.take (len * sz) (List.drop off c) ++ (xs ++ c.drop (off + len * sz + xs.length)) := by
        rw [hsl, List.drop_append_of_le_length (by simp; rw [Nat.add_mul] at hmul; omega)]
        congr 1
        rw [List.drop_take]; congr 1; omega
      refine hK _ _ _ ⟨mone g (.cells (splice c (off + len * sz) xs).toArray E (0, 0)), mone g (.cells (splice c (off + len * sz) xs).toArray E (0, 0)), mle_refl _, ?_, kept0 _ hlc ?_, rfl⟩ (hi.set hm ho htp hu (Nat.le_of_eq hsz.symm) ?_ (mone_le hgg) fun g' => ?_)
      · have := OwnA.row (sz := sz) g off (len + k) cap E (splice c (off + len * sz) xs) (by rw [hlc]; exact h1') hle h3'
        have e1 : List.take ((len + k) * sz) (List.drop off (splice c (off + len * sz) xs)) = List.take (len * sz) (List.drop off c) ++ xs := by
          rw [e0, ← List.append_assoc]
          have e3 : (List.take (len * sz) (List.drop off c) ++ xs).length = (len + k) * sz := by
            rw [Nat.add_mul] at hmul ⊢
            simp [hl2]; omega
          rw [← e3]
          exact List.take_left
        rw [e1] at this
        exact this
      · rw [e0]
        have e3 : (List.take (len * sz) (List.drop off c)).length = len * sz := by simp; omega
        rw [List.take_append_of_le_length (by omega), List.take_of_length_le (by omega)]
      · intro q o h
        unfold mout at h
        split at h
        · cases h
        · rename_i hn
          have hne : q ≠ g := by rintro rfl; rw [hm0 _ _ (mone_self _ _)] at hn; cases hn
          unfold wm at h ⊢
          rw [hfar q hne]; exact h
      · by_cases hgg' : g' = g
        · subst hgg'; right; left; rw [hm0 _ _ (mone_self _ _)]; simp
        · exact .inl (mone_ne _ hgg')
    · refine grow (some ⟨g, off, none⟩) cap rfl (fun W' hW' => ?_) (by omega) (kept0 c rfl rfl)
      have hg := hi.at hm g _ (hm0 g _ (mone_self _ _))
      have hmul := Nat.mul_le_mul_right sz h2'
      refine run_loadCells' ⟨c.toArray, E, (0, 0), ?_, by simp; omega, rfl⟩
      unfold wm at hg ⊢
      rw [hW']; exact hg
theorem VO.appK {s x : Operand} {t xt e : TypeId} {sz b len k dd : Nat} {v xv : Value} {cs xs z : List Value} (i : Nat) {m m0 : Mem} (hd : Nat.blt dd n = true) (hsv : ev σ s = some v) (hxv : ev σ x = some xv) (ht : tsl P t = some (e, sz, b)) (hz : tz P e = some z) (hzl : z.length = sz)
    (hm : cget Ω i = some m) (hm0 : mle m0 m) (hown : OwnA sz m0 v len cs) (hs : Src P Ω sz xt xv k xs) (h1 : ∀ u ∈ xs, u.oneCell' = true) (hml : len + k ≤ maxLen) (hb : (len + k) * b ≤ 140737488355328) (hb0 : b ≠ 0)
    (h : ∀ v' m' mo, mle mo m' → OwnA sz mo v' (len + k) (cs ++ xs) → KeptA sz m' v len cs → VO P n w0 ops r ((dd, v') :: σ) (cset Ω i m') K) :
    VO P n w0 ops (⟨some dd, .call { callee := .builtin .append, args := [s, x].toArray, argTypes := [t, xt].toArray }, ty, pos, af, none⟩ :: r) σ Ω K :=
  VO.s hd (Stp.appK i hsv hxv ht hz hzl hm hm0 hown hs h1 hml hb hb0) fun v' _ ⟨m', mo, h0, hp, hk, hΩ⟩ => hΩ ▸ h v' m' mo h0 hp hk
end
theorem KeptA.rd {e : Ty} {m : Mem} {A : Option Addr} {c : Nat} {cs : List Value} {xs : List e.Den} (h : KeptA e.sz m (.slice A xs.length c) xs.length cs) (hc : All2c (Rd e m) cs xs) : Rd (.sl e) m [.slice A xs.length c] xs := by
  obtain ⟨A', c', h1, h2, h3, h4⟩ := h
  simp only [Value.slice.injEq, true_and] at h1
  obtain ⟨rfl, rfl⟩ := h1
  refine ⟨_, _, rfl, h2, h3, ?_⟩
  rcases h4 with ⟨h4, _⟩ | ⟨g, off, h4, h5⟩
  · exact .inl h4
  · exact .inr ⟨g, off, cs, h4, h5, hc⟩
end
section
set_option linter.unusedVariables false
set_option linter.unusedSimpArgs false
set_option maxRecDepth 4000
theorem fnOk51 : fnOk Try.prog 51 = true := by kernel_rfl
theorem fnOk55 : fnOk Try.prog 55 = true := by kernel_rfl
theorem fnOk56 : fnOk Try.prog 56 = true := by kernel_rfl
theorem fnOk60 : fnOk Try.prog 60 = true := by kernel_rfl
theorem fnOk9 : fnOk Try.prog 9 = true := by kernel_rfl
theorem fnOk91 : fnOk Try.prog 91 = true := by kernel_rfl
theorem fnOk92 : fnOk Try.prog 92 = true := by kernel_rfl
theorem fnOk93 : fnOk Try.prog 93 = true := by kernel_rfl
theorem tar80 : tar Try.prog 80 = some (3, 1) := by kernel_rfl
theorem tia80 : tia Try.prog 80 = some (3, 3, 1) := by kernel_rfl
theorem tk24 : tk Try.prog 24 = some (some 3) := by kernel_rfl
theorem tsl41 : tsl Try.prog 41 = some (24, 3, 40) := by kernel_rfl
theorem tst24 : tst Try.prog 24 = some [(0, 1), (1, 1), (2, 1)] := by kernel_rfl
theorem tz24 : tz Try.prog 24 = some [.int .i64 0, .int .i64 0, .slice none 0 0] := by kernel_rfl
theorem tz80 : tz Try.prog 80 = some [.int .i64 0, .int .i64 0, .int .i64 0] := by kernel_rfl
theorem tk22 : tk Try.prog 22 = some none := by kernel_rfl
theorem fin0_sectCheck_ok {P : Prop} (h : P := by congr 1; first | exact (sect_bad1 (by omega)).symm | exact (sect_bad2 (by omega) (by omega) (by omega) (by omega) (by first | assumption | exact fol_ne (by assumption) | exact fol_eq (by assumption))).symm | exact (sect_bad3 (by omega) (by omega) (by omega) (by omega) (by first | assumption | exact fol_ne (by assumption) | exact fol_eq (by assumption)) ‹_[_]? = some _› (by omega) (by omega)).symm | exact (sect_good (by omega) (by omega) (by omega) (by omega) (by first | assumption | exact fol_ne (by assumption) | exact fol_eq (by assumption)) ‹_[_]? = some _› (by omega) (by omega)).symm) : P := h
theorem sectCheck_ok (W : World) {v0 : List Value} {d0 : DSection} (h0 : Rd TSection (wm W) v0 d0) : CallR Try.prog 9 [.agg v0.toArray] W (mnil) (fun v m' => v = .int .i64 (sectCheck d0)) := by
  obtain ⟨p0_A2, p0_c2, rfl, p0_0, p0_1, p0_2⟩ := open_Section (x0 := d0.1) (x1 := d0.2.1) (x2 := d0.2.2) h0
  simp only [inK] at p0_0
  simp only [inK] at p0_1
  have p0_r2 := Rd.room p0_2
  refine CallR.ofA (n := 45) Try.func9 rfl rfl rfl ?_
  refine VC.rs ?_
  refine VO.box (cs := [Value.int .i64 (d0.1), Value.int .i64 (d0.2.1), Value.slice p0_A2 (d0.2.2.length) (p0_c2)]) 102 rfl rfl rfl (fun g1 => ?_)
  refine VO.as ?_
  refine VO.k3 0 1 2 ?_
  refine VC.seq ?_
  refine VC.rs ?_
  refine VO.y rfl (.fa rfl tst24 rfl) ?_
  refine VO.y rfl (.ld1 102 rfl tk3 rfl (cellsAt_one rfl rfl)) ?_
  refine VO.y rfl (.lss rfl rfl) ?_
  refine VO.mv ?_
  refine VO.dec (t := 7) rfl (fun hc3 => ?_) (fun hc3 => ?_)
  · -- T
    refine VO.gN ?_
    refine VO.gN ?_
    refine VO.gN ?_
    refine VO.y rfl (.pT rfl rfl) ?_
    refine VO.mv ?_
    refine VO.gN ?_
    refine VO.gN ?_
    refine VO.gN ?_
    refine VO.y rfl (.pT rfl rfl) ?_
    refine VO.mv ?_
    refine VO.gN ?_
    refine VO.gN ?_
    refine VO.gN ?_
    refine VO.gN ?_
    refine VO.y rfl (.pT rfl rfl) ?_
    refine VO.k4 0 1 2 22 ?_
    refine VC.condT rfl ?_
    refine VC.rs ?_
    refine VO.as ?_
    refine VO.keep [102, 0] [(102, mone g1 (.cells [Value.int .i64 (d0.1), Value.int .i64 (d0.2.1), Value.slice p0_A2 (d0.2.2.length) (p0_c2)].toArray 24 (0, 0))), (0, wm W)] (by kernel_rfl) ?_
    refine VO.k4 0 1 2 22 ?_
    refine VC.ret ?_
    refine outR ?_
    refine ⟨_, _, res_run (rs := [.tmp 2]) rfl (.tmp rfl .nil), fun W_ hI => out_of (l := []) hI [] rfl rfl (mle_refl _) (fun hS_ => ?_)⟩
    dsimp only [packV]
    all_goals (first | rfl | (exact fin0_sectCheck_ok))
  · -- F
    refine VO.gy rfl ⟨_, rfl, rfl⟩ (.fa rfl tst24 rfl) ?_
    refine VO.gy rfl ⟨_, rfl, rfl⟩ (.ld1 102 rfl tk3 rfl (cellsAt_one rfl rfl)) ?_
    refine VO.gy rfl ⟨_, rfl, rfl⟩ (.gtr rfl rfl) ?_
    refine VO.y rfl (.pF rfl rfl) ?_
    refine VO.mv ?_
    refine VO.dec (t := 12) rfl (fun hc4 => ?_) (fun hc4 => ?_)
    · -- FT
      refine VO.gN ?_
      refine VO.gN ?_
      refine VO.gN ?_
      refine VO.y rfl (.pT rfl rfl) ?_
      refine VO.mv ?_
      refine VO.gN ?_
      refine VO.gN ?_
      refine VO.gN ?_
      refine VO.gN ?_
      refine VO.y rfl (.pT rfl rfl) ?_
      refine VO.k4 0 1 2 22 ?_
      refine VC.condT rfl ?_
      refine VC.rs ?_
      refine VO.as ?_
      refine VO.keep [102, 0] [(102, mone g1 (.cells [Value.int .i64 (d0.1), Value.int .i64 (d0.2.1), Value.slice p0_A2 (d0.2.2.length) (p0_c2)].toArray 24 (0, 0))), (0, wm W)] (by kernel_rfl) ?_
      refine VO.k4 0 1 2 22 ?_
      refine VC.ret ?_
      refine outR ?_
      refine ⟨_, _, res_run (rs := [.tmp 2]) rfl (.tmp rfl .nil), fun W_ hI => out_of (l := []) hI [] rfl rfl (mle_refl _) (fun hS_ => ?_)⟩
      dsimp only [packV]
      all_goals (first | rfl | (exact fin0_sectCheck_ok))
    · -- FF
      refine VO.gy rfl ⟨_, rfl, rfl⟩ (.fa rfl tst24 rfl) ?_
      refine VO.gy rfl ⟨_, rfl, rfl⟩ (.ld1 102 rfl tk3 rfl (cellsAt_one rfl rfl)) ?_
      refine VO.gy rfl ⟨_, rfl, rfl⟩ (.lss rfl rfl) ?_
      refine VO.y rfl (.pF rfl rfl) ?_
      refine VO.mv ?_
      refine VO.dec (t := 17) rfl (fun hc5 => ?_) (fun hc5 => ?_)
      · -- FFT
        refine VO.gN ?_
        refine VO.gN ?_
        refine VO.gN ?_
        refine VO.gN ?_
        refine VO.y rfl (.pT rfl rfl) ?_
        refine VO.k4 0 1 2 22 ?_
        refine VC.condT rfl ?_
        refine VC.rs ?_
        refine VO.as ?_
        refine VO.keep [102, 0] [(102, mone g1 (.cells [Value.int .i64 (d0.1), Value.int .i64 (d0.2.1), Value.slice p0_A2 (d0.2.2.length) (p0_c2)].toArray 24 (0, 0))), (0, wm W)] (by kernel_rfl) ?_
        refine VO.k4 0 1 2 22 ?_
        refine VC.ret ?_
        refine outR ?_
        refine ⟨_, _, res_run (rs := [.tmp 2]) rfl (.tmp rfl .nil), fun W_ hI => out_of (l := []) hI [] rfl rfl (mle_refl _) (fun hS_ => ?_)⟩
        dsimp only [packV]
        all_goals (first | rfl | (exact fin0_sectCheck_ok))
      · -- FFF
        refine VO.gy rfl ⟨_, rfl, rfl⟩ (.fa rfl tst24 rfl) ?_
        refine VO.gy rfl ⟨_, rfl, rfl⟩ (.ld1 102 rfl tk22 rfl (cellsAt_one rfl rfl)) ?_
        refine VO.gy rfl ⟨_, rfl, rfl⟩ (.lenS rfl tsl22) ?_
        refine VO.gy rfl ⟨_, rfl, rfl⟩ (.eql rfl rfl) ?_
        refine VO.y rfl (.pF rfl rfl) ?_
        refine VO.k4 0 1 2 22 ?_
        refine VC.cond rfl (fun hc6 => ?_) (fun hc6 => ?_)
        · -- FFFT
          refine VC.rs ?_
          refine VO.as ?_
          refine VO.keep [102, 0] [(102, mone g1 (.cells [Value.int .i64 (d0.1), Value.int .i64 (d0.2.1), Value.slice p0_A2 (d0.2.2.length) (p0_c2)].toArray 24 (0, 0))), (0, wm W)] (by kernel_rfl) ?_
          refine VO.k4 0 1 2 22 ?_
          refine VC.ret ?_
          refine outR ?_
          refine ⟨_, _, res_run (rs := [.tmp 2]) rfl (.tmp rfl .nil), fun W_ hI => out_of (l := []) hI [] rfl rfl (mle_refl _) (fun hS_ => ?_)⟩
          dsimp only [packV]
          all_goals (first | rfl | (exact fin0_sectCheck_ok))
        · -- FFFF
          refine VC.skip ?_
          refine outN ?_
          refine VC.seq ?_
          refine VC.rs ?_
          refine VO.y rfl (.fa rfl tst24 rfl) ?_
          refine VO.y rfl (.ld1 102 rfl tk3 rfl (cellsAt_one rfl rfl)) ?_
          refine VO.y rfl (.fa rfl tst24 rfl) ?_
          refine VO.y rfl (.ld1 102 rfl tk22 rfl (cellsAt_one rfl rfl)) ?_
          refine VO.callN 107 rfl fnOk51 rfl (fun W hW => follows_ok W 1 bdk d0.2.1 bdk (Rd.mono p0_2 (hW.at (i := 0) rfl))) (fun v7 m7 hv7 => ?_)
          obtain ⟨s7_0, rfl, f7_0⟩ := hv7
          obtain ⟨rfl, q7_0_0, q7_0_1⟩ := open_Fault (x0 := (cFollows 1 d0.2.1 d0.2.2).1) (x1 := (cFollows 1 d0.2.1 d0.2.2).2) (f7_0.rd (mle_refl _))
          simp only [inK] at q7_0_0
          simp only [inK] at q7_0_1
          refine VO.alloc 109 rfl tz75 (fun g8 => ?_)
          refine VO.store (k := 2) (c' := [Value.int .i64 ((cFollows 1 d0.2.1 d0.2.2).1), Value.int .i64 ((cFollows 1 d0.2.1 d0.2.2).2)]) 109 rfl rfl (.inl tk75) rfl rfl rfl rfl rfl ?_
          refine VO.keep [109, 102, 0] [(109, mone g8 (.cells [Value.int .i64 ((cFollows 1 d0.2.1 d0.2.2).1), Value.int .i64 ((cFollows 1 d0.2.1 d0.2.2).2)].toArray 75 (0, 0))), (102, mone g1 (.cells [Value.int .i64 (d0.1), Value.int .i64 (d0.2.1), Value.slice p0_A2 (d0.2.2.length) (p0_c2)].toArray 24 (0, 0))), (0, wm W)] (by kernel_rfl) ?_
          refine VO.k5 0 1 2 3 22 ?_
          refine VC.rs ?_
          refine VO.y rfl (.fa rfl tst75 rfl) ?_
          refine VO.y rfl (.ld1 109 rfl tk28 rfl (cellsAt_one rfl rfl)) ?_
          refine VO.y rfl (.neq rfl rfl) ?_
          refine VO.k6 0 1 2 3 22 30 ?_
          refine VC.cond rfl (fun hc10 => ?_) (fun hc10 => ?_)
          · -- FFFFT
            refine VC.rs ?_
            refine VO.y rfl (.fa rfl tst75 rfl) ?_
            refine VO.y rfl (.ld1 109 rfl tk28 rfl (cellsAt_one rfl rfl)) ?_
            refine VO.as ?_
            refine VO.k6 0 1 2 3 22 30 ?_
            refine VC.ret ?_
            refine outR ?_
            refine ⟨_, _, res_run (rs := [.tmp 2]) rfl (.tmp rfl .nil), fun W_ hI => out_of (l := []) hI [] rfl rfl (mle_refl _) (fun hS_ => ?_)⟩
            dsimp only [packV]
            all_goals (first | rfl | (exact fin0_sectCheck_ok))
          · -- FFFFF
            refine VC.skip ?_
            refine outN ?_
            refine VC.seq ?_
            refine VC.seq ?_
            refine VC.regD _ 11 [(0, true), (1, true), (2, true), (3, true), (4, true), (5, true), (6, true), (7, true), (8, true), (9, true), (10, true)] follows (by kernel_rfl) (fun _ h => h.sub [109, 102, 0]) ?_
            refine VD.y rfl rfl (.inl rfl) (.fa rfl tst24 rfl) ?_
            refine VD.y rfl rfl (.inl rfl) (.ld1 102 rfl tk22 rfl (cellsAt_one rfl rfl)) ?_
            refine VD.y rfl rfl (.inl rfl) (.fa rfl tst24 rfl) ?_
            refine VD.y rfl rfl (.inl rfl) (.ld1 102 rfl tk22 rfl (cellsAt_one rfl rfl)) ?_
            refine VD.y rfl rfl (.inl rfl) (.lenS rfl tsl22) ?_
            refine VD.y rfl rfl (.inl rfl) (.sub rfl rfl rfl ⟨bd, bd⟩) ?_
            obtain ⟨x11, hx11⟩ : ∃ z_, (d0.2.2)[(((d0.2.2.length : Nat) : Int) - 1).toNat]? = some z_ := ⟨_, List.getElem?_eq_getElem bd⟩
            obtain ⟨gg11, oo11, ec11, ea11, hce11, hre11⟩ := p0_2.elem hx11
            cases ea11
            obtain ⟨q11_A2, q11_c2, rfl, q11_0, q11_1, q11_2⟩ := open_Commit (x0 := x11.1) (x1 := x11.2.1) (x2 := x11.2.2) hre11
            simp only [inK] at q11_0
            simp only [inK] at q11_1
            have q11_r2 := Rd.room q11_2
            refine VD.y rfl rfl (.inl rfl) (.ixI ((((d0.2.2.length : Nat) : Int) - 1).toNat) rfl rfl tsl22 bd bd) ?_
            refine VD.y rfl rfl (.inl rfl) (.fa rfl tst32 rfl) ?_
            refine VD.y rfl rfl (.inl rfl) (.ld1 0 rfl tk3 rfl (hce11.at1 (j := 0) rfl)) ?_
            refine VD.y rfl rfl (.inl rfl) (.fa rfl tst24 rfl) ?_
            refine VD.y rfl rfl (.inl rfl) (.ld1 102 rfl tk3 rfl (cellsAt_one rfl rfl)) ?_
            refine VD.nil rfl ?_ rfl
            refine VO.y rfl (.geq rfl rfl) ?_
            refine VO.k7 0 1 2 3 22 30 44 ?_
            refine outN ?_
            refine VC.cond rfl (fun hc12 => ?_) (fun hc12 => ?_)
            · -- FFFFFT
              refine VC.rs ?_
              refine VO.as ?_
              refine VO.keep [109, 102, 0] [(109, mone g8 (.cells [Value.int .i64 ((cFollows 1 d0.2.1 d0.2.2).1), Value.int .i64 ((cFollows 1 d0.2.1 d0.2.2).2)].toArray 75 (0, 0))), (102, mone g1 (.cells [Value.int .i64 (d0.1), Value.int .i64 (d0.2.1), Value.slice (some ⟨gg11, oo11, none⟩) (d0.2.2.length) (p0_c2)].toArray 24 (0, 0))), (0, wm W)] (by kernel_rfl) ?_
              refine VO.k7 0 1 2 3 22 30 44 ?_
              refine VC.ret ?_
              refine outR ?_
              refine ⟨_, _, res_run (rs := [.tmp 2]) rfl (.tmp rfl .nil), fun W_ hI => out_of (l := []) hI [] rfl rfl (mle_refl _) (fun hS_ => ?_)⟩
              dsimp only [packV]
              all_goals (first | rfl | (exact fin0_sectCheck_ok))
            · -- FFFFFF
              refine VC.skip ?_
              refine outN ?_
              refine VC.rs ?_
              refine VO.as ?_
              refine VO.keep [109, 102, 0] [(109, mone g8 (.cells [Value.int .i64 ((cFollows 1 d0.2.1 d0.2.2).1), Value.int .i64 ((cFollows 1 d0.2.1 d0.2.2).2)].toArray 75 (0, 0))), (102, mone g1 (.cells [Value.int .i64 (d0.1), Value.int .i64 (d0.2.1), Value.slice (some ⟨gg11, oo11, none⟩) (d0.2.2.length) (p0_c2)].toArray 24 (0, 0))), (0, wm W)] (by kernel_rfl) ?_
              refine VO.k7 0 1 2 3 22 30 44 ?_
              refine VC.ret ?_
              refine ⟨_, _, res_run (rs := [.tmp 2]) rfl (.tmp rfl .nil), fun W_ hI => out_of (l := []) hI [] rfl rfl (mle_refl _) (fun hS_ => ?_)⟩
              dsimp only [packV]
              all_goals (first | rfl | (exact fin0_sectCheck_ok))
theorem fin0_sectEncode_ok {P : Prop} (h : P := by first | omega | (simp only [List.length_append, List.length_nil, List.length_cons, List.length_take, List.length_drop] at *; omega) | (have h_ := sect_ok (Decidable.not_not.1 ‹¬ ¬ sectCheck d0 = 0›); have h2_ := sect_fork (Decidable.not_not.1 ‹¬ ¬ sectCheck d0 = 0›); omega) | (have h_ := sect_ok (Decidable.not_not.1 ‹¬ ¬ sectCheck d0 = 0›); have h2_ := sect_fork (Decidable.not_not.1 ‹¬ ¬ sectCheck d0 = 0›); simp only [List.length_append, List.length_nil, List.length_cons, List.length_take, List.length_drop] at *; omega)) : P := h
theorem sectEncode_ok (W : World) {v0 : List Value} {d0 : DSection} (h0 : Rd TSection (wm W) v0 d0) : CallR Try.prog 16 [.agg v0.toArray] W (mnil) (fun v m' => ∃ (s0 : Value), v = .tuple #[s0, .int .i64 ((sectEncode d0).2)] ∧ Ow (.sl .byte) m' [s0] ((sectEncode d0).1)) := by
  obtain ⟨p0_A2, p0_c2, rfl, p0_0, p0_1, p0_2⟩ := open_Section (x0 := d0.1) (x1 := d0.2.1) (x2 := d0.2.2) h0
  simp only [inK] at p0_0
  simp only [inK] at p0_1
  have p0_r2 := Rd.room p0_2
  refine CallR.ofA (n := 64) Try.func16 rfl rfl rfl ?_
  refine VC.rs ?_
  refine VO.box (cs := [Value.int .i64 (d0.1), Value.int .i64 (d0.2.1), Value.slice p0_A2 (d0.2.2.length) (p0_c2)]) 102 rfl rfl rfl (fun g1 => ?_)
  refine VO.as ?_
  refine VO.as ?_
  refine VO.k4 0 1 2 3 ?_
  refine VC.seq ?_
  refine VC.rs ?_
  refine VO.y rfl (.ldA 102 rfl tk24 rfl (cellsAt_one rfl rfl)) ?_
  refine VO.callN 103 rfl fnOk9 rfl (fun W hW => sectCheck_ok W (Rd.mono h0 (hW.at (i := 0) rfl))) (fun v3 m3 hv3 => ?_)
  subst hv3
  have hfa4 := sectCheck_range d0
  refine VO.as ?_
  refine VO.k5 0 1 2 3 4 ?_
  refine VC.rs ?_
  refine VO.mv ?_
  refine VO.y rfl (.neq rfl rfl) ?_
  refine VO.keep [102, 0] [(102, mone g1 (.cells [Value.int .i64 (d0.1), Value.int .i64 (d0.2.1), Value.slice p0_A2 (d0.2.2.length) (p0_c2)].toArray 24 (0, 0))), (0, wm W)] (by kernel_rfl) ?_
  refine VO.k6 0 1 2 3 4 17 ?_
  refine VC.cond rfl (fun hc5 => ?_) (fun hc5 => ?_)
  · -- T
    refine VC.rs ?_
    refine VO.mv ?_
    refine VO.as ?_
    refine VO.as ?_
    refine VO.k6 0 1 2 3 4 17 ?_
    refine VC.ret ?_
    refine outR ?_
    refine ⟨_, _, res_run (rs := [.tmp 2, .tmp 3]) rfl (.tmp rfl (.tmp rfl .nil)), fun W_ hI => out_of (l := []) hI [] rfl rfl (mle_refl _) (fun hS_ => ?_)⟩
    dsimp only [packV]
    have he0 : ((sectEncode d0).1 : Ty.Den (.sl .byte)) = [] := by first | rfl | (first | (rw [sectEncode_bad (by assumption)] <;> rfl) | (rw [sectEncode_good (by assumption)] <;> first | rfl | (dsimp only; rw [← hb, List.drop_of_length_le (by omega)]; simp [cFrames]; done) | (dsimp only; rw [he]; done)))
    refine ⟨Value.slice none (0) (0), ?_, ?_⟩
    rotate_left
    · rw [he0]; exact (Ow.nil _ _)
    all_goals (first | rfl | (first | (rw [sectEncode_bad (by assumption)] <;> rfl) | (rw [sectEncode_good (by assumption)] <;> first | rfl | (dsimp only; rw [← hb, List.drop_of_length_le (by omega)]; simp [cFrames]; done) | (dsimp only; rw [he]; done))))
  · -- F
    refine VC.skip ?_
    refine outN ?_
    refine VC.rs ?_
    refine VO.as ?_
    refine VO.k7 0 1 2 3 4 5 17 ?_
    refine VC.seq ?_
    refine VC.rs ?_
    refine VO.y rfl (.fa rfl tst24 rfl) ?_
    refine VO.y rfl (.ld1 102 rfl tk3 rfl (cellsAt_one rfl rfl)) ?_
    refine VO.y rfl (.fa rfl tst24 rfl) ?_
    refine VO.y rfl (.ld1 102 rfl tk3 rfl (cellsAt_one rfl rfl)) ?_
    refine VO.y rfl (.fa rfl tst24 rfl) ?_
    refine VO.y rfl (.ld1 102 rfl tk22 rfl (cellsAt_one rfl rfl)) ?_
    refine VO.y rfl (.lenS rfl tsl22) ?_
    refine VO.y rfl (.bar (cs := [Value.int .i64 (d0.1), Value.int .i64 (d0.2.1), Value.int .i64 (((d0.2.2.length : Nat) : Int))]) rfl tar80 tz80 rfl) ?_
    refine VO.mv ?_
    refine VO.k9 0 1 2 3 4 5 17 26 27 ?_
    refine VC.block ?_
    refine VC.rounds 5 (VRounds.step ?_)
    refine VC.rs ?_
    refine VO.y rfl (.lss rfl rfl) ?_
    refine VO.keep [102, 0] [(102, mone g1 (.cells [Value.int .i64 (d0.1), Value.int .i64 (d0.2.1), Value.slice p0_A2 (d0.2.2.length) (p0_c2)].toArray 24 (0, 0))), (0, wm W)] (by kernel_rfl) ?_
    refine VO.k10 0 1 2 3 4 5 17 26 27 28 ?_
    refine VC.seq ?_
    refine VC.condKT rfl (decide_eq_true (by decide)) ?_
    refine VC.skip ?_
    refine outN ?_
    refine VC.seq ?_
    refine VC.block ?_
    refine VC.rs ?_
    refine VO.y rfl (.ix1V rfl rfl tia80 tk3 rfl rfl rfl) ?_
    refine VO.as ?_
    refine VO.k11 0 1 2 3 4 5 7 17 26 27 28 ?_
    refine VC.reg ?_
    refine VO.mv ?_
    refine VO.mv ?_
    refine VO.y rfl (.cvI (c := ((d0.1).toNat : Int)) rfl ⟨_, Try.underlying3⟩ Try.underlying82 (by rw [IntWalk.u64_in _ (by exact fin0_sectEncode_ok)]; first | omega | (exact fin0_sectEncode_ok))) ?_
    refine VO.callN 106 rfl fnOk54 rfl (fun W hW => vAppend_ok W (Rd.nil _ _ none 0 (Nat.zero_le _)) ((d0.1).toNat) (by exact fin0_sectEncode_ok) (by exact fin0_sectEncode_ok)) (fun v6 m6 hv6 => ?_)
    obtain ⟨s6_0, rfl, f6_0⟩ := hv6
    have hfa7 := venc_len (x := ((d0.1).toNat)) (by first | omega | exact or64 (by assumption) _)
    simp only [List.nil_append] at f6_0
    obtain ⟨A6_0, c6_0, eq6_0, l6_0, k6_0⟩ := f6_0.slice
    subst eq6_0
    simp only [maxLen] at k6_0
    refine VO.as ?_
    refine VO.k11 0 1 2 3 4 5 7 17 26 27 28 ?_
    refine outBN ?_
    refine outN ?_
    refine VC.reg ?_
    refine VO.y rfl (.add (c := ((1 : Nat) : Int)) rfl rfl (by omega) ⟨by exact fin0_sectEncode_ok, by exact fin0_sectEncode_ok⟩) ?_
    refine VO.mv ?_
    refine VO.keep [106, 102, 0] [(106, m6), (102, mone g1 (.cells [Value.int .i64 (d0.1), Value.int .i64 (d0.2.1), Value.slice p0_A2 (d0.2.2.length) (p0_c2)].toArray 24 (0, 0))), (0, wm W)] (by kernel_rfl) ?_
    refine VO.k11 0 1 2 3 4 5 7 17 26 27 28 ?_
    refine outN (VRounds.step ?_)
    refine VC.rs ?_
    refine VO.y rfl (.lss rfl rfl) ?_
    refine VO.k11 0 1 2 3 4 5 7 17 26 27 28 ?_
    refine VC.seq ?_
    refine VC.condKT rfl (decide_eq_true (by decide)) ?_
    refine VC.skip ?_
    refine outN ?_
    refine VC.seq ?_
    refine VC.block ?_
    refine VC.rs ?_
    refine VO.y rfl (.ix1V rfl rfl tia80 tk3 rfl rfl rfl) ?_
    refine VO.as ?_
    refine VO.k11 0 1 2 3 4 5 7 17 26 27 28 ?_
    refine VC.reg ?_
    refine VO.mv ?_
    refine VO.mv ?_
    refine VO.y rfl (.cvI (c := ((d0.2.1).toNat : Int)) rfl ⟨_, Try.underlying3⟩ Try.underlying82 (by rw [IntWalk.u64_in _ (by exact fin0_sectEncode_ok)]; first | omega | (exact fin0_sectEncode_ok))) ?_
    refine VO.callN 108 rfl fnOk54 rfl (fun W hW => vAppend_ok W (OwnL.rd (Ow.ownl f6_0 rfl mnil) (hW.at (i := 106) rfl) (mle_nil _)) ((d0.2.1).toNat) (by exact fin0_sectEncode_ok) (by exact fin0_sectEncode_ok)) (fun v8 m8 hv8 => ?_)
    obtain ⟨s8_0, rfl, f8_0⟩ := hv8
    have hfa9 := venc_len (x := ((d0.2.1).toNat)) (by first | omega | exact or64 (by assumption) _)
    obtain ⟨A8_0, c8_0, eq8_0, l8_0, k8_0⟩ := f8_0.slice
    subst eq8_0
    simp only [maxLen] at k8_0
    refine VO.as ?_
    refine VO.keep [108, 102, 0] [(108, m8), (102, mone g1 (.cells [Value.int .i64 (d0.1), Value.int .i64 (d0.2.1), Value.slice p0_A2 (d0.2.2.length) (p0_c2)].toArray 24 (0, 0))), (0, wm W)] (by kernel_rfl) ?_
    refine VO.k11 0 1 2 3 4 5 7 17 26 27 28 ?_
    refine outBN ?_
    refine outN ?_
    refine VC.reg ?_
    refine VO.y rfl (.add (c := ((2 : Nat) : Int)) rfl rfl (by omega) ⟨by exact fin0_sectEncode_ok, by exact fin0_sectEncode_ok⟩) ?_
    refine VO.mv ?_
    refine VO.k11 0 1 2 3 4 5 7 17 26 27 28 ?_
    refine outN (VRounds.step ?_)
    refine VC.rs ?_
    refine VO.y rfl (.lss rfl rfl) ?_
    refine VO.k11 0 1 2 3 4 5 7 17 26 27 28 ?_
    refine VC.seq ?_
    refine VC.condKT rfl (decide_eq_true (by decide)) ?_
    refine VC.skip ?_
    refine outN ?_
    refine VC.seq ?_
    refine VC.block ?_
    refine VC.rs ?_
    refine VO.y rfl (.ix1V rfl rfl tia80 tk3 rfl rfl rfl) ?_
    refine VO.as ?_
    refine VO.keep [108, 102, 0] [(108, m8), (102, mone g1 (.cells [Value.int .i64 (d0.1), Value.int .i64 (d0.2.1), Value.slice p0_A2 (d0.2.2.length) (p0_c2)].toArray 24 (0, 0))), (0, wm W)] (by kernel_rfl) ?_
    refine VO.k11 0 1 2 3 4 5 7 17 26 27 28 ?_
    refine VC.reg ?_
    refine VO.mv ?_
    refine VO.mv ?_
    refine VO.y rfl (.cvI rfl ⟨_, Try.underlying3⟩ Try.underlying82 (IntWalk.u64_in _ (by exact fin0_sectEncode_ok))) ?_
    refine VO.callN 110 rfl fnOk54 rfl (fun W hW => vAppend_ok W (OwnL.rd (Ow.ownl f8_0 rfl mnil) (hW.at (i := 108) rfl) (mle_nil _)) d0.2.2.length (by exact fin0_sectEncode_ok) (by exact fin0_sectEncode_ok)) (fun v10 m10 hv10 => ?_)
    obtain ⟨s10_0, rfl, f10_0⟩ := hv10
    have hfa11 := venc_len (x := d0.2.2.length) (by first | omega | exact or64 (by assumption) _)
    obtain ⟨A10_0, c10_0, eq10_0, l10_0, k10_0⟩ := f10_0.slice
    subst eq10_0
    simp only [maxLen] at k10_0
    refine VO.as ?_
    refine VO.k11 0 1 2 3 4 5 7 17 26 27 28 ?_
    refine outBN ?_
    refine outN ?_
    refine VC.reg ?_
    refine VO.y rfl (.add (c := ((3 : Nat) : Int)) rfl rfl (by omega) ⟨by exact fin0_sectEncode_ok, by exact fin0_sectEncode_ok⟩) ?_
    refine VO.mv ?_
    refine VO.k11 0 1 2 3 4 5 7 17 26 27 28 ?_
    refine outN (VRounds.step ?_)
    refine VC.rs ?_
    refine VO.y rfl (.lss rfl rfl) ?_
    refine VO.keep [110, 102, 0] [(110, m10), (102, mone g1 (.cells [Value.int .i64 (d0.1), Value.int .i64 (d0.2.1), Value.slice p0_A2 (d0.2.2.length) (p0_c2)].toArray 24 (0, 0))), (0, wm W)] (by kernel_rfl) ?_
    refine VO.k11 0 1 2 3 4 5 7 17 26 27 28 ?_
    refine VC.seq ?_
    refine VC.condKF rfl (decide_eq_false (by decide)) ?_
    refine VC.exit ?_
    refine outE ?_
    refine outE ?_
    refine outBB ?_
    refine outN ?_
    refine VC.rs ?_
    refine VO.mv ?_
    refine VO.callN 112 rfl fnOk55 rfl (fun W hW => fAppend_ok W (Rd.nil _ _ none 0 (Nat.zero_le _)) (OwnL.rd (Ow.ownl f10_0 rfl mnil) (hW.at (i := 110) rfl) (mle_nil _)) (by exact fin0_sectEncode_ok)) (fun v12 m12 hv12 => ?_)
    obtain ⟨s12_0, rfl, f12_0⟩ := hv12
    have hfa13 := fAppend_len [] (((venc ((d0.1).toNat)) ++ venc ((d0.2.1).toNat)) ++ venc d0.2.2.length)
    have hfa14 := fAppend_range [] (((venc ((d0.1).toNat)) ++ venc ((d0.2.1).toNat)) ++ venc d0.2.2.length)
    obtain ⟨A12_0, c12_0, eq12_0, l12_0, k12_0⟩ := f12_0.slice
    subst eq12_0
    simp only [maxLen] at k12_0
    refine VO.mv ?_
    refine VO.y rfl (.ext rfl rfl) ?_
    refine VO.y rfl (.ext rfl rfl) ?_
    refine VO.as ?_
    refine VO.as ?_
    refine VO.k13 0 1 2 3 4 5 7 8 9 17 26 27 28 ?_
    refine VC.seq ?_
    refine VC.rs ?_
    refine VO.y rfl (.fa rfl tst24 rfl) ?_
    refine VO.y rfl (.ld1 102 rfl tk22 rfl (cellsAt_one rfl rfl)) ?_
    refine VO.y rfl (.lenS rfl tsl22) ?_
    refine VO.mv ?_
    refine VO.k16 0 1 2 3 4 5 7 8 9 17 26 27 28 41 42 43 ?_
    refine VC.block ?_
    refine VC.loop (G := Nat × (List UInt8) × (Option Addr) × Nat × Mem × Int) (fun g => [(8, Value.slice (g.2.2.1) ((g.2.1).length) ((g.2.2.2.1))), (9, Value.int .i64 ((g.2.2.2.2.2))), (43, Value.int .i64 ((((g.1) : Nat) : Int))), (0, Value.agg [Value.int .i64 (d0.1), Value.int .i64 (d0.2.1), Value.slice p0_A2 (d0.2.2.length) (p0_c2)].toArray), (1, Value.pointer (some ⟨g1, 0, none⟩)), (4, Value.int .i64 (sectCheck d0)), (5, Value.slice A10_0 ((((venc ((d0.1).toNat)) ++ venc ((d0.2.1).toNat)) ++ venc d0.2.2.length).length) (c10_0)), (7, Value.int .i64 (((d0.2.2.length : Nat) : Int))), (17, Value.bool (decide (¬ (sectCheck d0) = 0))), (26, Value.agg [Value.int .i64 (d0.1), Value.int .i64 (d0.2.1), Value.int .i64 (((d0.2.2.length : Nat) : Int))].toArray), (27, Value.int .i64 (((3 : Nat) : Int))), (28, Value.bool (decide (((3 : Nat) : Int) < 3))), (41, Value.slice p0_A2 (d0.2.2.length) (p0_c2)), (42, Value.int .i64 (((d0.2.2.length : Nat) : Int)))]) (fun g => [(112, (g.2.2.2.2.1)), (110, m10), (102, mone g1 (.cells [Value.int .i64 (d0.1), Value.int .i64 (d0.2.1), Value.slice p0_A2 (d0.2.2.length) (p0_c2)].toArray 24 (0, 0))), (0, wm W)]) (fun g => ((g.1) ≤ d0.2.2.length) ∧ ((g.2.2.2.2.2) = 0) ∧ ((g.2.1) ++ cFrames (d0.2.2.drop (g.1)) = sectEnc d0) ∧ ((g.2.1).length ≤ 40 + 710 * (g.1)) ∧ (OwnL .byte (g.2.2.2.2.1) mnil (.slice (g.2.2.1) (g.2.1).length (g.2.2.2.1)) (g.2.1))) (fun g => d0.2.2.length - (g.1)) (0, (fAppend [] (((venc ((d0.1).toNat)) ++ venc ((d0.2.1).toNat)) ++ venc d0.2.2.length)).1, A12_0, c12_0, m12, (fAppend [] (((venc ((d0.1).toNat)) ++ venc ((d0.2.1).toNat)) ++ venc d0.2.2.length)).2) (⟨by omega, by exact senc_head0 (Decidable.not_not.1 ‹¬ ¬ sectCheck d0 = 0›), by exact senc_head1 (Decidable.not_not.1 ‹¬ ¬ sectCheck d0 = 0›), by exact senc_head2 (Decidable.not_not.1 ‹¬ ¬ sectCheck d0 = 0›), (Ow.ownl f12_0 rfl mnil)⟩) ⟨⟨rfl, rfl, rfl, rfl, rfl, rfl, rfl, rfl, rfl, rfl, rfl, rfl, rfl, rfl, trivial⟩, fun _ h => h.sub [112, 110, 102, 0]⟩ ?_
    rintro ⟨k, b, b_A, b_c, b_m, e⟩ ⟨hk, he, hb, hl, h_b⟩
    replace hk : k ≤ d0.2.2.length := hk
    replace he : e = 0 := he
    replace hb : b ++ cFrames (d0.2.2.drop k) = sectEnc d0 := hb
    replace hl : b.length ≤ 40 + 710 * k := hl
    replace h_b : OwnL .byte b_m mnil (.slice b_A b.length b_c) b := h_b
    show VC _ _ _ _ _ [(8, Value.slice b_A (b.length) (b_c)), (9, Value.int .i64 (e)), (43, Value.int .i64 (((k : Nat) : Int))), (0, Value.agg [Value.int .i64 (d0.1), Value.int .i64 (d0.2.1), Value.slice p0_A2 (d0.2.2.length) (p0_c2)].toArray), (1, Value.pointer (some ⟨g1, 0, none⟩)), (4, Value.int .i64 (sectCheck d0)), (5, Value.slice A10_0 ((((venc ((d0.1).toNat)) ++ venc ((d0.2.1).toNat)) ++ venc d0.2.2.length).length) (c10_0)), (7, Value.int .i64 (((d0.2.2.length : Nat) : Int))), (17, Value.bool (decide (¬ (sectCheck d0) = 0))), (26, Value.agg [Value.int .i64 (d0.1), Value.int .i64 (d0.2.1), Value.int .i64 (((d0.2.2.length : Nat) : Int))].toArray), (27, Value.int .i64 (((3 : Nat) : Int))), (28, Value.bool (decide (((3 : Nat) : Int) < 3))), (41, Value.slice p0_A2 (d0.2.2.length) (p0_c2)), (42, Value.int .i64 (((d0.2.2.length : Nat) : Int)))] [(112, b_m), (110, m10), (102, mone g1 (.cells [Value.int .i64 (d0.1), Value.int .i64 (d0.2.1), Value.slice p0_A2 (d0.2.2.length) (p0_c2)].toArray 24 (0, 0))), (0, wm W)]
    have l_b : b.length ≤ b_c := by obtain ⟨_, _, he, hl, _⟩ := h_b.slice; simp only [Value.slice.injEq] at he; omega
    have k_b : b_c ≤ 9223372036854775807 := by obtain ⟨_, _, he, _, hl⟩ := h_b.slice; simp only [Value.slice.injEq, maxLen] at he hl; omega
    refine VC.rs ?_
    refine VO.y rfl (.lss rfl rfl) ?_
    refine VO.keep [112, 110, 102, 0] [(112, b_m), (110, m10), (102, mone g1 (.cells [Value.int .i64 (d0.1), Value.int .i64 (d0.2.1), Value.slice p0_A2 (d0.2.2.length) (p0_c2)].toArray 24 (0, 0))), (0, wm W)] (by kernel_rfl) ?_
    refine VO.k15 0 1 4 5 7 8 9 17 26 27 28 41 42 43 44 ?_
    refine VC.seq ?_
    refine VC.cond rfl (fun hc15 => ?_) (fun hc15 => ?_)
    · -- FRRRRT
      refine VC.skip ?_
      refine outN ?_
      refine VC.seq ?_
      refine VC.block ?_
      refine VC.rs ?_
      obtain ⟨x16, hx16⟩ : ∃ z_, (d0.2.2)[k]? = some z_ := ⟨_, List.getElem?_eq_getElem (by exact fin0_sectEncode_ok)⟩
      obtain ⟨gg16, oo16, ec16, ea16, hce16, hre16⟩ := p0_2.elem hx16
      cases ea16
      obtain ⟨q16_A2, q16_c2, rfl, q16_0, q16_1, q16_2⟩ := open_Commit (x0 := x16.1) (x1 := x16.2.1) (x2 := x16.2.2) hre16
      simp only [inK] at q16_0
      simp only [inK] at q16_1
      have q16_r2 := Rd.room q16_2
      refine VO.y rfl (.ixI k rfl rfl tsl22 rfl (by exact fin0_sectEncode_ok)) ?_
      refine VO.y rfl (.ldA 0 rfl tk32 rfl hce16) ?_
      refine VO.alloc 118 rfl tz32 (fun g17 => ?_)
      refine VO.store (k := 3) (c' := [Value.int .i64 (x16.1), Value.int .i64 (x16.2.1), Value.slice q16_A2 (x16.2.2.length) (q16_c2)]) 118 rfl rfl (.inl tk32) rfl rfl rfl rfl rfl ?_
      refine VO.k16 0 1 4 5 7 8 9 11 17 26 27 28 41 42 43 44 ?_
      refine VC.seq ?_
      refine VC.rs ?_
      refine VO.mv ?_
      refine VO.y rfl (.neq rfl rfl) ?_
      refine VO.k17 0 1 4 5 7 8 9 11 17 26 27 28 41 42 43 44 48 ?_
      refine VC.cond rfl (fun hc19 => ?_) (fun hc19 => ?_)
      · -- FRRRRTT
        exact absurd he hc19
      · -- FRRRRTF
        refine VC.skip ?_
        refine outN ?_
        refine VC.rs ?_
        refine VO.y rfl (.ldA 118 rfl tk32 rfl (cellsAt_one rfl rfl)) ?_
        refine VO.callN 120 rfl fnOk56 rfl (fun W hW => cEncode_ok_ W (Rd.mono hre16 (hW.at (i := 0) rfl))) (fun v20 m20 hv20 => ?_)
        obtain ⟨s20_0, rfl, f20_0⟩ := hv20
        have hfa21 := cEncode_len x16
        obtain ⟨A20_0, c20_0, eq20_0, l20_0, k20_0⟩ := f20_0.slice
        subst eq20_0
        simp only [maxLen] at k20_0
        refine VO.mv ?_
        refine VO.y rfl (.ext rfl rfl) ?_
        refine VO.y rfl (.ext rfl rfl) ?_
        refine VO.as ?_
        refine VO.as ?_
        refine VO.keep [120, 118, 112, 110, 102, 0] [(120, m20), (118, mone g17 (.cells [Value.int .i64 (x16.1), Value.int .i64 (x16.2.1), Value.slice q16_A2 (x16.2.2.length) (q16_c2)].toArray 32 (0, 0))), (112, b_m), (110, m10), (102, mone g1 (.cells [Value.int .i64 (d0.1), Value.int .i64 (d0.2.1), Value.slice (some ⟨gg16, oo16, none⟩) (d0.2.2.length) (p0_c2)].toArray 24 (0, 0))), (0, wm W)] (by kernel_rfl) ?_
        refine VO.k18 0 1 4 5 7 8 9 11 12 17 26 27 28 41 42 43 44 48 ?_
        refine VC.reg ?_
        refine VO.mv ?_
        refine VO.mv ?_
        refine VO.callN 122 rfl fnOk55 rfl (fun W hW => fAppend_ok W (OwnL.rd h_b (hW.at (i := 112) rfl) (mle_nil _)) (OwnL.rd (Ow.ownl f20_0 rfl mnil) (hW.at (i := 120) rfl) (mle_nil _)) (by exact fin0_sectEncode_ok)) (fun v22 m22 hv22 => ?_)
        obtain ⟨s22_0, rfl, f22_0⟩ := hv22
        have hfa23 := fAppend_len b ((cEncode x16).1)
        have hfa24 := fAppend_range b ((cEncode x16).1)
        obtain ⟨A22_0, c22_0, eq22_0, l22_0, k22_0⟩ := f22_0.slice
        subst eq22_0
        simp only [maxLen] at k22_0
        refine VO.mv ?_
        refine VO.y rfl (.ext rfl rfl) ?_
        refine VO.y rfl (.ext rfl rfl) ?_
        refine VO.as ?_
        refine VO.as ?_
        refine VO.k18 0 1 4 5 7 8 9 11 12 17 26 27 28 41 42 43 44 48 ?_
        refine outBN ?_
        refine outN ?_
        refine VC.reg ?_
        refine VO.y rfl (.add (c := ((k + 1 : Nat) : Int)) rfl rfl (by omega) ⟨by exact fin0_sectEncode_ok, by exact fin0_sectEncode_ok⟩) ?_
        refine VO.mv ?_
        refine VO.k18 0 1 4 5 7 8 9 11 12 17 26 27 28 41 42 43 44 48 ?_
        exact outN ⟨⟨k + 1, (fAppend b ((cEncode x16).1)).1, A22_0, c22_0, m22, (fAppend b ((cEncode x16).1)).2⟩, ⟨by omega, by exact senc_step0 (Decidable.not_not.1 ‹¬ ¬ sectCheck d0 = 0›) ‹d0.2.2[k]? = some _›, by exact senc_step1 (Decidable.not_not.1 ‹¬ ¬ sectCheck d0 = 0›) hb ‹d0.2.2[k]? = some _›, by exact senc_step2 (Decidable.not_not.1 ‹¬ ¬ sectCheck d0 = 0›) hl ‹d0.2.2[k]? = some _›, (Ow.ownl f22_0 rfl mnil)⟩, by exact fin0_sectEncode_ok, ⟨⟨rfl, rfl, rfl, rfl, rfl, rfl, rfl, rfl, rfl, rfl, rfl, rfl, rfl, rfl, trivial⟩, fun _ h => Inv.sub (Inv.num h 122 112 rfl) [112, 110, 102, 0]⟩⟩
    · -- FRRRRF
      refine VC.exit ?_
      refine outE ?_
      refine outE ?_
      refine outBB ?_
      refine outN ?_
      refine VC.rs ?_
      refine VO.mv ?_
      refine VO.mv ?_
      refine VO.as ?_
      refine VO.as ?_
      refine VO.k17 0 1 2 3 4 5 7 8 9 17 26 27 28 41 42 43 44 ?_
      refine VC.ret ?_
      refine ⟨_, _, res_run (rs := [.tmp 2, .tmp 3]) rfl (.tmp rfl (.tmp rfl .nil)), fun W_ hI => out_of (l := [b_m]) hI [112] rfl rfl (mle_refl _) (fun hS_ => ?_)⟩
      dsimp only [packV]
      have he0 : ((sectEncode d0).1 : Ty.Den (.sl .byte)) = b := by first | rfl | (first | (rw [sectEncode_bad (by assumption)] <;> rfl) | (rw [sectEncode_good (by assumption)] <;> first | rfl | (dsimp only; rw [← hb, List.drop_of_length_le (by omega)]; simp [cFrames]; done) | (dsimp only; rw [he]; done)))
      refine ⟨Value.slice b_A (b.length) (b_c), ?_, ?_⟩
      rotate_left
      · rw [he0]; exact (Ow.up (OwnL.ow h_b rfl) (hS_.1 _ (.head _)))
      all_goals (first | rfl | (first | (rw [sectEncode_bad (by assumption)] <;> rfl) | (rw [sectEncode_good (by assumption)] <;> first | rfl | (dsimp only; rw [← hb, List.drop_of_length_le (by omega)]; simp [cFrames]; done) | (dsimp only; rw [he]; done))))
set_option maxHeartbeats 2000000 in
theorem head_ok (W : World) {v0 : Value} {d0 : List UInt8} (h0 : Rd (.sl .byte) (wm W) [v0] d0) : CallR Try.prog 92 [v0] W (mnil) (fun v m' => v = .tuple #[.agg [.int .i64 ((headS d0).1.1), .int .i64 ((headS d0).1.2.1), .slice none 0 0].toArray, .int .i64 ((headS d0).2.1), .bool ((headS d0).2.2)]) := by
  obtain ⟨A0, c0, rfl, l0, k0⟩ := h0.slice
  simp only [maxLen] at k0
  refine CallR.ofA (n := 39) Try.func92 rfl rfl rfl ?_
  refine VC.rs ?_
  refine VO.alloc 102 rfl tz24 (fun g1 => ?_)
  refine VO.as ?_
  refine VO.as ?_
  refine VO.k4 0 2 3 4 ?_
  refine VC.rs ?_
  refine VO.alloc 104 rfl tz80 (fun g3 => ?_)
  refine VO.k5 0 2 3 4 5 ?_
  refine VC.seq ?_
  refine VC.rs ?_
  refine VO.mv ?_
  refine VO.keep [104, 102, 0] [(104, mone g3 (.cells [Value.int .i64 (0), Value.int .i64 (0), Value.int .i64 (0)].toArray 80 (0, 0))), (102, mone g1 (.cells [Value.int .i64 (0), Value.int .i64 (0), Value.slice none (0) (0)].toArray 24 (0, 0))), (0, wm W)] (by kernel_rfl) ?_
  refine VO.k6 0 2 3 4 5 10 ?_
  refine VC.block ?_
  refine VC.rounds 5 (VRounds.step ?_)
  refine VC.rs ?_
  refine VO.y rfl (.lss rfl rfl) ?_
  refine VO.k7 0 2 3 4 5 10 11 ?_
  refine VC.seq ?_
  refine VC.condKT rfl (decide_eq_true (by decide)) ?_
  refine VC.skip ?_
  refine outN ?_
  refine VC.seq ?_
  refine VC.block ?_
  refine VC.rs ?_
  refine VO.mv ?_
  refine VO.as ?_
  refine VO.k8 0 2 3 4 5 6 10 11 ?_
  refine VC.rs ?_
  refine VO.mv ?_
  refine VO.callN 105 rfl fnOk111 rfl (fun W hW => vSmall_ok W (Rd.mono h0 (hW.at (i := 0) rfl)) 1048576 bdk) (fun v5 m5 hv5 => ?_)
  subst hv5
  have hfa6 := s_bounds d0 1048576 (by omega)
  refine VO.mv ?_
  refine VO.y rfl (.ext rfl rfl) ?_
  refine VO.y rfl (.ext rfl rfl) ?_
  refine VO.y rfl (.ext rfl rfl) ?_
  refine VO.as ?_
  refine VO.as ?_
  refine VO.as ?_
  refine VO.keep [104, 102, 0] [(104, mone g3 (.cells [Value.int .i64 (0), Value.int .i64 (0), Value.int .i64 (0)].toArray 80 (0, 0))), (102, mone g1 (.cells [Value.int .i64 (0), Value.int .i64 (0), Value.slice none (0) (0)].toArray 24 (0, 0))), (0, wm W)] (by kernel_rfl) ?_
  refine VO.k11 0 2 3 4 5 6 7 8 9 10 11 ?_
  refine VC.seq ?_
  refine VC.rs ?_
  refine VO.mv ?_
  refine VO.y rfl (.neq rfl rfl) ?_
  refine VO.k12 0 2 3 4 5 6 7 8 9 10 11 20 ?_
  refine VC.cond rfl (fun hc7 => ?_) (fun hc7 => ?_)
  · -- RT
    refine VC.rs ?_
    refine VO.y rfl (.bst (cs := [Value.int .i64 (0), Value.int .i64 (0), Value.slice none (0) (0)]) rfl tst24 tz24 rfl) ?_
    refine VO.store (k := 3) (c' := [Value.int .i64 (0), Value.int .i64 (0), Value.slice none (0) (0)]) 102 rfl rfl (.inl tk24) rfl rfl rfl rfl rfl ?_
    refine VO.as ?_
    refine VO.as ?_
    refine VO.k12 0 2 3 4 5 6 7 8 9 10 11 20 ?_
    refine VC.ret ?_
    refine outR ?_
    refine outBR ?_
    refine outR ?_
    refine outR ?_
    refine outBR ?_
    refine outR ?_
    refine ⟨_, _, res_run (rs := [.cell 2 24, .tmp 3, .tmp 4]) rfl (.agg 102 rfl tk24 rfl ⟨_, _, _, mone_self _ _, Nat.le_of_ble_eq_true rfl, rfl⟩ (.tmp rfl (.tmp rfl .nil))), fun W_ hI => out_of (l := []) hI [] rfl rfl (mle_refl _) (fun hS_ => ?_)⟩
    dsimp only [packV]
    all_goals (first | rfl | (first | (rw [headS_no1 (by assumption)] <;> rfl) | (rw [headS_x2 (by assumption)] <;> rfl) | (rw [headS_x3 (by assumption)] <;> rfl) | (rw [headS_x4 (by assumption) (by assumption) (by assumption)] <;> first | rfl | (simp only [List.length_drop]; done) | (simp only [List.length_drop]; congr 4 <;> (apply decide_eq_decide.2; omega)))))
  · -- RF
    refine VC.skip ?_
    refine outN ?_
    refine VC.regD _ 7 [(0, true), (1, true), (2, true), (3, true), (4, true), (5, true), (6, false)] follows (by kernel_rfl) (fun _ h => h.sub [102, 0]) ?_
    refine VD.y rfl rfl (.inl rfl) (.mv rfl) ?_
    refine VD.y rfl rfl (.inl rfl) (.mv rfl) ?_
    refine VD.y rfl rfl (.inl rfl) (.mv rfl) ?_
    refine VD.y rfl rfl (.inl rfl) (.mv rfl) ?_
    obtain ⟨A8, hA8, hs8⟩ := h0.drop 1 (sN d0 1048576) rfl bd
    refine VD.y rfl rfl (.inl rfl) (.slLI (sN d0 1048576) A8 rfl rfl tsl25 rfl hA8 bd) ?_
    refine VD.y rfl rfl (.inl rfl) (.ixa (i := 0) (o := 0) rfl rfl tar80 rfl rfl rfl) ?_
    refine VD.store (k := 1) (c' := [Value.int .i64 (((sX d0 1048576 : Nat) : Int)), Value.int .i64 (0), Value.int .i64 (0)]) 104 rfl rfl rfl (.inr ⟨tk3, rfl⟩) rfl rfl rfl rfl rfl (fun _ h => h.sub [102, 0]) ?_
    refine VD.nil rfl ?_ rfl
    refine VO.as ?_
    refine VO.k12 0 2 3 4 5 6 7 8 9 10 11 20 ?_
    refine outBN ?_
    refine outN ?_
    refine VC.reg ?_
    refine VO.y rfl (.add (c := ((1 : Nat) : Int)) rfl rfl (by omega) ⟨bd, bd⟩) ?_
    refine VO.mv ?_
    refine VO.keep [104, 102, 0] [(104, mone g3 (.cells [Value.int .i64 (((sX d0 1048576 : Nat) : Int)), Value.int .i64 (0), Value.int .i64 (0)].toArray 80 (0, 0))), (102, mone g1 (.cells [Value.int .i64 (0), Value.int .i64 (0), Value.slice none (0) (0)].toArray 24 (0, 0))), (0, wm W)] (by kernel_rfl) ?_
    refine VO.k12 0 2 3 4 5 6 7 8 9 10 11 20 ?_
    refine outN (VRounds.step ?_)
    refine VC.rs ?_
    refine VO.y rfl (.lss rfl rfl) ?_
    refine VO.k12 0 2 3 4 5 6 7 8 9 10 11 20 ?_
    refine VC.seq ?_
    refine VC.condKT rfl (decide_eq_true (by decide)) ?_
    refine VC.skip ?_
    refine outN ?_
    refine VC.seq ?_
    refine VC.block ?_
    refine VC.rs ?_
    refine VO.mv ?_
    refine VO.as ?_
    refine VO.k12 0 2 3 4 5 6 7 8 9 10 11 20 ?_
    refine VC.rs ?_
    refine VO.mv ?_
    refine VO.callN 109 rfl fnOk111 rfl (fun W hW => vSmall_ok W (Rd.mono hs8 (hW.at (i := 0) rfl)) 1048576 bdk) (fun v9 m9 hv9 => ?_)
    subst hv9
    have hfa10 := s_bounds (d0.drop (sN d0 1048576)) 1048576 (by omega)
    refine VO.mv ?_
    refine VO.y rfl (.ext rfl rfl) ?_
    refine VO.y rfl (.ext rfl rfl) ?_
    refine VO.y rfl (.ext rfl rfl) ?_
    refine VO.as ?_
    refine VO.as ?_
    refine VO.as ?_
    refine VO.keep [104, 102, 0] [(104, mone g3 (.cells [Value.int .i64 (((sX d0 1048576 : Nat) : Int)), Value.int .i64 (0), Value.int .i64 (0)].toArray 80 (0, 0))), (102, mone g1 (.cells [Value.int .i64 (0), Value.int .i64 (0), Value.slice none (0) (0)].toArray 24 (0, 0))), (0, wm W)] (by kernel_rfl) ?_
    refine VO.k12 0 2 3 4 5 6 7 8 9 10 11 20 ?_
    refine VC.seq ?_
    refine VC.rs ?_
    refine VO.mv ?_
    refine VO.y rfl (.neq rfl rfl) ?_
    refine VO.k12 0 2 3 4 5 6 7 8 9 10 11 20 ?_
    refine VC.cond rfl (fun hc11 => ?_) (fun hc11 => ?_)
    · -- RFRT
      refine VC.rs ?_
      refine VO.y rfl (.bst (cs := [Value.int .i64 (0), Value.int .i64 (0), Value.slice none (0) (0)]) rfl tst24 tz24 rfl) ?_
      refine VO.store (k := 3) (c' := [Value.int .i64 (0), Value.int .i64 (0), Value.slice none (0) (0)]) 102 rfl rfl (.inl tk24) rfl rfl rfl rfl rfl ?_
      refine VO.as ?_
      refine VO.as ?_
      refine VO.k12 0 2 3 4 5 6 7 8 9 10 11 20 ?_
      refine VC.ret ?_
      refine outR ?_
      refine outBR ?_
      refine outR ?_
      refine outR ?_
      refine outBR ?_
      refine outR ?_
      refine ⟨_, _, res_run (rs := [.cell 2 24, .tmp 3, .tmp 4]) rfl (.agg 102 rfl tk24 rfl ⟨_, _, _, mone_self _ _, Nat.le_of_ble_eq_true rfl, rfl⟩ (.tmp rfl (.tmp rfl .nil))), fun W_ hI => out_of (l := []) hI [] rfl rfl (mle_refl _) (fun hS_ => ?_)⟩
      dsimp only [packV]
      all_goals (first | rfl | (first | (rw [headS_no1 (by assumption)] <;> rfl) | (rw [headS_x2 (by assumption)] <;> rfl) | (rw [headS_x3 (by assumption)] <;> rfl) | (rw [headS_x4 (by assumption) (by assumption) (by assumption)] <;> first | rfl | (simp only [List.length_drop]; done) | (simp only [List.length_drop]; congr 4 <;> (apply decide_eq_decide.2; omega)))))
    · -- RFRF
      refine VC.skip ?_
      refine outN ?_
      refine VC.regD _ 7 [(0, true), (1, true), (2, true), (3, true), (4, true), (5, true), (6, false)] follows (by kernel_rfl) (fun _ h => h.sub [102, 0]) ?_
      refine VD.y rfl rfl (.inl rfl) (.mv rfl) ?_
      refine VD.y rfl rfl (.inl rfl) (.mv rfl) ?_
      refine VD.y rfl rfl (.inl rfl) (.mv rfl) ?_
      refine VD.y rfl rfl (.inl rfl) (.mv rfl) ?_
      obtain ⟨A12, hA12, hs12⟩ := hs8.drop 1 (sN (d0.drop (sN d0 1048576)) 1048576) rfl bd
      replace hs12 := Rd.relen (k := (d0.length - (sN d0 1048576)) - (sN (d0.drop (sN d0 1048576)) 1048576)) hs12 (by simp only [List.length_drop, List.length_take]; try omega)
      refine VD.y rfl rfl (.inl rfl) (.slLI (sN (d0.drop (sN d0 1048576)) 1048576) A12 rfl rfl tsl25 rfl hA12 bd) ?_
      refine VD.y rfl rfl (.inl rfl) (.ixa (i := 1) (o := 1) rfl rfl tar80 rfl rfl rfl) ?_
      refine VD.store (k := 1) (c' := [Value.int .i64 (((sX d0 1048576 : Nat) : Int)), Value.int .i64 (((sX (d0.drop (sN d0 1048576)) 1048576 : Nat) : Int)), Value.int .i64 (0)]) 104 rfl rfl rfl (.inr ⟨tk3, rfl⟩) rfl rfl rfl rfl rfl (fun _ h => h.sub [102, 0]) ?_
      refine VD.nil rfl ?_ rfl
      refine VO.as ?_
      refine VO.k12 0 2 3 4 5 6 7 8 9 10 11 20 ?_
      refine outBN ?_
      refine outN ?_
      refine VC.reg ?_
      refine VO.y rfl (.add (c := ((2 : Nat) : Int)) rfl rfl (by omega) ⟨bd, bd⟩) ?_
      refine VO.mv ?_
      refine VO.keep [104, 102, 0] [(104, mone g3 (.cells [Value.int .i64 (((sX d0 1048576 : Nat) : Int)), Value.int .i64 (((sX (d0.drop (sN d0 1048576)) 1048576 : Nat) : Int)), Value.int .i64 (0)].toArray 80 (0, 0))), (102, mone g1 (.cells [Value.int .i64 (0), Value.int .i64 (0), Value.slice none (0) (0)].toArray 24 (0, 0))), (0, wm W)] (by kernel_rfl) ?_
      refine VO.k12 0 2 3 4 5 6 7 8 9 10 11 20 ?_
      refine outN (VRounds.step ?_)
      refine VC.rs ?_
      refine VO.y rfl (.lss rfl rfl) ?_
      refine VO.k12 0 2 3 4 5 6 7 8 9 10 11 20 ?_
      refine VC.seq ?_
      refine VC.condKT rfl (decide_eq_true (by decide)) ?_
      refine VC.skip ?_
      refine outN ?_
      refine VC.seq ?_
      refine VC.block ?_
      refine VC.rs ?_
      refine VO.mv ?_
      refine VO.as ?_
      refine VO.k12 0 2 3 4 5 6 7 8 9 10 11 20 ?_
      refine VC.rs ?_
      refine VO.mv ?_
      refine VO.callN 113 rfl fnOk111 rfl (fun W hW => vSmall_ok W (Rd.mono hs12 (hW.at (i := 0) rfl)) 1048576 bdk) (fun v13 m13 hv13 => ?_)
      subst hv13
      have hfa14 := s_bounds ((d0.drop (sN d0 1048576)).drop (sN (d0.drop (sN d0 1048576)) 1048576)) 1048576 (by omega)
      refine VO.mv ?_
      refine VO.y rfl (.ext rfl rfl) ?_
      refine VO.y rfl (.ext rfl rfl) ?_
      refine VO.y rfl (.ext rfl rfl) ?_
      refine VO.as ?_
      refine VO.as ?_
      refine VO.as ?_
      refine VO.keep [104, 102, 0] [(104, mone g3 (.cells [Value.int .i64 (((sX d0 1048576 : Nat) : Int)), Value.int .i64 (((sX (d0.drop (sN d0 1048576)) 1048576 : Nat) : Int)), Value.int .i64 (0)].toArray 80 (0, 0))), (102, mone g1 (.cells [Value.int .i64 (0), Value.int .i64 (0), Value.slice none (0) (0)].toArray 24 (0, 0))), (0, wm W)] (by kernel_rfl) ?_
      refine VO.k12 0 2 3 4 5 6 7 8 9 10 11 20 ?_
      refine VC.seq ?_
      refine VC.rs ?_
      refine VO.mv ?_
      refine VO.y rfl (.neq rfl rfl) ?_
      refine VO.k12 0 2 3 4 5 6 7 8 9 10 11 20 ?_
      refine VC.cond rfl (fun hc15 => ?_) (fun hc15 => ?_)
      · -- RFRFRT
        refine VC.rs ?_
        refine VO.y rfl (.bst (cs := [Value.int .i64 (0), Value.int .i64 (0), Value.slice none (0) (0)]) rfl tst24 tz24 rfl) ?_
        refine VO.store (k := 3) (c' := [Value.int .i64 (0), Value.int .i64 (0), Value.slice none (0) (0)]) 102 rfl rfl (.inl tk24) rfl rfl rfl rfl rfl ?_
        refine VO.as ?_
        refine VO.as ?_
        refine VO.k12 0 2 3 4 5 6 7 8 9 10 11 20 ?_
        refine VC.ret ?_
        refine outR ?_
        refine outBR ?_
        refine outR ?_
        refine outR ?_
        refine outBR ?_
        refine outR ?_
        refine ⟨_, _, res_run (rs := [.cell 2 24, .tmp 3, .tmp 4]) rfl (.agg 102 rfl tk24 rfl ⟨_, _, _, mone_self _ _, Nat.le_of_ble_eq_true rfl, rfl⟩ (.tmp rfl (.tmp rfl .nil))), fun W_ hI => out_of (l := []) hI [] rfl rfl (mle_refl _) (fun hS_ => ?_)⟩
        dsimp only [packV]
        all_goals (first | rfl | (first | (rw [headS_no1 (by assumption)] <;> rfl) | (rw [headS_x2 (by assumption)] <;> rfl) | (rw [headS_x3 (by assumption)] <;> rfl) | (rw [headS_x4 (by assumption) (by assumption) (by assumption)] <;> first | rfl | (simp only [List.length_drop]; done) | (simp only [List.length_drop]; congr 4 <;> (apply decide_eq_decide.2; omega)))))
      · -- RFRFRF
        refine VC.skip ?_
        refine outN ?_
        refine VC.regD _ 7 [(0, true), (1, true), (2, true), (3, true), (4, true), (5, true), (6, false)] follows (by kernel_rfl) (fun _ h => h.sub [102, 0]) ?_
        refine VD.y rfl rfl (.inl rfl) (.mv rfl) ?_
        refine VD.y rfl rfl (.inl rfl) (.mv rfl) ?_
        refine VD.y rfl rfl (.inl rfl) (.mv rfl) ?_
        refine VD.y rfl rfl (.inl rfl) (.mv rfl) ?_
        obtain ⟨A16, hA16, hs16⟩ := hs12.drop 1 (sN ((d0.drop (sN d0 1048576)).drop (sN (d0.drop (sN d0 1048576)) 1048576)) 1048576) rfl bd
        replace hs16 := Rd.relen (k := ((d0.length - (sN d0 1048576)) - (sN (d0.drop (sN d0 1048576)) 1048576)) - (sN ((d0.drop (sN d0 1048576)).drop (sN (d0.drop (sN d0 1048576)) 1048576)) 1048576)) hs16 (by simp only [List.length_drop, List.length_take]; try omega)
        refine VD.y rfl rfl (.inl rfl) (.slLI (sN ((d0.drop (sN d0 1048576)).drop (sN (d0.drop (sN d0 1048576)) 1048576)) 1048576) A16 rfl rfl tsl25 rfl hA16 bd) ?_
        refine VD.y rfl rfl (.inl rfl) (.ixa (i := 2) (o := 2) rfl rfl tar80 rfl rfl rfl) ?_
        refine VD.store (k := 1) (c' := [Value.int .i64 (((sX d0 1048576 : Nat) : Int)), Value.int .i64 (((sX (d0.drop (sN d0 1048576)) 1048576 : Nat) : Int)), Value.int .i64 (((sX ((d0.drop (sN d0 1048576)).drop (sN (d0.drop (sN d0 1048576)) 1048576)) 1048576 : Nat) : Int))]) 104 rfl rfl rfl (.inr ⟨tk3, rfl⟩) rfl rfl rfl rfl rfl (fun _ h => h.sub [102, 0]) ?_
        refine VD.nil rfl ?_ rfl
        refine VO.as ?_
        refine VO.k12 0 2 3 4 5 6 7 8 9 10 11 20 ?_
        refine outBN ?_
        refine outN ?_
        refine VC.reg ?_
        refine VO.y rfl (.add (c := ((3 : Nat) : Int)) rfl rfl (by omega) ⟨bd, bd⟩) ?_
        refine VO.mv ?_
        refine VO.keep [104, 102, 0] [(104, mone g3 (.cells [Value.int .i64 (((sX d0 1048576 : Nat) : Int)), Value.int .i64 (((sX (d0.drop (sN d0 1048576)) 1048576 : Nat) : Int)), Value.int .i64 (((sX ((d0.drop (sN d0 1048576)).drop (sN (d0.drop (sN d0 1048576)) 1048576)) 1048576 : Nat) : Int))].toArray 80 (0, 0))), (102, mone g1 (.cells [Value.int .i64 (0), Value.int .i64 (0), Value.slice none (0) (0)].toArray 24 (0, 0))), (0, wm W)] (by kernel_rfl) ?_
        refine VO.k12 0 2 3 4 5 6 7 8 9 10 11 20 ?_
        refine outN (VRounds.step ?_)
        refine VC.rs ?_
        refine VO.y rfl (.lss rfl rfl) ?_
        refine VO.k12 0 2 3 4 5 6 7 8 9 10 11 20 ?_
        refine VC.seq ?_
        refine VC.condKF rfl (decide_eq_false (by decide)) ?_
        refine VC.exit ?_
        refine outE ?_
        refine outE ?_
        refine outBB ?_
        refine outN ?_
        refine VC.seq ?_
        refine VC.regD _ 12 [(0, true), (1, true), (2, true), (3, true), (4, true), (5, true), (6, true), (7, true), (8, true), (9, true), (10, false), (11, true)] follows (by kernel_rfl) (fun _ h => h.sub [104, 0]) ?_
        refine VD.y rfl rfl (.inl rfl) (.ixa (i := 0) (o := 0) rfl rfl tar80 rfl rfl rfl) ?_
        refine VD.y rfl rfl (.inl rfl) (.ld1 104 rfl tk3 rfl (cellsAt_one rfl rfl)) ?_
        refine VD.y rfl rfl (.inl rfl) (.ixa (i := 1) (o := 1) rfl rfl tar80 rfl rfl rfl) ?_
        refine VD.y rfl rfl (.inl rfl) (.ld1 104 rfl tk3 rfl (cellsAt_one rfl rfl)) ?_
        refine VD.y rfl rfl (.inl rfl) (.bst (cs := [Value.int .i64 (((sX d0 1048576 : Nat) : Int)), Value.int .i64 (((sX (d0.drop (sN d0 1048576)) 1048576 : Nat) : Int)), Value.slice none (0) (0)]) rfl tst24 tz24 rfl) ?_
        refine VD.y rfl rfl (.inl rfl) (.ixa (i := 2) (o := 2) rfl rfl tar80 rfl rfl rfl) ?_
        refine VD.y rfl rfl (.inl rfl) (.ld1 104 rfl tk3 rfl (cellsAt_one rfl rfl)) ?_
        refine VD.y rfl rfl (.inl rfl) (.mv rfl) ?_
        refine VD.y rfl rfl (.inl rfl) (.lenS rfl tsl25) ?_
        refine VD.y rfl rfl (.inl rfl) (.eql rfl rfl) ?_
        refine VD.store (k := 3) (c' := [Value.int .i64 (((sX d0 1048576 : Nat) : Int)), Value.int .i64 (((sX (d0.drop (sN d0 1048576)) 1048576 : Nat) : Int)), Value.slice none (0) (0)]) 102 rfl rfl rfl (.inl tk24) rfl rfl rfl rfl rfl (fun _ h => h.sub [104, 0]) ?_
        refine VD.y rfl rfl (.inl rfl) (.as rfl) ?_
        refine VD.nil rfl ?_ rfl
        refine VO.as ?_
        refine VO.k12 0 2 3 4 5 6 7 8 9 10 11 20 ?_
        refine outN ?_
        refine VC.ret ?_
        refine ⟨_, _, res_run (rs := [.cell 2 24, .tmp 3, .tmp 4]) rfl (.agg 102 rfl tk24 rfl ⟨_, _, _, mone_self _ _, Nat.le_of_ble_eq_true rfl, rfl⟩ (.tmp rfl (.tmp rfl .nil))), fun W_ hI => out_of (l := []) hI [] rfl rfl (mle_refl _) (fun hS_ => ?_)⟩
        dsimp only [packV]
        all_goals (first | rfl | (first | (rw [headS_no1 (by assumption)] <;> rfl) | (rw [headS_x2 (by assumption)] <;> rfl) | (rw [headS_x3 (by assumption)] <;> rfl) | (rw [headS_x4 (by assumption) (by assumption) (by assumption)] <;> first | rfl | (simp only [List.length_drop]; done) | (simp only [List.length_drop]; congr 4 <;> (apply decide_eq_decide.2; omega)))))
theorem fin0_section_ok {P : Prop} (h : P := by first | (rw [sec_no1 (by assumption)] <;> rfl) | (rw [sec_no2 (by first | assumption | simpa using ‹_›)] <;> rfl) | (rw [sec_no3 (by assumption) (by simp [*]) (com_no1 hp (by omega) (by assumption))] <;> rfl) | (rw [sec_no3 (by assumption) (by simp [*]) (com_no2 hp (by omega) (by assumption) (by assumption))] <;> rfl) | (rw [sec_yes (by assumption) (by simp [*]) (com_end hp (by omega))] <;> first | rfl | (done))) : P := h
theorem fin1_section_ok {P : Prop} (h : P := by first | omega | (simp only [List.length_append, List.length_nil, List.length_cons, List.length_take, List.length_drop] at *; omega) | (have h_ := headS_range (fRead d0).1; omega)) : P := h
theorem section_ok (W : World) {v0 : Value} {d0 : List UInt8} (h0 : Rd (.sl .byte) (wm W) [v0] d0) : CallR Try.prog 60 [v0] W (mnil) (fun v m' => ∃ (s0 : List Value), v = .tuple #[.agg s0.toArray, .int .i64 ((secRead d0).2.1), .bool ((secRead d0).2.2)] ∧ Ow TSection m' s0 ((secRead d0).1)) := by
  obtain ⟨A0, c0, rfl, l0, k0⟩ := h0.slice
  simp only [maxLen] at k0
  refine CallR.ofA (n := 70) Try.func60 rfl rfl rfl ?_
  refine VC.rs ?_
  refine VO.alloc 102 rfl tz24 (fun g1 => ?_)
  refine VO.as ?_
  refine VO.as ?_
  refine VO.k4 0 2 3 4 ?_
  refine VC.rs ?_
  refine VO.mv ?_
  refine VO.callN 103 rfl fnOk91 rfl (fun W hW => fRead_ok W (Rd.mono h0 (hW.at (i := 0) rfl))) (fun v3 m3 hv3 => ?_)
  obtain ⟨s3_0, rfl, f3_0⟩ := hv3
  have hfa4 := fRead_bounds d0
  obtain ⟨A3_0, c3_0, eq3_0, l3_0, k3_0⟩ := f3_0.slice
  subst eq3_0
  simp only [maxLen] at k3_0
  refine VO.mv ?_
  refine VO.y rfl (.ext rfl rfl) ?_
  refine VO.y rfl (.ext rfl rfl) ?_
  refine VO.y rfl (.ext rfl rfl) ?_
  refine VO.as ?_
  refine VO.as ?_
  refine VO.as ?_
  refine VO.k7 0 2 3 4 5 6 7 ?_
  refine VC.seq ?_
  refine VC.rs ?_
  refine VO.mv ?_
  refine VO.y rfl (.neq rfl rfl) ?_
  refine VO.keep [103, 102, 0] [(103, m3), (102, mone g1 (.cells [Value.int .i64 (0), Value.int .i64 (0), Value.slice none (0) (0)].toArray 24 (0, 0))), (0, wm W)] (by kernel_rfl) ?_
  refine VO.k8 0 2 3 4 5 6 7 22 ?_
  refine VC.cond rfl (fun hc5 => ?_) (fun hc5 => ?_)
  · -- T
    refine VC.rs ?_
    refine VO.y rfl (.bst (cs := [Value.int .i64 (0), Value.int .i64 (0), Value.slice none (0) (0)]) rfl tst24 tz24 rfl) ?_
    refine VO.store (k := 3) (c' := [Value.int .i64 (0), Value.int .i64 (0), Value.slice none (0) (0)]) 102 rfl rfl (.inl tk24) rfl rfl rfl rfl rfl ?_
    refine VO.as ?_
    refine VO.as ?_
    refine VO.k8 0 2 3 4 5 6 7 22 ?_
    refine VC.ret ?_
    refine outR ?_
    refine ⟨_, _, res_run (rs := [.cell 2 24, .tmp 3, .tmp 4]) rfl (.agg 102 rfl tk24 rfl ⟨_, _, _, mone_self _ _, Nat.le_of_ble_eq_true rfl, rfl⟩ (.tmp rfl (.tmp rfl .nil))), fun W_ hI => out_of (l := []) hI [] rfl rfl (mle_refl _) (fun hS_ => ?_)⟩
    dsimp only [packV]
    have he0 : ((secRead d0).1 : Ty.Den TSection) = (0, 0, []) := by first | rfl | (exact fin0_section_ok)
    refine ⟨[Value.int .i64 (0), Value.int .i64 (0), Value.slice none (0) (0)], ?_, ?_⟩
    rotate_left
    · rw [he0]; exact (mkO_Section 0 0 [] (Seps.nilAt 0 hS_) (by simp only [inK]; (exact fin1_section_ok)) (by simp only [inK]; (exact fin1_section_ok)) (Ow.nil _ _))
    all_goals (first | rfl | (exact fin0_section_ok))
  · -- F
    refine VC.skip ?_
    refine outN ?_
    refine VC.rs ?_
    refine VO.mv ?_
    refine VO.callN 106 rfl fnOk92 rfl (fun W hW => head_ok W (OwnL.rd (Ow.ownl f3_0 rfl mnil) (hW.at (i := 103) rfl) (mle_nil _))) (fun v6 m6 hv6 => ?_)
    subst hv6
    have hfa7 := headS_range ((fRead d0).1)
    refine VO.mv ?_
    refine VO.y rfl (.ext rfl rfl) ?_
    refine VO.y rfl (.ext rfl rfl) ?_
    refine VO.y rfl (.ext rfl rfl) ?_
    refine VO.alloc 109 rfl tz24 (fun g8 => ?_)
    refine VO.store (k := 3) (c' := [Value.int .i64 ((headS ((fRead d0).1)).1.1), Value.int .i64 ((headS ((fRead d0).1)).1.2.1), Value.slice none (0) (0)]) 109 rfl rfl (.inl tk24) rfl rfl rfl rfl rfl ?_
    refine VO.as ?_
    refine VO.as ?_
    refine VO.k11 0 2 3 4 5 6 7 8 9 10 22 ?_
    refine VC.seq ?_
    refine VC.rs ?_
    refine VO.mv ?_
    refine VO.y rfl (.not rfl) ?_
    refine VO.k12 0 2 3 4 5 6 7 8 9 10 22 31 ?_
    refine VC.condBN rfl (fun hc10 => ?_) (fun hc10 => ?_)
    · -- FT
      refine VC.rs ?_
      refine VO.y rfl (.bst (cs := [Value.int .i64 (0), Value.int .i64 (0), Value.slice none (0) (0)]) rfl tst24 tz24 rfl) ?_
      refine VO.store (k := 3) (c' := [Value.int .i64 (0), Value.int .i64 (0), Value.slice none (0) (0)]) 102 rfl rfl (.inl tk24) rfl rfl rfl rfl rfl ?_
      refine VO.as ?_
      refine VO.as ?_
      refine VO.keep [109, 103, 102, 0] [(109, mone g8 (.cells [Value.int .i64 ((headS ((fRead d0).1)).1.1), Value.int .i64 ((headS ((fRead d0).1)).1.2.1), Value.slice none (0) (0)].toArray 24 (0, 0))), (103, m3), (102, mone g1 (.cells [Value.int .i64 (0), Value.int .i64 (0), Value.slice none (0) (0)].toArray 24 (0, 0))), (0, wm W)] (by kernel_rfl) ?_
      refine VO.k12 0 2 3 4 5 6 7 8 9 10 22 31 ?_
      refine VC.ret ?_
      refine outR ?_
      refine ⟨_, _, res_run (rs := [.cell 2 24, .tmp 3, .tmp 4]) rfl (.agg 102 rfl tk24 rfl ⟨_, _, _, mone_self _ _, Nat.le_of_ble_eq_true rfl, rfl⟩ (.tmp rfl (.tmp rfl .nil))), fun W_ hI => out_of (l := []) hI [] rfl rfl (mle_refl _) (fun hS_ => ?_)⟩
      dsimp only [packV]
      have he0 : ((secRead d0).1 : Ty.Den TSection) = (0, 0, []) := by first | rfl | (exact fin0_section_ok)
      refine ⟨[Value.int .i64 (0), Value.int .i64 (0), Value.slice none (0) (0)], ?_, ?_⟩
      rotate_left
      · rw [he0]; exact (mkO_Section 0 0 [] (Seps.nilAt 0 hS_) (by simp only [inK]; (exact fin1_section_ok)) (by simp only [inK]; (exact fin1_section_ok)) (Ow.nil _ _))
      all_goals (first | rfl | (exact fin0_section_ok))
    · -- FF
      refine VC.skip ?_
      refine outN ?_
      refine VC.seq ?_
      refine VC.rs ?_
      refine VO.mv ?_
      refine VO.mv ?_
      refine VO.keep [109, 103, 102, 0] [(109, mone g8 (.cells [Value.int .i64 ((headS ((fRead d0).1)).1.1), Value.int .i64 ((headS ((fRead d0).1)).1.2.1), Value.slice none (0) (0)].toArray 24 (0, 0))), (103, m3), (102, mone g1 (.cells [Value.int .i64 (0), Value.int .i64 (0), Value.slice none (0) (0)].toArray 24 (0, 0))), (0, wm W)] (by kernel_rfl) ?_
      refine VO.k14 0 2 3 4 5 6 7 8 9 10 22 31 33 34 ?_
      refine VC.block ?_
      refine VC.inv ((111, mnil) :: _) (fun _ h => h.nilc 111) ?_
      refine VC.loop (G := (List DCommit) × (Option Addr) × Nat × Mem × Int × Nat) (fun g => [(6, Value.int .i64 ((g.2.2.2.2.1))), (34, Value.int .i64 ((((g.2.2.2.2.2) : Nat) : Int))), (0, Value.slice A0 (d0.length) (c0)), (2, Value.pointer (some ⟨g1, 0, none⟩)), (5, Value.slice A3_0 (((fRead d0).1).length) (c3_0)), (7, Value.int .i64 ((fRead d0).2.2)), (8, Value.pointer (some ⟨g8, 0, none⟩)), (9, Value.int .i64 ((headS ((fRead d0).1)).2.1)), (10, Value.bool ((headS ((fRead d0).1)).2.2)), (22, Value.bool (decide (¬ ((fRead d0).2.2) = 0))), (31, Value.bool (!((headS ((fRead d0).1)).2.2))), (33, Value.int .i64 ((headS ((fRead d0).1)).2.1))]) (fun g => [(111, (g.2.2.2.1)), (109, mone g8 (.cells [Value.int .i64 ((headS ((fRead d0).1)).1.1), Value.int .i64 ((headS ((fRead d0).1)).1.2.1), Value.slice (g.2.1) ((g.1).length) ((g.2.2.1))].toArray 24 (0, 0))), (103, m3), (102, mone g1 (.cells [Value.int .i64 (0), Value.int .i64 (0), Value.slice none (0) (0)].toArray 24 (0, 0))), (0, wm W)]) (fun g => (comGo (headS (fRead d0).1).2.1.toNat d0 [] (fRead d0).2.1 = comGo ((headS (fRead d0).1).2.1.toNat - (g.2.2.2.2.2)) d0 (g.1) (g.2.2.2.2.1)) ∧ (0 ≤ (g.2.2.2.2.1) ∧ (g.2.2.2.2.1) ≤ d0.length) ∧ ((g.2.2.2.2.2) ≤ (headS (fRead d0).1).2.1.toNat) ∧ ((g.1).length = (g.2.2.2.2.2)) ∧ (Ow (.sl TCommit) (g.2.2.2.1) [.slice (g.2.1) (g.1).length (g.2.2.1)] (g.1))) (fun g => (headS (fRead d0).1).2.1.toNat - (g.2.2.2.2.2)) ([], none, 0, mnil, (fRead d0).2.1, 0) (⟨by rfl, by (dsimp only; omega), by (dsimp only; omega), by rfl, (Ow.nil TCommit mnil)⟩) ⟨⟨rfl, rfl, rfl, rfl, rfl, rfl, rfl, rfl, rfl, rfl, rfl, rfl, trivial⟩, fun _ h => h.sub [111, 109, 103, 102, 0]⟩ ?_
      rintro ⟨cs, cs_A, cs_c, cs_m, at_, j⟩ ⟨hp, ha0, hj, hl, h_cs⟩
      replace hp : comGo (headS (fRead d0).1).2.1.toNat d0 [] (fRead d0).2.1 = comGo ((headS (fRead d0).1).2.1.toNat - j) d0 cs at_ := hp
      replace ha0 : 0 ≤ at_ ∧ at_ ≤ d0.length := ha0
      replace hj : j ≤ (headS (fRead d0).1).2.1.toNat := hj
      replace hl : cs.length = j := hl
      replace h_cs : Ow (.sl TCommit) cs_m [.slice cs_A cs.length cs_c] cs := h_cs
      show VC _ _ _ _ _ [(6, Value.int .i64 (at_)), (34, Value.int .i64 (((j : Nat) : Int))), (0, Value.slice A0 (d0.length) (c0)), (2, Value.pointer (some ⟨g1, 0, none⟩)), (5, Value.slice A3_0 (((fRead d0).1).length) (c3_0)), (7, Value.int .i64 ((fRead d0).2.2)), (8, Value.pointer (some ⟨g8, 0, none⟩)), (9, Value.int .i64 ((headS ((fRead d0).1)).2.1)), (10, Value.bool ((headS ((fRead d0).1)).2.2)), (22, Value.bool (decide (¬ ((fRead d0).2.2) = 0))), (31, Value.bool (!((headS ((fRead d0).1)).2.2))), (33, Value.int .i64 ((headS ((fRead d0).1)).2.1))] [(111, cs_m), (109, mone g8 (.cells [Value.int .i64 ((headS ((fRead d0).1)).1.1), Value.int .i64 ((headS ((fRead d0).1)).1.2.1), Value.slice cs_A (cs.length) (cs_c)].toArray 24 (0, 0))), (103, m3), (102, mone g1 (.cells [Value.int .i64 (0), Value.int .i64 (0), Value.slice none (0) (0)].toArray 24 (0, 0))), (0, wm W)]
      have l_cs : cs.length ≤ cs_c := by obtain ⟨_, _, he, hl, _⟩ := h_cs.slice; simp only [Value.slice.injEq] at he; omega
      have k_cs : cs_c ≤ 9223372036854775807 := by obtain ⟨_, _, he, _, hl⟩ := h_cs.slice; simp only [Value.slice.injEq, maxLen] at he hl; omega
      have hr := headS_range (fRead d0).1
      refine VC.rs ?_
      refine VO.y rfl (.lss rfl rfl) ?_
      refine VO.k13 0 2 5 6 7 8 9 10 22 31 33 34 35 ?_
      refine VC.seq ?_
      refine VC.cond rfl (fun hc12 => ?_) (fun hc12 => ?_)
      · -- FFT
        refine VC.skip ?_
        refine outN ?_
        refine VC.seq ?_
        refine VC.block ?_
        refine VC.rs ?_
        refine VO.mv ?_
        refine VO.mv ?_
        obtain ⟨A13, hA13, hs13⟩ := h0.drop 1 ((at_).toNat) rfl (by exact fin1_section_ok)
        refine VO.y rfl (.slLI ((at_).toNat) A13 rfl rfl tsl25 (by exact fin1_section_ok) hA13 (by exact fin1_section_ok)) ?_
        refine VO.callN 114 rfl fnOk91 rfl (fun W hW => fRead_ok W (Rd.mono hs13 (hW.at (i := 0) rfl))) (fun v14 m14 hv14 => ?_)
        obtain ⟨s14_0, rfl, f14_0⟩ := hv14
        have hfa15 := fRead_bounds (d0.drop ((at_).toNat))
        obtain ⟨A14_0, c14_0, eq14_0, l14_0, k14_0⟩ := f14_0.slice
        subst eq14_0
        simp only [maxLen] at k14_0
        refine VO.mv ?_
        refine VO.y rfl (.ext rfl rfl) ?_
        refine VO.y rfl (.ext rfl rfl) ?_
        refine VO.y rfl (.ext rfl rfl) ?_
        refine VO.as ?_
        refine VO.as ?_
        refine VO.as ?_
        refine VO.k16 0 2 5 6 7 8 9 10 11 12 13 22 31 33 34 35 ?_
        refine VC.seq ?_
        refine VC.rs ?_
        refine VO.mv ?_
        refine VO.y rfl (.neq rfl rfl) ?_
        refine VO.keep [114, 111, 109, 103, 102, 0] [(114, m14), (111, cs_m), (109, mone g8 (.cells [Value.int .i64 ((headS ((fRead d0).1)).1.1), Value.int .i64 ((headS ((fRead d0).1)).1.2.1), Value.slice cs_A (cs.length) (cs_c)].toArray 24 (0, 0))), (103, m3), (102, mone g1 (.cells [Value.int .i64 (0), Value.int .i64 (0), Value.slice none (0) (0)].toArray 24 (0, 0))), (0, wm W)] (by kernel_rfl) ?_
        refine VO.k17 0 2 5 6 7 8 9 10 11 12 13 22 31 33 34 35 45 ?_
        refine VC.cond rfl (fun hc16 => ?_) (fun hc16 => ?_)
        · -- FFTT
          refine VC.rs ?_
          refine VO.y rfl (.bst (cs := [Value.int .i64 (0), Value.int .i64 (0), Value.slice none (0) (0)]) rfl tst24 tz24 rfl) ?_
          refine VO.store (k := 3) (c' := [Value.int .i64 (0), Value.int .i64 (0), Value.slice none (0) (0)]) 102 rfl rfl (.inl tk24) rfl rfl rfl rfl rfl ?_
          refine VO.as ?_
          refine VO.as ?_
          refine VO.k19 0 2 3 4 5 6 7 8 9 10 11 12 13 22 31 33 34 35 45 ?_
          refine VC.ret ?_
          refine outR ?_
          refine outBR ?_
          refine outR ?_
          refine outR ?_
          refine outBR ?_
          refine outR ?_
          refine ⟨_, _, res_run (rs := [.cell 2 24, .tmp 3, .tmp 4]) rfl (.agg 102 rfl tk24 rfl ⟨_, _, _, mone_self _ _, Nat.le_of_ble_eq_true rfl, rfl⟩ (.tmp rfl (.tmp rfl .nil))), fun W_ hI => out_of (l := []) hI [] rfl rfl (mle_refl _) (fun hS_ => ?_)⟩
          dsimp only [packV]
          have he0 : ((secRead d0).1 : Ty.Den TSection) = (0, 0, []) := by first | rfl | (exact fin0_section_ok)
          refine ⟨[Value.int .i64 (0), Value.int .i64 (0), Value.slice none (0) (0)], ?_, ?_⟩
          rotate_left
          · rw [he0]; exact (mkO_Section 0 0 [] (Seps.nilAt 0 hS_) (by simp only [inK]; (exact fin1_section_ok)) (by simp only [inK]; (exact fin1_section_ok)) (Ow.nil _ _))
          all_goals (first | rfl | (exact fin0_section_ok))
        · -- FFTF
          refine VC.skip ?_
          refine outN ?_
          refine VC.rs ?_
          refine VO.mv ?_
          refine VO.callN 117 rfl fnOk93 rfl (fun W hW => cDecode_ok_ W (OwnL.rd (Ow.ownl f14_0 rfl mnil) (hW.at (i := 114) rfl) (mle_nil _))) (fun v17 m17 hv17 => ?_)
          obtain ⟨s17_0, rfl, f17_0⟩ := hv17
          have hfa18 := cDecode_fits ((fRead (d0.drop ((at_).toNat))).1)
          obtain ⟨q17_0_A2, q17_0_c2, q17_0_n2, rfl, q17_0_S, q17_0_0, q17_0_1, q17_0_2⟩ := openO_Commit (x0 := ((cDecode ((fRead (d0.drop ((at_).toNat))).1)).1).1) (x1 := ((cDecode ((fRead (d0.drop ((at_).toNat))).1)).1).2.1) (x2 := ((cDecode ((fRead (d0.drop ((at_).toNat))).1)).1).2.2) f17_0
          simp only [inK] at q17_0_0
          simp only [inK] at q17_0_1
          have q17_0_r2 := Rd.room (q17_0_2.rd (mle_refl _))
          refine VO.inv _ (fun _ h => h.parts (i := 117) rfl q17_0_S [119]) ?_
          refine VO.mv ?_
          refine VO.y rfl (.ext rfl rfl) ?_
          refine VO.y rfl (.ext rfl rfl) ?_
          refine VO.alloc 121 rfl tz32 (fun g20 => ?_)
          refine VO.store (k := 3) (c' := [Value.int .i64 (((cDecode ((fRead (d0.drop ((at_).toNat))).1)).1).1), Value.int .i64 (((cDecode ((fRead (d0.drop ((at_).toNat))).1)).1).2.1), Value.slice q17_0_A2 ((((cDecode ((fRead (d0.drop ((at_).toNat))).1)).1).2.2).length) (q17_0_c2)]) 121 rfl rfl (.inl tk32) rfl rfl rfl rfl rfl ?_
          refine VO.as ?_
          refine VO.k18 0 2 5 6 7 8 9 10 11 12 13 14 22 31 33 34 35 45 ?_
          refine VC.seq ?_
          refine VC.rs ?_
          refine VO.mv ?_
          refine VO.y rfl (.neq rfl rfl) ?_
          refine VO.k19 0 2 5 6 7 8 9 10 11 12 13 14 22 31 33 34 35 45 53 ?_
          refine VC.cond rfl (fun hc22 => ?_) (fun hc22 => ?_)
          · -- FFTFT
            refine VC.rs ?_
            refine VO.y rfl (.bst (cs := [Value.int .i64 (0), Value.int .i64 (0), Value.slice none (0) (0)]) rfl tst24 tz24 rfl) ?_
            refine VO.store (k := 3) (c' := [Value.int .i64 (0), Value.int .i64 (0), Value.slice none (0) (0)]) 102 rfl rfl (.inl tk24) rfl rfl rfl rfl rfl ?_
            refine VO.as ?_
            refine VO.as ?_
            refine VO.keep [121, 119, 114, 111, 109, 103, 102, 0] [(121, mone g20 (.cells [Value.int .i64 (((cDecode ((fRead (d0.drop ((at_).toNat))).1)).1).1), Value.int .i64 (((cDecode ((fRead (d0.drop ((at_).toNat))).1)).1).2.1), Value.slice q17_0_A2 ((((cDecode ((fRead (d0.drop ((at_).toNat))).1)).1).2.2).length) (q17_0_c2)].toArray 32 (0, 0))), (119, q17_0_n2), (114, m14), (111, cs_m), (109, mone g8 (.cells [Value.int .i64 ((headS ((fRead d0).1)).1.1), Value.int .i64 ((headS ((fRead d0).1)).1.2.1), Value.slice cs_A (cs.length) (cs_c)].toArray 24 (0, 0))), (103, m3), (102, mone g1 (.cells [Value.int .i64 (0), Value.int .i64 (0), Value.slice none (0) (0)].toArray 24 (0, 0))), (0, wm W)] (by kernel_rfl) ?_
            refine VO.k21 0 2 3 4 5 6 7 8 9 10 11 12 13 14 22 31 33 34 35 45 53 ?_
            refine VC.ret ?_
            refine outR ?_
            refine outBR ?_
            refine outR ?_
            refine outR ?_
            refine outBR ?_
            refine outR ?_
            refine ⟨_, _, res_run (rs := [.cell 2 24, .tmp 3, .tmp 4]) rfl (.agg 102 rfl tk24 rfl ⟨_, _, _, mone_self _ _, Nat.le_of_ble_eq_true rfl, rfl⟩ (.tmp rfl (.tmp rfl .nil))), fun W_ hI => out_of (l := []) hI [] rfl rfl (mle_refl _) (fun hS_ => ?_)⟩
            dsimp only [packV]
            have he0 : ((secRead d0).1 : Ty.Den TSection) = (0, 0, []) := by first | rfl | (exact fin0_section_ok)
            refine ⟨[Value.int .i64 (0), Value.int .i64 (0), Value.slice none (0) (0)], ?_, ?_⟩
            rotate_left
            · rw [he0]; exact (mkO_Section 0 0 [] (Seps.nilAt 0 hS_) (by simp only [inK]; (exact fin1_section_ok)) (by simp only [inK]; (exact fin1_section_ok)) (Ow.nil _ _))
            all_goals (first | rfl | (exact fin0_section_ok))
          · -- FFTFF
            refine VC.skip ?_
            refine outN ?_
            refine VC.reg ?_
            refine VO.y rfl (.fa rfl tst24 rfl) ?_
            refine VO.y rfl (.ld1 109 rfl tk22 rfl (cellsAt_one rfl rfl)) ?_
            refine VO.y rfl (.ldA 121 rfl tk32 rfl (cellsAt_one rfl rfl)) ?_
            refine VO.bsl (cs := [Value.int .i64 (((cDecode ((fRead (d0.drop ((at_).toNat))).1)).1).1), Value.int .i64 (((cDecode ((fRead (d0.drop ((at_).toNat))).1)).1).2.1), Value.slice q17_0_A2 ((((cDecode ((fRead (d0.drop ((at_).toNat))).1)).1).2.2).length) (q17_0_c2)]) 124 rfl rfl tsl22 tz32 rfl rfl (fun g23 => ?_)
            refine VO.appO (e := TCommit) 111 119 124 rfl rfl rfl tsl22 tz32 rfl rfl rfl rfl h_cs (show Ow TCommit _ _ ((cDecode ((fRead (d0.drop ((at_).toNat))).1)).1) from (mkO_Commit (((cDecode ((fRead (d0.drop ((at_).toNat))).1)).1).1) (((cDecode ((fRead (d0.drop ((at_).toNat))).1)).1).2.1) (((cDecode ((fRead (d0.drop ((at_).toNat))).1)).1).2.2) (Seps.one (mle_refl _)) (by simp only [inK]; (exact fin1_section_ok)) (by simp only [inK]; (exact fin1_section_ok)) (OwnL.ow (Ow.ownl q17_0_2 rfl mnil) rfl))) Try.underlying22 (cellsAt_one rfl rfl) (by simp only [maxLen]; (exact fin1_section_ok)) (by exact fin1_section_ok) (by decide) (fun v25 m25 ho25 => ?_)
            obtain ⟨A25, c25, rfl, l25, k25⟩ := ho25.slice
            simp only [maxLen] at k25
            refine VO.mv ?_
            refine VO.mv ?_
            refine VO.y rfl (.add rfl rfl rfl ⟨by exact fin1_section_ok, by exact fin1_section_ok⟩) ?_
            refine VO.y rfl (.fa rfl tst24 rfl) ?_
            refine VO.store (k := 1) (c' := [Value.int .i64 ((headS ((fRead d0).1)).1.1), Value.int .i64 ((headS ((fRead d0).1)).1.2.1), Value.slice A25 ((cs ++ [((cDecode ((fRead (d0.drop ((at_).toNat))).1)).1)]).length) (c25)]) 109 rfl rfl (.inr ⟨tk22, rfl⟩) rfl rfl rfl rfl rfl ?_
            refine VO.as ?_
            refine VO.keep [111, 121, 114, 109, 103, 102, 0] [(111, m25), (121, mone g20 (.cells [Value.int .i64 (((cDecode ((fRead (d0.drop ((at_).toNat))).1)).1).1), Value.int .i64 (((cDecode ((fRead (d0.drop ((at_).toNat))).1)).1).2.1), Value.slice q17_0_A2 ((((cDecode ((fRead (d0.drop ((at_).toNat))).1)).1).2.2).length) (q17_0_c2)].toArray 32 (0, 0))), (114, m14), (109, mone g8 (.cells [Value.int .i64 ((headS ((fRead d0).1)).1.1), Value.int .i64 ((headS ((fRead d0).1)).1.2.1), Value.slice A25 ((cs ++ [((cDecode ((fRead (d0.drop ((at_).toNat))).1)).1)]).length) (c25)].toArray 24 (0, 0))), (103, m3), (102, mone g1 (.cells [Value.int .i64 (0), Value.int .i64 (0), Value.slice none (0) (0)].toArray 24 (0, 0))), (0, wm W)] (by kernel_rfl) ?_
            refine VO.k19 0 2 5 6 7 8 9 10 11 12 13 14 22 31 33 34 35 45 53 ?_
            refine outBN ?_
            refine outN ?_
            refine VC.reg ?_
            refine VO.y rfl (.add (c := ((j + 1 : Nat) : Int)) rfl rfl (by omega) ⟨by exact fin1_section_ok, by exact fin1_section_ok⟩) ?_
            refine VO.mv ?_
            refine VO.k19 0 2 5 6 7 8 9 10 11 12 13 14 22 31 33 34 35 45 53 ?_
            exact outN ⟨⟨cs ++ [((cDecode ((fRead (d0.drop ((at_).toNat))).1)).1)], A25, c25, m25, at_ + ((fRead (d0.drop ((at_).toNat))).2.1), j + 1⟩, ⟨by (have h_ := com_next hp (by omega) (by assumption) (by assumption); rw [Nat.sub_sub] at h_; exact h_), by (have h_ := com_read d0 at_ ha0.1 ha0.2; dsimp only; omega), by (dsimp only; omega), by (simp only [List.length_append, List.length_cons, List.length_nil]; omega), ho25⟩, by first | omega | (simp only [List.length_append, List.length_cons, List.length_nil]; omega), ⟨⟨rfl, rfl, rfl, rfl, rfl, rfl, rfl, rfl, rfl, rfl, rfl, rfl, trivial⟩, fun _ h => Inv.sub h [111, 109, 103, 102, 0]⟩⟩
      · -- FFF
        refine VC.exit ?_
        refine outE ?_
        refine outE ?_
        refine outBB ?_
        refine outN ?_
        refine VC.seq ?_
        refine VC.regD _ 7 [(0, true), (1, true), (2, true), (3, false), (4, true), (5, false), (6, true)] follows (by kernel_rfl) (fun _ h => h.sub [111, 109, 103, 0]) ?_
        refine VD.y rfl rfl (.inl rfl) (.ldA 109 rfl tk24 rfl (cellsAt_one rfl rfl)) ?_
        refine VD.y rfl rfl (.inl rfl) (.mv rfl) ?_
        refine VD.y rfl rfl (.inl rfl) (.ldA 109 rfl tk24 rfl (cellsAt_one rfl rfl)) ?_
        refine VD.callN 126 rfl rfl (.inl rfl) fnOk9 rfl (fun _ h => h.sub [111, 109, 103, 0]) (fun W hW => sectCheck_ok W (mk_Section (m := wm W) ((headS ((fRead d0).1)).1.1) ((headS ((fRead d0).1)).1.2.1) cs (by simp only [inK]; (exact fin1_section_ok)) (by simp only [inK]; (exact fin1_section_ok)) (Ow.rd h_cs (hW.at (i := 111) rfl)))) (fun v26 m26 hv26 => ?_)
        try dsimp only at hv26
        subst hv26
        have hfa27 := sectCheck_range ((headS ((fRead d0).1)).1.1, (headS ((fRead d0).1)).1.2.1, cs)
        refine VD.y rfl rfl (.inl rfl) (.eql rfl rfl) ?_
        refine VD.store (k := 3) (c' := [Value.int .i64 ((headS ((fRead d0).1)).1.1), Value.int .i64 ((headS ((fRead d0).1)).1.2.1), Value.slice cs_A (cs.length) (cs_c)]) 102 rfl rfl rfl (.inl tk24) rfl rfl rfl rfl rfl (fun _ h => h.sub [111, 109, 103, 0]) ?_
        refine VD.y rfl rfl (.inl rfl) (.as rfl) ?_
        refine VD.nil rfl ?_ rfl
        refine VO.as ?_
        refine VO.k15 0 2 3 4 5 6 7 8 9 10 22 31 33 34 35 ?_
        refine outN ?_
        refine VC.ret ?_
        refine ⟨_, _, res_run (rs := [.cell 2 24, .tmp 3, .tmp 4]) rfl (.agg 102 rfl tk24 rfl ⟨_, _, _, mone_self _ _, Nat.le_of_ble_eq_true rfl, rfl⟩ (.tmp rfl (.tmp rfl .nil))), fun W_ hI => out_of (l := [cs_m]) hI [111] rfl rfl (mle_refl _) (fun hS_ => ?_)⟩
        dsimp only [packV]
        have he0 : ((secRead d0).1 : Ty.Den TSection) = ((headS ((fRead d0).1)).1.1, (headS ((fRead d0).1)).1.2.1, cs) := by first | rfl | (exact fin0_section_ok)
        refine ⟨[Value.int .i64 ((headS ((fRead d0).1)).1.1), Value.int .i64 ((headS ((fRead d0).1)).1.2.1), Value.slice cs_A (cs.length) (cs_c)], ?_, ?_⟩
        rotate_left
        · rw [he0]; exact (mkO_Section ((headS ((fRead d0).1)).1.1) ((headS ((fRead d0).1)).1.2.1) cs hS_ (by simp only [inK]; (exact fin1_section_ok)) (by simp only [inK]; (exact fin1_section_ok)) h_cs)
        all_goals (first | rfl | (exact fin0_section_ok))
theorem oScan_ok (W : World) {v0 : Value} {d0 : List UInt8} (h0 : Rd (.sl .byte) (wm W) [v0] d0) (e0 : d0.length ≤ 1000000000000) : CallR Try.prog 18 [v0] W (mnil) (fun v m' => ∃ (s0 : Value), v = .tuple #[s0, .int .i64 ((scanF d0).2)] ∧ Ow (.sl TSection) m' [s0] ((scanF d0).1)) := by
  obtain ⟨A0, c0, rfl, l0, k0⟩ := h0.slice
  simp only [maxLen] at k0
  refine CallR.ofA (n := 37) Try.func18 rfl rfl rfl ?_
  refine VC.rs ?_
  refine VO.as ?_
  refine VO.as ?_
  refine VO.k3 0 2 3 ?_
  refine VC.rs ?_
  refine VO.as ?_
  refine VO.k4 0 2 3 4 ?_
  refine VC.rs ?_
  refine VO.as ?_
  refine VO.as ?_
  refine VO.keep [0] [(0, wm W)] (by kernel_rfl) ?_
  refine VO.k6 0 2 3 4 5 6 ?_
  refine VC.block ?_
  refine VC.inv ((101, mnil) :: _) (fun _ h => h.nilc 101) ?_
  refine VC.loop (G := (List DSection) × (Option Addr) × Nat × Mem × Int × Int × Nat) (fun g => [(4, Value.slice (g.2.1) ((g.1).length) ((g.2.2.1))), (5, Value.int .i64 ((g.2.2.2.2.1))), (6, Value.int .i64 ((g.2.2.2.2.2.1))), (0, Value.slice A0 (d0.length) (c0))]) (fun g => [(101, (g.2.2.2.1)), (0, wm W)]) (fun g => (scanF d0 = scanS (g.2.2.2.2.2.2) d0 (g.1) (g.2.2.2.2.1) (g.2.2.2.2.2.1)) ∧ (0 ≤ (g.2.2.2.2.1) ∧ (g.2.2.2.2.1) ≤ d0.length) ∧ ((d0.length : Int) - (g.2.2.2.2.1) ≤ (g.2.2.2.2.2.2)) ∧ (((g.1).length : Int) ≤ (g.2.2.2.2.1)) ∧ (Ow (.sl TSection) (g.2.2.2.1) [.slice (g.2.1) (g.1).length (g.2.2.1)] (g.1))) (fun g => ((d0.length : Int) - (g.2.2.2.2.1)).toNat) ([], none, 0, mnil, 0, 0, d0.length) (⟨by rfl, by (dsimp only; omega), by (dsimp only; omega), by simp, (Ow.nil TSection mnil)⟩) ⟨⟨rfl, rfl, rfl, rfl, trivial⟩, fun _ h => h.sub [101, 0]⟩ ?_
  rintro ⟨out, out_A, out_c, out_m, at_, ep, n⟩ ⟨hp, ha0, hn, hl, h_out⟩
  replace hp : scanF d0 = scanS n d0 out at_ ep := hp
  replace ha0 : 0 ≤ at_ ∧ at_ ≤ d0.length := ha0
  replace hn : (d0.length : Int) - at_ ≤ n := hn
  replace hl : (out.length : Int) ≤ at_ := hl
  replace h_out : Ow (.sl TSection) out_m [.slice out_A out.length out_c] out := h_out
  show VC _ _ _ _ _ [(4, Value.slice out_A (out.length) (out_c)), (5, Value.int .i64 (at_)), (6, Value.int .i64 (ep)), (0, Value.slice A0 (d0.length) (c0))] [(101, out_m), (0, wm W)]
  have l_out : out.length ≤ out_c := by obtain ⟨_, _, he, hl, _⟩ := h_out.slice; simp only [Value.slice.injEq] at he; omega
  have k_out : out_c ≤ 9223372036854775807 := by obtain ⟨_, _, he, _, hl⟩ := h_out.slice; simp only [Value.slice.injEq, maxLen] at he hl; omega
  refine VC.block ?_
  refine VC.rs ?_
  refine VO.mv ?_
  refine VO.mv ?_
  obtain ⟨A2, hA2, hs2⟩ := h0.drop 1 ((at_).toNat) rfl bd
  refine VO.y rfl (.slLI ((at_).toNat) A2 rfl rfl tsl25 bd hA2 bd) ?_
  refine VO.callN 103 rfl fnOk60 rfl (fun W hW => section_ok W (Rd.mono hs2 (hW.at (i := 0) rfl))) (fun v3 m3 hv3 => ?_)
  obtain ⟨s3_0, rfl, f3_0⟩ := hv3
  have hfa4 := secRead_bounds (d0.drop ((at_).toNat))
  obtain ⟨q3_0_A2, q3_0_c2, q3_0_n2, rfl, q3_0_S, q3_0_0, q3_0_1, q3_0_2⟩ := openO_Section (x0 := ((secRead (d0.drop ((at_).toNat))).1).1) (x1 := ((secRead (d0.drop ((at_).toNat))).1).2.1) (x2 := ((secRead (d0.drop ((at_).toNat))).1).2.2) f3_0
  simp only [inK] at q3_0_0
  simp only [inK] at q3_0_1
  have q3_0_r2 := Rd.room (q3_0_2.rd (mle_refl _))
  refine VO.inv _ (fun _ h => h.parts (i := 103) rfl q3_0_S [105]) ?_
  refine VO.mv ?_
  refine VO.y rfl (.ext rfl rfl) ?_
  refine VO.y rfl (.ext rfl rfl) ?_
  refine VO.y rfl (.ext rfl rfl) ?_
  refine VO.alloc 107 rfl tz24 (fun g6 => ?_)
  refine VO.store (k := 3) (c' := [Value.int .i64 (((secRead (d0.drop ((at_).toNat))).1).1), Value.int .i64 (((secRead (d0.drop ((at_).toNat))).1).2.1), Value.slice q3_0_A2 ((((secRead (d0.drop ((at_).toNat))).1).2.2).length) (q3_0_c2)]) 107 rfl rfl (.inl tk24) rfl rfl rfl rfl rfl ?_
  refine VO.as ?_
  refine VO.as ?_
  refine VO.k7 0 4 5 6 7 8 9 ?_
  refine VC.seq ?_
  refine VC.rs ?_
  refine VO.mv ?_
  refine VO.y rfl (.not rfl) ?_
  refine VO.mv ?_
  refine VO.decBN (t := 20) rfl (fun hc8 => ?_) (fun hc8 => ?_)
  · -- T
    refine VO.gN ?_
    refine VO.gN ?_
    refine VO.gN ?_
    refine VO.gN ?_
    refine VO.y rfl (.pT rfl rfl) ?_
    refine VO.k8 0 4 5 6 7 8 9 25 ?_
    refine VC.condT rfl ?_
    refine VC.rs ?_
    refine VO.mv ?_
    refine VO.mv ?_
    refine VO.as ?_
    refine VO.as ?_
    refine VO.keep [107, 105, 101, 0] [(107, mone g6 (.cells [Value.int .i64 (((secRead (d0.drop ((at_).toNat))).1).1), Value.int .i64 (((secRead (d0.drop ((at_).toNat))).1).2.1), Value.slice q3_0_A2 ((((secRead (d0.drop ((at_).toNat))).1).2.2).length) (q3_0_c2)].toArray 24 (0, 0))), (105, q3_0_n2), (101, out_m), (0, wm W)] (by kernel_rfl) ?_
    refine VO.k10 0 2 3 4 5 6 7 8 9 25 ?_
    refine VC.ret ?_
    refine outR ?_
    refine outBR ?_
    refine outR ?_
    refine outBR ?_
    refine ⟨_, _, res_run (rs := [.tmp 2, .tmp 3]) rfl (.tmp rfl (.tmp rfl .nil)), fun W_ hI => out_of (l := [out_m]) hI [101] rfl rfl (mle_refl _) (fun hS_ => ?_)⟩
    dsimp only [packV]
    have he0 : ((scanF d0).1 : Ty.Den (.sl TSection)) = out := by first | rfl | (first | (rw [show scanF d0 = _ from scan_end hp (.inl (by first | assumption | simpa using ‹_›))]; done) | (rw [show scanF d0 = _ from scan_end hp (.inr (by omega))]; done))
    refine ⟨Value.slice out_A (out.length) (out_c), ?_, ?_⟩
    rotate_left
    · rw [he0]; exact (Ow.up h_out (hS_.1 _ (.head _)))
    all_goals (first | rfl | (first | (rw [show scanF d0 = _ from scan_end hp (.inl (by first | assumption | simpa using ‹_›))]; done) | (rw [show scanF d0 = _ from scan_end hp (.inr (by omega))]; done)))
  · -- F
    refine VO.gy rfl ⟨_, rfl, rfl⟩ (.fa rfl tst24 rfl) ?_
    refine VO.gy rfl ⟨_, rfl, rfl⟩ (.ld1 107 rfl tk3 rfl (cellsAt_one rfl rfl)) ?_
    refine VO.gy rfl ⟨_, rfl, rfl⟩ (.mv rfl) ?_
    refine VO.gy rfl ⟨_, rfl, rfl⟩ (.leq rfl rfl) ?_
    refine VO.y rfl (.pF rfl rfl) ?_
    refine VO.k8 0 4 5 6 7 8 9 25 ?_
    refine VC.cond rfl (fun hc9 => ?_) (fun hc9 => ?_)
    · -- FT
      refine VC.rs ?_
      refine VO.mv ?_
      refine VO.mv ?_
      refine VO.as ?_
      refine VO.as ?_
      refine VO.keep [107, 105, 101, 0] [(107, mone g6 (.cells [Value.int .i64 (((secRead (d0.drop ((at_).toNat))).1).1), Value.int .i64 (((secRead (d0.drop ((at_).toNat))).1).2.1), Value.slice q3_0_A2 ((((secRead (d0.drop ((at_).toNat))).1).2.2).length) (q3_0_c2)].toArray 24 (0, 0))), (105, q3_0_n2), (101, out_m), (0, wm W)] (by kernel_rfl) ?_
      refine VO.k10 0 2 3 4 5 6 7 8 9 25 ?_
      refine VC.ret ?_
      refine outR ?_
      refine outBR ?_
      refine outR ?_
      refine outBR ?_
      refine ⟨_, _, res_run (rs := [.tmp 2, .tmp 3]) rfl (.tmp rfl (.tmp rfl .nil)), fun W_ hI => out_of (l := [out_m]) hI [101] rfl rfl (mle_refl _) (fun hS_ => ?_)⟩
      dsimp only [packV]
      have he0 : ((scanF d0).1 : Ty.Den (.sl TSection)) = out := by first | rfl | (first | (rw [show scanF d0 = _ from scan_end hp (.inl (by first | assumption | simpa using ‹_›))]; done) | (rw [show scanF d0 = _ from scan_end hp (.inr (by omega))]; done))
      refine ⟨Value.slice out_A (out.length) (out_c), ?_, ?_⟩
      rotate_left
      · rw [he0]; exact (Ow.up h_out (hS_.1 _ (.head _)))
      all_goals (first | rfl | (first | (rw [show scanF d0 = _ from scan_end hp (.inl (by first | assumption | simpa using ‹_›))]; done) | (rw [show scanF d0 = _ from scan_end hp (.inr (by omega))]; done)))
    · -- FF
      refine VC.skip ?_
      refine outN ?_
      refine VC.regD _ 11 [(0, true), (1, true), (4, true), (5, true), (6, true), (7, true), (8, true), (2, false), (3, false), (9, true), (10, true)] follows (by kernel_rfl) (fun _ h => h.sub [107, 0]) ?_
      refine VD.y rfl rfl (.inl rfl) (.mv rfl) ?_
      refine VD.y rfl rfl (.inl rfl) (.ldA 107 rfl tk24 rfl (cellsAt_one rfl rfl)) ?_
      refine VD.y rfl rfl (.inl rfl) (.mv rfl) ?_
      refine VD.y rfl rfl (.inl rfl) (.mv rfl) ?_
      refine VD.y rfl rfl (.inl rfl) (.add rfl rfl rfl ⟨bd, bd⟩) ?_
      refine VD.y rfl rfl (.inl rfl) (.fa rfl tst24 rfl) ?_
      refine VD.y rfl rfl (.inl rfl) (.ld1 107 rfl tk3 rfl (cellsAt_one rfl rfl)) ?_
      refine VD.bsl (cs := [Value.int .i64 (((secRead (d0.drop ((at_).toNat))).1).1), Value.int .i64 (((secRead (d0.drop ((at_).toNat))).1).2.1), Value.slice q3_0_A2 ((((secRead (d0.drop ((at_).toNat))).1).2.2).length) (q3_0_c2)]) 111 rfl rfl rfl tsl41 tz24 rfl rfl (fun _ h => h.sub [107, 0]) (fun g10 => ?_)
      refine VD.appO (e := TSection) 101 105 111 rfl rfl rfl rfl tsl41 tz24 rfl rfl rfl rfl h_out (show Ow TSection _ _ ((secRead (d0.drop ((at_).toNat))).1) from (mkO_Section (((secRead (d0.drop ((at_).toNat))).1).1) (((secRead (d0.drop ((at_).toNat))).1).2.1) (((secRead (d0.drop ((at_).toNat))).1).2.2) (Seps.one (mle_refl _)) bdk bdk q3_0_2)) Try.underlying41 (cellsAt_one rfl rfl) bdm bd (by decide) (fun _ _ h => h.sub [107, 0]) (fun v12 m12 ho12 => ?_)
      obtain ⟨A12, c12, rfl, l12, k12⟩ := ho12.slice
      simp only [maxLen] at k12
      refine VD.y rfl rfl (.inl rfl) (.as rfl) ?_
      refine VD.y rfl rfl (.inl rfl) (.as rfl) ?_
      refine VD.nil rfl ?_ rfl
      refine VO.as ?_
      refine VO.keep [101, 107, 0] [(101, m12), (107, mone g6 (.cells [Value.int .i64 (((secRead (d0.drop ((at_).toNat))).1).1), Value.int .i64 (((secRead (d0.drop ((at_).toNat))).1).2.1), Value.slice q3_0_A2 ((((secRead (d0.drop ((at_).toNat))).1).2.2).length) (q3_0_c2)].toArray 24 (0, 0))), (0, wm W)] (by kernel_rfl) ?_
      refine VO.k8 0 4 5 6 7 8 9 25 ?_
      refine outBN ?_
      exact outN ⟨⟨out ++ [((secRead (d0.drop ((at_).toNat))).1)], A12, c12, m12, at_ + ((secRead (d0.drop ((at_).toNat))).2.1), ((secRead (d0.drop ((at_).toNat))).1).1, n - 1⟩, ⟨by exact scan_next hp ha0.1 hn (by simp [*]) (by omega), by (have h_ := sec_at d0 ha0.1 ha0.2; dsimp only; omega), by (have h_ := (secRead_bounds (d0.drop at_.toNat)).2.2.1 (by simp [*]); dsimp only; omega), by (have h_ := (secRead_bounds (d0.drop at_.toNat)).2.2.1 (by simp [*]); simp only [List.length_append, List.length_cons, List.length_nil]; omega), ho12⟩, by (have h_ := (secRead_bounds (d0.drop at_.toNat)).2.2.1 (by simp [*]); have h2_ := sec_at d0 ha0.1 ha0.2; dsimp only; omega), ⟨⟨rfl, rfl, rfl, rfl, trivial⟩, fun _ h => Inv.sub h [101, 0]⟩⟩
end
section
set_option linter.unusedVariables false
/-- file by file a front part -/
def leQ (p q : Dur) : Prop := ∀ f : Int, inF f → getF p f <+: getF q f
theorem leQ.trans {p q r : Dur} (h : leQ p q) (h' : leQ q r) : leQ p r := fun f hf => (h f hf).trans (h' f hf)
theorem onn_right {d : DDisk} (h : Onn d) : wrongD d = 0 := by unfold wrongD; rw [if_neg (by rw [h.made]; decide), if_neg (by rw [h.on]; decide)]
theorem onn_burn {d : DDisk} (h : Onn d) : burnD d = ((d.1, d.2.1, d.2.2.1, d.2.2.2.1, d.2.2.2.2.1 + 1, d.2.2.2.2.2), true) := by unfold burnD; rw [if_neg (by rw [h.has]; decide)]
theorem set_set {q : Dur} {f : Int} {a b : Bytes} : setF (setF q f a) f b = setF q f b := by
  unfold setF; split
  · rfl
  · split
    · rfl
    · split <;> rfl
theorem set_get {q : Dur} {f : Int} : setF q f (getF q f) = q := by
  unfold setF getF; split
  · rfl
  · split
    · rfl
    · split <;> rfl
def begB (b a : Bytes) : Prop := a.length ≤ b.length ∧ b.take a.length = a
instance (b a : Bytes) : Decidable (begB b a) := by unfold begB; infer_instance
end
section
set_option linter.unusedVariables false
/-- what the files hold -/
def curD (d : DDisk) : Dur := play d.2.2.2.2.2.1 d.2.2.2.2.2.2
theorem cur_held {d : DDisk} {f : Int} (h : okD d) (hf : inF f) : heldB d.2.2.2.2.2.1 d.2.2.2.2.2.2 f = getF (curD d) f := (play_held h.1 hf).symm
theorem cur_add (d : DDisk) (s : DStep) : curD (addP d s) = stepQ (curD d) s := by
  show play d.2.2.2.2.2.1 (d.2.2.2.2.2.2 ++ [s]) = _
  rw [play, List.foldl_append]; rfl
theorem cur_burn (d : DDisk) : curD (burnD d).1 = curD d := by unfold curD; rw [(burn_same d).2]
theorem dur_burn (d : DDisk) : (burnD d).1.2.2.2.2.2.1 = d.2.2.2.2.2.1 := by rw [(burn_same d).2]
theorem made_burn (d : DDisk) : (burnD d).1.1 = d.1 := (burn_same d).1
section
variable {d : DDisk} {f n base : Int} {b : Bytes} {s : DSection}
theorem on_durable (h : Onn d) (hf : inF f) : dDurable d f = getF d.2.2.2.2.2.1 f := durable_go (by rw [h.made]; decide) (Decidable.not_not.2 hf)
theorem on_pending (h : Onn d) : dPending d = d.2.2.2.2.2.2.length := by unfold dPending; rw [if_neg (by rw [h.made]; decide)]
theorem on_go (hf : inF f) : ∀ (k : Nat) {d : DDisk} {b : Bytes}, b.length ≤ k → Onn d → (writeGo k d f b).2 = 0 ∧ Onn (writeGo k d f b).1 ∧ curD (writeGo k d f b).1 = setF (curD d) f (getF (curD d) f ++ b) ∧ (writeGo k d f b).1.2.2.2.2.2.1 = d.2.2.2.2.2.1
  | 0, d, b, hk, h => by
    rw [List.eq_nil_of_length_eq_zero (Nat.le_zero.1 hk), List.append_nil, set_get]; exact ⟨rfl, h, rfl, rfl⟩
  | k + 1, d, b, hk, h => by
    unfold writeGo
    split
    · rename_i h0
      rw [List.eq_nil_of_length_eq_zero h0, List.append_nil, set_get]; exact ⟨rfl, h, rfl, rfl⟩
    · rename_i h0
      rw [if_pos (by rw [onn_burn h])]
      have e1 : b.take 64 = b.take (min b.length 64) := by
        by_cases h0 : b.length ≤ 64
        · rw [Nat.min_eq_left h0, List.take_of_length_le h0, List.take_of_length_le (Nat.le_refl _)]
        · rw [Nat.min_eq_right (by omega)]
      have hs := step_ok (m := min b.length 64) h.ok hf (by omega) rfl
      rw [← e1] at hs
      have ho : Onn (addP (burnD d).1 (0, f, b.take 64, 0)) := by
        rw [onn_burn h] at hs ⊢; exact ⟨hs, h.made, h.on, h.has⟩
      obtain ⟨k1, k2, k3, k4⟩ := on_go hf k (b := b.drop 64) (by simp only [List.length_drop]; omega) ho
      refine ⟨k1, k2, ?_, by rw [k4]; exact dur_burn d⟩
      rw [k3, cur_add, cur_burn, stepQ, get_set hf hf, if_pos rfl, set_set, doneB, if_pos rfl, List.append_assoc, List.take_append_drop]
theorem on_write (h : Onn d) (hf : inF f) : (dWrite d f b).2 = 0 ∧ Onn (dWrite d f b).1 ∧ curD (dWrite d f b).1 = setF (curD d) f (getF (curD d) f ++ b) ∧ (dWrite d f b).1.2.2.2.2.2.1 = d.2.2.2.2.2.1 := by
  rw [write_go (by rw [onn_right h]; decide) (Decidable.not_not.2 hf)]
  exact on_go hf _ (Nat.le_refl _) h
theorem on_cut (h : Onn d) (hf : inF f) (hn : 0 ≤ n) (hl : n ≤ (getF (curD d) f).length) : (dCut d f n).2 = 0 ∧ Onn (dCut d f n).1 ∧ curD (dCut d f n).1 = setF (curD d) f ((getF (curD d) f).take n.toNat) ∧ (dCut d f n).1.2.2.2.2.2.1 = d.2.2.2.2.2.1 := by
  have hk := cut_ok (f := f) (n := n) h.ok
  have e : dCut d f n = (addP (burnD d).1 (1, f, [], n), 0) := cut_go (by rw [onn_right h]; decide) (Decidable.not_not.2 hf) (by omega) (by rw [cur_held h.ok hf]; omega) (by rw [onn_burn h]; simp)
  rw [e] at hk ⊢
  refine ⟨rfl, ?_, ?_, dur_burn d⟩
  · rw [onn_burn h] at hk ⊢; exact ⟨hk, h.made, h.on, h.has⟩
  · rw [cur_add, cur_burn]; rfl
theorem on_sync (h : Onn d) : (dSync d).2 = 0 ∧ Onn (dSync d).1 ∧ (dSync d).1.2.2.2.2.2.1 = curD d ∧ (dSync d).1.2.2.2.2.2.2 = [] := by
  obtain ⟨h1, h2, h3⟩ := onn_sync h
  have e : dSync d = (settleD (burnD d).1 (burnD d).1.2.2.2.2.2.2.length, 0) := sync_go (by rw [onn_right h]; decide) (by rw [onn_burn h]; simp)
  refine ⟨h1, h2, ?_, ?_⟩ <;> rw [e, onn_burn h]
  · show play d.2.2.2.2.2.1 (d.2.2.2.2.2.2.take d.2.2.2.2.2.2.length) = _
    rw [List.take_length]; rfl
  · show d.2.2.2.2.2.2.drop d.2.2.2.2.2.2.length = []
    rw [List.drop_length]
theorem cur_none (h : d.2.2.2.2.2.2 = []) : curD d = d.2.2.2.2.2.1 := by unfold curD; rw [h]; rfl
theorem on_trim (h : Onn d) (hf : inF f) (hn : 0 ≤ n) (hl : n ≤ (getF (curD d) f).length) : (trimD d f n).2 = 0 ∧ Onn (trimD d f n).1 ∧ curD (trimD d f n).1 = setF (curD d) f ((getF (curD d) f).take n.toNat) ∧ (trimD d f n).1.2.2.2.2.2.1 = d.2.2.2.2.2.1 := by
  unfold trimD
  rw [cur_held h.ok hf]
  split
  · exact on_cut h hf hn hl
  · rw [List.take_of_length_le (by omega), set_get]; exact ⟨rfl, h, rfl, rfl⟩
theorem on_put (h : Onn d) (hf : inF f) : (putD d f b).2 = 0 ∧ Onn (putD d f b).1 ∧ (putD d f b).1.2.2.2.2.2.1 = setF (curD d) f (getF (curD d) f ++ b) ∧ (putD d f b).1.2.2.2.2.2.2 = [] := by
  obtain ⟨w1, w2, w3, w4⟩ := on_write (b := b) h hf
  obtain ⟨s1, s2, s3, s4⟩ := on_sync w2
  unfold putD
  rw [if_neg (fun q => q w1)]
  exact ⟨s1, s2, by rw [s3, w3], s4⟩
theorem on_orph (h : Onn d) (hs : sectCheck s = 0) (hb : 0 ≤ base) (hl : base ≤ (getF (curD d) 3).length) : (orphW d base s).2 = 0 ∧ Onn (orphW d base s).1 ∧ (orphW d base s).1.2.2.2.2.2.1 = setF (curD d) 3 ((getF (curD d) 3).take base.toNat ++ sectEnc s) ∧ (orphW d base s).1.2.2.2.2.2.2 = [] := by
  obtain ⟨t1, t2, t3, t4⟩ := on_trim (f := 3) h (by decide) hb hl
  obtain ⟨p1, p2, p3, p4⟩ := on_put (f := 3) (b := sectEnc s) t2 (by decide)
  have e : orphW d base s = putD (trimD d 3 base).1 3 (sectEnc s) := by
    unfold orphW
    rw [if_neg (by rw [onn_right h]; decide), if_neg (by rw [hs]; decide), if_neg (by rw [cur_held h.ok (by decide)]; omega), if_neg (fun q => q t1)]
  rw [e]
  refine ⟨p1, p2, ?_, p4⟩
  rw [p3, t3, get_set (by decide) (by decide), if_pos rfl, set_set]
end
/-- a disk, on or off, with or without a fuse, to which there were only writes since it was synced -/
structure Pg (d : DDisk) (A S : Dur) : Prop where
  ok : okD d
  made : d.1 = true
  all : ∀ s ∈ d.2.2.2.2.2.2, s.1 = 0 ∧ inF s.2.1
  dur : d.2.2.2.2.2.1 = S
  ends : curD d = A
section
variable {d : DDisk} {A S : Dur} {f n k t : Int} {b : Bytes}
theorem Pg.right (h : Pg d A S) (ho : d.2.1 = false) : wrongD d = 0 := by unfold wrongD; rw [if_neg (by rw [h.made]; decide), if_neg (by rw [ho]; decide)]
theorem Pg.burn (h : Pg d A S) : Pg (burnD d).1 A S := ⟨burn_ok h.ok, by rw [made_burn]; exact h.made, by rw [(burn_same d).2]; exact h.all, by rw [dur_burn]; exact h.dur, by rw [cur_burn]; exact h.ends⟩
end
end
section
set_option linter.unusedVariables false
def Tw (d : DDisk) (r : DRDisk) : Prop := okD d ∧ fromR r = d
theorem Tw.keep {d d' : DDisk} {r : DRDisk} {x : Int} (h : Tw d r) (hk : okD d') (hn : nf d') : Tw d' (toR d' x) := ⟨hk, from_to hk hn⟩
theorem Tw.nf {d : DDisk} {r : DRDisk} (h : Tw d r) : nf d := by rw [← h.2]; exact nf_from r
section
variable {d : DDisk} {r : DRDisk} (h : Tw d r)
include h
theorem Tw.fuse {n : Int} : Tw (dFuse d n).1 (toR (dFuse (fromR r) n).1 r.2.2.2.2.2.1) ∧ (dFuse (fromR r) n).2 = (dFuse d n).2 := by rw [h.2]; exact ⟨h.keep (fuse_ok h.1) (nf_fuse h.nf), rfl⟩
theorem Tw.start {k t : Int} : Tw (dStart d k t).1 (toR (dStart (fromR r) k t).1 r.2.2.2.2.2.1) ∧ (dStart (fromR r) k t).2 = (dStart d k t).2 := by rw [h.2]; exact ⟨h.keep (start_ok h.1) (nf_start h.nf), rfl⟩
end
end
section
set_option linter.unusedVariables false
def riseS : Int → List DSection → Prop
  | _, [] => True
  | ep, s :: l => sectCheck s = 0 ∧ ep < s.1 ∧ riseS s.1 l
def sectEncs (l : List DSection) : Bytes := (l.map sectEnc).flatten
theorem lastEp_cons (ep : Int) (s : DSection) (l : List DSection) : lastEp ep (s :: l) = lastEp s.1 l := by
  unfold lastEp
  cases l with
  | nil => rfl
  | cons x r => rw [List.getLast?_cons_cons]; cases h : (x :: r).getLast? with
    | none => simp at h
    | some y => rfl
theorem sectEncs_cons (s : DSection) (l : List DSection) : sectEncs (s :: l) = sectEnc s ++ sectEncs l := rfl
theorem sectEncs_app (l r : List DSection) : sectEncs (l ++ r) = sectEncs l ++ sectEncs r := by simp [sectEncs]
theorem rise_app : ∀ {l r : List DSection} {ep : Int}, riseS ep (l ++ r) ↔ riseS ep l ∧ riseS (lastEp ep l) r
  | [], r, ep => by simp [riseS, lastEp]
  | s :: l, r, ep => by
    rw [lastEp_cons]
    show sectCheck s = 0 ∧ ep < s.1 ∧ riseS s.1 (l ++ r) ↔ (sectCheck s = 0 ∧ ep < s.1 ∧ riseS s.1 l) ∧ _
    rw [rise_app (l := l)]
    exact ⟨fun ⟨a, b, c, d⟩ => ⟨⟨a, b, c⟩, d⟩, fun ⟨⟨a, b, c⟩, d⟩ => ⟨a, b, c, d⟩⟩
theorem rise_snoc {l : List DSection} {k : Nat} {s : DSection} {ep : Int} (h : riseS ep (l.take k)) (hx : l[k]? = some s) (hs : sectCheck s = 0) (he : lastEp ep (l.take k) < s.1) : riseS ep (l.take (k + 1)) ∧ lastEp ep (l.take (k + 1)) = s.1 ∧ sectEncs (l.take (k + 1)) = sectEncs (l.take k) ++ sectEnc s := by
  rw [take_one hx]
  refine ⟨rise_app.2 ⟨h, hs, he, trivial⟩, ?_, ?_⟩
  · unfold lastEp; rw [List.getLast?_append]; rfl
  · rw [sectEncs_app]; simp [sectEncs]
theorem scan_rise : ∀ {l : List DSection} {B r : Bytes} {out : List DSection} {a k : Nat} {ep : Int}, riseS ep l → B.drop a = sectEncs l ++ r → B.length - a ≤ k → (secRead r).2.2 = false → scanS k B out (a : Int) ep = (out ++ l, ((a + (sectEncs l).length : Nat) : Int))
  | [], B, r, out, a, k, ep, _, hd, hk, hr => by
    have hd' : B.drop (a : Int).toNat = r := by rw [Int.toNat_natCast, hd]; rfl
    rw [scan_end rfl (.inl (by rw [hd']; exact hr))]
    simp [sectEncs]
  | s :: l, B, r, out, a, k, ep, h, hd, hk, hr => by
    obtain ⟨h1, h2, h3⟩ := h
    rw [sectEncs_cons, List.append_assoc] at hd
    have hd' : secRead (B.drop (a : Int).toNat) = (s, ((sectEnc s).length : Int), true) := by rw [Int.toNat_natCast, hd]; exact secRead_there h1 _
    have hl := congrArg List.length hd
    have hp := (sectEnc_len h1).2.2
    simp only [List.length_drop, List.length_append] at hl
    rw [scan_next rfl (Int.natCast_nonneg _) (by omega) (by rw [hd']; simp) (by rw [hd']; dsimp only; omega), hd']
    dsimp only
    have hn : B.drop (a + (sectEnc s).length) = sectEncs l ++ r := by rw [← List.drop_drop, hd, List.drop_left]
    rw [← Int.natCast_add, scan_rise h3 hn (by omega) hr, sectEncs_cons]
    simp [Nat.add_assoc]
theorem scan_whole {l : List DSection} {r : Bytes} (h : riseS 0 l) (hr : (secRead r).2.2 = false) : scanF (sectEncs l ++ r) = (l, ((sectEncs l).length : Int)) := by
  have := scan_rise (B := sectEncs l ++ r) (out := []) (a := 0) (k := (sectEncs l ++ r).length) h rfl (by simp) hr
  unfold scanF
  rw [show ((0 : Nat) : Int) = 0 from rfl] at this
  rw [this]; simp
theorem sec_nil : (secRead []).2.2 = false := by
  have h := fRead_bounds []
  have : ¬ (fRead []).2.2 = 0 := fun q => by have h1 := h.2.2.2.2.1 q; have h2 := h.2.1; simp only [List.length_nil] at h2; omega
  rw [sec_no1 this]
def smallS (s : DSection) : Prop := (∀ c ∈ s.2.2, c.2.2.length ≤ 40) ∧ s.2.2.length ≤ 40
instance (s : DSection) : Decidable (smallS s) := by unfold smallS; infer_instance
theorem has_in {l : List DSection} {s : DSection} {c : DCommit} (hs : s ∈ l) (hc : c ∈ s.2.2) : hasS l c.1 c.2.1 = true :=
  List.any_eq_true.2 ⟨s, hs, List.any_eq_true.2 ⟨c, hc, decide_eq_true ⟨rfl, rfl⟩⟩⟩
theorem has_snoc {l : List DSection} {k : Nat} {s : DSection} {e n : Int} (hx : l[k]? = some s) : hasS (l.take (k + 1)) e n = (hasS (l.take k) e n || s.2.2.any fun c => decide (c.1 = e ∧ c.2.1 = n)) := by
  rw [take_one hx]; unfold hasS; rw [List.any_append]; simp
end
section
set_option linter.unusedVariables false
set_option linter.unusedSimpArgs false
set_option maxRecDepth 4000
theorem fnOk16 : fnOk Try.prog 16 = true := by kernel_rfl
theorem fnOk18 : fnOk Try.prog 18 = true := by kernel_rfl
theorem fnOk35 : fnOk Try.prog 35 = true := by kernel_rfl
theorem fnOk37 : fnOk Try.prog 37 = true := by kernel_rfl
theorem fnOk71 : fnOk Try.prog 71 = true := by kernel_rfl
theorem fnOk72 : fnOk Try.prog 72 = true := by kernel_rfl
theorem fnOk63 : fnOk Try.prog 63 = true := by kernel_rfl
theorem SameSections_ok (W : World) {v0 : Value} {d0 : List DSection} (h0 : Rd (.sl TSection) (wm W) [v0] d0) {v1 : Value} {d1 : List DSection} (h1 : Rd (.sl TSection) (wm W) [v1] d1) : CallR Try.prog 22 [v0, v1] W (mnil) (fun v m' => v = .bool (decide (d0 = d1))) := by
  obtain ⟨A0, c0, rfl, l0, k0⟩ := h0.slice
  simp only [maxLen] at k0
  obtain ⟨A1, c1, rfl, l1, k1⟩ := h1.slice
  simp only [maxLen] at k1
  refine CallR.ofA (n := 55) Try.func22 rfl rfl rfl ?_
  refine VC.rs ?_
  refine VO.as ?_
  refine VO.k3 0 1 4 ?_
  refine VC.seq ?_
  refine VC.rs ?_
  refine VO.mv ?_
  refine VO.y rfl (.lenS rfl tsl41) ?_
  refine VO.mv ?_
  refine VO.y rfl (.lenS rfl tsl41) ?_
  refine VO.y rfl (.neq rfl rfl) ?_
  refine VO.k4 0 1 4 10 ?_
  refine VC.cond rfl (fun hc1 => ?_) (fun hc1 => ?_)
  · -- T
    refine VC.rs ?_
    refine VO.as ?_
    refine VO.keep [0] [(0, wm W)] (by kernel_rfl) ?_
    refine VO.k4 0 1 4 10 ?_
    refine VC.ret ?_
    refine outR ?_
    refine ⟨_, _, res_run (rs := [.tmp 4]) rfl (.tmp rfl .nil), fun W_ hI => out_of (l := []) hI [] rfl rfl (mle_refl _) (fun hS_ => ?_)⟩
    dsimp only [packV]
    all_goals (first | rfl | (simp [len_ne hc1]))
  · -- F
    refine VC.skip ?_
    refine outN ?_
    refine VC.seq ?_
    refine VC.rs ?_
    refine VO.as ?_
    refine VO.keep [0] [(0, wm W)] (by kernel_rfl) ?_
    refine VO.k5 0 1 4 5 10 ?_
    refine VC.block ?_
    refine VC.loop (G := Nat) (fun k => [(5, Value.int .i64 (((k : Nat) : Int))), (0, Value.slice A0 (d0.length) (c0)), (1, Value.slice A1 (d1.length) (c1)), (10, Value.bool (decide (¬ ((d0.length : Nat) : Int) = ((d1.length : Nat) : Int))))]) (fun k => [(0, wm W)]) (fun k => (k ≤ d0.length) ∧ (d0.take k = d1.take k)) (fun k => d0.length - k) 0 (⟨by omega, by rfl⟩) ⟨⟨rfl, rfl, rfl, rfl, trivial⟩, fun _ h => h.sub [0]⟩ ?_
    rintro k ⟨hk, ht⟩
    refine VC.seq ?_
    refine VC.rs ?_
    refine VO.mv ?_
    refine VO.mv ?_
    refine VO.y rfl (.lenS rfl tsl41) ?_
    refine VO.y rfl (.lss rfl rfl) ?_
    refine VO.k5 0 1 5 10 14 ?_
    refine VC.cond rfl (fun hc2 => ?_) (fun hc2 => ?_)
    · -- FT
      refine VC.skip ?_
      refine outN ?_
      refine VC.seq ?_
      refine VC.block ?_
      refine VC.seq ?_
      refine VC.regD _ 35 [(0, true), (1, true), (2, true), (3, true), (4, true), (5, true), (6, true), (7, true), (8, true), (9, true), (10, true), (11, true), (12, true), (13, true), (14, true), (15, true), (16, true), (17, true), (18, true), (19, true), (20, true), (21, true), (22, true), (23, true), (24, true), (25, true), (26, true), (27, true), (28, true), (29, true), (30, true), (31, true), (32, true), (33, true), (34, true)] follows (by kernel_rfl) (fun _ h => h.sub [0]) ?_
      refine VD.y rfl rfl (.inl rfl) (.mv rfl) ?_
      refine VD.y rfl rfl (.inl rfl) (.mv rfl) ?_
      obtain ⟨x3, hx3⟩ : ∃ z_, (d0)[k]? = some z_ := ⟨_, List.getElem?_eq_getElem bd⟩
      obtain ⟨gg3, oo3, ec3, ea3, hce3, hre3⟩ := h0.elem hx3
      cases ea3
      obtain ⟨q3_A2, q3_c2, rfl, q3_0, q3_1, q3_2⟩ := open_Section (x0 := x3.1) (x1 := x3.2.1) (x2 := x3.2.2) hre3
      simp only [inK] at q3_0
      simp only [inK] at q3_1
      have q3_r2 := Rd.room q3_2
      refine VD.y rfl rfl (.inl rfl) (.ixI k rfl rfl tsl41 rfl bd) ?_
      refine VD.y rfl rfl (.inl rfl) (.fa rfl tst24 rfl) ?_
      refine VD.y rfl rfl (.inl rfl) (.ld1 0 rfl tk3 rfl (hce3.at1 (j := 0) rfl)) ?_
      refine VD.y rfl rfl (.inl rfl) (.mv rfl) ?_
      refine VD.y rfl rfl (.inl rfl) (.mv rfl) ?_
      obtain ⟨x4, hx4⟩ : ∃ z_, (d1)[k]? = some z_ := ⟨_, List.getElem?_eq_getElem bd⟩
      obtain ⟨gg4, oo4, ec4, ea4, hce4, hre4⟩ := h1.elem hx4
      cases ea4
      obtain ⟨q4_A2, q4_c2, rfl, q4_0, q4_1, q4_2⟩ := open_Section (x0 := x4.1) (x1 := x4.2.1) (x2 := x4.2.2) hre4
      simp only [inK] at q4_0
      simp only [inK] at q4_1
      have q4_r2 := Rd.room q4_2
      refine VD.y rfl rfl (.inl rfl) (.ixI k rfl rfl tsl41 rfl bd) ?_
      refine VD.y rfl rfl (.inl rfl) (.fa rfl tst24 rfl) ?_
      refine VD.y rfl rfl (.inl rfl) (.ld1 0 rfl tk3 rfl (hce4.at1 (j := 0) rfl)) ?_
      refine VD.y rfl rfl (.inl rfl) (.neq rfl rfl) ?_
      refine VD.y rfl rfl (.inl rfl) (.mv rfl) ?_
      refine VD.dec (s := 28) rfl (fun hc5 => ?_) (fun hc5 => ?_)
      · -- FTT
        refine VD.gn rfl rfl (.inl ⟨_, rfl, rfl⟩) ?_
        refine VD.gn rfl rfl (.inl ⟨_, rfl, rfl⟩) ?_
        refine VD.gn rfl rfl (.inl ⟨_, rfl, rfl⟩) ?_
        refine VD.gn rfl rfl (.inl ⟨_, rfl, rfl⟩) ?_
        refine VD.gn rfl rfl (.inl ⟨_, rfl, rfl⟩) ?_
        refine VD.gn rfl rfl (.inl ⟨_, rfl, rfl⟩) ?_
        refine VD.gn rfl rfl (.inl ⟨_, rfl, rfl⟩) ?_
        refine VD.gn rfl rfl (.inl ⟨_, rfl, rfl⟩) ?_
        refine VD.gn rfl rfl (.inl ⟨_, rfl, rfl⟩) ?_
        refine VD.gn rfl rfl (.inl ⟨_, rfl, rfl⟩) ?_
        refine VD.gn rfl rfl (.inl ⟨_, rfl, rfl⟩) ?_
        refine VD.y rfl rfl (.inl rfl) (.pT rfl rfl) ?_
        refine VD.y rfl rfl (.inl rfl) (.mv rfl) ?_
        refine VD.gn rfl rfl (.inl ⟨_, rfl, rfl⟩) ?_
        refine VD.gn rfl rfl (.inl ⟨_, rfl, rfl⟩) ?_
        refine VD.gn rfl rfl (.inl ⟨_, rfl, rfl⟩) ?_
        refine VD.gn rfl rfl (.inl ⟨_, rfl, rfl⟩) ?_
        refine VD.gn rfl rfl (.inl ⟨_, rfl, rfl⟩) ?_
        refine VD.gn rfl rfl (.inl ⟨_, rfl, rfl⟩) ?_
        refine VD.gn rfl rfl (.inl ⟨_, rfl, rfl⟩) ?_
        refine VD.gn rfl rfl (.inl ⟨_, rfl, rfl⟩) ?_
        refine VD.gn rfl rfl (.inl ⟨_, rfl, rfl⟩) ?_
        refine VD.gn rfl rfl (.inl ⟨_, rfl, rfl⟩) ?_
        refine VD.nil rfl ?_ rfl
        refine VO.gN ?_
        refine VO.gN ?_
        refine VO.y rfl (.pT rfl rfl) ?_
        refine VO.k6 0 1 5 10 14 54 ?_
        refine outN ?_
        refine VC.condT rfl ?_
        refine VC.rs ?_
        refine VO.as ?_
        refine VO.keep [0] [(0, wm W)] (by kernel_rfl) ?_
        refine VO.k7 0 1 4 5 10 14 54 ?_
        refine VC.ret ?_
        refine outBR ?_
        refine outR ?_
        refine outR ?_
        refine outBR ?_
        refine outR ?_
        refine ⟨_, _, res_run (rs := [.tmp 4]) rfl (.tmp rfl .nil), fun W_ hI => out_of (l := []) hI [] rfl rfl (mle_refl _) (fun hS_ => ?_)⟩
        dsimp only [packV]
        all_goals (first | rfl | (exact congrArg Value.bool (decide_eq_false (get_ne ‹d0[k]? = some _› ‹d1[k]? = some _› (fun e => by subst e; first | exact absurd rfl ‹¬ _ = _› | omega))).symm))
      · -- FTF
        refine VD.y rfl rfl (.inr ⟨_, _, rfl, _, rfl, rfl⟩) (.mv rfl) ?_
        refine VD.y rfl rfl (.inr ⟨_, _, rfl, _, rfl, rfl⟩) (.mv rfl) ?_
        refine VD.y rfl rfl (.inr ⟨_, _, rfl, _, rfl, rfl⟩) (.ixI k rfl rfl tsl41 rfl bd) ?_
        refine VD.y rfl rfl (.inr ⟨_, _, rfl, _, rfl, rfl⟩) (.fa rfl tst24 rfl) ?_
        refine VD.y rfl rfl (.inr ⟨_, _, rfl, _, rfl, rfl⟩) (.ld1 0 rfl tk3 rfl (hce3.at1 (j := 1) rfl)) ?_
        refine VD.y rfl rfl (.inr ⟨_, _, rfl, _, rfl, rfl⟩) (.mv rfl) ?_
        refine VD.y rfl rfl (.inr ⟨_, _, rfl, _, rfl, rfl⟩) (.mv rfl) ?_
        refine VD.y rfl rfl (.inr ⟨_, _, rfl, _, rfl, rfl⟩) (.ixI k rfl rfl tsl41 rfl bd) ?_
        refine VD.y rfl rfl (.inr ⟨_, _, rfl, _, rfl, rfl⟩) (.fa rfl tst24 rfl) ?_
        refine VD.y rfl rfl (.inr ⟨_, _, rfl, _, rfl, rfl⟩) (.ld1 0 rfl tk3 rfl (hce4.at1 (j := 1) rfl)) ?_
        refine VD.y rfl rfl (.inr ⟨_, _, rfl, _, rfl, rfl⟩) (.neq rfl rfl) ?_
        refine VD.y rfl rfl (.inl rfl) (.pF rfl rfl) ?_
        refine VD.y rfl rfl (.inl rfl) (.mv rfl) ?_
        refine VD.dec (s := 41) rfl (fun hc8 => ?_) (fun hc8 => ?_)
        · -- FTFT
          refine VD.gn rfl rfl (.inl ⟨_, rfl, rfl⟩) ?_
          refine VD.gn rfl rfl (.inl ⟨_, rfl, rfl⟩) ?_
          refine VD.gn rfl rfl (.inl ⟨_, rfl, rfl⟩) ?_
          refine VD.gn rfl rfl (.inl ⟨_, rfl, rfl⟩) ?_
          refine VD.gn rfl rfl (.inl ⟨_, rfl, rfl⟩) ?_
          refine VD.gn rfl rfl (.inl ⟨_, rfl, rfl⟩) ?_
          refine VD.gn rfl rfl (.inl ⟨_, rfl, rfl⟩) ?_
          refine VD.gn rfl rfl (.inl ⟨_, rfl, rfl⟩) ?_
          refine VD.gn rfl rfl (.inl ⟨_, rfl, rfl⟩) ?_
          refine VD.gn rfl rfl (.inl ⟨_, rfl, rfl⟩) ?_
          refine VD.nil rfl ?_ rfl
          refine VO.gN ?_
          refine VO.gN ?_
          refine VO.y rfl (.pT rfl rfl) ?_
          refine VO.k6 0 1 5 10 14 54 ?_
          refine outN ?_
          refine VC.condT rfl ?_
          refine VC.rs ?_
          refine VO.as ?_
          refine VO.keep [0] [(0, wm W)] (by kernel_rfl) ?_
          refine VO.k7 0 1 4 5 10 14 54 ?_
          refine VC.ret ?_
          refine outBR ?_
          refine outR ?_
          refine outR ?_
          refine outBR ?_
          refine outR ?_
          refine ⟨_, _, res_run (rs := [.tmp 4]) rfl (.tmp rfl .nil), fun W_ hI => out_of (l := []) hI [] rfl rfl (mle_refl _) (fun hS_ => ?_)⟩
          dsimp only [packV]
          all_goals (first | rfl | (exact congrArg Value.bool (decide_eq_false (get_ne ‹d0[k]? = some _› ‹d1[k]? = some _› (fun e => by subst e; first | exact absurd rfl ‹¬ _ = _› | omega))).symm))
        · -- FTFF
          refine VD.y rfl rfl (.inr ⟨_, _, rfl, _, rfl, rfl⟩) (.mv rfl) ?_
          refine VD.y rfl rfl (.inr ⟨_, _, rfl, _, rfl, rfl⟩) (.mv rfl) ?_
          refine VD.y rfl rfl (.inr ⟨_, _, rfl, _, rfl, rfl⟩) (.ixI k rfl rfl tsl41 rfl bd) ?_
          refine VD.y rfl rfl (.inr ⟨_, _, rfl, _, rfl, rfl⟩) (.fa rfl tst24 rfl) ?_
          refine VD.y rfl rfl (.inr ⟨_, _, rfl, _, rfl, rfl⟩) (.ld1 0 rfl tk22 rfl (hce3.at1 (j := 2) rfl)) ?_
          refine VD.y rfl rfl (.inr ⟨_, _, rfl, _, rfl, rfl⟩) (.mv rfl) ?_
          refine VD.y rfl rfl (.inr ⟨_, _, rfl, _, rfl, rfl⟩) (.mv rfl) ?_
          refine VD.y rfl rfl (.inr ⟨_, _, rfl, _, rfl, rfl⟩) (.ixI k rfl rfl tsl41 rfl bd) ?_
          refine VD.y rfl rfl (.inr ⟨_, _, rfl, _, rfl, rfl⟩) (.fa rfl tst24 rfl) ?_
          refine VD.y rfl rfl (.inr ⟨_, _, rfl, _, rfl, rfl⟩) (.ld1 0 rfl tk22 rfl (hce4.at1 (j := 2) rfl)) ?_
          refine VD.nil rfl ?_ rfl
          refine VO.gcallN 111 rfl ⟨_, rfl, rfl⟩ fnOk63 rfl (fun W hW => SameCommits_ok W (Rd.mono q3_2 (hW.at (i := 0) rfl)) (Rd.mono q4_2 (hW.at (i := 0) rfl))) (fun v11 m11 hv11 => ?_)
          subst hv11
          refine VO.gy rfl ⟨_, rfl, rfl⟩ (.notD rfl) ?_
          refine VO.y rfl (.pF rfl rfl) ?_
          refine VO.k6 0 1 5 10 14 54 ?_
          refine outN ?_
          refine VC.cond rfl (fun hc12 => ?_) (fun hc12 => ?_)
          · -- FTFFT
            refine VC.rs ?_
            refine VO.as ?_
            refine VO.keep [0] [(0, wm W)] (by kernel_rfl) ?_
            refine VO.k7 0 1 4 5 10 14 54 ?_
            refine VC.ret ?_
            refine outBR ?_
            refine outR ?_
            refine outR ?_
            refine outBR ?_
            refine outR ?_
            refine ⟨_, _, res_run (rs := [.tmp 4]) rfl (.tmp rfl .nil), fun W_ hI => out_of (l := []) hI [] rfl rfl (mle_refl _) (fun hS_ => ?_)⟩
            dsimp only [packV]
            all_goals (first | rfl | (exact congrArg Value.bool (decide_eq_false (get_ne ‹d0[k]? = some _› ‹d1[k]? = some _› (fun e => by subst e; first | exact absurd rfl ‹¬ _ = _› | omega))).symm))
          · -- FTFFF
            refine VC.skip ?_
            refine outBN ?_
            refine outN ?_
            refine VC.reg ?_
            refine VO.mv ?_
            refine VO.y rfl (.add (c := ((k + 1 : Nat) : Int)) rfl rfl (by omega) ⟨bd, bd⟩) ?_
            refine VO.as ?_
            refine VO.keep [0] [(0, wm W)] (by kernel_rfl) ?_
            refine VO.k6 0 1 5 10 14 54 ?_
            exact outN ⟨k + 1, ⟨by omega, by exact take_next ht ‹d0[k]? = some _› ‹d1[k]? = some _› (Prod.ext (by omega) (Prod.ext (by omega) (Decidable.not_not.1 (by assumption))))⟩, bd, ⟨⟨rfl, rfl, rfl, rfl, trivial⟩, fun _ h => Inv.sub h [0]⟩⟩
    · -- FF
      refine VC.exit ?_
      refine outE ?_
      refine outE ?_
      refine outBB ?_
      refine outN ?_
      refine VC.rs ?_
      refine VO.as ?_
      refine VO.k6 0 1 4 5 10 14 ?_
      refine VC.ret ?_
      refine ⟨_, _, res_run (rs := [.tmp 4]) rfl (.tmp rfl .nil), fun W_ hI => out_of (l := []) hI [] rfl rfl (mle_refl _) (fun hS_ => ?_)⟩
      dsimp only [packV]
      all_goals (first | rfl | (simp [take_all ht (by omega) (by omega)]))
theorem oHas_ok (W : World) {v0 : Value} {d0 : List UInt8} (h0 : Rd (.sl .byte) (wm W) [v0] d0) (d1 : Int) (h1 : inK .i64 d1) (d2 : Int) (h2 : inK .i64 d2) (e0 : d0.length ≤ 1000000000000) : CallR Try.prog 12 [v0, .int .i64 d1, .int .i64 d2] W (mnil) (fun v m' => v = .bool (hasS (scanF d0).1 d1 d2)) := by
  obtain ⟨A0, c0, rfl, l0, k0⟩ := h0.slice
  simp only [maxLen] at k0
  have h1' := h1; simp only [inK] at h1'
  have h2' := h2; simp only [inK] at h2'
  refine CallR.ofA (n := 43) Try.func12 rfl rfl rfl ?_
  refine VC.rs ?_
  refine VO.as ?_
  refine VO.k4 0 1 2 6 ?_
  refine VC.rs ?_
  refine VO.mv ?_
  refine VO.callN 101 rfl fnOk18 rfl (fun W hW => oScan_ok W (Rd.mono h0 (hW.at (i := 0) rfl)) bd) (fun v1 m1 hv1 => ?_)
  obtain ⟨s1_0, rfl, f1_0⟩ := hv1
  have hfa2 := scanF_bounds d0
  obtain ⟨A1_0, c1_0, eq1_0, l1_0, k1_0⟩ := f1_0.slice
  subst eq1_0
  simp only [maxLen] at k1_0
  refine VO.mv ?_
  refine VO.y rfl (.ext rfl rfl) ?_
  refine VO.y rfl (.ext rfl rfl) ?_
  refine VO.as ?_
  refine VO.as ?_
  refine VO.k5 0 1 2 6 7 ?_
  refine VC.seq ?_
  refine VC.rs ?_
  refine VO.mv ?_
  refine VO.y rfl (.lenS rfl tsl41) ?_
  refine VO.mv ?_
  refine VO.keep [101, 0] [(101, m1), (0, wm W)] (by kernel_rfl) ?_
  refine VO.k8 0 1 2 6 7 18 19 20 ?_
  refine VC.block ?_
  refine VC.loop (G := Nat) (fun k => [(20, Value.int .i64 (((k : Nat) : Int))), (0, Value.slice A0 (d0.length) (c0)), (1, Value.int .i64 (d1)), (2, Value.int .i64 (d2)), (7, Value.slice A1_0 (((scanF d0).1).length) (c1_0)), (18, Value.slice A1_0 (((scanF d0).1).length) (c1_0)), (19, Value.int .i64 (((((scanF d0).1).length : Nat) : Int)))]) (fun k => [(101, m1), (0, wm W)]) (fun k => (k ≤ (scanF d0).1.length) ∧ (((scanF d0).1.take k).any (fun s => s.2.2.any fun c => decide (c.1 = d1 ∧ c.2.1 = d2)) = false)) (fun k => (scanF d0).1.length - k) 0 (⟨by first | omega | (dsimp only; omega), by rfl⟩) ⟨⟨rfl, rfl, rfl, rfl, rfl, rfl, rfl, trivial⟩, fun _ h => h.sub [101, 0]⟩ ?_
  rintro k ⟨hk, ha⟩
  refine VC.rs ?_
  refine VO.y rfl (.lss rfl rfl) ?_
  refine VO.k8 0 1 2 7 18 19 20 21 ?_
  refine VC.seq ?_
  refine VC.cond rfl (fun hc3 => ?_) (fun hc3 => ?_)
  · -- T
    refine VC.skip ?_
    refine outN ?_
    refine VC.seq ?_
    refine VC.block ?_
    refine VC.rs ?_
    obtain ⟨x4, hx4⟩ : ∃ z_, ((scanF d0).1)[k]? = some z_ := ⟨_, List.getElem?_eq_getElem bd⟩
    obtain ⟨gg4, oo4, ec4, ea4, hce4, hre4⟩ := (Ow.rd f1_0 (mle_refl _)).elem hx4
    cases ea4
    obtain ⟨q4_A2, q4_c2, rfl, q4_0, q4_1, q4_2⟩ := open_Section (x0 := x4.1) (x1 := x4.2.1) (x2 := x4.2.2) hre4
    simp only [inK] at q4_0
    simp only [inK] at q4_1
    have q4_r2 := Rd.room q4_2
    refine VO.y rfl (.ixI k rfl rfl tsl41 rfl bd) ?_
    refine VO.y rfl (.ldA 101 rfl tk24 rfl hce4) ?_
    refine VO.alloc 106 rfl tz24 (fun g5 => ?_)
    refine VO.store (k := 3) (c' := [Value.int .i64 (x4.1), Value.int .i64 (x4.2.1), Value.slice q4_A2 (x4.2.2.length) (q4_c2)]) 106 rfl rfl (.inl tk24) rfl rfl rfl rfl rfl ?_
    refine VO.k9 0 1 2 7 10 18 19 20 21 ?_
    refine VC.rs ?_
    refine VO.y rfl (.fa rfl tst24 rfl) ?_
    refine VO.y rfl (.ld1 106 rfl tk22 rfl (cellsAt_one rfl rfl)) ?_
    refine VO.y rfl (.lenS rfl tsl22) ?_
    refine VO.mv ?_
    refine VO.keep [106, 101, 0] [(106, mone g5 (.cells [Value.int .i64 (x4.1), Value.int .i64 (x4.2.1), Value.slice q4_A2 (x4.2.2.length) (q4_c2)].toArray 24 (0, 0))), (101, m1), (0, wm W)] (by kernel_rfl) ?_
    refine VO.k12 0 1 2 7 10 18 19 20 21 25 26 27 ?_
    refine VC.block ?_
    refine VC.loop (G := Nat) (fun j => [(27, Value.int .i64 (((j : Nat) : Int))), (0, Value.slice A0 (d0.length) (c0)), (1, Value.int .i64 (d1)), (2, Value.int .i64 (d2)), (7, Value.slice (some ⟨gg4, oo4, none⟩) (((scanF d0).1).length) (c1_0)), (10, Value.pointer (some ⟨g5, 0, none⟩)), (18, Value.slice (some ⟨gg4, oo4, none⟩) (((scanF d0).1).length) (c1_0)), (19, Value.int .i64 (((((scanF d0).1).length : Nat) : Int))), (20, Value.int .i64 (((k : Nat) : Int))), (21, Value.bool (decide (((k : Nat) : Int) < ((((scanF d0).1).length : Nat) : Int)))), (25, Value.slice q4_A2 (x4.2.2.length) (q4_c2)), (26, Value.int .i64 (((x4.2.2.length : Nat) : Int)))]) (fun j => [(106, mone g5 (.cells [Value.int .i64 (x4.1), Value.int .i64 (x4.2.1), Value.slice q4_A2 (x4.2.2.length) (q4_c2)].toArray 24 (0, 0))), (101, m1), (0, wm W)]) (fun j => (j ≤ x4.2.2.length) ∧ ((x4.2.2.take j).any (fun c => decide (c.1 = d1 ∧ c.2.1 = d2)) = false)) (fun j => x4.2.2.length - j) 0 (⟨by omega, by rfl⟩) ⟨⟨rfl, rfl, rfl, rfl, rfl, rfl, rfl, rfl, rfl, rfl, rfl, rfl, trivial⟩, fun _ h => h.sub [106, 101, 0]⟩ ?_
    rintro j ⟨hj, hb⟩
    refine VC.rs ?_
    refine VO.y rfl (.lss rfl rfl) ?_
    refine VO.k13 0 1 2 7 10 18 19 20 21 25 26 27 28 ?_
    refine VC.seq ?_
    refine VC.cond rfl (fun hc7 => ?_) (fun hc7 => ?_)
    · -- TT
      refine VC.skip ?_
      refine outN ?_
      refine VC.seq ?_
      refine VC.block ?_
      refine VC.rs ?_
      obtain ⟨x8, hx8⟩ : ∃ z_, (x4.2.2)[j]? = some z_ := ⟨_, List.getElem?_eq_getElem bd⟩
      obtain ⟨gg8, oo8, ec8, ea8, hce8, hre8⟩ := q4_2.elem hx8
      cases ea8
      obtain ⟨q8_A2, q8_c2, rfl, q8_0, q8_1, q8_2⟩ := open_Commit (x0 := x8.1) (x1 := x8.2.1) (x2 := x8.2.2) hre8
      simp only [inK] at q8_0
      simp only [inK] at q8_1
      have q8_r2 := Rd.room q8_2
      refine VO.y rfl (.ixI j rfl rfl tsl22 rfl bd) ?_
      refine VO.y rfl (.ldA 101 rfl tk32 rfl hce8) ?_
      refine VO.alloc 110 rfl tz32 (fun g9 => ?_)
      refine VO.store (k := 3) (c' := [Value.int .i64 (x8.1), Value.int .i64 (x8.2.1), Value.slice q8_A2 (x8.2.2.length) (q8_c2)]) 110 rfl rfl (.inl tk32) rfl rfl rfl rfl rfl ?_
      refine VO.k14 0 1 2 7 10 12 18 19 20 21 25 26 27 28 ?_
      refine VC.rs ?_
      refine VO.y rfl (.fa rfl tst32 rfl) ?_
      refine VO.y rfl (.ld1 110 rfl tk3 rfl (cellsAt_one rfl rfl)) ?_
      refine VO.mv ?_
      refine VO.y rfl (.eql rfl rfl) ?_
      refine VO.mv ?_
      refine VO.dec (t := 35) rfl (fun hc11 => ?_) (fun hc11 => ?_)
      · -- TTT
        refine VO.gy rfl ⟨_, rfl, rfl⟩ (.fa rfl tst32 rfl) ?_
        refine VO.gy rfl ⟨_, rfl, rfl⟩ (.ld1 110 rfl tk3 rfl (cellsAt_one rfl rfl)) ?_
        refine VO.gy rfl ⟨_, rfl, rfl⟩ (.mv rfl) ?_
        refine VO.gy rfl ⟨_, rfl, rfl⟩ (.eql rfl rfl) ?_
        refine VO.y rfl (.pT rfl rfl) ?_
        refine VO.keep [110, 106, 101, 0] [(110, mone g9 (.cells [Value.int .i64 (x8.1), Value.int .i64 (x8.2.1), Value.slice q8_A2 (x8.2.2.length) (q8_c2)].toArray 32 (0, 0))), (106, mone g5 (.cells [Value.int .i64 (x4.1), Value.int .i64 (x4.2.1), Value.slice (some ⟨gg8, oo8, none⟩) (x4.2.2.length) (q4_c2)].toArray 24 (0, 0))), (101, m1), (0, wm W)] (by kernel_rfl) ?_
        refine VO.k15 0 1 2 7 10 12 18 19 20 21 25 26 27 28 40 ?_
        refine VC.cond rfl (fun hc12 => ?_) (fun hc12 => ?_)
        · -- TTTT
          refine VC.rs ?_
          refine VO.as ?_
          refine VO.k16 0 1 2 6 7 10 12 18 19 20 21 25 26 27 28 40 ?_
          refine VC.ret ?_
          refine outBR ?_
          refine outR ?_
          refine outR ?_
          refine outBR ?_
          refine outBR ?_
          refine outR ?_
          refine outR ?_
          refine outBR ?_
          refine outR ?_
          refine ⟨_, _, res_run (rs := [.tmp 6]) rfl (.tmp rfl .nil), fun W_ hI => out_of (l := []) hI [] rfl rfl (mle_refl _) (fun hS_ => ?_)⟩
          dsimp only [packV]
          all_goals (first | rfl | (first | exact congrArg Value.bool (has_end ha (by omega)).symm | exact congrArg Value.bool (has_yes ‹(scanF d0).1[k]? = some _› ‹_[j]? = some _› (by omega) (by omega)).symm))
        · -- TTTF
          refine VC.skip ?_
          refine outBN ?_
          refine outN ?_
          refine VC.reg ?_
          refine VO.y rfl (.add (c := ((j + 1 : Nat) : Int)) rfl rfl (by omega) ⟨bd, bd⟩) ?_
          refine VO.mv ?_
          refine VO.k15 0 1 2 7 10 12 18 19 20 21 25 26 27 28 40 ?_
          exact outN ⟨j + 1, ⟨by omega, by exact any_next hb ‹_[j]? = some _› (decide_eq_false (by omega))⟩, bd, ⟨⟨rfl, rfl, rfl, rfl, rfl, rfl, rfl, rfl, rfl, rfl, rfl, rfl, trivial⟩, fun _ h => Inv.sub h [106, 101, 0]⟩⟩
      · -- TTF
        refine VO.gN ?_
        refine VO.gN ?_
        refine VO.gN ?_
        refine VO.gN ?_
        refine VO.y rfl (.pF rfl rfl) ?_
        refine VO.keep [110, 106, 101, 0] [(110, mone g9 (.cells [Value.int .i64 (x8.1), Value.int .i64 (x8.2.1), Value.slice q8_A2 (x8.2.2.length) (q8_c2)].toArray 32 (0, 0))), (106, mone g5 (.cells [Value.int .i64 (x4.1), Value.int .i64 (x4.2.1), Value.slice (some ⟨gg8, oo8, none⟩) (x4.2.2.length) (q4_c2)].toArray 24 (0, 0))), (101, m1), (0, wm W)] (by kernel_rfl) ?_
        refine VO.k15 0 1 2 7 10 12 18 19 20 21 25 26 27 28 40 ?_
        refine VC.condF rfl ?_
        refine VC.skip ?_
        refine outBN ?_
        refine outN ?_
        refine VC.reg ?_
        refine VO.y rfl (.add (c := ((j + 1 : Nat) : Int)) rfl rfl (by omega) ⟨bd, bd⟩) ?_
        refine VO.mv ?_
        refine VO.k15 0 1 2 7 10 12 18 19 20 21 25 26 27 28 40 ?_
        exact outN ⟨j + 1, ⟨by omega, by exact any_next hb ‹_[j]? = some _› (decide_eq_false (by omega))⟩, bd, ⟨⟨rfl, rfl, rfl, rfl, rfl, rfl, rfl, rfl, rfl, rfl, rfl, rfl, trivial⟩, fun _ h => Inv.sub h [106, 101, 0]⟩⟩
    · -- TF
      refine VC.exit ?_
      refine outE ?_
      refine outE ?_
      refine outBB ?_
      refine outBN ?_
      refine outN ?_
      refine VC.reg ?_
      refine VO.y rfl (.add (c := ((k + 1 : Nat) : Int)) rfl rfl (by omega) ⟨bd, bd⟩) ?_
      refine VO.mv ?_
      refine VO.k13 0 1 2 7 10 18 19 20 21 25 26 27 28 ?_
      exact outN ⟨k + 1, ⟨by omega, by exact any_next ha ‹(scanF d0).1[k]? = some _› (any_end hb (by omega))⟩, bd, ⟨⟨rfl, rfl, rfl, rfl, rfl, rfl, rfl, trivial⟩, fun _ h => Inv.sub h [101, 0]⟩⟩
  · -- F
    refine VC.exit ?_
    refine outE ?_
    refine outE ?_
    refine outBB ?_
    refine outN ?_
    refine VC.rs ?_
    refine VO.as ?_
    refine VO.k9 0 1 2 6 7 18 19 20 21 ?_
    refine VC.ret ?_
    refine ⟨_, _, res_run (rs := [.tmp 6]) rfl (.tmp rfl .nil), fun W_ hI => out_of (l := []) hI [] rfl rfl (mle_refl _) (fun hS_ => ?_)⟩
    dsimp only [packV]
    all_goals (first | rfl | (first | exact congrArg Value.bool (has_end ha (by omega)).symm | exact congrArg Value.bool (has_yes ‹(scanF d0).1[k]? = some _› ‹_[j]? = some _› (by omega) (by omega)).symm))
theorem fin0_oWrite_ok {P : Prop} (h : P := by first | (rw [ow_bad1 (by assumption)] <;> rfl) | (rw [ow_bad2 (by assumption) (by assumption)] <;> rfl) | (rw [ow_bad3 (by assumption) (by assumption) (by omega)] <;> rfl) | (rw [ow_cutbad (by assumption) (by assumption) (by omega) (by omega) (by omega) (by assumption)] <;> rfl) | (rw [ow_wbad1 (by assumption) (by assumption) (by omega) (by omega) (by omega) (by assumption) (by assumption)] <;> rfl) | (rw [ow_good1 (by assumption) (by assumption) (by omega) (by omega) (by omega) (by assumption) (by assumption)] <;> rfl) | (rw [ow_wbad2 (by assumption) (by assumption) (by omega) (by omega) (by omega) (by assumption)] <;> rfl) | (rw [ow_good2 (by assumption) (by assumption) (by omega) (by omega) (by omega) (by assumption)] <;> rfl)) : P := h
theorem oWrite_ok (W : World) {m0 : Mem} (hm : mle (m0) (wm W)) {g0 : Nat} {d0 : DdiskDisk} (h0 : Ow (.ptr TdiskDisk) m0 [.pointer (some ⟨g0, 0, none⟩)] (g0, d0)) (d1 : Int) (h1 : inK .i64 d1) {v2 : List Value} {d2 : DSection} (h2 : Rd TSection (mout (wm W) (m0)) v2 d2) (e0 : okD d0) (e1 : wD d0 ≤ 100000000000) : CallR Try.prog 29 [.pointer (some ⟨g0, 0, none⟩), .int .i64 d1, .agg v2.toArray] W (m0) (fun v m' => v = .int .i64 ((orphW d0 d1 d2).2) ∧ Ow (.ptr TdiskDisk) m' [.pointer (some ⟨g0, 0, none⟩)] (g0, (orphW d0 d1 d2).1)) := by
  have h1' := h1; simp only [inK] at h1'
  obtain ⟨p2_A2, p2_c2, rfl, p2_0, p2_1, p2_2⟩ := open_Section (x0 := d2.1) (x1 := d2.2.1) (x2 := d2.2.2) h2
  simp only [inK] at p2_0
  simp only [inK] at p2_1
  have p2_r2 := Rd.room p2_2
  refine CallR.ofB (n := 54) hm Try.func29 rfl rfl rfl ?_
  refine VC.rs ?_
  refine VO.box (cs := [Value.int .i64 (d2.1), Value.int .i64 (d2.2.1), Value.slice p2_A2 (d2.2.2.length) (p2_c2)]) 102 rfl rfl rfl (fun g1 => ?_)
  refine VO.as ?_
  refine VO.k5 0 1 2 5 6 ?_
  refine VC.rs ?_
  refine VO.mv ?_
  refine VO.call 1 rfl fnOk71 rfl rfl (fun W hW => dRead_ok W (hW.at (i := 1) rfl) h0 3 bdk (by assumption) bd) (fun v3 m3 hv3 => ?_)
  obtain ⟨s3_0, p3_0, p3_1, rfl, hS3, f3_0, w3_0⟩ := hv3
  refine VO.inv _ (fun _ h => h.parts (i := 1) rfl hS3 [104, 105]) ?_
  have hfa6 := (read_size d0 3)
  obtain ⟨A3_0, c3_0, eq3_0, l3_0, k3_0⟩ := f3_0.slice
  subst eq3_0
  simp only [maxLen] at k3_0
  refine VO.mv ?_
  refine VO.y rfl (.ext rfl rfl) ?_
  refine VO.y rfl (.ext rfl rfl) ?_
  refine VO.as ?_
  refine VO.as ?_
  refine VO.k7 0 1 2 5 6 7 8 ?_
  refine VC.seq ?_
  refine VC.rs ?_
  refine VO.mv ?_
  refine VO.y rfl (.neq rfl rfl) ?_
  refine VO.keep [104, 105, 102, 0] [(104, p3_0), (105, p3_1), (102, mone g1 (.cells [Value.int .i64 (d2.1), Value.int .i64 (d2.2.1), Value.slice p2_A2 (d2.2.2.length) (p2_c2)].toArray 24 (0, 0))), (0, mout (wm W) (m0))] (by kernel_rfl) ?_
  refine VO.k8 0 1 2 5 6 7 8 18 ?_
  refine VC.cond rfl (fun hc7 => ?_) (fun hc7 => ?_)
  · -- T
    refine VC.rs ?_
    refine VO.mv ?_
    refine VO.as ?_
    refine VO.k8 0 1 2 5 6 7 8 18 ?_
    refine VC.ret ?_
    refine outR ?_
    refine ⟨_, _, res_run (rs := [.tmp 6]) rfl (.tmp rfl .nil), fun W_ hI => out_of (l := [p3_1]) hI [105] rfl rfl (mle_refl _) (fun hS_ => ?_)⟩
    dsimp only [packV]
    have hm0_ : ((orphW d0 d1 d2).1 : DdiskDisk) = d0 := by first | rfl | (exact fin0_oWrite_ok)
    refine ⟨?_, ?_⟩
    rotate_left
    · rw [hm0_]; exact (Ow.up w3_0 (hS_.1 _ (.head _)))
    all_goals (first | rfl | (exact fin0_oWrite_ok))
  · -- F
    refine VC.skip ?_
    refine outN ?_
    refine VC.rs ?_
    refine VO.y rfl (.ldA 102 rfl tk24 rfl (cellsAt_one rfl rfl)) ?_
    refine VO.callN 108 rfl fnOk16 rfl (fun W hW => sectEncode_ok W (Rd.mono h2 (hW.at (i := 0) rfl))) (fun v8 m8 hv8 => ?_)
    obtain ⟨s8_0, rfl, f8_0⟩ := hv8
    have hfa9 := sectEncode_len d2
    obtain ⟨A8_0, c8_0, eq8_0, l8_0, k8_0⟩ := f8_0.slice
    subst eq8_0
    simp only [maxLen] at k8_0
    refine VO.mv ?_
    refine VO.y rfl (.ext rfl rfl) ?_
    refine VO.y rfl (.ext rfl rfl) ?_
    refine VO.as ?_
    refine VO.as ?_
    refine VO.k9 0 1 2 5 6 7 8 9 18 ?_
    refine VC.seq ?_
    refine VC.rs ?_
    refine VO.mv ?_
    refine VO.y rfl (.neq rfl rfl) ?_
    refine VO.k10 0 1 2 5 6 7 8 9 18 26 ?_
    refine VC.cond rfl (fun hc10 => ?_) (fun hc10 => ?_)
    · -- FT
      refine VC.rs ?_
      refine VO.mv ?_
      refine VO.as ?_
      refine VO.keep [108, 104, 105, 102, 0] [(108, m8), (104, p3_0), (105, p3_1), (102, mone g1 (.cells [Value.int .i64 (d2.1), Value.int .i64 (d2.2.1), Value.slice p2_A2 (d2.2.2.length) (p2_c2)].toArray 24 (0, 0))), (0, mout (wm W) (m0))] (by kernel_rfl) ?_
      refine VO.k10 0 1 2 5 6 7 8 9 18 26 ?_
      refine VC.ret ?_
      refine outR ?_
      refine ⟨_, _, res_run (rs := [.tmp 6]) rfl (.tmp rfl .nil), fun W_ hI => out_of (l := [p3_1]) hI [105] rfl rfl (mle_refl _) (fun hS_ => ?_)⟩
      dsimp only [packV]
      have hm0_ : ((orphW d0 d1 d2).1 : DdiskDisk) = d0 := by first | rfl | (exact fin0_oWrite_ok)
      refine ⟨?_, ?_⟩
      rotate_left
      · rw [hm0_]; exact (Ow.up w3_0 (hS_.1 _ (.head _)))
      all_goals (first | rfl | (exact fin0_oWrite_ok))
    · -- FF
      refine VC.skip ?_
      refine outN ?_
      refine VC.seq ?_
      refine VC.rs ?_
      refine VO.mv ?_
      refine VO.y rfl (.lss rfl rfl) ?_
      refine VO.mv ?_
      refine VO.dec (t := 30) rfl (fun hc11 => ?_) (fun hc11 => ?_)
      · -- FFT
        refine VO.gN ?_
        refine VO.gN ?_
        refine VO.gN ?_
        refine VO.gN ?_
        refine VO.y rfl (.pT rfl rfl) ?_
        refine VO.keep [108, 104, 105, 102, 0] [(108, m8), (104, p3_0), (105, p3_1), (102, mone g1 (.cells [Value.int .i64 (d2.1), Value.int .i64 (d2.2.1), Value.slice p2_A2 (d2.2.2.length) (p2_c2)].toArray 24 (0, 0))), (0, mout (wm W) (m0))] (by kernel_rfl) ?_
        refine VO.k11 0 1 2 5 6 7 8 9 18 26 35 ?_
        refine VC.condT rfl ?_
        refine VC.rs ?_
        refine VO.as ?_
        refine VO.k11 0 1 2 5 6 7 8 9 18 26 35 ?_
        refine VC.ret ?_
        refine outR ?_
        refine ⟨_, _, res_run (rs := [.tmp 6]) rfl (.tmp rfl .nil), fun W_ hI => out_of (l := [p3_1]) hI [105] rfl rfl (mle_refl _) (fun hS_ => ?_)⟩
        dsimp only [packV]
        have hm0_ : ((orphW d0 d1 d2).1 : DdiskDisk) = d0 := by first | rfl | (exact fin0_oWrite_ok)
        refine ⟨?_, ?_⟩
        rotate_left
        · rw [hm0_]; exact (Ow.up w3_0 (hS_.1 _ (.head _)))
        all_goals (first | rfl | (exact fin0_oWrite_ok))
      · -- FFF
        refine VO.gy rfl ⟨_, rfl, rfl⟩ (.mv rfl) ?_
        refine VO.gy rfl ⟨_, rfl, rfl⟩ (.mv rfl) ?_
        refine VO.gy rfl ⟨_, rfl, rfl⟩ (.lenS rfl tsl25) ?_
        refine VO.gy rfl ⟨_, rfl, rfl⟩ (.gtr rfl rfl) ?_
        refine VO.y rfl (.pF rfl rfl) ?_
        refine VO.keep [108, 104, 105, 102, 0] [(108, m8), (104, p3_0), (105, p3_1), (102, mone g1 (.cells [Value.int .i64 (d2.1), Value.int .i64 (d2.2.1), Value.slice p2_A2 (d2.2.2.length) (p2_c2)].toArray 24 (0, 0))), (0, mout (wm W) (m0))] (by kernel_rfl) ?_
        refine VO.k11 0 1 2 5 6 7 8 9 18 26 35 ?_
        refine VC.cond rfl (fun hc12 => ?_) (fun hc12 => ?_)
        · -- FFFT
          refine VC.rs ?_
          refine VO.as ?_
          refine VO.k11 0 1 2 5 6 7 8 9 18 26 35 ?_
          refine VC.ret ?_
          refine outR ?_
          refine ⟨_, _, res_run (rs := [.tmp 6]) rfl (.tmp rfl .nil), fun W_ hI => out_of (l := [p3_1]) hI [105] rfl rfl (mle_refl _) (fun hS_ => ?_)⟩
          dsimp only [packV]
          have hm0_ : ((orphW d0 d1 d2).1 : DdiskDisk) = d0 := by first | rfl | (exact fin0_oWrite_ok)
          refine ⟨?_, ?_⟩
          rotate_left
          · rw [hm0_]; exact (Ow.up w3_0 (hS_.1 _ (.head _)))
          all_goals (first | rfl | (exact fin0_oWrite_ok))
        · -- FFFF
          refine VC.skip ?_
          refine outN ?_
          refine VC.seq ?_
          refine VC.rs ?_
          refine VO.mv ?_
          refine VO.mv ?_
          refine VO.y rfl (.lenS rfl tsl25) ?_
          refine VO.y rfl (.lss rfl rfl) ?_
          refine VO.k12 0 1 2 5 6 7 8 9 18 26 35 39 ?_
          refine VC.cond rfl (fun hc13 => ?_) (fun hc13 => ?_)
          · -- FFFFT
            refine VC.rs ?_
            refine VO.mv ?_
            refine VO.mv ?_
            refine VO.call 105 rfl fnOk72 rfl rfl (fun W hW => dCut_ok W (hW.at (i := 105) rfl) w3_0 3 bdk d1 bdk (by assumption) bd) (fun v14 m14 hv14 => ?_)
            obtain ⟨rfl, w14_0⟩ := hv14
            have hfa15 := (cut_ok (f := 3) (n := d1) (show okD d0 by assumption))
            have hfa16 := (cut_w (f := 3) (n := d1) (show okD d0 by assumption))
            refine VO.as ?_
            refine VO.k13 0 1 2 5 6 7 8 9 10 18 26 35 39 ?_
            refine VC.rs ?_
            refine VO.mv ?_
            refine VO.y rfl (.neq rfl rfl) ?_
            refine VO.keep [105, 108, 104, 102, 0] [(105, m14), (108, m8), (104, p3_0), (102, mone g1 (.cells [Value.int .i64 (d2.1), Value.int .i64 (d2.2.1), Value.slice p2_A2 (d2.2.2.length) (p2_c2)].toArray 24 (0, 0))), (0, mout (wm W) (m0))] (by kernel_rfl) ?_
            refine VO.k14 0 1 2 5 6 7 8 9 10 18 26 35 39 44 ?_
            refine VC.cond rfl (fun hc17 => ?_) (fun hc17 => ?_)
            · -- FFFFTT
              refine VC.rs ?_
              refine VO.mv ?_
              refine VO.as ?_
              refine VO.k14 0 1 2 5 6 7 8 9 10 18 26 35 39 44 ?_
              refine VC.ret ?_
              refine outR ?_
              refine ⟨_, _, res_run (rs := [.tmp 6]) rfl (.tmp rfl .nil), fun W_ hI => out_of (l := [m14]) hI [105] rfl rfl (mle_refl _) (fun hS_ => ?_)⟩
              dsimp only [packV]
              have hm0_ : ((orphW d0 d1 d2).1 : DdiskDisk) = (dCut d0 3 d1).1 := by first | rfl | (exact fin0_oWrite_ok)
              refine ⟨?_, ?_⟩
              rotate_left
              · rw [hm0_]; exact (Ow.up w14_0 (hS_.1 _ (.head _)))
              all_goals (first | rfl | (exact fin0_oWrite_ok))
            · -- FFFFTF
              refine VC.skip ?_
              refine outN ?_
              refine VC.seq ?_
              refine VC.rs ?_
              refine VO.mv ?_
              refine VO.mv ?_
              refine VO.call 105 rfl fnOk35 rfl rfl (fun W hW => dWrite_ok W (hW.at (i := 105) rfl) w14_0 3 bdk (OwnL.rd (Ow.ownl f8_0 rfl mnil) (hW.out (i := 105) (j := 108) rfl rfl) (mle_nil _)) (by assumption) bd) (fun v18 m18 hv18 => ?_)
              obtain ⟨rfl, w18_0⟩ := hv18
              have hfa19 := (write_ok (f := 3) (b := ((sectEncode d2).1)) (show okD ((dCut d0 3 d1).1) by assumption))
              have hfa20 := (write_w (f := 3) (b := ((sectEncode d2).1)) (show okD ((dCut d0 3 d1).1) by assumption))
              refine VO.as ?_
              refine VO.k15 0 1 2 5 6 7 8 9 10 11 18 26 35 39 44 ?_
              refine VC.rs ?_
              refine VO.mv ?_
              refine VO.y rfl (.neq rfl rfl) ?_
              refine VO.k16 0 1 2 5 6 7 8 9 10 11 18 26 35 39 44 50 ?_
              refine VC.cond rfl (fun hc21 => ?_) (fun hc21 => ?_)
              · -- FFFFTFT
                refine VC.rs ?_
                refine VO.mv ?_
                refine VO.as ?_
                refine VO.keep [105, 108, 104, 102, 0] [(105, m18), (108, m8), (104, p3_0), (102, mone g1 (.cells [Value.int .i64 (d2.1), Value.int .i64 (d2.2.1), Value.slice p2_A2 (d2.2.2.length) (p2_c2)].toArray 24 (0, 0))), (0, mout (wm W) (m0))] (by kernel_rfl) ?_
                refine VO.k16 0 1 2 5 6 7 8 9 10 11 18 26 35 39 44 50 ?_
                refine VC.ret ?_
                refine outR ?_
                refine ⟨_, _, res_run (rs := [.tmp 6]) rfl (.tmp rfl .nil), fun W_ hI => out_of (l := [m18]) hI [105] rfl rfl (mle_refl _) (fun hS_ => ?_)⟩
                dsimp only [packV]
                have hm0_ : ((orphW d0 d1 d2).1 : DdiskDisk) = (dWrite ((dCut d0 3 d1).1) 3 ((sectEncode d2).1)).1 := by first | rfl | (exact fin0_oWrite_ok)
                refine ⟨?_, ?_⟩
                rotate_left
                · rw [hm0_]; exact (Ow.up w18_0 (hS_.1 _ (.head _)))
                all_goals (first | rfl | (exact fin0_oWrite_ok))
              · -- FFFFTFF
                refine VC.skip ?_
                refine outN ?_
                refine VC.rs ?_
                refine VO.mv ?_
                refine VO.call 105 rfl fnOk37 rfl rfl (fun W hW => dSync_ok W (hW.at (i := 105) rfl) w18_0 (by assumption) bd) (fun v22 m22 hv22 => ?_)
                obtain ⟨rfl, w22_0⟩ := hv22
                have hfa23 := (sync_ok (show okD ((dWrite ((dCut d0 3 d1).1) 3 ((sectEncode d2).1)).1) by assumption))
                have hfa24 := (sync_w (show okD ((dWrite ((dCut d0 3 d1).1) 3 ((sectEncode d2).1)).1) by assumption))
                refine VO.as ?_
                refine VO.keep [105, 108, 104, 102, 0] [(105, m22), (108, m8), (104, p3_0), (102, mone g1 (.cells [Value.int .i64 (d2.1), Value.int .i64 (d2.2.1), Value.slice p2_A2 (d2.2.2.length) (p2_c2)].toArray 24 (0, 0))), (0, mout (wm W) (m0))] (by kernel_rfl) ?_
                refine VO.k16 0 1 2 5 6 7 8 9 10 11 18 26 35 39 44 50 ?_
                refine VC.ret ?_
                refine ⟨_, _, res_run (rs := [.tmp 6]) rfl (.tmp rfl .nil), fun W_ hI => out_of (l := [m22]) hI [105] rfl rfl (mle_refl _) (fun hS_ => ?_)⟩
                dsimp only [packV]
                have hm0_ : ((orphW d0 d1 d2).1 : DdiskDisk) = (dSync ((dWrite ((dCut d0 3 d1).1) 3 ((sectEncode d2).1)).1)).1 := by first | rfl | (exact fin0_oWrite_ok)
                refine ⟨?_, ?_⟩
                rotate_left
                · rw [hm0_]; exact (Ow.up w22_0 (hS_.1 _ (.head _)))
                all_goals (first | rfl | (exact fin0_oWrite_ok))
          · -- FFFFF
            refine VC.skip ?_
            refine outN ?_
            refine VC.seq ?_
            refine VC.rs ?_
            refine VO.mv ?_
            refine VO.mv ?_
            refine VO.call 105 rfl fnOk35 rfl rfl (fun W hW => dWrite_ok W (hW.at (i := 105) rfl) w3_0 3 bdk (OwnL.rd (Ow.ownl f8_0 rfl mnil) (hW.out (i := 105) (j := 108) rfl rfl) (mle_nil _)) (by assumption) bd) (fun v25 m25 hv25 => ?_)
            obtain ⟨rfl, w25_0⟩ := hv25
            have hfa26 := (write_ok (f := 3) (b := ((sectEncode d2).1)) (show okD d0 by assumption))
            have hfa27 := (write_w (f := 3) (b := ((sectEncode d2).1)) (show okD d0 by assumption))
            refine VO.as ?_
            refine VO.k13 0 1 2 5 6 7 8 9 11 18 26 35 39 ?_
            refine VC.rs ?_
            refine VO.mv ?_
            refine VO.y rfl (.neq rfl rfl) ?_
            refine VO.keep [105, 108, 104, 102, 0] [(105, m25), (108, m8), (104, p3_0), (102, mone g1 (.cells [Value.int .i64 (d2.1), Value.int .i64 (d2.2.1), Value.slice p2_A2 (d2.2.2.length) (p2_c2)].toArray 24 (0, 0))), (0, mout (wm W) (m0))] (by kernel_rfl) ?_
            refine VO.k14 0 1 2 5 6 7 8 9 11 18 26 35 39 50 ?_
            refine VC.cond rfl (fun hc28 => ?_) (fun hc28 => ?_)
            · -- FFFFFT
              refine VC.rs ?_
              refine VO.mv ?_
              refine VO.as ?_
              refine VO.k14 0 1 2 5 6 7 8 9 11 18 26 35 39 50 ?_
              refine VC.ret ?_
              refine outR ?_
              refine ⟨_, _, res_run (rs := [.tmp 6]) rfl (.tmp rfl .nil), fun W_ hI => out_of (l := [m25]) hI [105] rfl rfl (mle_refl _) (fun hS_ => ?_)⟩
              dsimp only [packV]
              have hm0_ : ((orphW d0 d1 d2).1 : DdiskDisk) = (dWrite d0 3 ((sectEncode d2).1)).1 := by first | rfl | (exact fin0_oWrite_ok)
              refine ⟨?_, ?_⟩
              rotate_left
              · rw [hm0_]; exact (Ow.up w25_0 (hS_.1 _ (.head _)))
              all_goals (first | rfl | (exact fin0_oWrite_ok))
            · -- FFFFFF
              refine VC.skip ?_
              refine outN ?_
              refine VC.rs ?_
              refine VO.mv ?_
              refine VO.call 105 rfl fnOk37 rfl rfl (fun W hW => dSync_ok W (hW.at (i := 105) rfl) w25_0 (by assumption) bd) (fun v29 m29 hv29 => ?_)
              obtain ⟨rfl, w29_0⟩ := hv29
              have hfa30 := (sync_ok (show okD ((dWrite d0 3 ((sectEncode d2).1)).1) by assumption))
              have hfa31 := (sync_w (show okD ((dWrite d0 3 ((sectEncode d2).1)).1) by assumption))
              refine VO.as ?_
              refine VO.k14 0 1 2 5 6 7 8 9 11 18 26 35 39 50 ?_
              refine VC.ret ?_
              refine ⟨_, _, res_run (rs := [.tmp 6]) rfl (.tmp rfl .nil), fun W_ hI => out_of (l := [m29]) hI [105] rfl rfl (mle_refl _) (fun hS_ => ?_)⟩
              dsimp only [packV]
              have hm0_ : ((orphW d0 d1 d2).1 : DdiskDisk) = (dSync ((dWrite d0 3 ((sectEncode d2).1)).1)).1 := by first | rfl | (exact fin0_oWrite_ok)
              refine ⟨?_, ?_⟩
              rotate_left
              · rw [hm0_]; exact (Ow.up w29_0 (hS_.1 _ (.head _)))
              all_goals (first | rfl | (exact fin0_oWrite_ok))
end
section
set_option linter.unusedVariables false
def exS : DSection := (2, 1, [ofC 1 2])
def exSB : Bytes := [3, 2, 1, 1, 9, 1, 2, 1, 1, 0, 1, 97, 1, 49]
theorem exS_enc : sectEnc exS = exSB := by
  simp [sectEnc, sectHead, fEnc, cFrames, cFrame, cEnc, exS, ofC, exSB, batchEnc, encOps, encOp, shared, venc_last]
theorem ex19E : sectEncode exS = (exSB, 0) := by rw [sectEncode_good (by decide), exS_enc]
theorem ex19S (r : Bytes) (h : (secRead r).2.2 = false) : scanF (exSB ++ r) = ([exS], 14) := by
  have h1 := scan_whole (l := [exS]) (r := r) ⟨by decide, by decide, trivial⟩ h
  have e : sectEncs [exS] = exSB := by simp [sectEncs, exS_enc]
  rw [e] at h1
  rw [h1]; rfl
theorem ex19D : scanF (exSB ++ [3, 3, 1, 1]) = ([exS], 14) := ex19S _ (by decide)
theorem ex19F : scanF exSB = ([exS], 14) := by
  have := ex19S [] sec_nil
  rwa [List.append_nil] at this
theorem ex19H : hasS (scanF exSB).1 1 2 = true ∧ hasS (scanF exSB).1 2 2 = false := by rw [ex19F]; decide
end
section
set_option linter.unusedVariables false
set_option linter.unusedSimpArgs false
set_option maxRecDepth 4000
theorem fnOk10 : fnOk Try.prog 10 = true := by kernel_rfl
theorem fnOk11 : fnOk Try.prog 11 = true := by kernel_rfl
theorem fnOk12 : fnOk Try.prog 12 = true := by kernel_rfl
theorem fnOk22 : fnOk Try.prog 22 = true := by kernel_rfl
theorem fnOk8 : fnOk Try.prog 8 = true := by kernel_rfl
theorem small19_ok (W : World) {v0 : List Value} {d0 : DSection} (h0 : Rd TSection (wm W) v0 d0) : CallR Try.prog 13 [.agg v0.toArray] W (mnil) (fun v m' => v = .bool (decide (smallS d0))) := by
  obtain ⟨p0_A2, p0_c2, rfl, p0_0, p0_1, p0_2⟩ := open_Section (x0 := d0.1) (x1 := d0.2.1) (x2 := d0.2.2) h0
  simp only [inK] at p0_0
  simp only [inK] at p0_1
  have p0_r2 := Rd.room p0_2
  refine CallR.ofA (n := 23) Try.func13 rfl rfl rfl ?_
  refine VC.rs ?_
  refine VO.box (cs := [Value.int .i64 (d0.1), Value.int .i64 (d0.2.1), Value.slice p0_A2 (d0.2.2.length) (p0_c2)]) 102 rfl rfl rfl (fun g1 => ?_)
  refine VO.as ?_
  refine VO.k3 0 1 2 ?_
  refine VC.seq ?_
  refine VC.rs ?_
  refine VO.as ?_
  refine VO.k4 0 1 2 3 ?_
  refine VC.block ?_
  refine VC.loop (G := Nat) (fun k => [(3, Value.int .i64 (((k : Nat) : Int))), (0, Value.agg [Value.int .i64 (d0.1), Value.int .i64 (d0.2.1), Value.slice p0_A2 (d0.2.2.length) (p0_c2)].toArray), (1, Value.pointer (some ⟨g1, 0, none⟩))]) (fun k => [(102, mone g1 (.cells [Value.int .i64 (d0.1), Value.int .i64 (d0.2.1), Value.slice p0_A2 (d0.2.2.length) (p0_c2)].toArray 24 (0, 0))), (0, wm W)]) (fun k => (k ≤ d0.2.2.length) ∧ (∀ c ∈ d0.2.2.take k, c.2.2.length ≤ 40)) (fun k => d0.2.2.length - k) 0 (⟨by omega, by simp⟩) ⟨⟨rfl, rfl, rfl, trivial⟩, fun _ h => h.sub [102, 0]⟩ ?_
  rintro k ⟨hk, ha⟩
  refine VC.seq ?_
  refine VC.rs ?_
  refine VO.mv ?_
  refine VO.y rfl (.fa rfl tst24 rfl) ?_
  refine VO.y rfl (.ld1 102 rfl tk22 rfl (cellsAt_one rfl rfl)) ?_
  refine VO.y rfl (.lenS rfl tsl22) ?_
  refine VO.y rfl (.lss rfl rfl) ?_
  refine VO.keep [102, 0] [(102, mone g1 (.cells [Value.int .i64 (d0.1), Value.int .i64 (d0.2.1), Value.slice p0_A2 (d0.2.2.length) (p0_c2)].toArray 24 (0, 0))), (0, wm W)] (by kernel_rfl) ?_
  refine VO.k4 0 1 3 8 ?_
  refine VC.cond rfl (fun hc3 => ?_) (fun hc3 => ?_)
  · -- T
    refine VC.skip ?_
    refine outN ?_
    refine VC.seq ?_
    refine VC.block ?_
    refine VC.rs ?_
    refine VO.y rfl (.fa rfl tst24 rfl) ?_
    refine VO.y rfl (.ld1 102 rfl tk22 rfl (cellsAt_one rfl rfl)) ?_
    refine VO.mv ?_
    obtain ⟨x4, hx4⟩ : ∃ z_, (d0.2.2)[k]? = some z_ := ⟨_, List.getElem?_eq_getElem bd⟩
    obtain ⟨gg4, oo4, ec4, ea4, hce4, hre4⟩ := p0_2.elem hx4
    cases ea4
    obtain ⟨q4_A2, q4_c2, rfl, q4_0, q4_1, q4_2⟩ := open_Commit (x0 := x4.1) (x1 := x4.2.1) (x2 := x4.2.2) hre4
    simp only [inK] at q4_0
    simp only [inK] at q4_1
    have q4_r2 := Rd.room q4_2
    refine VO.y rfl (.ixI k rfl rfl tsl22 rfl bd) ?_
    refine VO.y rfl (.fa rfl tst32 rfl) ?_
    refine VO.y rfl (.ld1 0 rfl tk30 rfl (hce4.at1 (j := 2) rfl)) ?_
    refine VO.y rfl (.lenS rfl tsl30) ?_
    refine VO.y rfl (.gtr rfl rfl) ?_
    refine VO.k5 0 1 3 8 18 ?_
    refine VC.cond rfl (fun hc5 => ?_) (fun hc5 => ?_)
    · -- TT
      refine VC.rs ?_
      refine VO.as ?_
      refine VO.k6 0 1 2 3 8 18 ?_
      refine VC.ret ?_
      refine outBR ?_
      refine outR ?_
      refine outR ?_
      refine outBR ?_
      refine outR ?_
      refine ⟨_, _, res_run (rs := [.tmp 2]) rfl (.tmp rfl .nil), fun W_ hI => out_of (l := []) hI [] rfl rfl (mle_refl _) (fun hS_ => ?_)⟩
      dsimp only [packV]
      all_goals (first | rfl | (first | exact congrArg Value.bool (decide_eq_false (fun e => by have := e.1 _ (List.mem_of_getElem? ‹d0.2.2[k]? = some _›); omega)).symm | exact congrArg Value.bool (decide_eq_false (fun e => by have := e.2; omega)).symm | exact congrArg Value.bool (decide_eq_decide.2 (by have ha2 := ha; rw [List.take_of_length_le (by omega)] at ha2; exact ⟨fun h => ⟨ha2, by omega⟩, fun h => by have := h.2; omega⟩))))
    · -- TF
      refine VC.skip ?_
      refine outBN ?_
      refine outN ?_
      refine VC.reg ?_
      refine VO.mv ?_
      refine VO.y rfl (.add (c := ((k + 1 : Nat) : Int)) rfl rfl (by omega) ⟨bd, bd⟩) ?_
      refine VO.as ?_
      refine VO.k5 0 1 3 8 18 ?_
      exact outN ⟨k + 1, ⟨by omega, by exact all_next ha ‹d0.2.2[k]? = some _› (by omega)⟩, bd, ⟨⟨rfl, rfl, rfl, trivial⟩, fun _ h => Inv.sub h [102, 0]⟩⟩
  · -- F
    refine VC.exit ?_
    refine outE ?_
    refine outE ?_
    refine outBB ?_
    refine outN ?_
    refine VC.rs ?_
    refine VO.y rfl (.fa rfl tst24 rfl) ?_
    refine VO.y rfl (.ld1 102 rfl tk22 rfl (cellsAt_one rfl rfl)) ?_
    refine VO.y rfl (.lenS rfl tsl22) ?_
    refine VO.y rfl (.leq rfl rfl) ?_
    refine VO.as ?_
    refine VO.k5 0 1 2 3 8 ?_
    refine VC.ret ?_
    refine ⟨_, _, res_run (rs := [.tmp 2]) rfl (.tmp rfl .nil), fun W_ hI => out_of (l := []) hI [] rfl rfl (mle_refl _) (fun hS_ => ?_)⟩
    dsimp only [packV]
    all_goals (first | rfl | (first | exact congrArg Value.bool (decide_eq_false (fun e => by have := e.1 _ (List.mem_of_getElem? ‹d0.2.2[k]? = some _›); omega)).symm | exact congrArg Value.bool (decide_eq_false (fun e => by have := e.2; omega)).symm | exact congrArg Value.bool (decide_eq_decide.2 (by have ha2 := ha; rw [List.take_of_length_le (by omega)] at ha2; exact ⟨fun h => ⟨ha2, by omega⟩, fun h => by have := h.2; omega⟩))))
theorem put19_ok (W : World) (d0 : Int) (h0 : inK .i64 d0) (d1 : Int) (h1 : inK .i64 d1) : CallR Try.prog 10 [.int .i64 d0, .int .i64 d1] W (mnil) (fun v m' => ∃ (s0 : List Value), v = .agg s0.toArray ∧ Ow TCommit m' s0 (ofC d0 d1)) := by
  have h0' := h0; simp only [inK] at h0'
  have h1' := h1; simp only [inK] at h1'
  refine CallR.ofA (n := 10) Try.func10 rfl rfl rfl ?_
  refine VC.rs ?_
  refine VO.alloc 102 rfl tz32 (fun g1 => ?_)
  refine VO.k3 0 1 4 ?_
  refine VC.rs ?_
  refine VO.mv ?_
  refine VO.mv ?_
  refine VO.y rfl (.bst (cs := [Value.bool true, str ([97]), str ([49])]) rfl tst78 tz78 rfl) ?_
  refine VO.bsl (cs := [Value.bool true, str ([97]), str ([49])]) 104 rfl rfl tsl30 tz78 rfl rfl (fun g3 => ?_)
  refine VO.y rfl (.bst (cs := [Value.int .i64 (d0), Value.int .i64 (d1), Value.slice (some ⟨g3, 0, none⟩) (1) (1)]) rfl tst32 tz32 rfl) ?_
  refine VO.store (k := 3) (c' := [Value.int .i64 (d0), Value.int .i64 (d1), Value.slice (some ⟨g3, 0, none⟩) (1) (1)]) 102 rfl rfl (.inl tk32) rfl rfl rfl rfl rfl ?_
  refine VO.k3 0 1 4 ?_
  refine VC.ret ?_
  have ho5 : OwnL TOp (mone g3 (.cells [Value.bool true, str ([97]), str ([49])].toArray 78 (0, 0))) mnil (Value.slice (some ⟨g3, 0, none⟩) (1) (1)) [(true, [97], [49])] := OwnL.lit 1 (All2c.cons (c1 := [Value.bool true, str ([97]), str ([49])]) (mk_Op (m := _) true ([97]) ([49]) bdm bdm) All2c.nil) rfl rfl
  refine ⟨_, _, res_run (rs := [.cell 4 32]) rfl (.agg 102 rfl tk32 rfl ⟨_, _, _, mone_self _ _, Nat.le_of_ble_eq_true rfl, rfl⟩ .nil), fun W_ hI => out_of (l := [mone g3 (.cells [Value.bool true, str ([97]), str ([49])].toArray 78 (0, 0))]) hI [104] rfl rfl (mle_refl _) (fun hS_ => ?_)⟩
  dsimp only [packV]
  have he0 : (ofC d0 d1 : Ty.Den TCommit) = (d0, d1, [(true, [97], [49])]) := by first | rfl | (simp [*]; done)
  refine ⟨[Value.int .i64 (d0), Value.int .i64 (d1), Value.slice (some ⟨g3, 0, none⟩) (1) (1)], ?_, ?_⟩
  rotate_left
  · rw [he0]; exact (mkO_Commit d0 d1 ([(true, [97], [49])]) hS_ bdk bdk (OwnL.ow ho5 rfl))
  all_goals (first | rfl | (simp [*]; done))
theorem example19_ok (W : World) : CallR Try.prog 8 [] W (mnil) (fun v m' => ∃ (s0 : List Value), ∃ (s1 : Value), ∃ (p0 : Mem), ∃ (p1 : Mem), v = .tuple #[.agg s0.toArray, s1] ∧ Seps m' [p0, p1] ∧ Ow TSection p0 s0 (exS) ∧ Ow (.sl .byte) p1 [s1] (exSB)) := by
  refine CallR.ofA (n := 6) Try.func8 rfl rfl rfl ?_
  refine VC.rs ?_
  refine VO.alloc 102 rfl tz24 (fun g1 => ?_)
  refine VO.as ?_
  refine VO.k2 0 1 ?_
  refine VC.rs ?_
  refine VO.callN 103 rfl fnOk10 rfl (fun W hW => put19_ok W 1 bdk 2 bdk) (fun v3 m3 hv3 => ?_)
  obtain ⟨s3_0, rfl, f3_0⟩ := hv3
  obtain ⟨q3_0_A2, q3_0_c2, q3_0_n2, rfl, q3_0_S, q3_0_0, q3_0_1, q3_0_2⟩ := openO_Commit (x0 := (ofC 1 2).1) (x1 := (ofC 1 2).2.1) (x2 := (ofC 1 2).2.2) f3_0
  simp only [inK] at q3_0_0
  simp only [inK] at q3_0_1
  have q3_0_r2 := Rd.room (q3_0_2.rd (mle_refl _))
  refine VO.inv _ (fun _ h => h.parts (i := 103) rfl q3_0_S [104]) ?_
  refine VO.bsl (cs := [Value.int .i64 ((ofC 1 2).1), Value.int .i64 ((ofC 1 2).2.1), Value.slice q3_0_A2 (((ofC 1 2).2.2).length) (q3_0_c2)]) 106 rfl rfl tsl22 tz32 rfl rfl (fun g5 => ?_)
  refine VO.gather (l := [mone g5 (.cells [Value.int .i64 ((ofC 1 2).1), Value.int .i64 ((ofC 1 2).2.1), Value.slice q3_0_A2 (((ofC 1 2).2.2).length) (q3_0_c2)].toArray 32 (0, 0)), q3_0_n2]) 108 [106, 104] rfl (fun hg7 => ?_)
  have ho7 : Ow (.sl TCommit) (muns [mone g5 (.cells [Value.int .i64 ((ofC 1 2).1), Value.int .i64 ((ofC 1 2).2.1), Value.slice q3_0_A2 (((ofC 1 2).2.2).length) (q3_0_c2)].toArray 32 (0, 0)), q3_0_n2]) [Value.slice (some ⟨g5, 0, none⟩) (1) (1)] [(ofC 1 2)] := Ow.lit 1 (Seps.grp1 (ls := [[q3_0_n2]]) hg7) (OwAs.cons (m := muns [q3_0_n2]) (c1 := [Value.int .i64 ((ofC 1 2).1), Value.int .i64 ((ofC 1 2).2.1), Value.slice q3_0_A2 (((ofC 1 2).2.2).length) (q3_0_c2)]) (show Ow TCommit _ _ (ofC 1 2) from (mkO_Commit ((ofC 1 2).1) ((ofC 1 2).2.1) ((ofC 1 2).2.2) (Seps.self hg7 (List.Sublist.cons _ (List.Sublist.cons_cons _ List.Sublist.slnil))) bdk bdk (OwnL.ow (Ow.ownl q3_0_2 rfl mnil) rfl))) OwAs.nil) rfl rfl
  refine VO.y rfl (.bst (cs := [Value.int .i64 (2), Value.int .i64 (1), Value.slice (some ⟨g5, 0, none⟩) (1) (1)]) rfl tst24 tz24 rfl) ?_
  refine VO.bsl (cs := [Value.int .u8 (3), Value.int .u8 (2), Value.int .u8 (1), Value.int .u8 (1), Value.int .u8 (9), Value.int .u8 (1), Value.int .u8 (2), Value.int .u8 (1), Value.int .u8 (1), Value.int .u8 (0), Value.int .u8 (1), Value.int .u8 (97), Value.int .u8 (1), Value.int .u8 (49)]) 110 rfl rfl tsl25 tz5 rfl rfl (fun g9 => ?_)
  refine VO.store (k := 3) (c' := [Value.int .i64 (2), Value.int .i64 (1), Value.slice (some ⟨g5, 0, none⟩) (1) (1)]) 102 rfl rfl (.inl tk24) rfl rfl rfl rfl rfl ?_
  refine VO.as ?_
  refine VO.k2 0 1 ?_
  refine VC.ret ?_
  have ho11 : OwnL .byte (mone g9 (.cells [Value.int .u8 (3), Value.int .u8 (2), Value.int .u8 (1), Value.int .u8 (1), Value.int .u8 (9), Value.int .u8 (1), Value.int .u8 (2), Value.int .u8 (1), Value.int .u8 (1), Value.int .u8 (0), Value.int .u8 (1), Value.int .u8 (97), Value.int .u8 (1), Value.int .u8 (49)].toArray 5 (0, 0))) mnil (Value.slice (some ⟨g9, 0, none⟩) (14) (14)) [UInt8.ofNat 3, UInt8.ofNat 2, UInt8.ofNat 1, UInt8.ofNat 1, UInt8.ofNat 9, UInt8.ofNat 1, UInt8.ofNat 2, UInt8.ofNat 1, UInt8.ofNat 1, UInt8.ofNat 0, UInt8.ofNat 1, UInt8.ofNat 97, UInt8.ofNat 1, UInt8.ofNat 49] := OwnL.lit 14 (All2c.cons (c1 := [Value.int .u8 (3)]) (rd_byteN bd) (All2c.cons (c1 := [Value.int .u8 (2)]) (rd_byteN bd) (All2c.cons (c1 := [Value.int .u8 (1)]) (rd_byteN bd) (All2c.cons (c1 := [Value.int .u8 (1)]) (rd_byteN bd) (All2c.cons (c1 := [Value.int .u8 (9)]) (rd_byteN bd) (All2c.cons (c1 := [Value.int .u8 (1)]) (rd_byteN bd) (All2c.cons (c1 := [Value.int .u8 (2)]) (rd_byteN bd) (All2c.cons (c1 := [Value.int .u8 (1)]) (rd_byteN bd) (All2c.cons (c1 := [Value.int .u8 (1)]) (rd_byteN bd) (All2c.cons (c1 := [Value.int .u8 (0)]) (rd_byteN bd) (All2c.cons (c1 := [Value.int .u8 (1)]) (rd_byteN bd) (All2c.cons (c1 := [Value.int .u8 (97)]) (rd_byteN bd) (All2c.cons (c1 := [Value.int .u8 (1)]) (rd_byteN bd) (All2c.cons (c1 := [Value.int .u8 (49)]) (rd_byteN bd) All2c.nil)))))))))))))) rfl rfl
  refine ⟨_, _, res_run (rs := [.cell 0 24, .tmp 1]) rfl (.agg 102 rfl tk24 rfl ⟨_, _, _, mone_self _ _, Nat.le_of_ble_eq_true rfl, rfl⟩ (.tmp rfl .nil)), fun W_ hI => out_of (l := [muns [mone g5 (.cells [Value.int .i64 ((ofC 1 2).1), Value.int .i64 ((ofC 1 2).2.1), Value.slice q3_0_A2 (((ofC 1 2).2.2).length) (q3_0_c2)].toArray 32 (0, 0)), q3_0_n2], mone g9 (.cells [Value.int .u8 (3), Value.int .u8 (2), Value.int .u8 (1), Value.int .u8 (1), Value.int .u8 (9), Value.int .u8 (1), Value.int .u8 (2), Value.int .u8 (1), Value.int .u8 (1), Value.int .u8 (0), Value.int .u8 (1), Value.int .u8 (97), Value.int .u8 (1), Value.int .u8 (49)].toArray 5 (0, 0))]) hI [108, 110] rfl rfl (mle_refl _) (fun hS_ => ?_)⟩
  dsimp only [packV]
  have he0 : (exS : Ty.Den TSection) = (2, 1, [(ofC 1 2)]) := by first | rfl | (simp [*]; done)
  have he1 : (exSB : Ty.Den (.sl .byte)) = [UInt8.ofNat 3, UInt8.ofNat 2, UInt8.ofNat 1, UInt8.ofNat 1, UInt8.ofNat 9, UInt8.ofNat 1, UInt8.ofNat 2, UInt8.ofNat 1, UInt8.ofNat 1, UInt8.ofNat 0, UInt8.ofNat 1, UInt8.ofNat 97, UInt8.ofNat 1, UInt8.ofNat 49] := by first | rfl | (simp [*]; done)
  refine ⟨[Value.int .i64 (2), Value.int .i64 (1), Value.slice (some ⟨g5, 0, none⟩) (1) (1)], Value.slice (some ⟨g9, 0, none⟩) (14) (14), muns [muns [mone g5 (.cells [Value.int .i64 ((ofC 1 2).1), Value.int .i64 ((ofC 1 2).2.1), Value.slice q3_0_A2 (((ofC 1 2).2.2).length) (q3_0_c2)].toArray 32 (0, 0)), q3_0_n2]], muns [mone g9 (.cells [Value.int .u8 (3), Value.int .u8 (2), Value.int .u8 (1), Value.int .u8 (1), Value.int .u8 (9), Value.int .u8 (1), Value.int .u8 (2), Value.int .u8 (1), Value.int .u8 (1), Value.int .u8 (0), Value.int .u8 (1), Value.int .u8 (97), Value.int .u8 (1), Value.int .u8 (49)].toArray 5 (0, 0))], ?_, ?_, ?_, ?_⟩
  rotate_left
  · exact Seps.grp (ls := [[muns [mone g5 (.cells [Value.int .i64 ((ofC 1 2).1), Value.int .i64 ((ofC 1 2).2.1), Value.slice q3_0_A2 (((ofC 1 2).2.2).length) (q3_0_c2)].toArray 32 (0, 0)), q3_0_n2]], [mone g9 (.cells [Value.int .u8 (3), Value.int .u8 (2), Value.int .u8 (1), Value.int .u8 (1), Value.int .u8 (9), Value.int .u8 (1), Value.int .u8 (2), Value.int .u8 (1), Value.int .u8 (1), Value.int .u8 (0), Value.int .u8 (1), Value.int .u8 (97), Value.int .u8 (1), Value.int .u8 (49)].toArray 5 (0, 0))]]) hS_
  · rw [he0]; exact (mkO_Section 2 1 ([(ofC 1 2)]) (Seps.self hS_ (List.Sublist.cons_cons _ (List.Sublist.cons _ List.Sublist.slnil))) bdk bdk ho7)
  · rw [he1]; exact (Ow.up (OwnL.ow ho11 rfl) ((Seps.self hS_ (List.Sublist.cons _ (List.Sublist.cons_cons _ List.Sublist.slnil))).1 _ (.head _)))
  all_goals (first | rfl | (simp [*]; done))
theorem fin2_lives19_ok {P : Prop} (h : P := by first | omega | (simp only [List.length_append, List.length_nil, List.length_cons, List.length_take, List.length_drop] at *; omega) | (have : exC.length = 6 := rfl; omega) | decide | (have : exSB.length = 14 := rfl; omega)) : P := h
theorem lives19_ok (W : World) : CallR Try.prog 11 [] W (mnil) (fun v m' => v = .bool true) := by
  refine CallR.ofA (n := 41) Try.func11 rfl rfl rfl ?_
  refine VC.rs ?_
  refine VO.as ?_
  refine VO.k1 0 ?_
  refine VC.rs ?_
  refine VO.callN 101 rfl fnOk8 rfl (fun W hW => example19_ok W ) (fun v1 m1 hv1 => ?_)
  obtain ⟨s1_0, s1_1, p1_0, p1_1, rfl, hS1, f1_0, f1_1⟩ := hv1
  refine VO.inv _ (fun _ h => h.parts (i := 101) rfl hS1 [102, 103]) ?_
  obtain ⟨q1_0_A2, q1_0_c2, q1_0_n2, rfl, q1_0_S, q1_0_0, q1_0_1, q1_0_2⟩ := openO_Section (x0 := exS.1) (x1 := exS.2.1) (x2 := exS.2.2) f1_0
  simp only [inK] at q1_0_0
  simp only [inK] at q1_0_1
  have q1_0_r2 := Rd.room (q1_0_2.rd (mle_refl _))
  refine VO.inv _ (fun _ h => h.parts (i := 102) rfl q1_0_S [104]) ?_
  obtain ⟨A1_1, c1_1, eq1_1, l1_1, k1_1⟩ := f1_1.slice
  subst eq1_1
  simp only [maxLen] at k1_1
  refine VO.mv ?_
  refine VO.y rfl (.ext rfl rfl) ?_
  refine VO.y rfl (.ext rfl rfl) ?_
  refine VO.alloc 106 rfl tz24 (fun g5 => ?_)
  refine VO.store (k := 3) (c' := [Value.int .i64 (exS.1), Value.int .i64 (exS.2.1), Value.slice q1_0_A2 (exS.2.2.length) (q1_0_c2)]) 106 rfl rfl (.inl tk24) rfl rfl rfl rfl rfl ?_
  refine VO.as ?_
  refine VO.k3 0 1 2 ?_
  refine VC.rs ?_
  refine VO.y rfl (.ldA 106 rfl tk24 rfl (cellsAt_one rfl rfl)) ?_
  refine VO.callN 107 rfl fnOk16 rfl (fun W hW => sectEncode_ok W (show Rd TSection _ _ exS from (mk_Section (m := wm W) exS.1 exS.2.1 exS.2.2 (by simp only [inK]; (exact fin2_lives19_ok)) (by simp only [inK]; (exact fin2_lives19_ok)) (Ow.rd q1_0_2 (hW.at (i := 104) rfl))))) (fun v7 m7 hv7 => ?_)
  obtain ⟨s7_0, rfl, f7_0⟩ := hv7
  have hfa8 := sectEncode_len exS
  obtain ⟨A7_0, c7_0, eq7_0, l7_0, k7_0⟩ := f7_0.slice
  subst eq7_0
  simp only [maxLen] at k7_0
  refine VO.mv ?_
  refine VO.y rfl (.ext rfl rfl) ?_
  refine VO.y rfl (.ext rfl rfl) ?_
  refine VO.as ?_
  refine VO.as ?_
  refine VO.keep [107, 106, 104, 103, 0] [(107, m7), (106, mone g5 (.cells [Value.int .i64 (exS.1), Value.int .i64 (exS.2.1), Value.slice q1_0_A2 (exS.2.2.length) (q1_0_c2)].toArray 24 (0, 0))), (104, q1_0_n2), (103, p1_1), (0, wm W)] (by kernel_rfl) ?_
  refine VO.k5 0 1 2 3 4 ?_
  refine VC.rs ?_
  refine VO.mv ?_
  refine VO.bsl (cs := [Value.int .u8 (3), Value.int .u8 (3), Value.int .u8 (1), Value.int .u8 (1)]) 110 rfl rfl tsl25 tz5 rfl rfl (fun g9 => ?_)
  obtain ⟨mo11, cs11, hM11, hA11, hC11⟩ := (Ow.ownl f1_1 rfl mnil)
  refine VO.appK 103 rfl rfl rfl tsl25 tz5 rfl rfl hM11 hA11 (.row 110 _ _ _ 4 4 _ _ Try.underlying25 rfl (cellsAt_one rfl rfl)) (by simp [Value.oneCell']) (by simp only [maxLen]; (exact fin2_lives19_ok)) (by exact fin2_lives19_ok) (by decide) (fun v11 m11 mk11 hmk11 hN11 hK11 => ?_)
  have ho11 : OwnL .byte mk11 mnil v11 (exSB ++ [UInt8.ofNat 3, UInt8.ofNat 3, UInt8.ofNat 1, UInt8.ofNat 1]) := OwnL.more (ys := [UInt8.ofNat 3, UInt8.ofNat 3, UInt8.ofNat 1, UInt8.ofNat 1]) hC11 hN11 (All2c.cons (c1 := [Value.int .u8 (3)]) (rd_byteN (by exact fin2_lives19_ok)) (All2c.cons (c1 := [Value.int .u8 (3)]) (rd_byteN (by exact fin2_lives19_ok)) (All2c.cons (c1 := [Value.int .u8 (1)]) (rd_byteN (by exact fin2_lives19_ok)) (All2c.cons (c1 := [Value.int .u8 (1)]) (rd_byteN (by exact fin2_lives19_ok)) All2c.nil))))
  replace ho11 := OwnL.up ho11 hmk11
  have hkp11 : Rd (.sl .byte) (m11) [Value.slice A1_1 (exSB.length) (c1_1)] exSB := KeptA.rd hK11 (All2c.mono hC11 fun _ _ h => Rd.flat rfl h _)
  obtain ⟨A11, c11, rfl, l11, k11⟩ := ho11.slice
  simp only [maxLen] at k11
  refine VO.callN 112 rfl fnOk18 rfl (fun W hW => oScan_ok W (OwnL.rd ho11 (hW.at (i := 103) rfl) (mle_nil _)) (by exact fin2_lives19_ok)) (fun v12 m12 hv12 => ?_)
  obtain ⟨s12_0, rfl, f12_0⟩ := hv12
  have hfa13 := scanF_bounds (exSB ++ [UInt8.ofNat 3, UInt8.ofNat 3, UInt8.ofNat 1, UInt8.ofNat 1])
  obtain ⟨A12_0, c12_0, eq12_0, l12_0, k12_0⟩ := f12_0.slice
  subst eq12_0
  simp only [maxLen] at k12_0
  refine VO.mv ?_
  refine VO.y rfl (.ext rfl rfl) ?_
  refine VO.y rfl (.ext rfl rfl) ?_
  refine VO.as ?_
  refine VO.as ?_
  refine VO.k7 0 1 2 3 4 5 6 ?_
  refine VC.rs ?_
  refine VO.mv ?_
  refine VO.y rfl (.eql rfl rfl) ?_
  refine VO.mv ?_
  refine VO.dec (t := 25) rfl (fun hc14 => ?_) (fun hc14 => ?_)
  · -- T
    refine VO.gy rfl ⟨_, rfl, rfl⟩ (.mv rfl) ?_
    refine VO.gy rfl ⟨_, rfl, rfl⟩ (.mv rfl) ?_
    have hs15 := hkp11.pre (j := 14) (by exact fin2_lives19_ok)
    refine VO.gy rfl ⟨_, rfl, rfl⟩ (.slHI 14 rfl rfl tsl25 rfl (by exact fin2_lives19_ok)) ?_
    refine VO.gcallN 116 rfl ⟨_, rfl, rfl⟩ fnOk21 rfl (fun W hW => SameBytes_ok W (OwnL.rd (Ow.ownl f7_0 rfl mnil) (hW.at (i := 107) rfl) (mle_nil _)) (Rd.mono hs15 (hW.at (i := 103) rfl))) (fun v16 m16 hv16 => ?_)
    subst hv16
    refine VO.y rfl (.pT rfl rfl) ?_
    refine VO.mv ?_
    refine VO.dec (t := 31) rfl (fun hc17 => ?_) (fun hc17 => ?_)
    · -- TT
      refine VO.gy rfl ⟨_, rfl, rfl⟩ (.mv rfl) ?_
      refine VO.gy rfl ⟨_, rfl, rfl⟩ (.eql rfl rfl) ?_
      refine VO.y rfl (.pT rfl rfl) ?_
      refine VO.mv ?_
      refine VO.dec (t := 35) rfl (fun hc18 => ?_) (fun hc18 => ?_)
      · -- TTT
        refine VO.gy rfl ⟨_, rfl, rfl⟩ (.mv rfl) ?_
        refine VO.gy rfl ⟨_, rfl, rfl⟩ (.ldA 106 rfl tk24 rfl (cellsAt_one rfl rfl)) ?_
        refine VO.gbsl (cs := [Value.int .i64 (exS.1), Value.int .i64 (exS.2.1), Value.slice q1_0_A2 (exS.2.2.length) (q1_0_c2)]) 120 rfl ⟨_, rfl, rfl⟩ rfl tsl41 tz24 rfl rfl (fun g19 => ?_)
        refine VO.gather (l := [mone g19 (.cells [Value.int .i64 (exS.1), Value.int .i64 (exS.2.1), Value.slice q1_0_A2 (exS.2.2.length) (q1_0_c2)].toArray 24 (0, 0)), q1_0_n2]) 123 [120, 104] rfl (fun hg22 => ?_)
        have ho22 : Ow (.sl TSection) (muns [mone g19 (.cells [Value.int .i64 (exS.1), Value.int .i64 (exS.2.1), Value.slice q1_0_A2 (exS.2.2.length) (q1_0_c2)].toArray 24 (0, 0)), q1_0_n2]) [Value.slice (some ⟨g19, 0, none⟩) (1) (1)] [exS] := Ow.lit 1 (Seps.grp1 (ls := [[q1_0_n2]]) hg22) (OwAs.cons (m := muns [q1_0_n2]) (c1 := [Value.int .i64 (exS.1), Value.int .i64 (exS.2.1), Value.slice q1_0_A2 (exS.2.2.length) (q1_0_c2)]) (show Ow TSection _ _ exS from (mkO_Section exS.1 exS.2.1 exS.2.2 (Seps.self hg22 (List.Sublist.cons _ (List.Sublist.cons_cons _ List.Sublist.slnil))) (by simp only [inK]; (exact fin2_lives19_ok)) (by simp only [inK]; (exact fin2_lives19_ok)) q1_0_2)) OwAs.nil) rfl rfl
        refine VO.gcallN 121 rfl ⟨_, rfl, rfl⟩ fnOk22 rfl (fun W hW => SameSections_ok W (Ow.rd f12_0 (hW.at (i := 112) rfl)) (Ow.rd ho22 (hW.at (i := 123) rfl))) (fun v21 m21 hv21 => ?_)
        subst hv21
        refine VO.y rfl (.pT rfl rfl) ?_
        refine VO.as ?_
        refine VO.k7 0 1 2 3 4 5 6 ?_
        refine VC.ret ?_
        refine ⟨_, _, res_run (rs := [.tmp 0]) rfl (.tmp rfl .nil), fun W_ hI => out_of (l := []) hI [] rfl rfl (mle_refl _) (fun hS_ => ?_)⟩
        dsimp only [packV]
        all_goals (first | rfl | (first | exact congrArg Value.bool (decide_eq_true (by subst_vars; first | rfl | decide | (simp only [ex19E, ex19D, ex19F]; done) | (simp only [ex19E, ex19D, ex19F]; first | rfl | decide) | exact ex19H.1 | (rw [ex19H.1]; done) | (rw [ex19H.2]; done))) | (simp only [ex19H.1, ex19H.2]; rfl)))
      · -- TTF
        first | exact absurd (by subst_vars; first | rfl | decide | (simp only [ex19E, ex19D, ex19F]; done) | (simp only [ex19E, ex19D, ex19F]; first | rfl | decide) | exact ex19H.1 | (rw [ex19H.1]; done) | (rw [ex19H.2]; done)) hc18 | (rw [ex19H.1] at hc18; cases hc18) | (rw [ex19H.2] at hc18; cases hc18)
    · -- TF
      first | exact absurd (by subst_vars; first | rfl | decide | (simp only [ex19E, ex19D, ex19F]; done) | (simp only [ex19E, ex19D, ex19F]; first | rfl | decide) | exact ex19H.1 | (rw [ex19H.1]; done) | (rw [ex19H.2]; done)) hc17 | (rw [ex19H.1] at hc17; cases hc17) | (rw [ex19H.2] at hc17; cases hc17)
  · -- F
    first | exact absurd (by subst_vars; first | rfl | decide | (simp only [ex19E, ex19D, ex19F]; done) | (simp only [ex19E, ex19D, ex19F]; first | rfl | decide) | exact ex19H.1 | (rw [ex19H.1]; done) | (rw [ex19H.2]; done)) hc14 | (rw [ex19H.1] at hc14; cases hc14) | (rw [ex19H.2] at hc14; cases hc14)
end
section
set_option linter.unusedVariables false
set_option linter.unusedSimpArgs false
set_option maxRecDepth 4000
theorem fnOk13 : fnOk Try.prog 13 = true := by kernel_rfl
theorem fnOk28 : fnOk Try.prog 28 = true := by kernel_rfl
theorem fnOk29 : fnOk Try.prog 29 = true := by kernel_rfl
theorem fnOk30 : fnOk Try.prog 30 = true := by kernel_rfl
end
section
set_option linter.unusedVariables false
/-- a disk whose file 3 is the first i sections -/
structure Fi (d : DDisk) (l : List DSection) (i : Nat) : Prop where
  on : Onn d
  none : d.2.2.2.2.2.2 = []
  dur : getF d.2.2.2.2.2.1 3 = sectEncs (l.take i)
theorem fi_new (l : List DSection) : Fi newD l 0 := ⟨⟨okD_new, rfl, rfl, rfl⟩, rfl, rfl⟩
section
variable {d : DDisk} {l : List DSection} {i : Nat} {s : DSection}
theorem fi_dur (h : Fi d l i) : dDurable d 3 = sectEncs (l.take i) := by rw [on_durable h.on (by decide), h.dur]
theorem fi_next (h : Fi d l i) (hx : l[i]? = some s) (hs : sectCheck s = 0) : (orphW d ((dDurable d 3).length : Int) s).2 = 0 ∧ dPending (orphW d ((dDurable d 3).length : Int) s).1 = 0 ∧ Fi (orphW d ((dDurable d 3).length : Int) s).1 l (i + 1) := by
  have e : getF (curD d) 3 = dDurable d 3 := by rw [cur_none h.none, on_durable h.on (by decide)]
  obtain ⟨h1, h2, h3, h4⟩ := on_orph (base := ((dDurable d 3).length : Int)) h.on hs (by omega) (by rw [e]; exact Int.le_refl _)
  refine ⟨h1, by rw [on_pending h2, h4]; rfl, h2, h4, ?_⟩
  rw [h3, get_set (by decide) (by decide), if_pos rfl, e, Int.toNat_natCast, List.take_length, fi_dur h, take_one hx, sectEncs_app]
  simp [sectEncs]
theorem fi_scan (h : Fi d l i) (hr : riseS 0 (l.take i)) : scanF (dDurable d 3) = (l.take i, ((sectEncs (l.take i)).length : Int)) := by
  have := scan_whole (r := []) hr sec_nil
  rw [List.append_nil] at this
  rw [fi_dur h]; exact this
theorem fi_has {c : DCommit} {j : Nat} (h : Fi d l (i + 1)) (hr : riseS 0 (l.take (i + 1))) (hx : l[i]? = some s) (hc : s.2.2[j]? = some c) : hasS (scanF (dDurable d 3)).1 c.1 c.2.1 = true := by
  rw [fi_scan h hr]
  exact has_in (by rw [take_one hx]; exact List.mem_append_right _ (.head _)) (List.mem_of_getElem? hc)
theorem fi_rise {last : Int} (hr : riseS 0 (l.take i) ∧ lastEp 0 (l.take i) = last) (hx : l[i]? = some s) (hs : sectCheck s = 0) (he : ¬ s.1 ≤ last) : riseS 0 (l.take (i + 1)) ∧ lastEp 0 (l.take (i + 1)) = s.1 := by
  have h1 := rise_snoc hr.1 hx hs (by rw [hr.2]; omega)
  exact ⟨h1.1, h1.2.1⟩
theorem fi_or {f : Bool} {c : DCommit} {j : Nat} {e n : Int} {q : Bool} (h : f = (q || (s.2.2.take j).any fun c => decide (c.1 = e ∧ c.2.1 = n))) (hc : s.2.2[j]? = some c) : (f || decide (c.1 = e ∧ c.2.1 = n)) = (q || (s.2.2.take (j + 1)).any fun c => decide (c.1 = e ∧ c.2.1 = n)) := by
  rw [h, take_one hc, List.any_append, Bool.or_assoc]; simp
end
end
section
set_option linter.unusedVariables false
set_option linter.unusedSimpArgs false
set_option maxRecDepth 4000
theorem fnOk31 : fnOk Try.prog 31 = true := by kernel_rfl
set_option maxHeartbeats 8000000 in
theorem orphanFile_ok (W : World) {v0 : Value} {d0 : List DSection} (h0 : Rd (.sl TSection) (wm W) [v0] d0) (d1 : Int) (h1 : inK .i64 d1) (d2 : Int) (h2 : inK .i64 d2) : CallR Try.prog 5 [v0, .int .i64 d1, .int .i64 d2] W (mnil) (fun v m' => v = .bool true) := by
  obtain ⟨A0, c0, rfl, l0, k0⟩ := h0.slice
  simp only [maxLen] at k0
  have h1' := h1; simp only [inK] at h1'
  have h2' := h2; simp only [inK] at h2'
  refine CallR.ofA (n := 153) Try.func5 rfl rfl rfl ?_
  refine VC.rs ?_
  refine VO.as ?_
  refine VO.k4 0 1 2 6 ?_
  refine VC.seq ?_
  refine VC.rs ?_
  refine VO.callN 101 rfl fnOk11 rfl (fun W hW => lives19_ok W ) (fun v1 m1 hv1 => ?_)
  subst hv1
  refine VO.y rfl (.not rfl) ?_
  refine VO.k5 0 1 2 6 16 ?_
  refine VC.condF rfl ?_
  refine VC.skip ?_
  refine outN ?_
  refine VC.seq ?_
  refine VC.rs ?_
  refine VO.mv ?_
  refine VO.y rfl (.lenS rfl tsl41) ?_
  refine VO.y rfl (.gtr rfl rfl) ?_
  refine VO.keep [0] [(0, wm W)] (by kernel_rfl) ?_
  refine VO.k6 0 1 2 6 16 19 ?_
  refine VC.cond rfl (fun hc2 => ?_) (fun hc2 => ?_)
  · -- T
    refine VC.rs ?_
    refine VO.as ?_
    refine VO.k6 0 1 2 6 16 19 ?_
    refine VC.ret ?_
    refine outR ?_
    refine ⟨_, _, res_run (rs := [.tmp 6]) rfl (.tmp rfl .nil), fun W_ hI => out_of (l := []) hI [] rfl rfl (mle_refl _) (fun hS_ => ?_)⟩
    dsimp only [packV]
    all_goals (first | rfl | (first | rfl | (simp [*]; done) | (rw [hf, show d0.take i = d0 from List.take_of_length_le (by omega)]; done) | (show Value.bool _ = _; exact congrArg Value.bool (decide_eq_true (by rw [(fi_scan hd hr.1), hf])))))
  · -- F
    refine VC.skip ?_
    refine outN ?_
    refine VC.rs ?_
    refine VO.callN 103 rfl fnOk28 rfl (fun W hW => dNew_ok W ) (fun v3 m3 hv3 => ?_)
    obtain ⟨s3_0, rfl, f3_0⟩ := hv3
    have hfa4 := okD_new
    have hfa5 := (show wD newD = 0 from rfl)
    refine VO.as ?_
    refine VO.k7 0 1 2 6 7 16 19 ?_
    refine VC.rs ?_
    refine VO.as ?_
    refine VO.k8 0 1 2 6 7 8 16 19 ?_
    refine VC.rs ?_
    refine VO.as ?_
    refine VO.keep [103, 0] [(103, m3), (0, wm W)] (by kernel_rfl) ?_
    refine VO.k9 0 1 2 6 7 8 9 16 19 ?_
    refine VC.seq ?_
    refine VC.rs ?_
    refine VO.as ?_
    refine VO.k10 0 1 2 6 7 8 9 10 16 19 ?_
    refine VC.block ?_
    refine VC.loop (G := Nat × DdiskDisk × Mem × Int × Bool) (fun g => [(8, Value.int .i64 ((g.2.2.2.1))), (9, Value.bool (g.2.2.2.2)), (10, Value.int .i64 ((((g.1) : Nat) : Int))), (0, Value.slice A0 (d0.length) (c0)), (1, Value.int .i64 (d1)), (2, Value.int .i64 (d2)), (7, Value.pointer (some ⟨s3_0, 0, none⟩)), (16, Value.bool false), (19, Value.bool (decide (40 < ((d0.length : Nat) : Int))))]) (fun g => [(103, (g.2.2.1)), (0, wm W)]) (fun g => ((g.1) ≤ d0.length) ∧ (Fi (g.2.1) d0 (g.1)) ∧ (riseS 0 (d0.take (g.1)) ∧ lastEp 0 (d0.take (g.1)) = (g.2.2.2.1)) ∧ (∀ s ∈ d0.take (g.1), sectCheck s = 0 ∧ smallS s) ∧ ((g.2.2.2.2) = hasS (d0.take (g.1)) d1 d2) ∧ (wD (g.2.1) ≤ 100000 * (g.1)) ∧ (Ow (.ptr TdiskDisk) (g.2.2.1) [.pointer (some ⟨s3_0, 0, none⟩)] (s3_0, (g.2.1)))) (fun g => d0.length - (g.1)) (0, newD, m3, 0, false) (⟨by (dsimp only; omega), by exact fi_new _, by exact ⟨trivial, rfl⟩, by (intro s_ h_; cases h_), by rfl, by (dsimp only; omega), f3_0⟩) ⟨⟨rfl, rfl, rfl, rfl, rfl, rfl, rfl, rfl, rfl, trivial⟩, fun _ h => h.sub [103, 0]⟩ ?_
    rintro ⟨i, d, d_m, last, found⟩ ⟨hi, hd, hr, hsm, hf, hw, h_d⟩
    replace hi : i ≤ d0.length := hi
    replace hd : Fi d d0 i := hd
    replace hr : riseS 0 (d0.take i) ∧ lastEp 0 (d0.take i) = last := hr
    replace hsm : ∀ s ∈ d0.take i, sectCheck s = 0 ∧ smallS s := hsm
    replace hf : found = hasS (d0.take i) d1 d2 := hf
    replace hw : wD d ≤ 100000 * i := hw
    replace h_d : Ow (.ptr TdiskDisk) d_m [.pointer (some ⟨s3_0, 0, none⟩)] (s3_0, d) := h_d
    show VC _ _ _ _ _ [(8, Value.int .i64 (last)), (9, Value.bool found), (10, Value.int .i64 (((i : Nat) : Int))), (0, Value.slice A0 (d0.length) (c0)), (1, Value.int .i64 (d1)), (2, Value.int .i64 (d2)), (7, Value.pointer (some ⟨s3_0, 0, none⟩)), (16, Value.bool false), (19, Value.bool (decide (40 < ((d0.length : Nat) : Int))))] [(103, d_m), (0, wm W)]
    have hok := hd.on.ok
    refine VC.seq ?_
    refine VC.rs ?_
    refine VO.mv ?_
    refine VO.mv ?_
    refine VO.y rfl (.lenS rfl tsl41) ?_
    refine VO.y rfl (.lss rfl rfl) ?_
    refine VO.k10 0 1 2 7 8 9 10 16 19 24 ?_
    refine VC.cond rfl (fun hc6 => ?_) (fun hc6 => ?_)
    · -- FT
      refine VC.skip ?_
      refine outN ?_
      refine VC.seq ?_
      refine VC.block ?_
      refine VC.seq ?_
      refine VC.rs ?_
      refine VO.mv ?_
      refine VO.mv ?_
      obtain ⟨x7, hx7⟩ : ∃ z_, (d0)[i]? = some z_ := ⟨_, List.getElem?_eq_getElem bd⟩
      obtain ⟨gg7, oo7, ec7, ea7, hce7, hre7⟩ := h0.elem hx7
      cases ea7
      obtain ⟨q7_A2, q7_c2, rfl, q7_0, q7_1, q7_2⟩ := open_Section (x0 := x7.1) (x1 := x7.2.1) (x2 := x7.2.2) hre7
      simp only [inK] at q7_0
      simp only [inK] at q7_1
      have q7_r2 := Rd.room q7_2
      refine VO.y rfl (.ixI i rfl rfl tsl41 rfl bd) ?_
      refine VO.y rfl (.ldA 0 rfl tk24 rfl hce7) ?_
      refine VO.callN 108 rfl fnOk13 rfl (fun W hW => small19_ok W (Rd.mono hre7 (hW.at (i := 0) rfl))) (fun v8 m8 hv8 => ?_)
      subst hv8
      refine VO.y rfl (.notD rfl) ?_
      refine VO.mv ?_
      refine VO.dec (t := 33) rfl (fun hc9 => ?_) (fun hc9 => ?_)
      · -- FTT
        refine VO.gN ?_
        refine VO.gN ?_
        refine VO.gN ?_
        refine VO.gN ?_
        refine VO.gN ?_
        refine VO.gN ?_
        refine VO.gN ?_
        refine VO.y rfl (.pT rfl rfl) ?_
        refine VO.mv ?_
        refine VO.gN ?_
        refine VO.gN ?_
        refine VO.gN ?_
        refine VO.gN ?_
        refine VO.gN ?_
        refine VO.gN ?_
        refine VO.y rfl (.pT rfl rfl) ?_
        refine VO.keep [103, 0] [(103, d_m), (0, wm W)] (by kernel_rfl) ?_
        refine VO.k11 0 1 2 7 8 9 10 16 19 24 49 ?_
        refine VC.condT rfl ?_
        refine VC.rs ?_
        refine VO.as ?_
        refine VO.k12 0 1 2 6 7 8 9 10 16 19 24 49 ?_
        refine VC.ret ?_
        refine outR ?_
        refine outBR ?_
        refine outR ?_
        refine outR ?_
        refine outBR ?_
        refine outR ?_
        refine ⟨_, _, res_run (rs := [.tmp 6]) rfl (.tmp rfl .nil), fun W_ hI => out_of (l := []) hI [] rfl rfl (mle_refl _) (fun hS_ => ?_)⟩
        dsimp only [packV]
        all_goals (first | rfl | (first | rfl | (simp [*]; done) | (rw [hf, show d0.take i = d0 from List.take_of_length_le (by omega)]; done) | (show Value.bool _ = _; exact congrArg Value.bool (decide_eq_true (by rw [(fi_scan hd hr.1), hf])))))
      · -- FTF
        refine VO.gy rfl ⟨_, rfl, rfl⟩ (.mv rfl) ?_
        refine VO.gy rfl ⟨_, rfl, rfl⟩ (.mv rfl) ?_
        refine VO.gy rfl ⟨_, rfl, rfl⟩ (.ixI i rfl rfl tsl41 rfl bd) ?_
        refine VO.gy rfl ⟨_, rfl, rfl⟩ (.fa rfl tst24 rfl) ?_
        refine VO.gy rfl ⟨_, rfl, rfl⟩ (.ld1 0 rfl tk3 rfl (hce7.at1 (j := 0) rfl)) ?_
        refine VO.gy rfl ⟨_, rfl, rfl⟩ (.mv rfl) ?_
        refine VO.gy rfl ⟨_, rfl, rfl⟩ (.leq rfl rfl) ?_
        refine VO.y rfl (.pF rfl rfl) ?_
        refine VO.mv ?_
        refine VO.dec (t := 42) rfl (fun hc11 => ?_) (fun hc11 => ?_)
        · -- FTFT
          refine VO.gN ?_
          refine VO.gN ?_
          refine VO.gN ?_
          refine VO.gN ?_
          refine VO.gN ?_
          refine VO.gN ?_
          refine VO.y rfl (.pT rfl rfl) ?_
          refine VO.keep [103, 0] [(103, d_m), (0, wm W)] (by kernel_rfl) ?_
          refine VO.k11 0 1 2 7 8 9 10 16 19 24 49 ?_
          refine VC.condT rfl ?_
          refine VC.rs ?_
          refine VO.as ?_
          refine VO.k12 0 1 2 6 7 8 9 10 16 19 24 49 ?_
          refine VC.ret ?_
          refine outR ?_
          refine outBR ?_
          refine outR ?_
          refine outR ?_
          refine outBR ?_
          refine outR ?_
          refine ⟨_, _, res_run (rs := [.tmp 6]) rfl (.tmp rfl .nil), fun W_ hI => out_of (l := []) hI [] rfl rfl (mle_refl _) (fun hS_ => ?_)⟩
          dsimp only [packV]
          all_goals (first | rfl | (first | rfl | (simp [*]; done) | (rw [hf, show d0.take i = d0 from List.take_of_length_le (by omega)]; done) | (show Value.bool _ = _; exact congrArg Value.bool (decide_eq_true (by rw [(fi_scan hd hr.1), hf])))))
        · -- FTFF
          refine VO.gy rfl ⟨_, rfl, rfl⟩ (.mv rfl) ?_
          refine VO.gy rfl ⟨_, rfl, rfl⟩ (.mv rfl) ?_
          refine VO.gy rfl ⟨_, rfl, rfl⟩ (.ixI i rfl rfl tsl41 rfl bd) ?_
          refine VO.gy rfl ⟨_, rfl, rfl⟩ (.ldA 0 rfl tk24 rfl hce7) ?_
          refine VO.gcallN 113 rfl ⟨_, rfl, rfl⟩ fnOk9 rfl (fun W hW => sectCheck_ok W (Rd.mono hre7 (hW.at (i := 0) rfl))) (fun v13 m13 hv13 => ?_)
          subst hv13
          have hfa14 := sectCheck_range x7
          refine VO.gy rfl ⟨_, rfl, rfl⟩ (.neq rfl rfl) ?_
          refine VO.y rfl (.pF rfl rfl) ?_
          refine VO.keep [103, 0] [(103, d_m), (0, wm W)] (by kernel_rfl) ?_
          refine VO.k11 0 1 2 7 8 9 10 16 19 24 49 ?_
          refine VC.cond rfl (fun hc15 => ?_) (fun hc15 => ?_)
          · -- FTFFT
            refine VC.rs ?_
            refine VO.as ?_
            refine VO.k12 0 1 2 6 7 8 9 10 16 19 24 49 ?_
            refine VC.ret ?_
            refine outR ?_
            refine outBR ?_
            refine outR ?_
            refine outR ?_
            refine outBR ?_
            refine outR ?_
            refine ⟨_, _, res_run (rs := [.tmp 6]) rfl (.tmp rfl .nil), fun W_ hI => out_of (l := []) hI [] rfl rfl (mle_refl _) (fun hS_ => ?_)⟩
            dsimp only [packV]
            all_goals (first | rfl | (first | rfl | (simp [*]; done) | (rw [hf, show d0.take i = d0 from List.take_of_length_le (by omega)]; done) | (show Value.bool _ = _; exact congrArg Value.bool (decide_eq_true (by rw [(fi_scan hd hr.1), hf])))))
          · -- FTFFF
            refine VC.skip ?_
            refine outN ?_
            refine VC.rs ?_
            refine VO.mv ?_
            refine VO.mv ?_
            refine VO.y rfl (.ixI i rfl rfl tsl41 rfl bd) ?_
            refine VO.y rfl (.fa rfl tst24 rfl) ?_
            refine VO.y rfl (.ld1 0 rfl tk3 rfl (hce7.at1 (j := 0) rfl)) ?_
            refine VO.as ?_
            refine VO.k11 0 1 2 7 8 9 10 16 19 24 49 ?_
            refine VC.seq ?_
            refine VC.seq ?_
            refine VC.regD _ 8 [(0, true), (1, true), (4, true), (5, true), (6, true), (7, true), (2, false), (3, true)] follows (by kernel_rfl) (fun _ h => h.sub [0]) ?_
            refine VD.y rfl rfl (.inl rfl) (.mv rfl) ?_
            refine VD.y rfl rfl (.inl rfl) (.mv rfl) ?_
            refine VD.y rfl rfl (.inl rfl) (.mv rfl) ?_
            refine VD.y rfl rfl (.inl rfl) (.mv rfl) ?_
            refine VD.y rfl rfl (.inl rfl) (.ixI i rfl rfl tsl41 rfl bd) ?_
            refine VD.y rfl rfl (.inl rfl) (.ldA 0 rfl tk24 rfl hce7) ?_
            refine VD.call 103 rfl rfl (.inl rfl) fnOk30 rfl rfl (fun _ _ h => h.sub [0]) (fun W hW => dDurable_ok W (hW.at (i := 103) rfl) h_d 3 bdk bd) (fun v18 m18 hv18 => ?_)
            obtain ⟨s18_0, p18_0, p18_1, rfl, hS18, f18_0, w18_0⟩ := hv18
            refine VD.inv _ (fun _ h => h.parts (i := 103) rfl hS18 [119, 120]) ?_
            have hfa21 := (durable_size d 3)
            obtain ⟨A18_0, c18_0, eq18_0, l18_0, k18_0⟩ := f18_0.slice
            subst eq18_0
            simp only [maxLen] at k18_0
            refine VD.y rfl rfl (.inl rfl) (.lenS rfl tsl25) ?_
            refine VD.nil rfl ?_ rfl
            refine VO.call 120 rfl fnOk29 rfl rfl (fun W hW => oWrite_ok W (hW.at (i := 120) rfl) w18_0 (((dDurable d 3).length : Nat) : Int) bdk (Rd.mono hre7 (hW.out (i := 120) (j := 0) rfl rfl)) (by assumption) bd) (fun v22 m22 hv22 => ?_)
            obtain ⟨rfl, w22_0⟩ := hv22
            have hfa23 := (orphW_ok (base := (((dDurable d 3).length : Nat) : Int)) (s := x7) (show okD d by assumption))
            have hfa24 := (orphW_w (base := (((dDurable d 3).length : Nat) : Int)) (s := x7) (show okD d by assumption))
            refine VO.y rfl (.neq rfl rfl) ?_
            refine VO.mv ?_
            refine VO.dec (t := 65) rfl (fun hc25 => ?_) (fun hc25 => ?_)
            · -- FTFFFT
              exact absurd (fi_next hd ‹d0[i]? = some _› (Decidable.not_not.1 (by assumption))).1 hc25
            · -- FTFFFF
              refine VO.gy rfl ⟨_, rfl, rfl⟩ (.mv rfl) ?_
              refine VO.gcall 120 rfl ⟨_, rfl, rfl⟩ fnOk31 rfl rfl (fun W hW => dPending_ok W (hW.at (i := 120) rfl) w22_0) (fun v26 m26 hv26 => ?_)
              obtain ⟨rfl, w26_0⟩ := hv26
              refine VO.gy rfl ⟨_, rfl, rfl⟩ (.neq rfl rfl) ?_
              refine VO.y rfl (.pF rfl rfl) ?_
              refine VO.k12 0 1 2 7 8 9 10 16 19 24 49 69 ?_
              refine outN ?_
              refine VC.cond rfl (fun hc27 => ?_) (fun hc27 => ?_)
              · -- FTFFFFT
                exact absurd (fi_next hd ‹d0[i]? = some _› (Decidable.not_not.1 (by assumption))).2.1 hc27
              · -- FTFFFFF
                refine VC.skip ?_
                refine outN ?_
                refine VC.rs ?_
                have hck := Decidable.not_not.1 ‹¬ ¬ sectCheck x7 = 0›
                have hfl := fi_next hd hx7 hck
                have hrn := fi_rise hr hx7 hck (by omega)
                have hsx := Decidable.not_not.1 ‹¬ ¬ smallS x7›
                have hsn := all_next hsm hx7 (show sectCheck x7 = 0 ∧ smallS x7 from ⟨hck, hsx⟩)
                have hln := (sectEncode_len x7).2
                have hln2 := hsx.2
                refine VO.as ?_
                refine VO.keep [120, 0] [(120, m26), (0, wm W)] (by kernel_rfl) ?_
                refine VO.k13 0 1 2 7 8 9 10 11 16 19 24 49 69 ?_
                refine VC.block ?_
                refine VC.loop (G := Nat × Bool × DdiskDisk × Mem) (fun g => [(9, Value.bool (g.2.1)), (11, Value.int .i64 ((((g.1) : Nat) : Int))), (0, Value.slice (some ⟨gg7, oo7, none⟩) (d0.length) (c0)), (1, Value.int .i64 (d1)), (2, Value.int .i64 (d2)), (7, Value.pointer (some ⟨s3_0, 0, none⟩)), (8, Value.int .i64 (x7.1)), (10, Value.int .i64 (((i : Nat) : Int))), (16, Value.bool false), (19, Value.bool (decide (40 < ((d0.length : Nat) : Int)))), (24, Value.bool (decide (((i : Nat) : Int) < ((d0.length : Nat) : Int)))), (49, Value.bool (decide (¬ (sectCheck x7) = 0))), (69, Value.bool (decide (¬ (dPending ((orphW d (((dDurable d 3).length : Nat) : Int) x7).1)) = 0)))]) (fun g => [(120, (g.2.2.2)), (0, wm W)]) (fun g => ((g.1) ≤ x7.2.2.length) ∧ ((g.2.2.1) = ((orphW d (((dDurable d 3).length : Nat) : Int) x7).1)) ∧ ((g.2.1) = (hasS (d0.take i) d1 d2 || (x7.2.2.take (g.1)).any (fun c => decide (c.1 = d1 ∧ c.2.1 = d2)))) ∧ (Ow (.ptr TdiskDisk) (g.2.2.2) [.pointer (some ⟨s3_0, 0, none⟩)] (s3_0, (g.2.2.1)))) (fun g => x7.2.2.length - (g.1)) (0, found, ((orphW d (((dDurable d 3).length : Nat) : Int) x7).1), m26) (⟨by (dsimp only; omega), by rfl, by (rw [hf]; simp), w26_0⟩) ⟨⟨rfl, rfl, rfl, rfl, rfl, rfl, rfl, rfl, rfl, rfl, rfl, rfl, rfl, trivial⟩, fun _ h => h.sub [120, 0]⟩ ?_
                rintro ⟨j, f2, q, q_m⟩ ⟨hj, hq, hf2, h_q⟩
                replace hj : j ≤ x7.2.2.length := hj
                replace hq : q = ((orphW d (((dDurable d 3).length : Nat) : Int) x7).1) := hq
                replace hf2 : f2 = (hasS (d0.take i) d1 d2 || (x7.2.2.take j).any (fun c => decide (c.1 = d1 ∧ c.2.1 = d2))) := hf2
                replace h_q : Ow (.ptr TdiskDisk) q_m [.pointer (some ⟨s3_0, 0, none⟩)] (s3_0, q) := h_q
                show VC _ _ _ _ _ [(9, Value.bool f2), (11, Value.int .i64 (((j : Nat) : Int))), (0, Value.slice (some ⟨gg7, oo7, none⟩) (d0.length) (c0)), (1, Value.int .i64 (d1)), (2, Value.int .i64 (d2)), (7, Value.pointer (some ⟨s3_0, 0, none⟩)), (8, Value.int .i64 (x7.1)), (10, Value.int .i64 (((i : Nat) : Int))), (16, Value.bool false), (19, Value.bool (decide (40 < ((d0.length : Nat) : Int)))), (24, Value.bool (decide (((i : Nat) : Int) < ((d0.length : Nat) : Int)))), (49, Value.bool (decide (¬ (sectCheck x7) = 0))), (69, Value.bool (decide (¬ (dPending ((orphW d (((dDurable d 3).length : Nat) : Int) x7).1)) = 0)))] [(120, q_m), (0, wm W)]
                have hokq : okD q := by rw [hq]; exact hfl.2.2.on.ok
                have hwq : wD q ≤ 100000 * (i + 1) := by rw [hq]; omega
                refine VC.seq ?_
                refine VC.rs ?_
                refine VO.mv ?_
                refine VO.mv ?_
                refine VO.mv ?_
                refine VO.y rfl (.ixI i rfl rfl tsl41 rfl bd) ?_
                refine VO.y rfl (.fa rfl tst24 rfl) ?_
                refine VO.y rfl (.ld1 0 rfl tk22 rfl (hce7.at1 (j := 2) rfl)) ?_
                refine VO.y rfl (.lenS rfl tsl22) ?_
                refine VO.y rfl (.lss rfl rfl) ?_
                refine VO.k14 0 1 2 7 8 9 10 11 16 19 24 49 69 77 ?_
                refine VC.cond rfl (fun hc29 => ?_) (fun hc29 => ?_)
                · -- FTFFFFFT
                  refine VC.skip ?_
                  refine outN ?_
                  refine VC.seq ?_
                  refine VC.block ?_
                  refine VC.rs ?_
                  refine VO.mv ?_
                  refine VO.mv ?_
                  refine VO.decB (t := 81) rfl (fun hc30 => ?_) (fun hc30 => ?_)
                  · -- FTFFFFFTT
                    refine VO.gN ?_
                    refine VO.gN ?_
                    refine VO.gN ?_
                    refine VO.gN ?_
                    refine VO.gN ?_
                    refine VO.gN ?_
                    refine VO.gN ?_
                    refine VO.gN ?_
                    refine VO.gN ?_
                    refine VO.gN ?_
                    refine VO.gN ?_
                    refine VO.gN ?_
                    refine VO.gn rfl (.inr ⟨_, rfl, rfl⟩) ?_
                    refine VO.gn rfl (.inr ⟨_, rfl, rfl⟩) ?_
                    refine VO.gn rfl (.inr ⟨_, rfl, rfl⟩) ?_
                    refine VO.gn rfl (.inr ⟨_, rfl, rfl⟩) ?_
                    refine VO.gn rfl (.inr ⟨_, rfl, rfl⟩) ?_
                    refine VO.gn rfl (.inr ⟨_, rfl, rfl⟩) ?_
                    refine VO.gn rfl (.inr ⟨_, rfl, rfl⟩) ?_
                    refine VO.gn rfl (.inr ⟨_, rfl, rfl⟩) ?_
                    refine VO.gn rfl (.inr ⟨_, rfl, rfl⟩) ?_
                    refine VO.gn rfl (.inr ⟨_, rfl, rfl⟩) ?_
                    refine VO.gn rfl (.inr ⟨_, rfl, rfl⟩) ?_
                    refine VO.gN ?_
                    refine VO.y rfl (.pT rfl rfl) ?_
                    refine VO.as ?_
                    refine VO.k14 0 1 2 7 8 9 10 11 16 19 24 49 69 77 ?_
                    refine VC.seq ?_
                    refine VC.regD _ 20 [(0, true), (2, true), (3, true), (4, true), (5, true), (6, true), (7, true), (8, true), (9, true), (10, true), (11, true), (12, true), (13, true), (14, true), (15, true), (16, true), (17, true), (18, true), (19, true), (1, false)] follows (by kernel_rfl) (fun _ h => h.sub [0]) ?_
                    refine VD.y rfl rfl (.inl rfl) (.mv rfl) ?_
                    refine VD.y rfl rfl (.inl rfl) (.mv rfl) ?_
                    refine VD.y rfl rfl (.inl rfl) (.mv rfl) ?_
                    refine VD.y rfl rfl (.inl rfl) (.ixI i rfl rfl tsl41 rfl bd) ?_
                    refine VD.y rfl rfl (.inl rfl) (.fa rfl tst24 rfl) ?_
                    refine VD.y rfl rfl (.inl rfl) (.ld1 0 rfl tk22 rfl (hce7.at1 (j := 2) rfl)) ?_
                    refine VD.y rfl rfl (.inl rfl) (.mv rfl) ?_
                    obtain ⟨x32, hx32⟩ : ∃ z_, (x7.2.2)[j]? = some z_ := ⟨_, List.getElem?_eq_getElem bd⟩
                    obtain ⟨gg32, oo32, ec32, ea32, hce32, hre32⟩ := q7_2.elem hx32
                    cases ea32
                    obtain ⟨q32_A2, q32_c2, rfl, q32_0, q32_1, q32_2⟩ := open_Commit (x0 := x32.1) (x1 := x32.2.1) (x2 := x32.2.2) hre32
                    simp only [inK] at q32_0
                    simp only [inK] at q32_1
                    have q32_r2 := Rd.room q32_2
                    refine VD.y rfl rfl (.inl rfl) (.ixI j rfl rfl tsl22 rfl bd) ?_
                    refine VD.y rfl rfl (.inl rfl) (.fa rfl tst32 rfl) ?_
                    refine VD.y rfl rfl (.inl rfl) (.ld1 0 rfl tk3 rfl (hce32.at1 (j := 0) rfl)) ?_
                    refine VD.y rfl rfl (.inl rfl) (.mv rfl) ?_
                    refine VD.y rfl rfl (.inl rfl) (.mv rfl) ?_
                    refine VD.y rfl rfl (.inl rfl) (.ixI i rfl rfl tsl41 rfl bd) ?_
                    refine VD.y rfl rfl (.inl rfl) (.fa rfl tst24 rfl) ?_
                    refine VD.y rfl rfl (.inl rfl) (.ld1 0 rfl tk22 rfl (hce7.at1 (j := 2) rfl)) ?_
                    refine VD.y rfl rfl (.inl rfl) (.mv rfl) ?_
                    refine VD.y rfl rfl (.inl rfl) (.ixI j rfl rfl tsl22 rfl bd) ?_
                    refine VD.y rfl rfl (.inl rfl) (.fa rfl tst32 rfl) ?_
                    refine VD.y rfl rfl (.inl rfl) (.ld1 0 rfl tk3 rfl (hce32.at1 (j := 1) rfl)) ?_
                    refine VD.call 120 rfl rfl (.inl rfl) fnOk30 rfl rfl (fun _ _ h => h.sub [0]) (fun W hW => dDurable_ok W (hW.at (i := 120) rfl) h_q 3 bdk bd) (fun v35 m35 hv35 => ?_)
                    obtain ⟨s35_0, p35_0, p35_1, rfl, hS35, f35_0, w35_0⟩ := hv35
                    refine VD.inv _ (fun _ h => h.parts (i := 120) rfl hS35 [136, 137]) ?_
                    have hfa38 := (durable_size q 3)
                    obtain ⟨A35_0, c35_0, eq35_0, l35_0, k35_0⟩ := f35_0.slice
                    subst eq35_0
                    simp only [maxLen] at k35_0
                    refine VD.nil rfl ?_ rfl
                    refine VO.callN 139 rfl fnOk12 rfl (fun W hW => oHas_ok W (OwnL.rd (Ow.ownl f35_0 rfl mnil) (hW.at (i := 136) rfl) (mle_nil _)) x32.1 bdk x32.2.1 bdk bd) (fun v39 m39 hv39 => ?_)
                    subst hv39
                    refine VO.y rfl (.not rfl) ?_
                    refine VO.keep [137, 0] [(137, p35_1), (0, wm W)] (by kernel_rfl) ?_
                    refine VO.k15 0 1 2 7 8 9 10 11 16 19 24 49 69 77 128 ?_
                    refine outN ?_
                    refine VC.condBN rfl (fun hc40 => ?_) (fun hc40 => ?_)
                    · -- FTFFFFFTTT
                      exact absurd (show _ = false from hc40) (by rw [hq, fi_has hfl.2.2 hrn.1 ‹d0[i]? = some _› ‹_[j]? = some _›]; decide)
                    · -- FTFFFFFTTF
                      refine VC.skip ?_
                      refine outBN ?_
                      refine outN ?_
                      refine VC.reg ?_
                      refine VO.mv ?_
                      refine VO.y rfl (.add (c := ((j + 1 : Nat) : Int)) rfl rfl (by omega) ⟨bd, bd⟩) ?_
                      refine VO.as ?_
                      refine VO.k15 0 1 2 7 8 9 10 11 16 19 24 49 69 77 128 ?_
                      exact outN ⟨⟨j + 1, true, q, p35_1⟩, ⟨by (dsimp only; omega), by exact hq, by (have h_ := fi_or (e := d1) (n := d2) hf2 ‹_[j]? = some _›; first | (rw [← h_, ‹f2 = true›]; rfl) | (rw [← h_, ‹f2 = false›, Bool.false_or]; exact decide_eq_decide.2 ⟨fun q_ => ⟨‹_ = d1›, q_⟩, fun q_ => q_.2⟩) | (rw [← h_, ‹f2 = false›, Bool.false_or]; exact (decide_eq_false (fun q_ => absurd q_.1 ‹¬ _ = d1›)).symm)), w35_0⟩, by (dsimp only; omega), ⟨⟨rfl, rfl, rfl, rfl, rfl, rfl, rfl, rfl, rfl, rfl, rfl, rfl, rfl, trivial⟩, fun _ h => Inv.sub (Inv.num h 137 120 rfl) [120, 0]⟩⟩
                  · -- FTFFFFFTF
                    refine VO.gy rfl ⟨_, rfl, rfl⟩ (.mv rfl) ?_
                    refine VO.gy rfl ⟨_, rfl, rfl⟩ (.mv rfl) ?_
                    refine VO.gy rfl ⟨_, rfl, rfl⟩ (.ixI i rfl rfl tsl41 rfl bd) ?_
                    refine VO.gy rfl ⟨_, rfl, rfl⟩ (.fa rfl tst24 rfl) ?_
                    refine VO.gy rfl ⟨_, rfl, rfl⟩ (.ld1 0 rfl tk22 rfl (hce7.at1 (j := 2) rfl)) ?_
                    refine VO.gy rfl ⟨_, rfl, rfl⟩ (.mv rfl) ?_
                    obtain ⟨x42, hx42⟩ : ∃ z_, (x7.2.2)[j]? = some z_ := ⟨_, List.getElem?_eq_getElem bd⟩
                    obtain ⟨gg42, oo42, ec42, ea42, hce42, hre42⟩ := q7_2.elem hx42
                    cases ea42
                    obtain ⟨q42_A2, q42_c2, rfl, q42_0, q42_1, q42_2⟩ := open_Commit (x0 := x42.1) (x1 := x42.2.1) (x2 := x42.2.2) hre42
                    simp only [inK] at q42_0
                    simp only [inK] at q42_1
                    have q42_r2 := Rd.room q42_2
                    refine VO.gy rfl ⟨_, rfl, rfl⟩ (.ixI j rfl rfl tsl22 rfl bd) ?_
                    refine VO.gy rfl ⟨_, rfl, rfl⟩ (.fa rfl tst32 rfl) ?_
                    refine VO.gy rfl ⟨_, rfl, rfl⟩ (.ld1 0 rfl tk3 rfl (hce42.at1 (j := 0) rfl)) ?_
                    refine VO.gy rfl ⟨_, rfl, rfl⟩ (.mv rfl) ?_
                    refine VO.gy rfl ⟨_, rfl, rfl⟩ (.eql rfl rfl) ?_
                    refine VO.gy rfl ⟨_, rfl, rfl⟩ (.mv rfl) ?_
                    refine VO.dec (t := 93) rfl (fun hc43 => ?_) (fun hc43 => ?_)
                    · -- FTFFFFFTFT
                      refine VO.gy rfl ⟨_, rfl, rfl⟩ (.mv rfl) ?_
                      refine VO.gy rfl ⟨_, rfl, rfl⟩ (.mv rfl) ?_
                      refine VO.gy rfl ⟨_, rfl, rfl⟩ (.ixI i rfl rfl tsl41 rfl bd) ?_
                      refine VO.gy rfl ⟨_, rfl, rfl⟩ (.fa rfl tst24 rfl) ?_
                      refine VO.gy rfl ⟨_, rfl, rfl⟩ (.ld1 0 rfl tk22 rfl (hce7.at1 (j := 2) rfl)) ?_
                      refine VO.gy rfl ⟨_, rfl, rfl⟩ (.mv rfl) ?_
                      refine VO.gy rfl ⟨_, rfl, rfl⟩ (.ixI j rfl rfl tsl22 rfl bd) ?_
                      refine VO.gy rfl ⟨_, rfl, rfl⟩ (.fa rfl tst32 rfl) ?_
                      refine VO.gy rfl ⟨_, rfl, rfl⟩ (.ld1 0 rfl tk3 rfl (hce42.at1 (j := 1) rfl)) ?_
                      refine VO.gy rfl ⟨_, rfl, rfl⟩ (.mv rfl) ?_
                      refine VO.gy rfl ⟨_, rfl, rfl⟩ (.eql rfl rfl) ?_
                      refine VO.gy rfl ⟨_, rfl, rfl⟩ (.pT rfl rfl) ?_
                      refine VO.y rfl (.pF rfl rfl) ?_
                      refine VO.as ?_
                      refine VO.k14 0 1 2 7 8 9 10 11 16 19 24 49 69 77 ?_
                      refine VC.seq ?_
                      refine VC.regD _ 20 [(0, true), (2, true), (3, true), (4, true), (5, true), (6, true), (7, true), (8, true), (9, true), (10, true), (11, true), (12, true), (13, true), (14, true), (15, true), (16, true), (17, true), (18, true), (19, true), (1, false)] follows (by kernel_rfl) (fun _ h => h.sub [0]) ?_
                      refine VD.y rfl rfl (.inl rfl) (.mv rfl) ?_
                      refine VD.y rfl rfl (.inl rfl) (.mv rfl) ?_
                      refine VD.y rfl rfl (.inl rfl) (.mv rfl) ?_
                      refine VD.y rfl rfl (.inl rfl) (.ixI i rfl rfl tsl41 rfl bd) ?_
                      refine VD.y rfl rfl (.inl rfl) (.fa rfl tst24 rfl) ?_
                      refine VD.y rfl rfl (.inl rfl) (.ld1 0 rfl tk22 rfl (hce7.at1 (j := 2) rfl)) ?_
                      refine VD.y rfl rfl (.inl rfl) (.mv rfl) ?_
                      refine VD.y rfl rfl (.inl rfl) (.ixI j rfl rfl tsl22 rfl bd) ?_
                      refine VD.y rfl rfl (.inl rfl) (.fa rfl tst32 rfl) ?_
                      refine VD.y rfl rfl (.inl rfl) (.ld1 0 rfl tk3 rfl (hce42.at1 (j := 0) rfl)) ?_
                      refine VD.y rfl rfl (.inl rfl) (.mv rfl) ?_
                      refine VD.y rfl rfl (.inl rfl) (.mv rfl) ?_
                      refine VD.y rfl rfl (.inl rfl) (.ixI i rfl rfl tsl41 rfl bd) ?_
                      refine VD.y rfl rfl (.inl rfl) (.fa rfl tst24 rfl) ?_
                      refine VD.y rfl rfl (.inl rfl) (.ld1 0 rfl tk22 rfl (hce7.at1 (j := 2) rfl)) ?_
                      refine VD.y rfl rfl (.inl rfl) (.mv rfl) ?_
                      refine VD.y rfl rfl (.inl rfl) (.ixI j rfl rfl tsl22 rfl bd) ?_
                      refine VD.y rfl rfl (.inl rfl) (.fa rfl tst32 rfl) ?_
                      refine VD.y rfl rfl (.inl rfl) (.ld1 0 rfl tk3 rfl (hce42.at1 (j := 1) rfl)) ?_
                      refine VD.call 120 rfl rfl (.inl rfl) fnOk30 rfl rfl (fun _ _ h => h.sub [0]) (fun W hW => dDurable_ok W (hW.at (i := 120) rfl) h_q 3 bdk bd) (fun v50 m50 hv50 => ?_)
                      obtain ⟨s50_0, p50_0, p50_1, rfl, hS50, f50_0, w50_0⟩ := hv50
                      refine VD.inv _ (fun _ h => h.parts (i := 120) rfl hS50 [151, 152]) ?_
                      have hfa53 := (durable_size q 3)
                      obtain ⟨A50_0, c50_0, eq50_0, l50_0, k50_0⟩ := f50_0.slice
                      subst eq50_0
                      simp only [maxLen] at k50_0
                      refine VD.nil rfl ?_ rfl
                      refine VO.callN 154 rfl fnOk12 rfl (fun W hW => oHas_ok W (OwnL.rd (Ow.ownl f50_0 rfl mnil) (hW.at (i := 151) rfl) (mle_nil _)) x42.1 bdk x42.2.1 bdk bd) (fun v54 m54 hv54 => ?_)
                      subst hv54
                      refine VO.y rfl (.not rfl) ?_
                      refine VO.keep [152, 0] [(152, p50_1), (0, wm W)] (by kernel_rfl) ?_
                      refine VO.k15 0 1 2 7 8 9 10 11 16 19 24 49 69 77 128 ?_
                      refine outN ?_
                      refine VC.condBN rfl (fun hc55 => ?_) (fun hc55 => ?_)
                      · -- FTFFFFFTFTT
                        exact absurd (show _ = false from hc55) (by rw [hq, fi_has hfl.2.2 hrn.1 ‹d0[i]? = some _› ‹_[j]? = some _›]; decide)
                      · -- FTFFFFFTFTF
                        refine VC.skip ?_
                        refine outBN ?_
                        refine outN ?_
                        refine VC.reg ?_
                        refine VO.mv ?_
                        refine VO.y rfl (.add (c := ((j + 1 : Nat) : Int)) rfl rfl (by omega) ⟨bd, bd⟩) ?_
                        refine VO.as ?_
                        refine VO.k15 0 1 2 7 8 9 10 11 16 19 24 49 69 77 128 ?_
                        exact outN ⟨⟨j + 1, decide (x42.2.1 = d2), q, p50_1⟩, ⟨by (dsimp only; omega), by exact hq, by (have h_ := fi_or (e := d1) (n := d2) hf2 ‹_[j]? = some _›; first | (rw [← h_, ‹f2 = true›]; rfl) | (rw [← h_, ‹f2 = false›, Bool.false_or]; exact decide_eq_decide.2 ⟨fun q_ => ⟨‹_ = d1›, q_⟩, fun q_ => q_.2⟩) | (rw [← h_, ‹f2 = false›, Bool.false_or]; exact (decide_eq_false (fun q_ => absurd q_.1 ‹¬ _ = d1›)).symm)), w50_0⟩, by (dsimp only; omega), ⟨⟨rfl, rfl, rfl, rfl, rfl, rfl, rfl, rfl, rfl, rfl, rfl, rfl, rfl, trivial⟩, fun _ h => Inv.sub (Inv.num h 152 120 rfl) [120, 0]⟩⟩
                    · -- FTFFFFFTFF
                      refine VO.gN ?_
                      refine VO.gN ?_
                      refine VO.gN ?_
                      refine VO.gN ?_
                      refine VO.gN ?_
                      refine VO.gN ?_
                      refine VO.gN ?_
                      refine VO.gN ?_
                      refine VO.gN ?_
                      refine VO.gN ?_
                      refine VO.gN ?_
                      refine VO.gy rfl ⟨_, rfl, rfl⟩ (.pF rfl rfl) ?_
                      refine VO.y rfl (.pF rfl rfl) ?_
                      refine VO.as ?_
                      refine VO.k14 0 1 2 7 8 9 10 11 16 19 24 49 69 77 ?_
                      refine VC.seq ?_
                      refine VC.regD _ 20 [(0, true), (2, true), (3, true), (4, true), (5, true), (6, true), (7, true), (8, true), (9, true), (10, true), (11, true), (12, true), (13, true), (14, true), (15, true), (16, true), (17, true), (18, true), (19, true), (1, false)] follows (by kernel_rfl) (fun _ h => h.sub [0]) ?_
                      refine VD.y rfl rfl (.inl rfl) (.mv rfl) ?_
                      refine VD.y rfl rfl (.inl rfl) (.mv rfl) ?_
                      refine VD.y rfl rfl (.inl rfl) (.mv rfl) ?_
                      refine VD.y rfl rfl (.inl rfl) (.ixI i rfl rfl tsl41 rfl bd) ?_
                      refine VD.y rfl rfl (.inl rfl) (.fa rfl tst24 rfl) ?_
                      refine VD.y rfl rfl (.inl rfl) (.ld1 0 rfl tk22 rfl (hce7.at1 (j := 2) rfl)) ?_
                      refine VD.y rfl rfl (.inl rfl) (.mv rfl) ?_
                      refine VD.y rfl rfl (.inl rfl) (.ixI j rfl rfl tsl22 rfl bd) ?_
                      refine VD.y rfl rfl (.inl rfl) (.fa rfl tst32 rfl) ?_
                      refine VD.y rfl rfl (.inl rfl) (.ld1 0 rfl tk3 rfl (hce42.at1 (j := 0) rfl)) ?_
                      refine VD.y rfl rfl (.inl rfl) (.mv rfl) ?_
                      refine VD.y rfl rfl (.inl rfl) (.mv rfl) ?_
                      refine VD.y rfl rfl (.inl rfl) (.ixI i rfl rfl tsl41 rfl bd) ?_
                      refine VD.y rfl rfl (.inl rfl) (.fa rfl tst24 rfl) ?_
                      refine VD.y rfl rfl (.inl rfl) (.ld1 0 rfl tk22 rfl (hce7.at1 (j := 2) rfl)) ?_
                      refine VD.y rfl rfl (.inl rfl) (.mv rfl) ?_
                      refine VD.y rfl rfl (.inl rfl) (.ixI j rfl rfl tsl22 rfl bd) ?_
                      refine VD.y rfl rfl (.inl rfl) (.fa rfl tst32 rfl) ?_
                      refine VD.y rfl rfl (.inl rfl) (.ld1 0 rfl tk3 rfl (hce42.at1 (j := 1) rfl)) ?_
                      refine VD.call 120 rfl rfl (.inl rfl) fnOk30 rfl rfl (fun _ _ h => h.sub [0]) (fun W hW => dDurable_ok W (hW.at (i := 120) rfl) h_q 3 bdk bd) (fun v60 m60 hv60 => ?_)
                      obtain ⟨s60_0, p60_0, p60_1, rfl, hS60, f60_0, w60_0⟩ := hv60
                      refine VD.inv _ (fun _ h => h.parts (i := 120) rfl hS60 [161, 162]) ?_
                      have hfa63 := (durable_size q 3)
                      obtain ⟨A60_0, c60_0, eq60_0, l60_0, k60_0⟩ := f60_0.slice
                      subst eq60_0
                      simp only [maxLen] at k60_0
                      refine VD.nil rfl ?_ rfl
                      refine VO.callN 164 rfl fnOk12 rfl (fun W hW => oHas_ok W (OwnL.rd (Ow.ownl f60_0 rfl mnil) (hW.at (i := 161) rfl) (mle_nil _)) x42.1 bdk x42.2.1 bdk bd) (fun v64 m64 hv64 => ?_)
                      subst hv64
                      refine VO.y rfl (.not rfl) ?_
                      refine VO.keep [162, 0] [(162, p60_1), (0, wm W)] (by kernel_rfl) ?_
                      refine VO.k15 0 1 2 7 8 9 10 11 16 19 24 49 69 77 128 ?_
                      refine outN ?_
                      refine VC.condBN rfl (fun hc65 => ?_) (fun hc65 => ?_)
                      · -- FTFFFFFTFFT
                        exact absurd (show _ = false from hc65) (by rw [hq, fi_has hfl.2.2 hrn.1 ‹d0[i]? = some _› ‹_[j]? = some _›]; decide)
                      · -- FTFFFFFTFFF
                        refine VC.skip ?_
                        refine outBN ?_
                        refine outN ?_
                        refine VC.reg ?_
                        refine VO.mv ?_
                        refine VO.y rfl (.add (c := ((j + 1 : Nat) : Int)) rfl rfl (by omega) ⟨bd, bd⟩) ?_
                        refine VO.as ?_
                        refine VO.k15 0 1 2 7 8 9 10 11 16 19 24 49 69 77 128 ?_
                        exact outN ⟨⟨j + 1, false, q, p60_1⟩, ⟨by (dsimp only; omega), by exact hq, by (have h_ := fi_or (e := d1) (n := d2) hf2 ‹_[j]? = some _›; first | (rw [← h_, ‹f2 = true›]; rfl) | (rw [← h_, ‹f2 = false›, Bool.false_or]; exact decide_eq_decide.2 ⟨fun q_ => ⟨‹_ = d1›, q_⟩, fun q_ => q_.2⟩) | (rw [← h_, ‹f2 = false›, Bool.false_or]; exact (decide_eq_false (fun q_ => absurd q_.1 ‹¬ _ = d1›)).symm)), w60_0⟩, by (dsimp only; omega), ⟨⟨rfl, rfl, rfl, rfl, rfl, rfl, rfl, rfl, rfl, rfl, rfl, rfl, rfl, trivial⟩, fun _ h => Inv.sub (Inv.num h 162 120 rfl) [120, 0]⟩⟩
                · -- FTFFFFFF
                  refine VC.exit ?_
                  refine outE ?_
                  refine outE ?_
                  refine outBB ?_
                  refine outBN ?_
                  refine outN ?_
                  refine VC.reg ?_
                  refine VO.mv ?_
                  refine VO.y rfl (.add (c := ((i + 1 : Nat) : Int)) rfl rfl (by omega) ⟨bd, bd⟩) ?_
                  refine VO.as ?_
                  refine VO.k14 0 1 2 7 8 9 10 11 16 19 24 49 69 77 ?_
                  exact outN ⟨⟨i + 1, q, q_m, x7.1, f2⟩, ⟨by (dsimp only; omega), by (rw [hq]; exact hfl.2.2), by exact hrn, by exact hsn, by (rw [has_snoc ‹d0[i]? = some _›]; rw [List.take_of_length_le (α := DCommit) (by omega)] at hf2; exact hf2), by (rw [hq]; dsimp only; omega), h_q⟩, by (dsimp only; omega), ⟨⟨rfl, rfl, rfl, rfl, rfl, rfl, rfl, rfl, rfl, trivial⟩, fun _ h => Inv.sub (Inv.num h 120 103 rfl) [103, 0]⟩⟩
    · -- FF
      refine VC.exit ?_
      refine outE ?_
      refine outE ?_
      refine outBB ?_
      refine outN ?_
      refine VC.rs ?_
      refine VO.mv ?_
      refine VO.call 103 rfl fnOk30 rfl rfl (fun W hW => dDurable_ok W (hW.at (i := 103) rfl) h_d 3 bdk bd) (fun v66 m66 hv66 => ?_)
      obtain ⟨s66_0, p66_0, p66_1, rfl, hS66, f66_0, w66_0⟩ := hv66
      refine VO.inv _ (fun _ h => h.parts (i := 103) rfl hS66 [167, 168]) ?_
      have hfa69 := (durable_size d 3)
      obtain ⟨A66_0, c66_0, eq66_0, l66_0, k66_0⟩ := f66_0.slice
      subst eq66_0
      simp only [maxLen] at k66_0
      refine VO.as ?_
      refine VO.keep [167, 168, 0] [(167, p66_0), (168, p66_1), (0, wm W)] (by kernel_rfl) ?_
      refine VO.k11 0 1 2 7 8 9 10 12 16 19 24 ?_
      refine VC.rs ?_
      refine VO.mv ?_
      refine VO.callN 170 rfl fnOk18 rfl (fun W hW => oScan_ok W (OwnL.rd (Ow.ownl f66_0 rfl mnil) (hW.at (i := 167) rfl) (mle_nil _)) bd) (fun v70 m70 hv70 => ?_)
      obtain ⟨s70_0, rfl, f70_0⟩ := hv70
      have hfa71 := scanF_bounds (dDurable d 3)
      obtain ⟨A70_0, c70_0, eq70_0, l70_0, k70_0⟩ := f70_0.slice
      subst eq70_0
      simp only [maxLen] at k70_0
      refine VO.mv ?_
      refine VO.y rfl (.ext rfl rfl) ?_
      refine VO.y rfl (.ext rfl rfl) ?_
      refine VO.as ?_
      refine VO.as ?_
      refine VO.k13 0 1 2 7 8 9 10 12 13 14 16 19 24 ?_
      refine VC.rs ?_
      refine VO.mv ?_
      refine VO.mv ?_
      refine VO.y rfl (.lenS rfl tsl25) ?_
      refine VO.y rfl (.eql rfl rfl) ?_
      refine VO.mv ?_
      refine VO.dec (t := 140) rfl (fun hc72 => ?_) (fun hc72 => ?_)
      · -- FFT
        refine VO.gy rfl ⟨_, rfl, rfl⟩ (.mv rfl) ?_
        refine VO.gy rfl ⟨_, rfl, rfl⟩ (.mv rfl) ?_
        refine VO.gcallN 173 rfl ⟨_, rfl, rfl⟩ fnOk22 rfl (fun W hW => SameSections_ok W (Ow.rd f70_0 (hW.at (i := 170) rfl)) (Rd.mono h0 (hW.at (i := 0) rfl))) (fun v73 m73 hv73 => ?_)
        subst hv73
        refine VO.y rfl (.pT rfl rfl) ?_
        refine VO.mv ?_
        refine VO.dec (t := 145) rfl (fun hc74 => ?_) (fun hc74 => ?_)
        · -- FFTT
          refine VO.gy rfl ⟨_, rfl, rfl⟩ (.mv rfl) ?_
          refine VO.gy rfl ⟨_, rfl, rfl⟩ (.mv rfl) ?_
          refine VO.gy rfl ⟨_, rfl, rfl⟩ (.mv rfl) ?_
          refine VO.gcallN 175 rfl ⟨_, rfl, rfl⟩ fnOk12 rfl (fun W hW => oHas_ok W (OwnL.rd (Ow.ownl f66_0 rfl mnil) (hW.at (i := 167) rfl) (mle_nil _)) d1 bdk d2 bdk bd) (fun v75 m75 hv75 => ?_)
          subst hv75
          refine VO.gy rfl ⟨_, rfl, rfl⟩ (.mv rfl) ?_
          refine VO.gy rfl ⟨_, rfl, rfl⟩ (.beql rfl rfl Try.underlying4) ?_
          refine VO.y rfl (.pT rfl rfl) ?_
          refine VO.as ?_
          refine VO.k14 0 1 2 6 7 8 9 10 12 13 14 16 19 24 ?_
          refine VC.ret ?_
          refine ⟨_, _, res_run (rs := [.tmp 6]) rfl (.tmp rfl .nil), fun W_ hI => out_of (l := []) hI [] rfl rfl (mle_refl _) (fun hS_ => ?_)⟩
          dsimp only [packV]
          all_goals (first | rfl | (first | rfl | (simp [*]; done) | (rw [hf, show d0.take i = d0 from List.take_of_length_le (by omega)]; done) | (show Value.bool _ = _; exact congrArg Value.bool (decide_eq_true (by rw [(fi_scan hd hr.1), hf])))))
        · -- FFTF
          exact absurd (by rw [(fi_scan hd hr.1), List.take_of_length_le (by omega)]) hc74
      · -- FFF
        exact absurd (by rw [(fi_scan hd hr.1), fi_dur hd]) hc72
end
section
set_option linter.unusedVariables false
set_option maxRecDepth 4000
open Go.ChangeShapes Go.WideShapes Go.ChangeAt Go.RowKit
theorem orphanFile_ok0 : tyOk Try.prog 60 (.sl TSection) (.inl 41) = true := by kernel_rfl
set_option maxRecDepth 100000 in
theorem orphanFile_lifted (os : Os) (started : os.Started) (H : Type) (enc : TypeId × Value → H) :
    ReturnsInHanded {} Try.checked os 5 .any (Rows.orphanFileSpec.pre6 enc Try.prog Try.f5 Rows.orphanFileRow.domain false) (Rows.orphanFileSpec.post enc Try.prog Try.f5 false true false false) := by
  refine returnsInHanded_of_change (C := Try.checked) (by kernel_rfl) started (by kernel_rfl) Try.func5
    (ChangeSpec.witness6 (enc := enc) (C := Try.checked) false ⟨#[], #[.slice none 0 0, .int .i64 0, .int .i64 0], []⟩ 8 (by kernel_rfl) (by kernel_rfl) (by kernel_rfl) (by kernel_rfl)) ?_
  intro W base args ds gs before hval0 hW hcnd _
  have hval : ∀ (j : Nat) t v, Try.f5.params[j]? = some t → args[j]? = some v → Value.okWide Try.prog W .any base t v := hval0
  have hW' := hW
  obtain ⟨p, q, hA0, hV, rfl, hfz, hnd⟩ := hW
  have hA : DataW.TrodAll enc Try.prog W 0 (fun _ => true) true Try.f5.params.toList args.toList ds p := hA0
  rw [Try.params5] at hA hval
  clear hA0 hval0
  obtain ⟨args⟩ := args
  obtain ⟨v0, r0, d0, e0, p0, q0, ha0, rfl, rfl, h0, hA0⟩ := trodAll_cons hA
  simp only at ha0; subst ha0
  obtain ⟨v1, r1, d1, e1, p1, q1, ha1, rfl, rfl, h1, hA1⟩ := trodAll_cons hA0
  subst ha1
  obtain ⟨v2, r2, d2, e2, p2, q2, ha2, rfl, rfl, h2, hA2⟩ := trodAll_cons hA1
  subst ha2
  obtain ⟨rfl, rfl, rfl⟩ := trodAll_nil hA2
  obtain ⟨x0, hx0⟩ := arg_sl 60 orphanFile_ok0 Try.underlying41 (hval 0 41 v0 rfl rfl) h0
  obtain ⟨x1, rfl, hx1⟩ := arg_int Try.underlying3 (hval 1 3 v1 rfl rfl) h1
  obtain ⟨x2, rfl, hx2⟩ := arg_int Try.underlying3 (hval 2 3 v2 rfl rfl) h2
  refine (calls_of (orphanFile_ok W hx0 x1 hx1 x2 hx2)).mono fun e W' ⟨he, hg⟩ => ?_
  subst he
  exact ⟨_, rfl, law_post hW' hg laidOut_ok (by kernel_rfl) rfl Try.underlying4 rfl rfl rfl rfl⟩
theorem orphanFile_joined : joinedFacts Try.prog 5 Try.f5 Rows.orphanFileSpec Rows.orphanFileRow = true := by
  unfold joinedFacts
  rw [laidOut_ok, mapsRowed_ok, stopsHeard_ok, mayEnter_ok, lifts_ok, make_ok]
  kernel_rfl
theorem orphanFile_proved : Rows.OrphanFileSaid :=
  OpenClaim.holds_of_wide 5 Try.f5 rfl rfl rfl rfl rfl rfl rfl ⟨rfl, rfl, rfl, rfl, rfl⟩ rfl rfl rfl rfl rfl (by kernel_rfl) Try.func5 orphanFile_joined
    (of_decide_eq_true (by kernel_rfl)) (by unfold Func.isWrapper; first | (rw [if_pos (by decide +kernel)]; kernel_rfl) | (rw [if_neg (by decide +kernel)]; exact ⟨rfl, rfl⟩))
    (fun os started H enc _ => orphanFile_lifted os started H enc)
#print axioms orphanFile_proved
end
end Go.Proofs.Ytbjkfnnabnacfaa
