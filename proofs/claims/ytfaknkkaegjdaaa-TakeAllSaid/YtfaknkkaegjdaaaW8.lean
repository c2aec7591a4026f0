/- Walks, printed by program: what lagleashlaw18 log, lagleashlaw18 shipped, take fits, take Take, take Known, lagleashlaw18 lives, lagleashlaw18 TakeNames compute. Conditions: those named in each theorem. -/
import Derived.Test.YtfaknkkaegjdaaaW7
import Derived.Test.YtfaknkkaegjdaaaW4
import Derived.Test.YtfaknkkaegjdaaaSpec4
set_option linter.unusedVariables false
set_option linter.unusedSimpArgs false
set_option maxRecDepth 4000
namespace Go.Proofs.Ytfaknkkaegjdaaa
theorem fnOk119 : fnOk Try.prog 119 = true := by kernel_rfl
theorem fnOk77 : fnOk Try.prog 77 = true := by kernel_rfl
theorem fnOk78 : fnOk Try.prog 78 = true := by kernel_rfl
theorem fnOk79 : fnOk Try.prog 79 = true := by kernel_rfl
theorem fnOk80 : fnOk Try.prog 80 = true := by kernel_rfl
theorem fnOk81 : fnOk Try.prog 81 = true := by kernel_rfl
theorem fnOk87 : fnOk Try.prog 87 = true := by kernel_rfl
theorem tsl96 : tsl Try.prog 96 = some (3, 1, 8) := by kernel_rfl
theorem tz3 : tz Try.prog 3 = some [.int .i64 0] := by kernel_rfl
theorem log18_ok (W : World) (d0 : Int) (h0 : inK .i64 d0) {v1 : Value} {d1 : List Int} (h1 : Rd (.sl (.int .i64)) (wm W) [v1] d1) (e0 : 0 ≤ d0 ∧ d0 ≤ 1000) (e1 : d1.length ≤ 1000) : CallR Try.prog 77 [.int .i64 d0, v1] W (mnil) (fun v m' => ∃ (s0 : Value), v = s0 ∧ Ow (.sl TCommit) m' [s0] (logC d0 d1)) := by
  have h0' := h0; simp only [inK] at h0'
  obtain ⟨A1, c1, rfl, l1, k1⟩ := h1.slice
  simp only [maxLen] at k1
  refine CallR.ofA (n := 27) Try.func77 rfl rfl rfl ?_
  refine VC.rs ?_
  refine VO.y rfl (.as rfl) ?_
  refine VO.esub [(0, _), (1, _), (4, _)] ⟨rfl, rfl, rfl, trivial⟩ (VO.nil ?_)
  refine VC.rs ?_
  refine VO.y rfl (.as rfl) ?_
  refine VO.esub [(0, _), (1, _), (4, _), (5, _)] ⟨rfl, rfl, rfl, rfl, trivial⟩ (VO.nil ?_)
  refine VC.seq ?_
  refine VC.rs ?_
  refine VO.y rfl (.as rfl) ?_
  refine VO.esub [(0, _), (1, _), (4, _), (5, _), (6, _)] ⟨rfl, rfl, rfl, rfl, rfl, trivial⟩ (VO.nil ?_)
  refine VC.block ?_
  refine VC.inv ((101, mnil) :: _) (fun _ h => h.nilc 101) ?_
  refine VC.loop (G := Nat × (List DCommit) × (Option Addr) × Nat × Mem) (fun g => [(5, Value.slice (g.2.2.1) ((g.2.1).length) ((g.2.2.2.1))), (6, Value.int .i64 ((((g.1) : Nat) : Int))), (0, Value.int .i64 (d0)), (1, Value.slice A1 (d1.length) (c1)), (4, Value.slice none (0) (0))]) (fun g => [(101, (g.2.2.2.2)), (0, wm W)]) (fun g => ((g.1) ≤ d1.length) ∧ ((g.2.1) ++ logC (d0 + (g.1)) (d1.drop (g.1)) = logC d0 d1) ∧ (Ow (.sl TCommit) (g.2.2.2.2) [.slice (g.2.2.1) (g.2.1).length (g.2.2.2.1)] (g.2.1))) (fun g => d1.length - (g.1)) (0, [], none, 0, mnil) (⟨by omega, by simp, (Ow.nil TCommit mnil)⟩) ⟨⟨rfl, rfl, rfl, rfl, rfl, trivial⟩, fun _ h => h.sub [101, 0]⟩ ?_
  rintro ⟨k, l, l_A, l_c, l_m⟩ ⟨hk, hl, h_l⟩
  replace hk : k ≤ d1.length := hk
  replace hl : l ++ logC (d0 + k) (d1.drop k) = logC d0 d1 := hl
  replace h_l : Ow (.sl TCommit) l_m [.slice l_A l.length l_c] l := h_l
  show VC _ _ _ _ _ [(5, Value.slice l_A (l.length) (l_c)), (6, Value.int .i64 (((k : Nat) : Int))), (0, Value.int .i64 (d0)), (1, Value.slice A1 (d1.length) (c1)), (4, Value.slice none (0) (0))] [(101, l_m), (0, wm W)]
  have l_l : l.length ≤ l_c := by obtain ⟨_, _, he, hl, _⟩ := h_l.slice; simp only [Value.slice.injEq] at he; omega
  have k_l : l_c ≤ 9223372036854775807 := by obtain ⟨_, _, he, _, hl⟩ := h_l.slice; simp only [Value.slice.injEq, maxLen] at he hl; omega
  have hll : l.length ≤ 1000 := by have := congrArg List.length hl; simp [logC_len] at this; omega
  refine VC.seq ?_
  refine VC.rs ?_
  refine VO.y rfl (.mv rfl) ?_
  refine VO.y rfl (.mv rfl) ?_
  refine VO.y rfl (.lenS rfl tsl96) ?_
  refine VO.y rfl (.lss rfl rfl) ?_
  refine VO.esub [(0, _), (1, _), (4, _), (5, _), (6, _), (10, _)] ⟨rfl, rfl, rfl, rfl, rfl, rfl, trivial⟩ (VO.nil ?_)
  refine VC.cond rfl (fun hc2 => ?_) (fun hc2 => ?_)
  · -- T
    refine VC.skip ?_
    refine outN ?_
    refine VC.seq ?_
    refine VC.block ?_
    refine VC.reg ?_
    refine VO.y rfl (.mv rfl) ?_
    refine VO.y rfl (.mv rfl) ?_
    refine VO.y rfl (.mv rfl) ?_
    obtain ⟨x3, hx3⟩ : ∃ x, (d1)[k]? = some x := ⟨_, List.getElem?_eq_getElem (by first | omega | (simp only [List.length_append, List.length_nil, List.length_cons, List.length_take, List.length_drop] at *; omega))⟩
    obtain ⟨gg3, oo3, ec3, ea3, hce3, hre3⟩ := h1.elem hx3
    cases ea3
    obtain ⟨rfl, q3⟩ := hre3; simp only [inK] at q3
    refine VO.y rfl (.ixI k rfl rfl tsl96 rfl (by first | omega | (simp only [List.length_append, List.length_nil, List.length_cons, List.length_take, List.length_drop] at *; omega))) ?_
    refine VO.y rfl (.ld1 0 rfl tk3 rfl hce3) ?_
    refine VO.y rfl (.mv rfl) ?_
    refine VO.y rfl (.mv rfl) ?_
    refine VO.y rfl (.add rfl rfl rfl ⟨by first | omega | (simp only [List.length_append, List.length_nil, List.length_cons, List.length_take, List.length_drop] at *; omega), by first | omega | (simp only [List.length_append, List.length_nil, List.length_cons, List.length_take, List.length_drop] at *; omega)⟩) ?_
    refine VO.y rfl (.bst (cs := [Value.bool false, str ([107]), str ([])]) rfl tst49 tz49 rfl) ?_
    refine VO.bsl (cs := [Value.bool false, str ([107]), str ([])]) 105 rfl rfl tsl22 tz49 rfl rfl (fun g4 => ?_)
    refine VO.y rfl (.bst (cs := [Value.int .i64 (x3), Value.int .i64 (d0 + ((k : Nat) : Int)), Value.slice (some ⟨g4, 0, none⟩) (1) (1)]) rfl tst52 tz52 rfl) ?_
    refine VO.bsl (cs := [Value.int .i64 (x3), Value.int .i64 (d0 + ((k : Nat) : Int)), Value.slice (some ⟨g4, 0, none⟩) (1) (1)]) 107 rfl rfl tsl61 tz52 rfl rfl (fun g6 => ?_)
    have ho9 : OwnL TOp (mone g4 (.cells [Value.bool false, str ([107]), str ([])].toArray 49 (0, 0))) mnil (Value.slice (some ⟨g4, 0, none⟩) (1) (1)) [(false, [107], [])] := OwnL.lit 1 (All2c.cons (c1 := [Value.bool false, str ([107]), str ([])]) (mk_Op (m := _) false ([107]) ([]) (by simp only [maxLen]; (first | omega | (simp only [List.length_append, List.length_nil, List.length_cons, List.length_take, List.length_drop] at *; omega))) (by simp only [maxLen]; (first | omega | (simp only [List.length_append, List.length_nil, List.length_cons, List.length_take, List.length_drop] at *; omega)))) All2c.nil) rfl rfl
    refine VO.appO (e := TCommit) 101 105 107 rfl rfl rfl tsl61 tz52 rfl rfl rfl rfl h_l (mkO_Commit x3 (d0 + ((k : Nat) : Int)) ([(false, [107], [])]) (Seps.one (mle_refl _)) (by simp only [inK]; (first | omega | (simp only [List.length_append, List.length_nil, List.length_cons, List.length_take, List.length_drop] at *; omega))) (by simp only [inK]; (first | omega | (simp only [List.length_append, List.length_nil, List.length_cons, List.length_take, List.length_drop] at *; omega))) (OwnL.ow ho9 rfl)) Try.underlying61 (cellsAt_one rfl rfl) (by simp only [maxLen]; (first | omega | (simp only [List.length_append, List.length_nil, List.length_cons, List.length_take, List.length_drop] at *; omega))) (by first | omega | (simp only [List.length_append, List.length_nil, List.length_cons, List.length_take, List.length_drop] at *; omega)) (by decide) (fun v8 m8 ho8 => ?_)
    obtain ⟨A8, c8, rfl, l8, k8⟩ := ho8.slice
    simp only [maxLen] at k8
    refine VO.y rfl (.as rfl) ?_
    refine VO.esub [(0, _), (1, _), (4, _), (5, _), (6, _), (10, _)] ⟨rfl, rfl, rfl, rfl, rfl, rfl, trivial⟩ (VO.nil ?_)
    refine outBN ?_
    refine outN ?_
    refine VC.reg ?_
    refine VO.y rfl (.mv rfl) ?_
    refine VO.y rfl (.add (c := ((k + 1 : Nat) : Int)) rfl rfl (by omega) ⟨by first | omega | (simp only [List.length_append, List.length_nil, List.length_cons, List.length_take, List.length_drop] at *; omega), by first | omega | (simp only [List.length_append, List.length_nil, List.length_cons, List.length_take, List.length_drop] at *; omega)⟩) ?_
    refine VO.y rfl (.as rfl) ?_
    refine VO.esub [(0, _), (1, _), (4, _), (5, _), (6, _), (10, _)] ⟨rfl, rfl, rfl, rfl, rfl, rfl, trivial⟩ (VO.nil ?_)
    exact outN ⟨⟨k + 1, l ++ [(x3, d0 + ((k : Nat) : Int), [(false, [107], [])])], A8, c8, m8⟩, ⟨by omega, by exact logC_next hl ‹_›, ho8⟩, by first | omega | (simp only [List.length_append, List.length_nil, List.length_cons, List.length_take, List.length_drop] at *; omega), ⟨⟨rfl, rfl, rfl, rfl, rfl, trivial⟩, fun _ h => Inv.sub h [101, 0]⟩⟩
  · -- F
    refine VC.exit ?_
    refine outE ?_
    refine outE ?_
    refine outBB ?_
    refine outN ?_
    refine VC.rs ?_
    refine VO.y rfl (.mv rfl) ?_
    refine VO.y rfl (.as rfl) ?_
    refine VO.esub [(0, _), (1, _), (4, _), (5, _), (6, _), (10, _)] ⟨rfl, rfl, rfl, rfl, rfl, rfl, trivial⟩ (VO.nil ?_)
    refine VC.ret ?_
    refine ⟨_, _, res_run (rs := [.tmp 4]) rfl (.tmp rfl .nil), fun W_ hI => out_of (l := [l_m]) hI [101] rfl rfl (mle_refl _) (fun hS_ => ?_)⟩
    dsimp only [packV]
    have he0 : (logC d0 d1 : Ty.Den (.sl TCommit)) = l := by first | rfl | (rw [← hl, List.drop_of_length_le (by omega)]; simp [logC])
    refine ⟨Value.slice l_A (l.length) (l_c), ?_, ?_⟩
    rotate_left
    · rw [he0]; exact (Ow.up h_l (hS_.1 _ (.head _)))
    first | rfl | (simp [*]; done)
theorem shipped_ok (W : World) (d0 : Int) (h0 : inK .i64 d0) (d1 : Int) (h1 : inK .i64 d1) (d2 : Int) (h2 : inK .i64 d2) {v3 : Value} {d3 : List DCommit} (h3 : Rd (.sl TCommit) (wm W) [v3] d3) : CallR Try.prog 79 [.int .i64 d0, .int .i64 d1, .int .i64 d2, v3] W (mnil) (fun v m' => v = .agg [.int .i64 (2), .int .i64 (d0), .int .u8 (0), .int .i64 (0), .slice none 0 0, .int .i64 (d1), .int .i64 (d2), v3].toArray) := by
  have h0' := h0; simp only [inK] at h0'
  have h1' := h1; simp only [inK] at h1'
  have h2' := h2; simp only [inK] at h2'
  obtain ⟨A3, c3, rfl, l3, k3⟩ := h3.slice
  simp only [maxLen] at k3
  refine CallR.ofA (n := 14) Try.func79 rfl rfl rfl ?_
  refine VC.rs ?_
  refine VO.alloc 102 rfl tz72 (fun g1 => ?_)
  refine VO.esub [(0, _), (1, _), (2, _), (3, _), (8, _)] ⟨rfl, rfl, rfl, rfl, rfl, trivial⟩ (VO.nil ?_)
  refine VC.rs ?_
  refine VO.y rfl (.mv rfl) ?_
  refine VO.y rfl (.mv rfl) ?_
  refine VO.y rfl (.mv rfl) ?_
  refine VO.y rfl (.mv rfl) ?_
  refine VO.y rfl (.bst (cs := [Value.int .i64 (2), Value.int .i64 (d0), Value.int .u8 (0), Value.int .i64 (0), Value.slice none (0) (0), Value.int .i64 (d1), Value.int .i64 (d2), Value.slice A3 (d3.length) (c3)]) rfl tst72 tz72 rfl) ?_
  refine VO.store (k := 8) (c' := [Value.int .i64 (2), Value.int .i64 (d0), Value.int .u8 (0), Value.int .i64 (0), Value.slice none (0) (0), Value.int .i64 (d1), Value.int .i64 (d2), Value.slice A3 (d3.length) (c3)]) 102 rfl rfl (.inl tk72) rfl rfl rfl rfl rfl ?_
  refine VO.esub [(0, _), (1, _), (2, _), (3, _), (8, _)] ⟨rfl, rfl, rfl, rfl, rfl, trivial⟩ (VO.nil ?_)
  refine VC.ret ?_
  refine ⟨_, _, res_run (rs := [.cell 8 72]) rfl (.agg 102 rfl tk72 rfl ⟨_, _, _, mone_self _ _, Nat.le_of_ble_eq_true rfl, rfl⟩ .nil), fun W_ hI => out_of (l := []) hI [] rfl rfl (mle_refl _) (fun hS_ => ?_)⟩
  dsimp only [packV]
  first | rfl | (simp [*]; done)
theorem fits_ok (W : World) {v0 : Value} {d0 : List DCommit} (h0 : Rd (.sl TCommit) (wm W) [v0] d0) {v1 : List Value} {d1 : DMessage} (h1 : Rd TMessage (wm W) v1 d1) (e0 : d1.2.2.2.2.2.1 - 1 ≤ (d0.length : Int)) (e1 : ∀ c ∈ d1.2.2.2.2.2.2.2, 1 ≤ c.2.1) : CallR Try.prog 119 [v0, .agg v1.toArray] W (mnil) (fun v m' => v = .bool (decide (fitsM d0 d1))) := by
  obtain ⟨A0, c0, rfl, l0, k0⟩ := h0.slice
  simp only [maxLen] at k0
  obtain ⟨p1_A4, p1_c4, p1_A7, p1_c7, rfl, p1_0, p1_1, p1_2, p1_3, p1_4, p1_5, p1_6, p1_7⟩ := open_Message (x0 := d1.1) (x1 := d1.2.1) (x2 := d1.2.2.1) (x3 := d1.2.2.2.1) (x4 := d1.2.2.2.2.1) (x5 := d1.2.2.2.2.2.1) (x6 := d1.2.2.2.2.2.2.1) (x7 := d1.2.2.2.2.2.2.2) h1
  simp only [inK] at p1_0
  simp only [inK] at p1_1
  simp only [inK] at p1_2
  simp only [inK] at p1_3
  have p1_r4 := Rd.room p1_4
  simp only [inK] at p1_5
  simp only [inK] at p1_6
  have p1_r7 := Rd.room p1_7
  refine CallR.ofA (n := 47) Try.func119 rfl rfl rfl ?_
  refine VC.rs ?_
  refine VO.box (cs := [Value.int .i64 (d1.1), Value.int .i64 (d1.2.1), Value.int .u8 (d1.2.2.1), Value.int .i64 (d1.2.2.2.1), Value.slice p1_A4 (d1.2.2.2.2.1.length) (p1_c4), Value.int .i64 (d1.2.2.2.2.2.1), Value.int .i64 (d1.2.2.2.2.2.2.1), Value.slice p1_A7 (d1.2.2.2.2.2.2.2.length) (p1_c7)]) 102 rfl rfl rfl (fun g1 => ?_)
  refine VO.y rfl (.as rfl) ?_
  refine VO.esub [(0, _), (1, _), (3, _), (4, _)] ⟨rfl, rfl, rfl, rfl, trivial⟩ (VO.nil ?_)
  refine VC.seq ?_
  refine VC.seq ?_
  refine VC.regD _ 13 [(0, true), (1, true), (2, true), (3, true), (4, true), (5, true), (6, true), (7, true), (8, true), (9, true), (10, true), (11, true), (12, true)] follows (by kernel_rfl) (fun _ h => h.sub [102, 0]) ?_
  refine VD.y rfl rfl (.inl rfl) (.fa rfl tst72 rfl) ?_
  refine VD.y rfl rfl (.inl rfl) (.ld1 102 rfl tk3 rfl (cellsAt_one rfl rfl)) ?_
  refine VD.y rfl rfl (.inl rfl) (.gtr rfl rfl) ?_
  refine VD.y rfl rfl (.inl rfl) (.mv rfl) ?_
  refine VD.dec (s := 10) rfl (fun hc3 => ?_) (fun hc3 => ?_)
  · -- T
    refine VD.y rfl rfl (.inr ⟨_, _, rfl, _, rfl, rfl⟩) (.mv rfl) ?_
    refine VD.y rfl rfl (.inr ⟨_, _, rfl, _, rfl, rfl⟩) (.fa rfl tst72 rfl) ?_
    refine VD.y rfl rfl (.inr ⟨_, _, rfl, _, rfl, rfl⟩) (.ld1 102 rfl tk3 rfl (cellsAt_one rfl rfl)) ?_
    refine VD.y rfl rfl (.inr ⟨_, _, rfl, _, rfl, rfl⟩) (.sub rfl rfl rfl ⟨by first | omega | (simp only [List.length_append, List.length_nil, List.length_cons, List.length_take, List.length_drop] at *; omega) | (have := e1 _ (List.mem_of_getElem? ‹d1.2.2.2.2.2.2.2[k]? = some _›); omega), by first | omega | (simp only [List.length_append, List.length_nil, List.length_cons, List.length_take, List.length_drop] at *; omega) | (have := e1 _ (List.mem_of_getElem? ‹d1.2.2.2.2.2.2.2[k]? = some _›); omega)⟩) ?_
    obtain ⟨x4, hx4⟩ : ∃ x, (d0)[(d1.2.2.2.2.2.1 - 2).toNat]? = some x := ⟨_, List.getElem?_eq_getElem (by first | omega | (simp only [List.length_append, List.length_nil, List.length_cons, List.length_take, List.length_drop] at *; omega) | (have := e1 _ (List.mem_of_getElem? ‹d1.2.2.2.2.2.2.2[k]? = some _›); omega))⟩
    obtain ⟨gg4, oo4, ec4, ea4, hce4, hre4⟩ := h0.elem hx4
    cases ea4
    obtain ⟨q4_A2, q4_c2, rfl, q4_0, q4_1, q4_2⟩ := open_Commit (x0 := x4.1) (x1 := x4.2.1) (x2 := x4.2.2) hre4
    simp only [inK] at q4_0
    simp only [inK] at q4_1
    have q4_r2 := Rd.room q4_2
    refine VD.y rfl rfl (.inr ⟨_, _, rfl, _, rfl, rfl⟩) (.ixI ((d1.2.2.2.2.2.1 - 2).toNat) rfl rfl tsl61 (by first | omega | (simp only [List.length_append, List.length_nil, List.length_cons, List.length_take, List.length_drop] at *; omega) | (have := e1 _ (List.mem_of_getElem? ‹d1.2.2.2.2.2.2.2[k]? = some _›); omega)) (by first | omega | (simp only [List.length_append, List.length_nil, List.length_cons, List.length_take, List.length_drop] at *; omega) | (have := e1 _ (List.mem_of_getElem? ‹d1.2.2.2.2.2.2.2[k]? = some _›); omega))) ?_
    refine VD.y rfl rfl (.inr ⟨_, _, rfl, _, rfl, rfl⟩) (.fa rfl tst52 rfl) ?_
    refine VD.y rfl rfl (.inr ⟨_, _, rfl, _, rfl, rfl⟩) (.ld1 0 rfl tk3 rfl (hce4.at1 (j := 0) rfl)) ?_
    refine VD.y rfl rfl (.inr ⟨_, _, rfl, _, rfl, rfl⟩) (.fa rfl tst72 rfl) ?_
    refine VD.y rfl rfl (.inr ⟨_, _, rfl, _, rfl, rfl⟩) (.ld1 102 rfl tk3 rfl (cellsAt_one rfl rfl)) ?_
    refine VD.nil rfl ?_ rfl
    refine VO.gy rfl ⟨_, rfl, rfl⟩ (.neq rfl rfl) ?_
    refine VO.y rfl (.pT rfl rfl) ?_
    refine VO.esub [(0, _), (1, _), (3, _), (4, _), (21, _)] ⟨rfl, rfl, rfl, rfl, rfl, trivial⟩ (VO.nil ?_)
    refine outN ?_
    refine VC.cond rfl (fun hc5 => ?_) (fun hc5 => ?_)
    · -- TT
      refine VC.rs ?_
      refine VO.y rfl (.as rfl) ?_
      refine VO.esub [(0, _), (1, _), (3, _), (4, _), (21, _)] ⟨rfl, rfl, rfl, rfl, rfl, trivial⟩ (VO.nil ?_)
      refine VC.ret ?_
      refine outR ?_
      refine ⟨_, _, res_run (rs := [.tmp 4]) rfl (.tmp rfl .nil), fun W_ hI => out_of (l := []) hI [] rfl rfl (mle_refl _) (fun hS_ => ?_)⟩
      dsimp only [packV]
      all_goals (first | rfl | (first | exact congrArg Value.bool (decide_eq_false (fun e => by have e2 := e.2 _ (List.mem_of_getElem? ‹d1.2.2.2.2.2.2.2[k]? = some _›) (by omega); rw [epochAt_of ‹d0[_]? = some _›] at e2; omega)).symm | exact congrArg Value.bool (decide_eq_false (fun e => by have e2 := e.1 (by omega); rw [epochAt_of ‹d0[_]? = some _›] at e2; omega)).symm | exact congrArg Value.bool (decide_eq_true (⟨fun h => by first | omega | (rw [epochAt_of ‹d0[_]? = some _›]; omega), by have ha2 := ha; rw [List.take_of_length_le (by omega)] at ha2; exact ha2⟩ : fitsM d0 d1)).symm))
    · -- TF
      refine VC.skip ?_
      refine outN ?_
      refine VC.seq ?_
      refine VC.rs ?_
      refine VO.y rfl (.fa rfl tst72 rfl) ?_
      refine VO.y rfl (.ld1 102 rfl tk61 rfl (cellsAt_one rfl rfl)) ?_
      refine VO.y rfl (.lenS rfl tsl61) ?_
      refine VO.y rfl (.mv rfl) ?_
      refine VO.esub [(0, _), (1, _), (3, _), (4, _), (21, _), (23, _), (24, _), (25, _)] ⟨rfl, rfl, rfl, rfl, rfl, rfl, rfl, rfl, trivial⟩ (VO.nil ?_)
      refine VC.block ?_
      refine VC.loop (G := Nat) (fun k => [(25, Value.int .i64 (((k : Nat) : Int))), (0, Value.slice (some ⟨gg4, oo4, none⟩) (d0.length) (c0)), (1, Value.agg [Value.int .i64 (d1.1), Value.int .i64 (d1.2.1), Value.int .u8 (d1.2.2.1), Value.int .i64 (d1.2.2.2.1), Value.slice p1_A4 (d1.2.2.2.2.1.length) (p1_c4), Value.int .i64 (d1.2.2.2.2.2.1), Value.int .i64 (d1.2.2.2.2.2.2.1), Value.slice p1_A7 (d1.2.2.2.2.2.2.2.length) (p1_c7)].toArray), (3, Value.pointer (some ⟨g1, 0, none⟩)), (21, Value.bool (decide (¬ x4.1 = d1.2.2.2.2.2.2.1))), (23, Value.slice p1_A7 (d1.2.2.2.2.2.2.2.length) (p1_c7)), (24, Value.int .i64 (((d1.2.2.2.2.2.2.2.length : Nat) : Int)))]) (fun k => [(102, mone g1 (.cells [Value.int .i64 (d1.1), Value.int .i64 (d1.2.1), Value.int .u8 (d1.2.2.1), Value.int .i64 (d1.2.2.2.1), Value.slice p1_A4 (d1.2.2.2.2.1.length) (p1_c4), Value.int .i64 (d1.2.2.2.2.2.1), Value.int .i64 (d1.2.2.2.2.2.2.1), Value.slice p1_A7 (d1.2.2.2.2.2.2.2.length) (p1_c7)].toArray 72 (0, 0))), (0, wm W)]) (fun k => (k ≤ d1.2.2.2.2.2.2.2.length) ∧ (∀ c ∈ d1.2.2.2.2.2.2.2.take k, c.2.1 ≤ d0.length → epochAt d0 (c.2.1 - 1) = c.1)) (fun k => d1.2.2.2.2.2.2.2.length - k) 0 (⟨by omega, by simp⟩) ⟨⟨rfl, rfl, rfl, rfl, rfl, rfl, rfl, trivial⟩, fun _ h => h.sub [102, 0]⟩ ?_
      rintro k ⟨hk, ha⟩
      refine VC.rs ?_
      refine VO.y rfl (.lss rfl rfl) ?_
      refine VO.esub [(0, _), (1, _), (3, _), (21, _), (23, _), (24, _), (25, _), (26, _)] ⟨rfl, rfl, rfl, rfl, rfl, rfl, rfl, rfl, trivial⟩ (VO.nil ?_)
      refine VC.seq ?_
      refine VC.cond rfl (fun hc6 => ?_) (fun hc6 => ?_)
      · -- TFT
        refine VC.skip ?_
        refine outN ?_
        refine VC.seq ?_
        refine VC.block ?_
        refine VC.rs ?_
        obtain ⟨x7, hx7⟩ : ∃ x, (d1.2.2.2.2.2.2.2)[k]? = some x := ⟨_, List.getElem?_eq_getElem (by first | omega | (simp only [List.length_append, List.length_nil, List.length_cons, List.length_take, List.length_drop] at *; omega) | (have := e1 _ (List.mem_of_getElem? ‹d1.2.2.2.2.2.2.2[k]? = some _›); omega))⟩
        obtain ⟨gg7, oo7, ec7, ea7, hce7, hre7⟩ := p1_7.elem hx7
        cases ea7
        obtain ⟨q7_A2, q7_c2, rfl, q7_0, q7_1, q7_2⟩ := open_Commit (x0 := x7.1) (x1 := x7.2.1) (x2 := x7.2.2) hre7
        simp only [inK] at q7_0
        simp only [inK] at q7_1
        have q7_r2 := Rd.room q7_2
        refine VO.y rfl (.ixI k rfl rfl tsl61 rfl (by first | omega | (simp only [List.length_append, List.length_nil, List.length_cons, List.length_take, List.length_drop] at *; omega) | (have := e1 _ (List.mem_of_getElem? ‹d1.2.2.2.2.2.2.2[k]? = some _›); omega))) ?_
        refine VO.y rfl (.ldA 0 rfl tk52 rfl hce7) ?_
        refine VO.alloc 109 rfl tz52 (fun g8 => ?_)
        refine VO.store (k := 3) (c' := [Value.int .i64 (x7.1), Value.int .i64 (x7.2.1), Value.slice q7_A2 (x7.2.2.length) (q7_c2)]) 109 rfl rfl (.inl tk52) rfl rfl rfl rfl rfl ?_
        refine VO.esub [(0, _), (1, _), (3, _), (6, _), (21, _), (23, _), (24, _), (25, _), (26, _)] ⟨rfl, rfl, rfl, rfl, rfl, rfl, rfl, rfl, rfl, trivial⟩ (VO.nil ?_)
        refine VC.seq ?_
        refine VC.regD _ 15 [(0, true), (1, true), (2, true), (3, true), (4, true), (5, true), (6, true), (7, true), (8, true), (9, true), (10, true), (11, true), (12, true), (13, true), (14, true)] follows (by kernel_rfl) (fun _ h => h.sub [109, 102, 0]) ?_
        refine VD.y rfl rfl (.inl rfl) (.fa rfl tst52 rfl) ?_
        refine VD.y rfl rfl (.inl rfl) (.ld1 109 rfl tk3 rfl (cellsAt_one rfl rfl)) ?_
        refine VD.y rfl rfl (.inl rfl) (.mv rfl) ?_
        refine VD.y rfl rfl (.inl rfl) (.lenS rfl tsl61) ?_
        refine VD.y rfl rfl (.inl rfl) (.leq rfl rfl) ?_
        refine VD.y rfl rfl (.inl rfl) (.mv rfl) ?_
        refine VD.dec (s := 34) rfl (fun hc10 => ?_) (fun hc10 => ?_)
        · -- TFTT
          refine VD.y rfl rfl (.inr ⟨_, _, rfl, _, rfl, rfl⟩) (.mv rfl) ?_
          refine VD.y rfl rfl (.inr ⟨_, _, rfl, _, rfl, rfl⟩) (.fa rfl tst52 rfl) ?_
          refine VD.y rfl rfl (.inr ⟨_, _, rfl, _, rfl, rfl⟩) (.ld1 109 rfl tk3 rfl (cellsAt_one rfl rfl)) ?_
          refine VD.y rfl rfl (.inr ⟨_, _, rfl, _, rfl, rfl⟩) (.sub rfl rfl rfl ⟨by first | omega | (simp only [List.length_append, List.length_nil, List.length_cons, List.length_take, List.length_drop] at *; omega) | (have := e1 _ (List.mem_of_getElem? ‹d1.2.2.2.2.2.2.2[k]? = some _›); omega), by first | omega | (simp only [List.length_append, List.length_nil, List.length_cons, List.length_take, List.length_drop] at *; omega) | (have := e1 _ (List.mem_of_getElem? ‹d1.2.2.2.2.2.2.2[k]? = some _›); omega)⟩) ?_
          obtain ⟨x11, hx11⟩ : ∃ x, (d0)[(x7.2.1 - 1).toNat]? = some x := ⟨_, List.getElem?_eq_getElem (by first | omega | (simp only [List.length_append, List.length_nil, List.length_cons, List.length_take, List.length_drop] at *; omega) | (have := e1 _ (List.mem_of_getElem? ‹d1.2.2.2.2.2.2.2[k]? = some _›); omega))⟩
          obtain ⟨gg11, oo11, ec11, ea11, hce11, hre11⟩ := h0.elem hx11
          cases ea11
          obtain ⟨q11_A2, q11_c2, rfl, q11_0, q11_1, q11_2⟩ := open_Commit (x0 := x11.1) (x1 := x11.2.1) (x2 := x11.2.2) hre11
          simp only [inK] at q11_0
          simp only [inK] at q11_1
          have q11_r2 := Rd.room q11_2
          refine VD.y rfl rfl (.inr ⟨_, _, rfl, _, rfl, rfl⟩) (.ixI ((x7.2.1 - 1).toNat) rfl rfl tsl61 (by first | omega | (simp only [List.length_append, List.length_nil, List.length_cons, List.length_take, List.length_drop] at *; omega) | (have := e1 _ (List.mem_of_getElem? ‹d1.2.2.2.2.2.2.2[k]? = some _›); omega)) (by first | omega | (simp only [List.length_append, List.length_nil, List.length_cons, List.length_take, List.length_drop] at *; omega) | (have := e1 _ (List.mem_of_getElem? ‹d1.2.2.2.2.2.2.2[k]? = some _›); omega))) ?_
          refine VD.y rfl rfl (.inr ⟨_, _, rfl, _, rfl, rfl⟩) (.fa rfl tst52 rfl) ?_
          refine VD.y rfl rfl (.inr ⟨_, _, rfl, _, rfl, rfl⟩) (.ld1 0 rfl tk3 rfl (hce11.at1 (j := 0) rfl)) ?_
          refine VD.y rfl rfl (.inr ⟨_, _, rfl, _, rfl, rfl⟩) (.fa rfl tst52 rfl) ?_
          refine VD.y rfl rfl (.inr ⟨_, _, rfl, _, rfl, rfl⟩) (.ld1 109 rfl tk3 rfl (cellsAt_one rfl rfl)) ?_
          refine VD.nil rfl ?_ rfl
          refine VO.gy rfl ⟨_, rfl, rfl⟩ (.neq rfl rfl) ?_
          refine VO.y rfl (.pT rfl rfl) ?_
          refine VO.esub [(0, _), (1, _), (3, _), (6, _), (21, _), (23, _), (24, _), (25, _), (26, _), (45, _)] ⟨rfl, rfl, rfl, rfl, rfl, rfl, rfl, rfl, rfl, rfl, trivial⟩ (VO.nil ?_)
          refine outN ?_
          refine VC.cond rfl (fun hc12 => ?_) (fun hc12 => ?_)
          · -- TFTTT
            refine VC.rs ?_
            refine VO.y rfl (.as rfl) ?_
            refine VO.esub [(0, _), (1, _), (3, _), (4, _), (6, _), (21, _), (23, _), (24, _), (25, _), (26, _), (45, _)] ⟨rfl, rfl, rfl, rfl, rfl, rfl, rfl, rfl, rfl, rfl, rfl, trivial⟩ (VO.nil ?_)
            refine VC.ret ?_
            refine outBR ?_
            refine outR ?_
            refine outR ?_
            refine outBR ?_
            refine outR ?_
            refine ⟨_, _, res_run (rs := [.tmp 4]) rfl (.tmp rfl .nil), fun W_ hI => out_of (l := []) hI [] rfl rfl (mle_refl _) (fun hS_ => ?_)⟩
            dsimp only [packV]
            all_goals (first | rfl | (first | exact congrArg Value.bool (decide_eq_false (fun e => by have e2 := e.2 _ (List.mem_of_getElem? ‹d1.2.2.2.2.2.2.2[k]? = some _›) (by omega); rw [epochAt_of ‹d0[_]? = some _›] at e2; omega)).symm | exact congrArg Value.bool (decide_eq_false (fun e => by have e2 := e.1 (by omega); rw [epochAt_of ‹d0[_]? = some _›] at e2; omega)).symm | exact congrArg Value.bool (decide_eq_true (⟨fun h => by first | omega | (rw [epochAt_of ‹d0[_]? = some _›]; omega), by have ha2 := ha; rw [List.take_of_length_le (by omega)] at ha2; exact ha2⟩ : fitsM d0 d1)).symm))
          · -- TFTTF
            refine VC.skip ?_
            refine outBN ?_
            refine outN ?_
            refine VC.reg ?_
            refine VO.y rfl (.add (c := ((k + 1 : Nat) : Int)) rfl rfl (by omega) ⟨by first | omega | (simp only [List.length_append, List.length_nil, List.length_cons, List.length_take, List.length_drop] at *; omega) | (have := e1 _ (List.mem_of_getElem? ‹d1.2.2.2.2.2.2.2[k]? = some _›); omega), by first | omega | (simp only [List.length_append, List.length_nil, List.length_cons, List.length_take, List.length_drop] at *; omega) | (have := e1 _ (List.mem_of_getElem? ‹d1.2.2.2.2.2.2.2[k]? = some _›); omega)⟩) ?_
            refine VO.y rfl (.mv rfl) ?_
            refine VO.esub [(0, _), (1, _), (3, _), (6, _), (21, _), (23, _), (24, _), (25, _), (26, _), (45, _)] ⟨rfl, rfl, rfl, rfl, rfl, rfl, rfl, rfl, rfl, rfl, trivial⟩ (VO.nil ?_)
            exact outN ⟨k + 1, ⟨by omega, by exact all_next ha ‹d1.2.2.2.2.2.2.2[k]? = some _› (fun h => by first | omega | (rw [epochAt_of ‹d0[_]? = some _›]; omega))⟩, by first | omega | (simp only [List.length_append, List.length_nil, List.length_cons, List.length_take, List.length_drop] at *; omega) | (have := e1 _ (List.mem_of_getElem? ‹d1.2.2.2.2.2.2.2[k]? = some _›); omega), ⟨⟨rfl, rfl, rfl, rfl, rfl, rfl, rfl, trivial⟩, fun _ h => Inv.sub h [102, 0]⟩⟩
        · -- TFTF
          refine VD.gn rfl rfl (.inl ⟨_, rfl, rfl⟩) ?_
          refine VD.gn rfl rfl (.inl ⟨_, rfl, rfl⟩) ?_
          refine VD.gn rfl rfl (.inl ⟨_, rfl, rfl⟩) ?_
          refine VD.gn rfl rfl (.inl ⟨_, rfl, rfl⟩) ?_
          refine VD.gn rfl rfl (.inl ⟨_, rfl, rfl⟩) ?_
          refine VD.gn rfl rfl (.inl ⟨_, rfl, rfl⟩) ?_
          refine VD.gn rfl rfl (.inl ⟨_, rfl, rfl⟩) ?_
          refine VD.gn rfl rfl (.inl ⟨_, rfl, rfl⟩) ?_
          refine VD.gn rfl rfl (.inl ⟨_, rfl, rfl⟩) ?_
          refine VD.nil rfl ?_ rfl
          refine VO.gn rfl (.inl ⟨_, rfl, rfl⟩) ?_
          refine VO.y rfl (.pF rfl rfl) ?_
          refine VO.esub [(0, _), (1, _), (3, _), (6, _), (21, _), (23, _), (24, _), (25, _), (26, _), (45, _)] ⟨rfl, rfl, rfl, rfl, rfl, rfl, rfl, rfl, rfl, rfl, trivial⟩ (VO.nil ?_)
          refine outN ?_
          refine VC.condF rfl ?_
          refine VC.skip ?_
          refine outBN ?_
          refine outN ?_
          refine VC.reg ?_
          refine VO.y rfl (.add (c := ((k + 1 : Nat) : Int)) rfl rfl (by omega) ⟨by first | omega | (simp only [List.length_append, List.length_nil, List.length_cons, List.length_take, List.length_drop] at *; omega) | (have := e1 _ (List.mem_of_getElem? ‹d1.2.2.2.2.2.2.2[k]? = some _›); omega), by first | omega | (simp only [List.length_append, List.length_nil, List.length_cons, List.length_take, List.length_drop] at *; omega) | (have := e1 _ (List.mem_of_getElem? ‹d1.2.2.2.2.2.2.2[k]? = some _›); omega)⟩) ?_
          refine VO.y rfl (.mv rfl) ?_
          refine VO.esub [(0, _), (1, _), (3, _), (6, _), (21, _), (23, _), (24, _), (25, _), (26, _), (45, _)] ⟨rfl, rfl, rfl, rfl, rfl, rfl, rfl, rfl, rfl, rfl, trivial⟩ (VO.nil ?_)
          exact outN ⟨k + 1, ⟨by omega, by exact all_next ha ‹d1.2.2.2.2.2.2.2[k]? = some _› (fun h => by first | omega | (rw [epochAt_of ‹d0[_]? = some _›]; omega))⟩, by first | omega | (simp only [List.length_append, List.length_nil, List.length_cons, List.length_take, List.length_drop] at *; omega) | (have := e1 _ (List.mem_of_getElem? ‹d1.2.2.2.2.2.2.2[k]? = some _›); omega), ⟨⟨rfl, rfl, rfl, rfl, rfl, rfl, rfl, trivial⟩, fun _ h => Inv.sub h [102, 0]⟩⟩
      · -- TFF
        refine VC.exit ?_
        refine outE ?_
        refine outE ?_
        refine outBB ?_
        refine outN ?_
        refine VC.rs ?_
        refine VO.y rfl (.as rfl) ?_
        refine VO.esub [(0, _), (1, _), (3, _), (4, _), (21, _), (23, _), (24, _), (25, _), (26, _)] ⟨rfl, rfl, rfl, rfl, rfl, rfl, rfl, rfl, rfl, trivial⟩ (VO.nil ?_)
        refine VC.ret ?_
        refine ⟨_, _, res_run (rs := [.tmp 4]) rfl (.tmp rfl .nil), fun W_ hI => out_of (l := []) hI [] rfl rfl (mle_refl _) (fun hS_ => ?_)⟩
        dsimp only [packV]
        all_goals (first | rfl | (first | exact congrArg Value.bool (decide_eq_false (fun e => by have e2 := e.2 _ (List.mem_of_getElem? ‹d1.2.2.2.2.2.2.2[k]? = some _›) (by omega); rw [epochAt_of ‹d0[_]? = some _›] at e2; omega)).symm | exact congrArg Value.bool (decide_eq_false (fun e => by have e2 := e.1 (by omega); rw [epochAt_of ‹d0[_]? = some _›] at e2; omega)).symm | exact congrArg Value.bool (decide_eq_true (⟨fun h => by first | omega | (rw [epochAt_of ‹d0[_]? = some _›]; omega), by have ha2 := ha; rw [List.take_of_length_le (by omega)] at ha2; exact ha2⟩ : fitsM d0 d1)).symm))
  · -- F
    refine VD.gn rfl rfl (.inl ⟨_, rfl, rfl⟩) ?_
    refine VD.gn rfl rfl (.inl ⟨_, rfl, rfl⟩) ?_
    refine VD.gn rfl rfl (.inl ⟨_, rfl, rfl⟩) ?_
    refine VD.gn rfl rfl (.inl ⟨_, rfl, rfl⟩) ?_
    refine VD.gn rfl rfl (.inl ⟨_, rfl, rfl⟩) ?_
    refine VD.gn rfl rfl (.inl ⟨_, rfl, rfl⟩) ?_
    refine VD.gn rfl rfl (.inl ⟨_, rfl, rfl⟩) ?_
    refine VD.gn rfl rfl (.inl ⟨_, rfl, rfl⟩) ?_
    refine VD.gn rfl rfl (.inl ⟨_, rfl, rfl⟩) ?_
    refine VD.nil rfl ?_ rfl
    refine VO.gn rfl (.inl ⟨_, rfl, rfl⟩) ?_
    refine VO.y rfl (.pF rfl rfl) ?_
    refine VO.esub [(0, _), (1, _), (3, _), (4, _), (21, _)] ⟨rfl, rfl, rfl, rfl, rfl, trivial⟩ (VO.nil ?_)
    refine outN ?_
    refine VC.condF rfl ?_
    refine VC.skip ?_
    refine outN ?_
    refine VC.seq ?_
    refine VC.rs ?_
    refine VO.y rfl (.fa rfl tst72 rfl) ?_
    refine VO.y rfl (.ld1 102 rfl tk61 rfl (cellsAt_one rfl rfl)) ?_
    refine VO.y rfl (.lenS rfl tsl61) ?_
    refine VO.y rfl (.mv rfl) ?_
    refine VO.esub [(0, _), (1, _), (3, _), (4, _), (21, _), (23, _), (24, _), (25, _)] ⟨rfl, rfl, rfl, rfl, rfl, rfl, rfl, rfl, trivial⟩ (VO.nil ?_)
    refine VC.block ?_
    refine VC.loop (G := Nat) (fun k => [(25, Value.int .i64 (((k : Nat) : Int))), (0, Value.slice A0 (d0.length) (c0)), (1, Value.agg [Value.int .i64 (d1.1), Value.int .i64 (d1.2.1), Value.int .u8 (d1.2.2.1), Value.int .i64 (d1.2.2.2.1), Value.slice p1_A4 (d1.2.2.2.2.1.length) (p1_c4), Value.int .i64 (d1.2.2.2.2.2.1), Value.int .i64 (d1.2.2.2.2.2.2.1), Value.slice p1_A7 (d1.2.2.2.2.2.2.2.length) (p1_c7)].toArray), (3, Value.pointer (some ⟨g1, 0, none⟩)), (21, Value.bool false), (23, Value.slice p1_A7 (d1.2.2.2.2.2.2.2.length) (p1_c7)), (24, Value.int .i64 (((d1.2.2.2.2.2.2.2.length : Nat) : Int)))]) (fun k => [(102, mone g1 (.cells [Value.int .i64 (d1.1), Value.int .i64 (d1.2.1), Value.int .u8 (d1.2.2.1), Value.int .i64 (d1.2.2.2.1), Value.slice p1_A4 (d1.2.2.2.2.1.length) (p1_c4), Value.int .i64 (d1.2.2.2.2.2.1), Value.int .i64 (d1.2.2.2.2.2.2.1), Value.slice p1_A7 (d1.2.2.2.2.2.2.2.length) (p1_c7)].toArray 72 (0, 0))), (0, wm W)]) (fun k => (k ≤ d1.2.2.2.2.2.2.2.length) ∧ (∀ c ∈ d1.2.2.2.2.2.2.2.take k, c.2.1 ≤ d0.length → epochAt d0 (c.2.1 - 1) = c.1)) (fun k => d1.2.2.2.2.2.2.2.length - k) 0 (⟨by omega, by simp⟩) ⟨⟨rfl, rfl, rfl, rfl, rfl, rfl, rfl, trivial⟩, fun _ h => h.sub [102, 0]⟩ ?_
    rintro k ⟨hk, ha⟩
    refine VC.rs ?_
    refine VO.y rfl (.lss rfl rfl) ?_
    refine VO.esub [(0, _), (1, _), (3, _), (21, _), (23, _), (24, _), (25, _), (26, _)] ⟨rfl, rfl, rfl, rfl, rfl, rfl, rfl, rfl, trivial⟩ (VO.nil ?_)
    refine VC.seq ?_
    refine VC.cond rfl (fun hc13 => ?_) (fun hc13 => ?_)
    · -- FT
      refine VC.skip ?_
      refine outN ?_
      refine VC.seq ?_
      refine VC.block ?_
      refine VC.rs ?_
      obtain ⟨x14, hx14⟩ : ∃ x, (d1.2.2.2.2.2.2.2)[k]? = some x := ⟨_, List.getElem?_eq_getElem (by first | omega | (simp only [List.length_append, List.length_nil, List.length_cons, List.length_take, List.length_drop] at *; omega) | (have := e1 _ (List.mem_of_getElem? ‹d1.2.2.2.2.2.2.2[k]? = some _›); omega))⟩
      obtain ⟨gg14, oo14, ec14, ea14, hce14, hre14⟩ := p1_7.elem hx14
      cases ea14
      obtain ⟨q14_A2, q14_c2, rfl, q14_0, q14_1, q14_2⟩ := open_Commit (x0 := x14.1) (x1 := x14.2.1) (x2 := x14.2.2) hre14
      simp only [inK] at q14_0
      simp only [inK] at q14_1
      have q14_r2 := Rd.room q14_2
      refine VO.y rfl (.ixI k rfl rfl tsl61 rfl (by first | omega | (simp only [List.length_append, List.length_nil, List.length_cons, List.length_take, List.length_drop] at *; omega) | (have := e1 _ (List.mem_of_getElem? ‹d1.2.2.2.2.2.2.2[k]? = some _›); omega))) ?_
      refine VO.y rfl (.ldA 0 rfl tk52 rfl hce14) ?_
      refine VO.alloc 116 rfl tz52 (fun g15 => ?_)
      refine VO.store (k := 3) (c' := [Value.int .i64 (x14.1), Value.int .i64 (x14.2.1), Value.slice q14_A2 (x14.2.2.length) (q14_c2)]) 116 rfl rfl (.inl tk52) rfl rfl rfl rfl rfl ?_
      refine VO.esub [(0, _), (1, _), (3, _), (6, _), (21, _), (23, _), (24, _), (25, _), (26, _)] ⟨rfl, rfl, rfl, rfl, rfl, rfl, rfl, rfl, rfl, trivial⟩ (VO.nil ?_)
      refine VC.seq ?_
      refine VC.regD _ 15 [(0, true), (1, true), (2, true), (3, true), (4, true), (5, true), (6, true), (7, true), (8, true), (9, true), (10, true), (11, true), (12, true), (13, true), (14, true)] follows (by kernel_rfl) (fun _ h => h.sub [116, 102, 0]) ?_
      refine VD.y rfl rfl (.inl rfl) (.fa rfl tst52 rfl) ?_
      refine VD.y rfl rfl (.inl rfl) (.ld1 116 rfl tk3 rfl (cellsAt_one rfl rfl)) ?_
      refine VD.y rfl rfl (.inl rfl) (.mv rfl) ?_
      refine VD.y rfl rfl (.inl rfl) (.lenS rfl tsl61) ?_
      refine VD.y rfl rfl (.inl rfl) (.leq rfl rfl) ?_
      refine VD.y rfl rfl (.inl rfl) (.mv rfl) ?_
      refine VD.dec (s := 34) rfl (fun hc17 => ?_) (fun hc17 => ?_)
      · -- FTT
        refine VD.y rfl rfl (.inr ⟨_, _, rfl, _, rfl, rfl⟩) (.mv rfl) ?_
        refine VD.y rfl rfl (.inr ⟨_, _, rfl, _, rfl, rfl⟩) (.fa rfl tst52 rfl) ?_
        refine VD.y rfl rfl (.inr ⟨_, _, rfl, _, rfl, rfl⟩) (.ld1 116 rfl tk3 rfl (cellsAt_one rfl rfl)) ?_
        refine VD.y rfl rfl (.inr ⟨_, _, rfl, _, rfl, rfl⟩) (.sub rfl rfl rfl ⟨by first | omega | (simp only [List.length_append, List.length_nil, List.length_cons, List.length_take, List.length_drop] at *; omega) | (have := e1 _ (List.mem_of_getElem? ‹d1.2.2.2.2.2.2.2[k]? = some _›); omega), by first | omega | (simp only [List.length_append, List.length_nil, List.length_cons, List.length_take, List.length_drop] at *; omega) | (have := e1 _ (List.mem_of_getElem? ‹d1.2.2.2.2.2.2.2[k]? = some _›); omega)⟩) ?_
        obtain ⟨x18, hx18⟩ : ∃ x, (d0)[(x14.2.1 - 1).toNat]? = some x := ⟨_, List.getElem?_eq_getElem (by first | omega | (simp only [List.length_append, List.length_nil, List.length_cons, List.length_take, List.length_drop] at *; omega) | (have := e1 _ (List.mem_of_getElem? ‹d1.2.2.2.2.2.2.2[k]? = some _›); omega))⟩
        obtain ⟨gg18, oo18, ec18, ea18, hce18, hre18⟩ := h0.elem hx18
        cases ea18
        obtain ⟨q18_A2, q18_c2, rfl, q18_0, q18_1, q18_2⟩ := open_Commit (x0 := x18.1) (x1 := x18.2.1) (x2 := x18.2.2) hre18
        simp only [inK] at q18_0
        simp only [inK] at q18_1
        have q18_r2 := Rd.room q18_2
        refine VD.y rfl rfl (.inr ⟨_, _, rfl, _, rfl, rfl⟩) (.ixI ((x14.2.1 - 1).toNat) rfl rfl tsl61 (by first | omega | (simp only [List.length_append, List.length_nil, List.length_cons, List.length_take, List.length_drop] at *; omega) | (have := e1 _ (List.mem_of_getElem? ‹d1.2.2.2.2.2.2.2[k]? = some _›); omega)) (by first | omega | (simp only [List.length_append, List.length_nil, List.length_cons, List.length_take, List.length_drop] at *; omega) | (have := e1 _ (List.mem_of_getElem? ‹d1.2.2.2.2.2.2.2[k]? = some _›); omega))) ?_
        refine VD.y rfl rfl (.inr ⟨_, _, rfl, _, rfl, rfl⟩) (.fa rfl tst52 rfl) ?_
        refine VD.y rfl rfl (.inr ⟨_, _, rfl, _, rfl, rfl⟩) (.ld1 0 rfl tk3 rfl (hce18.at1 (j := 0) rfl)) ?_
        refine VD.y rfl rfl (.inr ⟨_, _, rfl, _, rfl, rfl⟩) (.fa rfl tst52 rfl) ?_
        refine VD.y rfl rfl (.inr ⟨_, _, rfl, _, rfl, rfl⟩) (.ld1 116 rfl tk3 rfl (cellsAt_one rfl rfl)) ?_
        refine VD.nil rfl ?_ rfl
        refine VO.gy rfl ⟨_, rfl, rfl⟩ (.neq rfl rfl) ?_
        refine VO.y rfl (.pT rfl rfl) ?_
        refine VO.esub [(0, _), (1, _), (3, _), (6, _), (21, _), (23, _), (24, _), (25, _), (26, _), (45, _)] ⟨rfl, rfl, rfl, rfl, rfl, rfl, rfl, rfl, rfl, rfl, trivial⟩ (VO.nil ?_)
        refine outN ?_
        refine VC.cond rfl (fun hc19 => ?_) (fun hc19 => ?_)
        · -- FTTT
          refine VC.rs ?_
          refine VO.y rfl (.as rfl) ?_
          refine VO.esub [(0, _), (1, _), (3, _), (4, _), (6, _), (21, _), (23, _), (24, _), (25, _), (26, _), (45, _)] ⟨rfl, rfl, rfl, rfl, rfl, rfl, rfl, rfl, rfl, rfl, rfl, trivial⟩ (VO.nil ?_)
          refine VC.ret ?_
          refine outBR ?_
          refine outR ?_
          refine outR ?_
          refine outBR ?_
          refine outR ?_
          refine ⟨_, _, res_run (rs := [.tmp 4]) rfl (.tmp rfl .nil), fun W_ hI => out_of (l := []) hI [] rfl rfl (mle_refl _) (fun hS_ => ?_)⟩
          dsimp only [packV]
          all_goals (first | rfl | (first | exact congrArg Value.bool (decide_eq_false (fun e => by have e2 := e.2 _ (List.mem_of_getElem? ‹d1.2.2.2.2.2.2.2[k]? = some _›) (by omega); rw [epochAt_of ‹d0[_]? = some _›] at e2; omega)).symm | exact congrArg Value.bool (decide_eq_false (fun e => by have e2 := e.1 (by omega); rw [epochAt_of ‹d0[_]? = some _›] at e2; omega)).symm | exact congrArg Value.bool (decide_eq_true (⟨fun h => by first | omega | (rw [epochAt_of ‹d0[_]? = some _›]; omega), by have ha2 := ha; rw [List.take_of_length_le (by omega)] at ha2; exact ha2⟩ : fitsM d0 d1)).symm))
        · -- FTTF
          refine VC.skip ?_
          refine outBN ?_
          refine outN ?_
          refine VC.reg ?_
          refine VO.y rfl (.add (c := ((k + 1 : Nat) : Int)) rfl rfl (by omega) ⟨by first | omega | (simp only [List.length_append, List.length_nil, List.length_cons, List.length_take, List.length_drop] at *; omega) | (have := e1 _ (List.mem_of_getElem? ‹d1.2.2.2.2.2.2.2[k]? = some _›); omega), by first | omega | (simp only [List.length_append, List.length_nil, List.length_cons, List.length_take, List.length_drop] at *; omega) | (have := e1 _ (List.mem_of_getElem? ‹d1.2.2.2.2.2.2.2[k]? = some _›); omega)⟩) ?_
          refine VO.y rfl (.mv rfl) ?_
          refine VO.esub [(0, _), (1, _), (3, _), (6, _), (21, _), (23, _), (24, _), (25, _), (26, _), (45, _)] ⟨rfl, rfl, rfl, rfl, rfl, rfl, rfl, rfl, rfl, rfl, trivial⟩ (VO.nil ?_)
          exact outN ⟨k + 1, ⟨by omega, by exact all_next ha ‹d1.2.2.2.2.2.2.2[k]? = some _› (fun h => by first | omega | (rw [epochAt_of ‹d0[_]? = some _›]; omega))⟩, by first | omega | (simp only [List.length_append, List.length_nil, List.length_cons, List.length_take, List.length_drop] at *; omega) | (have := e1 _ (List.mem_of_getElem? ‹d1.2.2.2.2.2.2.2[k]? = some _›); omega), ⟨⟨rfl, rfl, rfl, rfl, rfl, rfl, rfl, trivial⟩, fun _ h => Inv.sub h [102, 0]⟩⟩
      · -- FTF
        refine VD.gn rfl rfl (.inl ⟨_, rfl, rfl⟩) ?_
        refine VD.gn rfl rfl (.inl ⟨_, rfl, rfl⟩) ?_
        refine VD.gn rfl rfl (.inl ⟨_, rfl, rfl⟩) ?_
        refine VD.gn rfl rfl (.inl ⟨_, rfl, rfl⟩) ?_
        refine VD.gn rfl rfl (.inl ⟨_, rfl, rfl⟩) ?_
        refine VD.gn rfl rfl (.inl ⟨_, rfl, rfl⟩) ?_
        refine VD.gn rfl rfl (.inl ⟨_, rfl, rfl⟩) ?_
        refine VD.gn rfl rfl (.inl ⟨_, rfl, rfl⟩) ?_
        refine VD.gn rfl rfl (.inl ⟨_, rfl, rfl⟩) ?_
        refine VD.nil rfl ?_ rfl
        refine VO.gn rfl (.inl ⟨_, rfl, rfl⟩) ?_
        refine VO.y rfl (.pF rfl rfl) ?_
        refine VO.esub [(0, _), (1, _), (3, _), (6, _), (21, _), (23, _), (24, _), (25, _), (26, _), (45, _)] ⟨rfl, rfl, rfl, rfl, rfl, rfl, rfl, rfl, rfl, rfl, trivial⟩ (VO.nil ?_)
        refine outN ?_
        refine VC.condF rfl ?_
        refine VC.skip ?_
        refine outBN ?_
        refine outN ?_
        refine VC.reg ?_
        refine VO.y rfl (.add (c := ((k + 1 : Nat) : Int)) rfl rfl (by omega) ⟨by first | omega | (simp only [List.length_append, List.length_nil, List.length_cons, List.length_take, List.length_drop] at *; omega) | (have := e1 _ (List.mem_of_getElem? ‹d1.2.2.2.2.2.2.2[k]? = some _›); omega), by first | omega | (simp only [List.length_append, List.length_nil, List.length_cons, List.length_take, List.length_drop] at *; omega) | (have := e1 _ (List.mem_of_getElem? ‹d1.2.2.2.2.2.2.2[k]? = some _›); omega)⟩) ?_
        refine VO.y rfl (.mv rfl) ?_
        refine VO.esub [(0, _), (1, _), (3, _), (6, _), (21, _), (23, _), (24, _), (25, _), (26, _), (45, _)] ⟨rfl, rfl, rfl, rfl, rfl, rfl, rfl, rfl, rfl, rfl, trivial⟩ (VO.nil ?_)
        exact outN ⟨k + 1, ⟨by omega, by exact all_next ha ‹d1.2.2.2.2.2.2.2[k]? = some _› (fun h => by first | omega | (rw [epochAt_of ‹d0[_]? = some _›]; omega))⟩, by first | omega | (simp only [List.length_append, List.length_nil, List.length_cons, List.length_take, List.length_drop] at *; omega) | (have := e1 _ (List.mem_of_getElem? ‹d1.2.2.2.2.2.2.2[k]? = some _›); omega), ⟨⟨rfl, rfl, rfl, rfl, rfl, rfl, rfl, trivial⟩, fun _ h => Inv.sub h [102, 0]⟩⟩
    · -- FF
      refine VC.exit ?_
      refine outE ?_
      refine outE ?_
      refine outBB ?_
      refine outN ?_
      refine VC.rs ?_
      refine VO.y rfl (.as rfl) ?_
      refine VO.esub [(0, _), (1, _), (3, _), (4, _), (21, _), (23, _), (24, _), (25, _), (26, _)] ⟨rfl, rfl, rfl, rfl, rfl, rfl, rfl, rfl, rfl, trivial⟩ (VO.nil ?_)
      refine VC.ret ?_
      refine ⟨_, _, res_run (rs := [.tmp 4]) rfl (.tmp rfl .nil), fun W_ hI => out_of (l := []) hI [] rfl rfl (mle_refl _) (fun hS_ => ?_)⟩
      dsimp only [packV]
      all_goals (first | rfl | (first | exact congrArg Value.bool (decide_eq_false (fun e => by have e2 := e.2 _ (List.mem_of_getElem? ‹d1.2.2.2.2.2.2.2[k]? = some _›) (by omega); rw [epochAt_of ‹d0[_]? = some _›] at e2; omega)).symm | exact congrArg Value.bool (decide_eq_false (fun e => by have e2 := e.1 (by omega); rw [epochAt_of ‹d0[_]? = some _›] at e2; omega)).symm | exact congrArg Value.bool (decide_eq_true (⟨fun h => by first | omega | (rw [epochAt_of ‹d0[_]? = some _›]; omega), by have ha2 := ha; rw [List.take_of_length_le (by omega)] at ha2; exact ha2⟩ : fitsM d0 d1)).symm))
theorem take_ok (W : World) (d0 : Int) (h0 : inK .i64 d0) {v1 : Value} {d1 : List DCommit} (h1 : Rd (.sl TCommit) (wm W) [v1] d1) {v2 : List Value} {d2 : DMessage} (h2 : Rd TMessage (wm W) v2 d2) : CallR Try.prog 78 [.int .i64 d0, v1, .agg v2.toArray] W (mnil) (fun v m' => ∃ (s0 : Value), v = .tuple #[s0, .int .i64 ((takeOf d0 d1 d2).2)] ∧ Ow (.sl TCommit) m' [s0] ((takeOf d0 d1 d2).1)) := by
  have h0' := h0; simp only [inK] at h0'
  obtain ⟨A1, c1, rfl, l1, k1⟩ := h1.slice
  simp only [maxLen] at k1
  obtain ⟨p2_A4, p2_c4, p2_A7, p2_c7, rfl, p2_0, p2_1, p2_2, p2_3, p2_4, p2_5, p2_6, p2_7⟩ := open_Message (x0 := d2.1) (x1 := d2.2.1) (x2 := d2.2.2.1) (x3 := d2.2.2.2.1) (x4 := d2.2.2.2.2.1) (x5 := d2.2.2.2.2.2.1) (x6 := d2.2.2.2.2.2.2.1) (x7 := d2.2.2.2.2.2.2.2) h2
  simp only [inK] at p2_0
  simp only [inK] at p2_1
  simp only [inK] at p2_2
  simp only [inK] at p2_3
  have p2_r4 := Rd.room p2_4
  simp only [inK] at p2_5
  simp only [inK] at p2_6
  have p2_r7 := Rd.room p2_7
  refine CallR.ofA (n := 69) Try.func78 rfl rfl rfl ?_
  refine VC.rs ?_
  refine VO.box (cs := [Value.int .i64 (d2.1), Value.int .i64 (d2.2.1), Value.int .u8 (d2.2.2.1), Value.int .i64 (d2.2.2.2.1), Value.slice p2_A4 (d2.2.2.2.2.1.length) (p2_c4), Value.int .i64 (d2.2.2.2.2.2.1), Value.int .i64 (d2.2.2.2.2.2.2.1), Value.slice p2_A7 (d2.2.2.2.2.2.2.2.length) (p2_c7)]) 102 rfl rfl rfl (fun g1 => ?_)
  refine VO.y rfl (.as rfl) ?_
  refine VO.y rfl (.as rfl) ?_
  refine VO.esub [(0, _), (1, _), (2, _), (5, _), (6, _), (7, _)] ⟨rfl, rfl, rfl, rfl, rfl, rfl, trivial⟩ (VO.nil ?_)
  refine VC.seq ?_
  refine VC.rs ?_
  refine VO.y rfl (.mv rfl) ?_
  refine VO.callN 103 rfl fnOk52 rfl (fun W hW => follows_ok W 0 (by simp only [inK]; (first | omega | (simp only [List.length_append, List.length_nil, List.length_cons, List.length_take, List.length_drop] at *; omega) | exact ship_room (by omega) (by omega) ‹d2.2.2.2.2.2.2.2[k]? = some _› | (have := (lCheck_ship (m := d2) (by omega) (by omega)).1; omega))) 0 (by simp only [inK]; (first | omega | (simp only [List.length_append, List.length_nil, List.length_cons, List.length_take, List.length_drop] at *; omega) | exact ship_room (by omega) (by omega) ‹d2.2.2.2.2.2.2.2[k]? = some _› | (have := (lCheck_ship (m := d2) (by omega) (by omega)).1; omega))) (Rd.mono h1 (hW.at (i := 0) rfl))) (fun v3 m3 hv3 => ?_)
  obtain ⟨s3_0, rfl, f3_0⟩ := hv3
  obtain ⟨rfl, q3_0_0, q3_0_1⟩ := open_Fault (x0 := (cFollows 0 0 d1).1) (x1 := (cFollows 0 0 d1).2) (f3_0.rd (mle_refl _))
  simp only [inK] at q3_0_0
  simp only [inK] at q3_0_1
  refine VO.alloc 105 rfl tz57 (fun g4 => ?_)
  refine VO.store (k := 2) (c' := [Value.int .i64 ((cFollows 0 0 d1).1), Value.int .i64 ((cFollows 0 0 d1).2)]) 105 rfl rfl (.inl tk57) rfl rfl rfl rfl rfl ?_
  refine VO.esub [(0, _), (1, _), (2, _), (5, _), (6, _), (7, _), (8, _)] ⟨rfl, rfl, rfl, rfl, rfl, rfl, rfl, trivial⟩ (VO.nil ?_)
  refine VC.rs ?_
  refine VO.y rfl (.fa rfl tst57 rfl) ?_
  refine VO.y rfl (.ld1 105 rfl tk26 rfl (cellsAt_one rfl rfl)) ?_
  refine VO.y rfl (.neq rfl rfl) ?_
  refine VO.esub [(0, _), (1, _), (2, _), (5, _), (6, _), (7, _), (8, _), (16, _)] ⟨rfl, rfl, rfl, rfl, rfl, rfl, rfl, rfl, trivial⟩ (VO.nil ?_)
  refine VC.cond rfl (fun hc6 => ?_) (fun hc6 => ?_)
  · -- T
    refine VC.seq ?_
    refine VC.regD _ 3 [(0, true), (1, true), (2, true)] follows (by kernel_rfl) (fun _ h => h.sub [105, 103, 102, 0]) ?_
    refine VD.y rfl rfl (.inl rfl) (.fa rfl tst57 rfl) ?_
    refine VD.y rfl rfl (.inl rfl) (.ld1 105 rfl tk26 rfl (cellsAt_one rfl rfl)) ?_
    refine VD.y rfl rfl (.inl rfl) (.as rfl) ?_
    refine VD.nil rfl ?_ rfl
    refine VO.y rfl (.as rfl) ?_
    refine VO.esub [(0, _), (1, _), (2, _), (5, _), (6, _), (7, _), (8, _), (16, _)] ⟨rfl, rfl, rfl, rfl, rfl, rfl, rfl, rfl, trivial⟩ (VO.nil ?_)
    refine outN ?_
    refine VC.ret ?_
    refine outR ?_
    refine ⟨_, _, res_run (rs := [.tmp 6, .tmp 7]) rfl (.tmp rfl (.tmp rfl .nil)), fun W_ hI => out_of (l := []) hI [] rfl rfl (mle_refl _) (fun hS_ => ?_)⟩
    dsimp only [packV]
    have he0 : ((takeOf d0 d1 d2).1 : Ty.Den (.sl TCommit)) = [] := by first | rfl | (first | (rw [take_follows ‹_›] <;> rfl) | (rw [take_check ‹¬ ¬ _› (by omega)] <;> rfl) | (rw [take_stale ‹¬ ¬ _› (by omega) (by omega) (by omega)] <;> rfl) | (rw [take_later ‹¬ ¬ _› (by omega) (by omega) (by omega) (by omega)] <;> rfl) | (rw [take_gap ‹¬ ¬ _› (by omega) (by omega) (by omega) (by omega) (by omega)] <;> rfl) | (rw [take_fork ‹¬ ¬ (cFollows 0 0 _).1 = 0› (by omega) (by omega) (by omega) (by omega) (by omega) ‹¬ fitsM _ _›] <;> rfl) | (rw [take_good ‹¬ ¬ (cFollows 0 0 _).1 = 0› (by omega) (by omega) (by omega) (by omega) (by omega) (Decidable.not_not.1 ‹¬ ¬ fitsM _ _›), ho, List.take_of_length_le (by omega)]))
    refine ⟨Value.slice none (0) (0), ?_, ?_⟩
    rotate_left
    · rw [he0]; exact (Ow.nil _ _)
    all_goals (first | rfl | (first | (rw [take_follows ‹_›] <;> rfl) | (rw [take_check ‹¬ ¬ _› (by omega)] <;> rfl) | (rw [take_stale ‹¬ ¬ _› (by omega) (by omega) (by omega)] <;> rfl) | (rw [take_later ‹¬ ¬ _› (by omega) (by omega) (by omega) (by omega)] <;> rfl) | (rw [take_gap ‹¬ ¬ _› (by omega) (by omega) (by omega) (by omega) (by omega)] <;> rfl) | (rw [take_fork ‹¬ ¬ (cFollows 0 0 _).1 = 0› (by omega) (by omega) (by omega) (by omega) (by omega) ‹¬ fitsM _ _›] <;> rfl) | (rw [take_good ‹¬ ¬ (cFollows 0 0 _).1 = 0› (by omega) (by omega) (by omega) (by omega) (by omega) (Decidable.not_not.1 ‹¬ ¬ fitsM _ _›)] <;> rfl)))
  · -- F
    refine VC.skip ?_
    refine outN ?_
    refine VC.seq ?_
    refine VC.block ?_
    refine VC.rs ?_
    refine VO.y rfl (.ldA 102 rfl tk72 rfl (cellsAt_one rfl rfl)) ?_
    refine VO.callN 107 rfl fnOk87 rfl (fun W hW => lCheck_ok W (Rd.mono h2 (hW.at (i := 0) rfl))) (fun v7 m7 hv7 => ?_)
    subst hv7
    have hfa8 := lCheck_range (d2.1, d2.2.1, d2.2.2.1, d2.2.2.2.1, d2.2.2.2.2.1, d2.2.2.2.2.2.1, d2.2.2.2.2.2.2.1, d2.2.2.2.2.2.2.2)
    refine VO.y rfl (.neq rfl rfl) ?_
    refine VO.y rfl (.mv rfl) ?_
    refine VO.dec (t := 23) rfl (fun hc9 => ?_) (fun hc9 => ?_)
    · -- FT
      refine VO.gn rfl (.inl ⟨_, rfl, rfl⟩) ?_
      refine VO.gn rfl (.inl ⟨_, rfl, rfl⟩) ?_
      refine VO.gn rfl (.inl ⟨_, rfl, rfl⟩) ?_
      refine VO.y rfl (.pT rfl rfl) ?_
      refine VO.y rfl (.as rfl) ?_
      refine VO.esub [(0, _), (1, _), (2, _), (5, _), (6, _), (7, _), (8, _), (16, _), (19, _)] ⟨rfl, rfl, rfl, rfl, rfl, rfl, rfl, rfl, rfl, trivial⟩ (VO.nil ?_)
      refine VC.condT rfl ?_
      refine VC.rs ?_
      refine VO.y rfl (.as rfl) ?_
      refine VO.y rfl (.as rfl) ?_
      refine VO.esub [(0, _), (1, _), (2, _), (5, _), (6, _), (7, _), (8, _), (16, _), (19, _)] ⟨rfl, rfl, rfl, rfl, rfl, rfl, rfl, rfl, rfl, trivial⟩ (VO.nil ?_)
      refine VC.ret ?_
      refine outBR ?_
      refine outR ?_
      refine ⟨_, _, res_run (rs := [.tmp 6, .tmp 7]) rfl (.tmp rfl (.tmp rfl .nil)), fun W_ hI => out_of (l := []) hI [] rfl rfl (mle_refl _) (fun hS_ => ?_)⟩
      dsimp only [packV]
      have he0 : ((takeOf d0 d1 d2).1 : Ty.Den (.sl TCommit)) = [] := by first | rfl | (first | (rw [take_follows ‹_›] <;> rfl) | (rw [take_check ‹¬ ¬ _› (by omega)] <;> rfl) | (rw [take_stale ‹¬ ¬ _› (by omega) (by omega) (by omega)] <;> rfl) | (rw [take_later ‹¬ ¬ _› (by omega) (by omega) (by omega) (by omega)] <;> rfl) | (rw [take_gap ‹¬ ¬ _› (by omega) (by omega) (by omega) (by omega) (by omega)] <;> rfl) | (rw [take_fork ‹¬ ¬ (cFollows 0 0 _).1 = 0› (by omega) (by omega) (by omega) (by omega) (by omega) ‹¬ fitsM _ _›] <;> rfl) | (rw [take_good ‹¬ ¬ (cFollows 0 0 _).1 = 0› (by omega) (by omega) (by omega) (by omega) (by omega) (Decidable.not_not.1 ‹¬ ¬ fitsM _ _›), ho, List.take_of_length_le (by omega)]))
      refine ⟨Value.slice none (0) (0), ?_, ?_⟩
      rotate_left
      · rw [he0]; exact (Ow.nil _ _)
      all_goals (first | rfl | (first | (rw [take_follows ‹_›] <;> rfl) | (rw [take_check ‹¬ ¬ _› (by omega)] <;> rfl) | (rw [take_stale ‹¬ ¬ _› (by omega) (by omega) (by omega)] <;> rfl) | (rw [take_later ‹¬ ¬ _› (by omega) (by omega) (by omega) (by omega)] <;> rfl) | (rw [take_gap ‹¬ ¬ _› (by omega) (by omega) (by omega) (by omega) (by omega)] <;> rfl) | (rw [take_fork ‹¬ ¬ (cFollows 0 0 _).1 = 0› (by omega) (by omega) (by omega) (by omega) (by omega) ‹¬ fitsM _ _›] <;> rfl) | (rw [take_good ‹¬ ¬ (cFollows 0 0 _).1 = 0› (by omega) (by omega) (by omega) (by omega) (by omega) (Decidable.not_not.1 ‹¬ ¬ fitsM _ _›)] <;> rfl)))
    · -- FF
      refine VO.gy rfl ⟨_, rfl, rfl⟩ (.fa rfl tst72 rfl) ?_
      refine VO.gy rfl ⟨_, rfl, rfl⟩ (.ld1 102 rfl tk3 rfl (cellsAt_one rfl rfl)) ?_
      refine VO.gy rfl ⟨_, rfl, rfl⟩ (.neq rfl rfl) ?_
      refine VO.y rfl (.pF rfl rfl) ?_
      refine VO.y rfl (.as rfl) ?_
      refine VO.esub [(0, _), (1, _), (2, _), (5, _), (6, _), (7, _), (8, _), (16, _), (19, _)] ⟨rfl, rfl, rfl, rfl, rfl, rfl, rfl, rfl, rfl, trivial⟩ (VO.nil ?_)
      refine VC.cond rfl (fun hc10 => ?_) (fun hc10 => ?_)
      · -- FFT
        refine VC.rs ?_
        refine VO.y rfl (.as rfl) ?_
        refine VO.y rfl (.as rfl) ?_
        refine VO.esub [(0, _), (1, _), (2, _), (5, _), (6, _), (7, _), (8, _), (16, _), (19, _)] ⟨rfl, rfl, rfl, rfl, rfl, rfl, rfl, rfl, rfl, trivial⟩ (VO.nil ?_)
        refine VC.ret ?_
        refine outBR ?_
        refine outR ?_
        refine ⟨_, _, res_run (rs := [.tmp 6, .tmp 7]) rfl (.tmp rfl (.tmp rfl .nil)), fun W_ hI => out_of (l := []) hI [] rfl rfl (mle_refl _) (fun hS_ => ?_)⟩
        dsimp only [packV]
        have he0 : ((takeOf d0 d1 d2).1 : Ty.Den (.sl TCommit)) = [] := by first | rfl | (first | (rw [take_follows ‹_›] <;> rfl) | (rw [take_check ‹¬ ¬ _› (by omega)] <;> rfl) | (rw [take_stale ‹¬ ¬ _› (by omega) (by omega) (by omega)] <;> rfl) | (rw [take_later ‹¬ ¬ _› (by omega) (by omega) (by omega) (by omega)] <;> rfl) | (rw [take_gap ‹¬ ¬ _› (by omega) (by omega) (by omega) (by omega) (by omega)] <;> rfl) | (rw [take_fork ‹¬ ¬ (cFollows 0 0 _).1 = 0› (by omega) (by omega) (by omega) (by omega) (by omega) ‹¬ fitsM _ _›] <;> rfl) | (rw [take_good ‹¬ ¬ (cFollows 0 0 _).1 = 0› (by omega) (by omega) (by omega) (by omega) (by omega) (Decidable.not_not.1 ‹¬ ¬ fitsM _ _›), ho, List.take_of_length_le (by omega)]))
        refine ⟨Value.slice none (0) (0), ?_, ?_⟩
        rotate_left
        · rw [he0]; exact (Ow.nil _ _)
        all_goals (first | rfl | (first | (rw [take_follows ‹_›] <;> rfl) | (rw [take_check ‹¬ ¬ _› (by omega)] <;> rfl) | (rw [take_stale ‹¬ ¬ _› (by omega) (by omega) (by omega)] <;> rfl) | (rw [take_later ‹¬ ¬ _› (by omega) (by omega) (by omega) (by omega)] <;> rfl) | (rw [take_gap ‹¬ ¬ _› (by omega) (by omega) (by omega) (by omega) (by omega)] <;> rfl) | (rw [take_fork ‹¬ ¬ (cFollows 0 0 _).1 = 0› (by omega) (by omega) (by omega) (by omega) (by omega) ‹¬ fitsM _ _›] <;> rfl) | (rw [take_good ‹¬ ¬ (cFollows 0 0 _).1 = 0› (by omega) (by omega) (by omega) (by omega) (by omega) (Decidable.not_not.1 ‹¬ ¬ fitsM _ _›)] <;> rfl)))
      · -- FFF
        refine VC.rs ?_
        refine VO.y rfl (.fa rfl tst72 rfl) ?_
        refine VO.y rfl (.ld1 102 rfl tk3 rfl (cellsAt_one rfl rfl)) ?_
        refine VO.y rfl (.mv rfl) ?_
        refine VO.y rfl (.lss rfl rfl) ?_
        refine VO.y rfl (.as rfl) ?_
        refine VO.esub [(0, _), (1, _), (2, _), (5, _), (6, _), (7, _), (8, _), (16, _), (19, _), (28, _)] ⟨rfl, rfl, rfl, rfl, rfl, rfl, rfl, rfl, rfl, rfl, trivial⟩ (VO.nil ?_)
        refine VC.cond rfl (fun hc11 => ?_) (fun hc11 => ?_)
        · -- FFFT
          refine VC.rs ?_
          refine VO.y rfl (.as rfl) ?_
          refine VO.y rfl (.as rfl) ?_
          refine VO.esub [(0, _), (1, _), (2, _), (5, _), (6, _), (7, _), (8, _), (16, _), (19, _), (28, _)] ⟨rfl, rfl, rfl, rfl, rfl, rfl, rfl, rfl, rfl, rfl, trivial⟩ (VO.nil ?_)
          refine VC.ret ?_
          refine outBR ?_
          refine outR ?_
          refine ⟨_, _, res_run (rs := [.tmp 6, .tmp 7]) rfl (.tmp rfl (.tmp rfl .nil)), fun W_ hI => out_of (l := []) hI [] rfl rfl (mle_refl _) (fun hS_ => ?_)⟩
          dsimp only [packV]
          have he0 : ((takeOf d0 d1 d2).1 : Ty.Den (.sl TCommit)) = [] := by first | rfl | (first | (rw [take_follows ‹_›] <;> rfl) | (rw [take_check ‹¬ ¬ _› (by omega)] <;> rfl) | (rw [take_stale ‹¬ ¬ _› (by omega) (by omega) (by omega)] <;> rfl) | (rw [take_later ‹¬ ¬ _› (by omega) (by omega) (by omega) (by omega)] <;> rfl) | (rw [take_gap ‹¬ ¬ _› (by omega) (by omega) (by omega) (by omega) (by omega)] <;> rfl) | (rw [take_fork ‹¬ ¬ (cFollows 0 0 _).1 = 0› (by omega) (by omega) (by omega) (by omega) (by omega) ‹¬ fitsM _ _›] <;> rfl) | (rw [take_good ‹¬ ¬ (cFollows 0 0 _).1 = 0› (by omega) (by omega) (by omega) (by omega) (by omega) (Decidable.not_not.1 ‹¬ ¬ fitsM _ _›), ho, List.take_of_length_le (by omega)]))
          refine ⟨Value.slice none (0) (0), ?_, ?_⟩
          rotate_left
          · rw [he0]; exact (Ow.nil _ _)
          all_goals (first | rfl | (first | (rw [take_follows ‹_›] <;> rfl) | (rw [take_check ‹¬ ¬ _› (by omega)] <;> rfl) | (rw [take_stale ‹¬ ¬ _› (by omega) (by omega) (by omega)] <;> rfl) | (rw [take_later ‹¬ ¬ _› (by omega) (by omega) (by omega) (by omega)] <;> rfl) | (rw [take_gap ‹¬ ¬ _› (by omega) (by omega) (by omega) (by omega) (by omega)] <;> rfl) | (rw [take_fork ‹¬ ¬ (cFollows 0 0 _).1 = 0› (by omega) (by omega) (by omega) (by omega) (by omega) ‹¬ fitsM _ _›] <;> rfl) | (rw [take_good ‹¬ ¬ (cFollows 0 0 _).1 = 0› (by omega) (by omega) (by omega) (by omega) (by omega) (Decidable.not_not.1 ‹¬ ¬ fitsM _ _›)] <;> rfl)))
        · -- FFFF
          refine VC.rs ?_
          refine VO.y rfl (.fa rfl tst72 rfl) ?_
          refine VO.y rfl (.ld1 102 rfl tk3 rfl (cellsAt_one rfl rfl)) ?_
          refine VO.y rfl (.mv rfl) ?_
          refine VO.y rfl (.gtr rfl rfl) ?_
          refine VO.y rfl (.as rfl) ?_
          refine VO.esub [(0, _), (1, _), (2, _), (5, _), (6, _), (7, _), (8, _), (16, _), (19, _), (28, _), (33, _)] ⟨rfl, rfl, rfl, rfl, rfl, rfl, rfl, rfl, rfl, rfl, rfl, trivial⟩ (VO.nil ?_)
          refine VC.cond rfl (fun hc12 => ?_) (fun hc12 => ?_)
          · -- FFFFT
            refine VC.rs ?_
            refine VO.y rfl (.as rfl) ?_
            refine VO.y rfl (.as rfl) ?_
            refine VO.esub [(0, _), (1, _), (2, _), (5, _), (6, _), (7, _), (8, _), (16, _), (19, _), (28, _), (33, _)] ⟨rfl, rfl, rfl, rfl, rfl, rfl, rfl, rfl, rfl, rfl, rfl, trivial⟩ (VO.nil ?_)
            refine VC.ret ?_
            refine outBR ?_
            refine outR ?_
            refine ⟨_, _, res_run (rs := [.tmp 6, .tmp 7]) rfl (.tmp rfl (.tmp rfl .nil)), fun W_ hI => out_of (l := []) hI [] rfl rfl (mle_refl _) (fun hS_ => ?_)⟩
            dsimp only [packV]
            have he0 : ((takeOf d0 d1 d2).1 : Ty.Den (.sl TCommit)) = [] := by first | rfl | (first | (rw [take_follows ‹_›] <;> rfl) | (rw [take_check ‹¬ ¬ _› (by omega)] <;> rfl) | (rw [take_stale ‹¬ ¬ _› (by omega) (by omega) (by omega)] <;> rfl) | (rw [take_later ‹¬ ¬ _› (by omega) (by omega) (by omega) (by omega)] <;> rfl) | (rw [take_gap ‹¬ ¬ _› (by omega) (by omega) (by omega) (by omega) (by omega)] <;> rfl) | (rw [take_fork ‹¬ ¬ (cFollows 0 0 _).1 = 0› (by omega) (by omega) (by omega) (by omega) (by omega) ‹¬ fitsM _ _›] <;> rfl) | (rw [take_good ‹¬ ¬ (cFollows 0 0 _).1 = 0› (by omega) (by omega) (by omega) (by omega) (by omega) (Decidable.not_not.1 ‹¬ ¬ fitsM _ _›), ho, List.take_of_length_le (by omega)]))
            refine ⟨Value.slice none (0) (0), ?_, ?_⟩
            rotate_left
            · rw [he0]; exact (Ow.nil _ _)
            all_goals (first | rfl | (first | (rw [take_follows ‹_›] <;> rfl) | (rw [take_check ‹¬ ¬ _› (by omega)] <;> rfl) | (rw [take_stale ‹¬ ¬ _› (by omega) (by omega) (by omega)] <;> rfl) | (rw [take_later ‹¬ ¬ _› (by omega) (by omega) (by omega) (by omega)] <;> rfl) | (rw [take_gap ‹¬ ¬ _› (by omega) (by omega) (by omega) (by omega) (by omega)] <;> rfl) | (rw [take_fork ‹¬ ¬ (cFollows 0 0 _).1 = 0› (by omega) (by omega) (by omega) (by omega) (by omega) ‹¬ fitsM _ _›] <;> rfl) | (rw [take_good ‹¬ ¬ (cFollows 0 0 _).1 = 0› (by omega) (by omega) (by omega) (by omega) (by omega) (Decidable.not_not.1 ‹¬ ¬ fitsM _ _›)] <;> rfl)))
          · -- FFFFF
            refine VC.rs ?_
            refine VO.y rfl (.fa rfl tst72 rfl) ?_
            refine VO.y rfl (.ld1 102 rfl tk3 rfl (cellsAt_one rfl rfl)) ?_
            refine VO.y rfl (.sub rfl rfl rfl ⟨by first | omega | (simp only [List.length_append, List.length_nil, List.length_cons, List.length_take, List.length_drop] at *; omega) | exact ship_room (by omega) (by omega) ‹d2.2.2.2.2.2.2.2[k]? = some _› | (have := (lCheck_ship (m := d2) (by omega) (by omega)).1; omega), by first | omega | (simp only [List.length_append, List.length_nil, List.length_cons, List.length_take, List.length_drop] at *; omega) | exact ship_room (by omega) (by omega) ‹d2.2.2.2.2.2.2.2[k]? = some _› | (have := (lCheck_ship (m := d2) (by omega) (by omega)).1; omega)⟩) ?_
            refine VO.y rfl (.mv rfl) ?_
            refine VO.y rfl (.lenS rfl tsl61) ?_
            refine VO.y rfl (.gtr rfl rfl) ?_
            refine VO.y rfl (.as rfl) ?_
            refine VO.esub [(0, _), (1, _), (2, _), (5, _), (6, _), (7, _), (8, _), (16, _), (19, _), (28, _), (33, _), (38, _)] ⟨rfl, rfl, rfl, rfl, rfl, rfl, rfl, rfl, rfl, rfl, rfl, rfl, trivial⟩ (VO.nil ?_)
            refine VC.cond rfl (fun hc13 => ?_) (fun hc13 => ?_)
            · -- FFFFFT
              refine VC.rs ?_
              refine VO.y rfl (.as rfl) ?_
              refine VO.y rfl (.as rfl) ?_
              refine VO.esub [(0, _), (1, _), (2, _), (5, _), (6, _), (7, _), (8, _), (16, _), (19, _), (28, _), (33, _), (38, _)] ⟨rfl, rfl, rfl, rfl, rfl, rfl, rfl, rfl, rfl, rfl, rfl, rfl, trivial⟩ (VO.nil ?_)
              refine VC.ret ?_
              refine outBR ?_
              refine outR ?_
              refine ⟨_, _, res_run (rs := [.tmp 6, .tmp 7]) rfl (.tmp rfl (.tmp rfl .nil)), fun W_ hI => out_of (l := []) hI [] rfl rfl (mle_refl _) (fun hS_ => ?_)⟩
              dsimp only [packV]
              have he0 : ((takeOf d0 d1 d2).1 : Ty.Den (.sl TCommit)) = [] := by first | rfl | (first | (rw [take_follows ‹_›] <;> rfl) | (rw [take_check ‹¬ ¬ _› (by omega)] <;> rfl) | (rw [take_stale ‹¬ ¬ _› (by omega) (by omega) (by omega)] <;> rfl) | (rw [take_later ‹¬ ¬ _› (by omega) (by omega) (by omega) (by omega)] <;> rfl) | (rw [take_gap ‹¬ ¬ _› (by omega) (by omega) (by omega) (by omega) (by omega)] <;> rfl) | (rw [take_fork ‹¬ ¬ (cFollows 0 0 _).1 = 0› (by omega) (by omega) (by omega) (by omega) (by omega) ‹¬ fitsM _ _›] <;> rfl) | (rw [take_good ‹¬ ¬ (cFollows 0 0 _).1 = 0› (by omega) (by omega) (by omega) (by omega) (by omega) (Decidable.not_not.1 ‹¬ ¬ fitsM _ _›), ho, List.take_of_length_le (by omega)]))
              refine ⟨Value.slice none (0) (0), ?_, ?_⟩
              rotate_left
              · rw [he0]; exact (Ow.nil _ _)
              all_goals (first | rfl | (first | (rw [take_follows ‹_›] <;> rfl) | (rw [take_check ‹¬ ¬ _› (by omega)] <;> rfl) | (rw [take_stale ‹¬ ¬ _› (by omega) (by omega) (by omega)] <;> rfl) | (rw [take_later ‹¬ ¬ _› (by omega) (by omega) (by omega) (by omega)] <;> rfl) | (rw [take_gap ‹¬ ¬ _› (by omega) (by omega) (by omega) (by omega) (by omega)] <;> rfl) | (rw [take_fork ‹¬ ¬ (cFollows 0 0 _).1 = 0› (by omega) (by omega) (by omega) (by omega) (by omega) ‹¬ fitsM _ _›] <;> rfl) | (rw [take_good ‹¬ ¬ (cFollows 0 0 _).1 = 0› (by omega) (by omega) (by omega) (by omega) (by omega) (Decidable.not_not.1 ‹¬ ¬ fitsM _ _›)] <;> rfl)))
            · -- FFFFFF
              refine VC.rs ?_
              refine VO.y rfl (.mv rfl) ?_
              refine VO.y rfl (.ldA 102 rfl tk72 rfl (cellsAt_one rfl rfl)) ?_
              refine VO.callN 114 rfl fnOk119 rfl (fun W hW => fits_ok W (Rd.mono h1 (hW.at (i := 0) rfl)) (Rd.mono h2 (hW.at (i := 0) rfl)) (by omega) (by first | exact ship_pos (by omega) (by omega))) (fun v14 m14 hv14 => ?_)
              subst hv14
              refine VO.y rfl (.notD rfl) ?_
              refine VO.y rfl (.as rfl) ?_
              refine VO.esub [(0, _), (1, _), (2, _), (5, _), (6, _), (7, _), (8, _), (16, _), (19, _), (28, _), (33, _), (38, _), (45, _)] ⟨rfl, rfl, rfl, rfl, rfl, rfl, rfl, rfl, rfl, rfl, rfl, rfl, rfl, trivial⟩ (VO.nil ?_)
              refine VC.cond rfl (fun hc15 => ?_) (fun hc15 => ?_)
              · -- FFFFFFT
                refine VC.rs ?_
                refine VO.y rfl (.as rfl) ?_
                refine VO.y rfl (.as rfl) ?_
                refine VO.esub [(0, _), (1, _), (2, _), (5, _), (6, _), (7, _), (8, _), (16, _), (19, _), (28, _), (33, _), (38, _), (45, _)] ⟨rfl, rfl, rfl, rfl, rfl, rfl, rfl, rfl, rfl, rfl, rfl, rfl, rfl, trivial⟩ (VO.nil ?_)
                refine VC.ret ?_
                refine outBR ?_
                refine outR ?_
                refine ⟨_, _, res_run (rs := [.tmp 6, .tmp 7]) rfl (.tmp rfl (.tmp rfl .nil)), fun W_ hI => out_of (l := []) hI [] rfl rfl (mle_refl _) (fun hS_ => ?_)⟩
                dsimp only [packV]
                have he0 : ((takeOf d0 d1 d2).1 : Ty.Den (.sl TCommit)) = [] := by first | rfl | (first | (rw [take_follows ‹_›] <;> rfl) | (rw [take_check ‹¬ ¬ _› (by omega)] <;> rfl) | (rw [take_stale ‹¬ ¬ _› (by omega) (by omega) (by omega)] <;> rfl) | (rw [take_later ‹¬ ¬ _› (by omega) (by omega) (by omega) (by omega)] <;> rfl) | (rw [take_gap ‹¬ ¬ _› (by omega) (by omega) (by omega) (by omega) (by omega)] <;> rfl) | (rw [take_fork ‹¬ ¬ (cFollows 0 0 _).1 = 0› (by omega) (by omega) (by omega) (by omega) (by omega) ‹¬ fitsM _ _›] <;> rfl) | (rw [take_good ‹¬ ¬ (cFollows 0 0 _).1 = 0› (by omega) (by omega) (by omega) (by omega) (by omega) (Decidable.not_not.1 ‹¬ ¬ fitsM _ _›), ho, List.take_of_length_le (by omega)]))
                refine ⟨Value.slice none (0) (0), ?_, ?_⟩
                rotate_left
                · rw [he0]; exact (Ow.nil _ _)
                all_goals (first | rfl | (first | (rw [take_follows ‹_›] <;> rfl) | (rw [take_check ‹¬ ¬ _› (by omega)] <;> rfl) | (rw [take_stale ‹¬ ¬ _› (by omega) (by omega) (by omega)] <;> rfl) | (rw [take_later ‹¬ ¬ _› (by omega) (by omega) (by omega) (by omega)] <;> rfl) | (rw [take_gap ‹¬ ¬ _› (by omega) (by omega) (by omega) (by omega) (by omega)] <;> rfl) | (rw [take_fork ‹¬ ¬ (cFollows 0 0 _).1 = 0› (by omega) (by omega) (by omega) (by omega) (by omega) ‹¬ fitsM _ _›] <;> rfl) | (rw [take_good ‹¬ ¬ (cFollows 0 0 _).1 = 0› (by omega) (by omega) (by omega) (by omega) (by omega) (Decidable.not_not.1 ‹¬ ¬ fitsM _ _›)] <;> rfl)))
              · -- FFFFFFF
                refine VC.skip ?_
                refine outBN ?_
                refine outN ?_
                refine VC.rs ?_
                refine VO.y rfl (.as rfl) ?_
                refine VO.esub [(0, _), (1, _), (2, _), (5, _), (6, _), (7, _), (8, _), (9, _), (16, _), (19, _), (28, _), (33, _), (38, _), (45, _)] ⟨rfl, rfl, rfl, rfl, rfl, rfl, rfl, rfl, rfl, rfl, rfl, rfl, rfl, rfl, trivial⟩ (VO.nil ?_)
                refine VC.seq ?_
                refine VC.rs ?_
                refine VO.y rfl (.fa rfl tst72 rfl) ?_
                refine VO.y rfl (.ld1 102 rfl tk61 rfl (cellsAt_one rfl rfl)) ?_
                refine VO.y rfl (.lenS rfl tsl61) ?_
                refine VO.y rfl (.mv rfl) ?_
                refine VO.esub [(0, _), (1, _), (2, _), (5, _), (6, _), (7, _), (8, _), (9, _), (16, _), (19, _), (28, _), (33, _), (38, _), (45, _), (51, _), (52, _), (53, _)] ⟨rfl, rfl, rfl, rfl, rfl, rfl, rfl, rfl, rfl, rfl, rfl, rfl, rfl, rfl, rfl, rfl, rfl, trivial⟩ (VO.nil ?_)
                refine VC.block ?_
                refine VC.inv ((116, mnil) :: _) (fun _ h => h.nilc 116) ?_
                refine VC.loop (G := Nat × (List DCommit) × (Option Addr) × Nat × Mem) (fun g => [(9, Value.slice (g.2.2.1) ((g.2.1).length) ((g.2.2.2.1))), (53, Value.int .i64 ((((g.1) : Nat) : Int))), (0, Value.int .i64 (d0)), (1, Value.slice A1 (d1.length) (c1)), (2, Value.agg [Value.int .i64 (d2.1), Value.int .i64 (d2.2.1), Value.int .u8 (d2.2.2.1), Value.int .i64 (d2.2.2.2.1), Value.slice p2_A4 (d2.2.2.2.2.1.length) (p2_c4), Value.int .i64 (d2.2.2.2.2.2.1), Value.int .i64 (d2.2.2.2.2.2.2.1), Value.slice p2_A7 (d2.2.2.2.2.2.2.2.length) (p2_c7)].toArray), (5, Value.pointer (some ⟨g1, 0, none⟩)), (6, Value.slice none (0) (0)), (7, Value.int .i64 (0)), (8, Value.pointer (some ⟨g4, 0, none⟩)), (16, Value.bool (decide (¬ ((cFollows 0 0 d1).1) = 0))), (19, Value.bool (decide (¬ d2.1 = 2))), (28, Value.bool (decide (d2.2.1 < d0))), (33, Value.bool (decide (d0 < d2.2.1))), (38, Value.bool (decide (((d1.length : Nat) : Int) < (d2.2.2.2.2.2.1 - 1)))), (45, Value.bool (decide (¬ (fitsM d1 (d2.1, d2.2.1, d2.2.2.1, d2.2.2.2.1, d2.2.2.2.2.1, d2.2.2.2.2.2.1, d2.2.2.2.2.2.2.1, d2.2.2.2.2.2.2.2))))), (51, Value.slice p2_A7 (d2.2.2.2.2.2.2.2.length) (p2_c7)), (52, Value.int .i64 (((d2.2.2.2.2.2.2.2.length : Nat) : Int)))]) (fun g => [(116, (g.2.2.2.2)), (105, mone g4 (.cells [Value.int .i64 ((cFollows 0 0 d1).1), Value.int .i64 ((cFollows 0 0 d1).2)].toArray 57 (0, 0))), (102, mone g1 (.cells [Value.int .i64 (d2.1), Value.int .i64 (d2.2.1), Value.int .u8 (d2.2.2.1), Value.int .i64 (d2.2.2.2.1), Value.slice p2_A4 (d2.2.2.2.2.1.length) (p2_c4), Value.int .i64 (d2.2.2.2.2.2.1), Value.int .i64 (d2.2.2.2.2.2.2.1), Value.slice p2_A7 (d2.2.2.2.2.2.2.2.length) (p2_c7)].toArray 72 (0, 0))), (0, wm W)]) (fun g => ((g.1) ≤ d2.2.2.2.2.2.2.2.length) ∧ ((g.2.1) = (d2.2.2.2.2.2.2.2.take (g.1)).filter (fun c => decide ((d1.length : Int) < c.2.1))) ∧ (Ow (.sl TCommit) (g.2.2.2.2) [.slice (g.2.2.1) (g.2.1).length (g.2.2.2.1)] (g.2.1))) (fun g => d2.2.2.2.2.2.2.2.length - (g.1)) (0, [], none, 0, mnil) (⟨by omega, by rfl, (Ow.nil TCommit mnil)⟩) ⟨⟨rfl, rfl, rfl, rfl, rfl, rfl, rfl, rfl, rfl, rfl, rfl, rfl, rfl, rfl, rfl, rfl, rfl, trivial⟩, fun _ h => h.sub [116, 105, 102, 0]⟩ ?_
                rintro ⟨k, out, out_A, out_c, out_m⟩ ⟨hk, ho, h_out⟩
                replace hk : k ≤ d2.2.2.2.2.2.2.2.length := hk
                replace ho : out = (d2.2.2.2.2.2.2.2.take k).filter (fun c => decide ((d1.length : Int) < c.2.1)) := ho
                replace h_out : Ow (.sl TCommit) out_m [.slice out_A out.length out_c] out := h_out
                show VC _ _ _ _ _ [(9, Value.slice out_A (out.length) (out_c)), (53, Value.int .i64 (((k : Nat) : Int))), (0, Value.int .i64 (d0)), (1, Value.slice A1 (d1.length) (c1)), (2, Value.agg [Value.int .i64 (d2.1), Value.int .i64 (d2.2.1), Value.int .u8 (d2.2.2.1), Value.int .i64 (d2.2.2.2.1), Value.slice p2_A4 (d2.2.2.2.2.1.length) (p2_c4), Value.int .i64 (d2.2.2.2.2.2.1), Value.int .i64 (d2.2.2.2.2.2.2.1), Value.slice p2_A7 (d2.2.2.2.2.2.2.2.length) (p2_c7)].toArray), (5, Value.pointer (some ⟨g1, 0, none⟩)), (6, Value.slice none (0) (0)), (7, Value.int .i64 (0)), (8, Value.pointer (some ⟨g4, 0, none⟩)), (16, Value.bool (decide (¬ ((cFollows 0 0 d1).1) = 0))), (19, Value.bool (decide (¬ d2.1 = 2))), (28, Value.bool (decide (d2.2.1 < d0))), (33, Value.bool (decide (d0 < d2.2.1))), (38, Value.bool (decide (((d1.length : Nat) : Int) < (d2.2.2.2.2.2.1 - 1)))), (45, Value.bool (decide (¬ (fitsM d1 (d2.1, d2.2.1, d2.2.2.1, d2.2.2.2.1, d2.2.2.2.2.1, d2.2.2.2.2.2.1, d2.2.2.2.2.2.2.1, d2.2.2.2.2.2.2.2))))), (51, Value.slice p2_A7 (d2.2.2.2.2.2.2.2.length) (p2_c7)), (52, Value.int .i64 (((d2.2.2.2.2.2.2.2.length : Nat) : Int)))] [(116, out_m), (105, mone g4 (.cells [Value.int .i64 ((cFollows 0 0 d1).1), Value.int .i64 ((cFollows 0 0 d1).2)].toArray 57 (0, 0))), (102, mone g1 (.cells [Value.int .i64 (d2.1), Value.int .i64 (d2.2.1), Value.int .u8 (d2.2.2.1), Value.int .i64 (d2.2.2.2.1), Value.slice p2_A4 (d2.2.2.2.2.1.length) (p2_c4), Value.int .i64 (d2.2.2.2.2.2.1), Value.int .i64 (d2.2.2.2.2.2.2.1), Value.slice p2_A7 (d2.2.2.2.2.2.2.2.length) (p2_c7)].toArray 72 (0, 0))), (0, wm W)]
                have l_out : out.length ≤ out_c := by obtain ⟨_, _, he, hl, _⟩ := h_out.slice; simp only [Value.slice.injEq] at he; omega
                have k_out : out_c ≤ 9223372036854775807 := by obtain ⟨_, _, he, _, hl⟩ := h_out.slice; simp only [Value.slice.injEq, maxLen] at he hl; omega
                have hlo : out.length ≤ 4 := by have h4 := (lCheck_ship (m := d2) (by omega) (by omega)).2.2.2.1; have := List.length_filter_le (fun c : DCommit => decide ((d1.length : Int) < c.2.1)) (d2.2.2.2.2.2.2.2.take k); rw [ho]; simp only [List.length_take] at this; omega
                refine VC.rs ?_
                refine VO.y rfl (.lss rfl rfl) ?_
                refine VO.esub [(0, _), (1, _), (2, _), (5, _), (6, _), (7, _), (8, _), (9, _), (16, _), (19, _), (28, _), (33, _), (38, _), (45, _), (51, _), (52, _), (53, _), (54, _)] ⟨rfl, rfl, rfl, rfl, rfl, rfl, rfl, rfl, rfl, rfl, rfl, rfl, rfl, rfl, rfl, rfl, rfl, rfl, trivial⟩ (VO.nil ?_)
                refine VC.seq ?_
                refine VC.cond rfl (fun hc17 => ?_) (fun hc17 => ?_)
                · -- FFFFFFFT
                  refine VC.skip ?_
                  refine outN ?_
                  refine VC.seq ?_
                  refine VC.block ?_
                  refine VC.rs ?_
                  obtain ⟨x18, hx18⟩ : ∃ x, (d2.2.2.2.2.2.2.2)[k]? = some x := ⟨_, List.getElem?_eq_getElem (by first | omega | (simp only [List.length_append, List.length_nil, List.length_cons, List.length_take, List.length_drop] at *; omega) | exact ship_room (by omega) (by omega) ‹d2.2.2.2.2.2.2.2[k]? = some _› | (have := (lCheck_ship (m := d2) (by omega) (by omega)).1; omega))⟩
                  obtain ⟨gg18, oo18, ec18, ea18, hce18, hre18⟩ := p2_7.elem hx18
                  cases ea18
                  obtain ⟨q18_A2, q18_c2, rfl, q18_0, q18_1, q18_2⟩ := open_Commit (x0 := x18.1) (x1 := x18.2.1) (x2 := x18.2.2) hre18
                  simp only [inK] at q18_0
                  simp only [inK] at q18_1
                  have q18_r2 := Rd.room q18_2
                  refine VO.y rfl (.ixI k rfl rfl tsl61 rfl (by first | omega | (simp only [List.length_append, List.length_nil, List.length_cons, List.length_take, List.length_drop] at *; omega) | exact ship_room (by omega) (by omega) ‹d2.2.2.2.2.2.2.2[k]? = some _› | (have := (lCheck_ship (m := d2) (by omega) (by omega)).1; omega))) ?_
                  refine VO.y rfl (.ldA 0 rfl tk52 rfl hce18) ?_
                  refine VO.alloc 120 rfl tz52 (fun g19 => ?_)
                  refine VO.store (k := 3) (c' := [Value.int .i64 (x18.1), Value.int .i64 (x18.2.1), Value.slice q18_A2 (x18.2.2.length) (q18_c2)]) 120 rfl rfl (.inl tk52) rfl rfl rfl rfl rfl ?_
                  refine VO.inv [(120, _), (116, _), (105, _), (102, _), (0, _)] (fun _ h => h.sub [120, 116, 105, 102, 0]) ?_
                  refine VO.esub [(0, _), (1, _), (2, _), (5, _), (6, _), (7, _), (8, _), (9, _), (11, _), (16, _), (19, _), (28, _), (33, _), (38, _), (45, _), (51, _), (52, _), (53, _), (54, _)] ⟨rfl, rfl, rfl, rfl, rfl, rfl, rfl, rfl, rfl, rfl, rfl, rfl, rfl, rfl, rfl, rfl, rfl, rfl, rfl, trivial⟩ (VO.nil ?_)
                  refine VC.rs ?_
                  refine VO.y rfl (.fa rfl tst52 rfl) ?_
                  refine VO.y rfl (.ld1 120 rfl tk3 rfl (cellsAt_one rfl rfl)) ?_
                  refine VO.y rfl (.mv rfl) ?_
                  refine VO.y rfl (.lenS rfl tsl61) ?_
                  refine VO.y rfl (.gtr rfl rfl) ?_
                  refine VO.esub [(0, _), (1, _), (2, _), (5, _), (6, _), (7, _), (8, _), (9, _), (11, _), (16, _), (19, _), (28, _), (33, _), (38, _), (45, _), (51, _), (52, _), (53, _), (54, _), (61, _)] ⟨rfl, rfl, rfl, rfl, rfl, rfl, rfl, rfl, rfl, rfl, rfl, rfl, rfl, rfl, rfl, rfl, rfl, rfl, rfl, rfl, trivial⟩ (VO.nil ?_)
                  refine VC.cond rfl (fun hc21 => ?_) (fun hc21 => ?_)
                  · -- FFFFFFFTT
                    refine VC.reg ?_
                    refine VO.y rfl (.mv rfl) ?_
                    refine VO.y rfl (.ldA 120 rfl tk52 rfl (cellsAt_one rfl rfl)) ?_
                    refine VO.callN 122 rfl fnOk60 rfl (fun W hW => cCopy_ok W (Rd.mono hre18 (hW.at (i := 0) rfl)) (by first | omega | (simp only [List.length_append, List.length_nil, List.length_cons, List.length_take, List.length_drop] at *; omega) | exact ship_room (by omega) (by omega) ‹d2.2.2.2.2.2.2.2[k]? = some _› | (have := (lCheck_ship (m := d2) (by omega) (by omega)).1; omega))) (fun v22 m22 hv22 => ?_)
                    obtain ⟨s22_0, rfl, f22_0⟩ := hv22
                    obtain ⟨q22_0_A2, q22_0_c2, q22_0_n2, rfl, q22_0_S, q22_0_0, q22_0_1, q22_0_2⟩ := openO_Commit (x0 := x18.1) (x1 := x18.2.1) (x2 := x18.2.2) f22_0
                    simp only [inK] at q22_0_0
                    simp only [inK] at q22_0_1
                    have q22_0_r2 := Rd.room (q22_0_2.rd (mle_refl _))
                    refine VO.inv _ (fun _ h => h.parts (i := 122) rfl q22_0_S [123]) ?_
                    refine VO.bsl (cs := [Value.int .i64 (x18.1), Value.int .i64 (x18.2.1), Value.slice q22_0_A2 (x18.2.2.length) (q22_0_c2)]) 125 rfl rfl tsl61 tz52 rfl rfl (fun g24 => ?_)
                    refine VO.appO (e := TCommit) 116 123 125 rfl rfl rfl tsl61 tz52 rfl rfl rfl rfl h_out (mkO_Commit x18.1 x18.2.1 x18.2.2 (Seps.one (mle_refl _)) (by simp only [inK]; (first | omega | (simp only [List.length_append, List.length_nil, List.length_cons, List.length_take, List.length_drop] at *; omega) | exact ship_room (by omega) (by omega) ‹d2.2.2.2.2.2.2.2[k]? = some _› | (have := (lCheck_ship (m := d2) (by omega) (by omega)).1; omega))) (by simp only [inK]; (first | omega | (simp only [List.length_append, List.length_nil, List.length_cons, List.length_take, List.length_drop] at *; omega) | exact ship_room (by omega) (by omega) ‹d2.2.2.2.2.2.2.2[k]? = some _› | (have := (lCheck_ship (m := d2) (by omega) (by omega)).1; omega))) (OwnL.ow (Ow.ownl q22_0_2 rfl mnil) rfl)) Try.underlying61 (cellsAt_one rfl rfl) (by simp only [maxLen]; (first | omega | (simp only [List.length_append, List.length_nil, List.length_cons, List.length_take, List.length_drop] at *; omega) | exact ship_room (by omega) (by omega) ‹d2.2.2.2.2.2.2.2[k]? = some _› | (have := (lCheck_ship (m := d2) (by omega) (by omega)).1; omega))) (by first | omega | (simp only [List.length_append, List.length_nil, List.length_cons, List.length_take, List.length_drop] at *; omega) | exact ship_room (by omega) (by omega) ‹d2.2.2.2.2.2.2.2[k]? = some _› | (have := (lCheck_ship (m := d2) (by omega) (by omega)).1; omega)) (by decide) (fun v26 m26 ho26 => ?_)
                    obtain ⟨A26, c26, rfl, l26, k26⟩ := ho26.slice
                    simp only [maxLen] at k26
                    refine VO.y rfl (.as rfl) ?_
                    refine VO.esub [(0, _), (1, _), (2, _), (5, _), (6, _), (7, _), (8, _), (9, _), (11, _), (16, _), (19, _), (28, _), (33, _), (38, _), (45, _), (51, _), (52, _), (53, _), (54, _), (61, _)] ⟨rfl, rfl, rfl, rfl, rfl, rfl, rfl, rfl, rfl, rfl, rfl, rfl, rfl, rfl, rfl, rfl, rfl, rfl, rfl, rfl, trivial⟩ (VO.nil ?_)
                    refine outBN ?_
                    refine outN ?_
                    refine VC.reg ?_
                    refine VO.y rfl (.add (c := ((k + 1 : Nat) : Int)) rfl rfl (by omega) ⟨by first | omega | (simp only [List.length_append, List.length_nil, List.length_cons, List.length_take, List.length_drop] at *; omega) | exact ship_room (by omega) (by omega) ‹d2.2.2.2.2.2.2.2[k]? = some _› | (have := (lCheck_ship (m := d2) (by omega) (by omega)).1; omega), by first | omega | (simp only [List.length_append, List.length_nil, List.length_cons, List.length_take, List.length_drop] at *; omega) | exact ship_room (by omega) (by omega) ‹d2.2.2.2.2.2.2.2[k]? = some _› | (have := (lCheck_ship (m := d2) (by omega) (by omega)).1; omega)⟩) ?_
                    refine VO.y rfl (.mv rfl) ?_
                    refine VO.esub [(0, _), (1, _), (2, _), (5, _), (6, _), (7, _), (8, _), (9, _), (11, _), (16, _), (19, _), (28, _), (33, _), (38, _), (45, _), (51, _), (52, _), (53, _), (54, _), (61, _)] ⟨rfl, rfl, rfl, rfl, rfl, rfl, rfl, rfl, rfl, rfl, rfl, rfl, rfl, rfl, rfl, rfl, rfl, rfl, rfl, rfl, trivial⟩ (VO.nil ?_)
                    exact outN ⟨⟨k + 1, out ++ [(x18.1, x18.2.1, x18.2.2)], A26, c26, m26⟩, ⟨by omega, by first | (rw [ho, filter_yes ‹d2.2.2.2.2.2.2.2[k]? = some _› (decide_eq_true (by omega))]) | (rw [ho, filter_no ‹d2.2.2.2.2.2.2.2[k]? = some _› (decide_eq_false (by omega))]), ho26⟩, by first | omega | (simp only [List.length_append, List.length_nil, List.length_cons, List.length_take, List.length_drop] at *; omega) | exact ship_room (by omega) (by omega) ‹d2.2.2.2.2.2.2.2[k]? = some _› | (have := (lCheck_ship (m := d2) (by omega) (by omega)).1; omega), ⟨⟨rfl, rfl, rfl, rfl, rfl, rfl, rfl, rfl, rfl, rfl, rfl, rfl, rfl, rfl, rfl, rfl, rfl, trivial⟩, fun _ h => Inv.sub h [116, 105, 102, 0]⟩⟩
                  · -- FFFFFFFTF
                    refine VC.skip ?_
                    refine outBN ?_
                    refine outN ?_
                    refine VC.reg ?_
                    refine VO.y rfl (.add (c := ((k + 1 : Nat) : Int)) rfl rfl (by omega) ⟨by first | omega | (simp only [List.length_append, List.length_nil, List.length_cons, List.length_take, List.length_drop] at *; omega) | exact ship_room (by omega) (by omega) ‹d2.2.2.2.2.2.2.2[k]? = some _› | (have := (lCheck_ship (m := d2) (by omega) (by omega)).1; omega), by first | omega | (simp only [List.length_append, List.length_nil, List.length_cons, List.length_take, List.length_drop] at *; omega) | exact ship_room (by omega) (by omega) ‹d2.2.2.2.2.2.2.2[k]? = some _› | (have := (lCheck_ship (m := d2) (by omega) (by omega)).1; omega)⟩) ?_
                    refine VO.y rfl (.mv rfl) ?_
                    refine VO.esub [(0, _), (1, _), (2, _), (5, _), (6, _), (7, _), (8, _), (9, _), (11, _), (16, _), (19, _), (28, _), (33, _), (38, _), (45, _), (51, _), (52, _), (53, _), (54, _), (61, _)] ⟨rfl, rfl, rfl, rfl, rfl, rfl, rfl, rfl, rfl, rfl, rfl, rfl, rfl, rfl, rfl, rfl, rfl, rfl, rfl, rfl, trivial⟩ (VO.nil ?_)
                    exact outN ⟨⟨k + 1, out, out_A, out_c, out_m⟩, ⟨by omega, by first | (rw [ho, filter_yes ‹d2.2.2.2.2.2.2.2[k]? = some _› (decide_eq_true (by omega))]) | (rw [ho, filter_no ‹d2.2.2.2.2.2.2.2[k]? = some _› (decide_eq_false (by omega))]), h_out⟩, by first | omega | (simp only [List.length_append, List.length_nil, List.length_cons, List.length_take, List.length_drop] at *; omega) | exact ship_room (by omega) (by omega) ‹d2.2.2.2.2.2.2.2[k]? = some _› | (have := (lCheck_ship (m := d2) (by omega) (by omega)).1; omega), ⟨⟨rfl, rfl, rfl, rfl, rfl, rfl, rfl, rfl, rfl, rfl, rfl, rfl, rfl, rfl, rfl, rfl, rfl, trivial⟩, fun _ h => Inv.sub h [116, 105, 102, 0]⟩⟩
                · -- FFFFFFFF
                  refine VC.exit ?_
                  refine outE ?_
                  refine outE ?_
                  refine outBB ?_
                  refine outN ?_
                  refine VC.rs ?_
                  refine VO.y rfl (.mv rfl) ?_
                  refine VO.y rfl (.as rfl) ?_
                  refine VO.y rfl (.as rfl) ?_
                  refine VO.inv [(116, _), (105, _), (102, _), (0, _)] (fun _ h => h.sub [116, 105, 102, 0]) ?_
                  refine VO.esub [(0, _), (1, _), (2, _), (5, _), (6, _), (7, _), (8, _), (9, _), (16, _), (19, _), (28, _), (33, _), (38, _), (45, _), (51, _), (52, _), (53, _), (54, _)] ⟨rfl, rfl, rfl, rfl, rfl, rfl, rfl, rfl, rfl, rfl, rfl, rfl, rfl, rfl, rfl, rfl, rfl, rfl, trivial⟩ (VO.nil ?_)
                  refine VC.ret ?_
                  refine ⟨_, _, res_run (rs := [.tmp 6, .tmp 7]) rfl (.tmp rfl (.tmp rfl .nil)), fun W_ hI => out_of (l := [out_m]) hI [116] rfl rfl (mle_refl _) (fun hS_ => ?_)⟩
                  dsimp only [packV]
                  have he0 : ((takeOf d0 d1 d2).1 : Ty.Den (.sl TCommit)) = out := by first | rfl | (first | (rw [take_follows ‹_›] <;> rfl) | (rw [take_check ‹¬ ¬ _› (by omega)] <;> rfl) | (rw [take_stale ‹¬ ¬ _› (by omega) (by omega) (by omega)] <;> rfl) | (rw [take_later ‹¬ ¬ _› (by omega) (by omega) (by omega) (by omega)] <;> rfl) | (rw [take_gap ‹¬ ¬ _› (by omega) (by omega) (by omega) (by omega) (by omega)] <;> rfl) | (rw [take_fork ‹¬ ¬ (cFollows 0 0 _).1 = 0› (by omega) (by omega) (by omega) (by omega) (by omega) ‹¬ fitsM _ _›] <;> rfl) | (rw [take_good ‹¬ ¬ (cFollows 0 0 _).1 = 0› (by omega) (by omega) (by omega) (by omega) (by omega) (Decidable.not_not.1 ‹¬ ¬ fitsM _ _›), ho, List.take_of_length_le (by omega)]))
                  refine ⟨Value.slice out_A (out.length) (out_c), ?_, ?_⟩
                  rotate_left
                  · rw [he0]; exact (Ow.up h_out (hS_.1 _ (.head _)))
                  all_goals (first | rfl | (first | (rw [take_follows ‹_›] <;> rfl) | (rw [take_check ‹¬ ¬ _› (by omega)] <;> rfl) | (rw [take_stale ‹¬ ¬ _› (by omega) (by omega) (by omega)] <;> rfl) | (rw [take_later ‹¬ ¬ _› (by omega) (by omega) (by omega) (by omega)] <;> rfl) | (rw [take_gap ‹¬ ¬ _› (by omega) (by omega) (by omega) (by omega) (by omega)] <;> rfl) | (rw [take_fork ‹¬ ¬ (cFollows 0 0 _).1 = 0› (by omega) (by omega) (by omega) (by omega) (by omega) ‹¬ fitsM _ _›] <;> rfl) | (rw [take_good ‹¬ ¬ (cFollows 0 0 _).1 = 0› (by omega) (by omega) (by omega) (by omega) (by omega) (Decidable.not_not.1 ‹¬ ¬ fitsM _ _›)] <;> rfl)))
theorem known_ok (W : World) (d0 : Int) (h0 : inK .i64 d0) (d1 : Int) (h1 : inK .i64 d1) {v2 : List Value} {d2 : DMessage} (h2 : Rd TMessage (wm W) v2 d2) : CallR Try.prog 80 [.int .i64 d0, .int .i64 d1, .agg v2.toArray] W (mnil) (fun v m' => v = .tuple #[.int .i64 ((knownOf d0 d1 d2).1), .bool (decide ((knownOf d0 d1 d2).2.1 = true)), .int .i64 ((knownOf d0 d1 d2).2.2)]) := by
  have h0' := h0; simp only [inK] at h0'
  have h1' := h1; simp only [inK] at h1'
  obtain ⟨p2_A4, p2_c4, p2_A7, p2_c7, rfl, p2_0, p2_1, p2_2, p2_3, p2_4, p2_5, p2_6, p2_7⟩ := open_Message (x0 := d2.1) (x1 := d2.2.1) (x2 := d2.2.2.1) (x3 := d2.2.2.2.1) (x4 := d2.2.2.2.2.1) (x5 := d2.2.2.2.2.2.1) (x6 := d2.2.2.2.2.2.2.1) (x7 := d2.2.2.2.2.2.2.2) h2
  simp only [inK] at p2_0
  simp only [inK] at p2_1
  simp only [inK] at p2_2
  simp only [inK] at p2_3
  have p2_r4 := Rd.room p2_4
  simp only [inK] at p2_5
  simp only [inK] at p2_6
  have p2_r7 := Rd.room p2_7
  refine CallR.ofA (n := 43) Try.func80 rfl rfl rfl ?_
  refine VC.rs ?_
  refine VO.box (cs := [Value.int .i64 (d2.1), Value.int .i64 (d2.2.1), Value.int .u8 (d2.2.2.1), Value.int .i64 (d2.2.2.2.1), Value.slice p2_A4 (d2.2.2.2.2.1.length) (p2_c4), Value.int .i64 (d2.2.2.2.2.2.1), Value.int .i64 (d2.2.2.2.2.2.2.1), Value.slice p2_A7 (d2.2.2.2.2.2.2.2.length) (p2_c7)]) 102 rfl rfl rfl (fun g1 => ?_)
  refine VO.y rfl (.as rfl) ?_
  refine VO.y rfl (.as rfl) ?_
  refine VO.y rfl (.as rfl) ?_
  refine VO.esub [(0, _), (1, _), (2, _), (5, _), (6, _), (7, _), (8, _)] ⟨rfl, rfl, rfl, rfl, rfl, rfl, rfl, trivial⟩ (VO.nil ?_)
  refine VC.seq ?_
  refine VC.block ?_
  refine VC.rs ?_
  refine VO.y rfl (.ldA 102 rfl tk72 rfl (cellsAt_one rfl rfl)) ?_
  refine VO.callN 103 rfl fnOk87 rfl (fun W hW => lCheck_ok W (Rd.mono h2 (hW.at (i := 0) rfl))) (fun v3 m3 hv3 => ?_)
  subst hv3
  have hfa4 := lCheck_range (d2.1, d2.2.1, d2.2.2.1, d2.2.2.2.1, d2.2.2.2.2.1, d2.2.2.2.2.2.1, d2.2.2.2.2.2.2.1, d2.2.2.2.2.2.2.2)
  refine VO.y rfl (.neq rfl rfl) ?_
  refine VO.y rfl (.as rfl) ?_
  refine VO.esub [(0, _), (1, _), (2, _), (5, _), (6, _), (7, _), (8, _), (9, _)] ⟨rfl, rfl, rfl, rfl, rfl, rfl, rfl, rfl, trivial⟩ (VO.nil ?_)
  refine VC.cond rfl (fun hc5 => ?_) (fun hc5 => ?_)
  · -- T
    refine VC.rs ?_
    refine VO.y rfl (.as rfl) ?_
    refine VO.y rfl (.as rfl) ?_
    refine VO.y rfl (.as rfl) ?_
    refine VO.esub [(0, _), (1, _), (2, _), (5, _), (6, _), (7, _), (8, _), (9, _)] ⟨rfl, rfl, rfl, rfl, rfl, rfl, rfl, rfl, trivial⟩ (VO.nil ?_)
    refine VC.ret ?_
    refine outBR ?_
    refine outR ?_
    refine ⟨_, _, res_run (rs := [.tmp 6, .tmp 7, .tmp 8]) rfl (.tmp rfl (.tmp rfl (.tmp rfl .nil))), fun W_ hI => out_of (l := []) hI [] rfl rfl (mle_refl _) (fun hS_ => ?_)⟩
    dsimp only [packV]
    all_goals (first | rfl | (first | (rw [known_check ‹_›] <;> rfl) | (rw [known_stale ‹¬ ¬ _› (by omega)] <;> rfl) | (rw [known_later ‹¬ ¬ _› (by omega) (by omega)] <;> rfl) | (rw [known_yes ‹¬ ¬ _› (by omega) (by omega) (by omega)] <;> rfl) | (rw [known_no ‹¬ ¬ _› (by omega) (by omega) (by omega)] <;> rfl)))
  · -- F
    refine VC.rs ?_
    refine VO.y rfl (.fa rfl tst72 rfl) ?_
    refine VO.y rfl (.ld1 102 rfl tk3 rfl (cellsAt_one rfl rfl)) ?_
    refine VO.y rfl (.mv rfl) ?_
    refine VO.y rfl (.lss rfl rfl) ?_
    refine VO.y rfl (.as rfl) ?_
    refine VO.esub [(0, _), (1, _), (2, _), (5, _), (6, _), (7, _), (8, _), (9, _), (13, _)] ⟨rfl, rfl, rfl, rfl, rfl, rfl, rfl, rfl, rfl, trivial⟩ (VO.nil ?_)
    refine VC.cond rfl (fun hc6 => ?_) (fun hc6 => ?_)
    · -- FT
      refine VC.rs ?_
      refine VO.y rfl (.as rfl) ?_
      refine VO.y rfl (.as rfl) ?_
      refine VO.y rfl (.as rfl) ?_
      refine VO.esub [(0, _), (1, _), (2, _), (5, _), (6, _), (7, _), (8, _), (9, _), (13, _)] ⟨rfl, rfl, rfl, rfl, rfl, rfl, rfl, rfl, rfl, trivial⟩ (VO.nil ?_)
      refine VC.ret ?_
      refine outBR ?_
      refine outR ?_
      refine ⟨_, _, res_run (rs := [.tmp 6, .tmp 7, .tmp 8]) rfl (.tmp rfl (.tmp rfl (.tmp rfl .nil))), fun W_ hI => out_of (l := []) hI [] rfl rfl (mle_refl _) (fun hS_ => ?_)⟩
      dsimp only [packV]
      all_goals (first | rfl | (first | (rw [known_check ‹_›] <;> rfl) | (rw [known_stale ‹¬ ¬ _› (by omega)] <;> rfl) | (rw [known_later ‹¬ ¬ _› (by omega) (by omega)] <;> rfl) | (rw [known_yes ‹¬ ¬ _› (by omega) (by omega) (by omega)] <;> rfl) | (rw [known_no ‹¬ ¬ _› (by omega) (by omega) (by omega)] <;> rfl)))
    · -- FF
      refine VC.rs ?_
      refine VO.y rfl (.fa rfl tst72 rfl) ?_
      refine VO.y rfl (.ld1 102 rfl tk3 rfl (cellsAt_one rfl rfl)) ?_
      refine VO.y rfl (.mv rfl) ?_
      refine VO.y rfl (.gtr rfl rfl) ?_
      refine VO.y rfl (.as rfl) ?_
      refine VO.esub [(0, _), (1, _), (2, _), (5, _), (6, _), (7, _), (8, _), (9, _), (13, _), (18, _)] ⟨rfl, rfl, rfl, rfl, rfl, rfl, rfl, rfl, rfl, rfl, trivial⟩ (VO.nil ?_)
      refine VC.cond rfl (fun hc7 => ?_) (fun hc7 => ?_)
      · -- FFT
        refine VC.rs ?_
        refine VO.y rfl (.as rfl) ?_
        refine VO.y rfl (.as rfl) ?_
        refine VO.y rfl (.as rfl) ?_
        refine VO.esub [(0, _), (1, _), (2, _), (5, _), (6, _), (7, _), (8, _), (9, _), (13, _), (18, _)] ⟨rfl, rfl, rfl, rfl, rfl, rfl, rfl, rfl, rfl, rfl, trivial⟩ (VO.nil ?_)
        refine VC.ret ?_
        refine outBR ?_
        refine outR ?_
        refine ⟨_, _, res_run (rs := [.tmp 6, .tmp 7, .tmp 8]) rfl (.tmp rfl (.tmp rfl (.tmp rfl .nil))), fun W_ hI => out_of (l := []) hI [] rfl rfl (mle_refl _) (fun hS_ => ?_)⟩
        dsimp only [packV]
        all_goals (first | rfl | (first | (rw [known_check ‹_›] <;> rfl) | (rw [known_stale ‹¬ ¬ _› (by omega)] <;> rfl) | (rw [known_later ‹¬ ¬ _› (by omega) (by omega)] <;> rfl) | (rw [known_yes ‹¬ ¬ _› (by omega) (by omega) (by omega)] <;> rfl) | (rw [known_no ‹¬ ¬ _› (by omega) (by omega) (by omega)] <;> rfl)))
      · -- FFF
        refine VC.skip ?_
        refine outBN ?_
        refine outN ?_
        refine VC.rs ?_
        refine VO.y rfl (.mv rfl) ?_
        refine VO.y rfl (.maxM rfl rfl) ?_
        refine VO.y rfl (.as rfl) ?_
        refine VO.esub [(0, _), (1, _), (2, _), (5, _), (6, _), (7, _), (8, _), (9, _), (13, _), (18, _)] ⟨rfl, rfl, rfl, rfl, rfl, rfl, rfl, rfl, rfl, rfl, trivial⟩ (VO.nil ?_)
        refine VC.seq ?_
        refine VC.rs ?_
        refine VO.y rfl (.fa rfl tst72 rfl) ?_
        refine VO.y rfl (.ld1 102 rfl tk3 rfl (cellsAt_one rfl rfl)) ?_
        refine VO.y rfl (.eql rfl rfl) ?_
        refine VO.y rfl (.mv rfl) ?_
        refine VO.dec (t := 28) rfl (fun hc8 => ?_) (fun hc8 => ?_)
        · -- FFFT
          refine VO.gn rfl (.inl ⟨_, rfl, rfl⟩) ?_
          refine VO.gn rfl (.inl ⟨_, rfl, rfl⟩) ?_
          refine VO.gn rfl (.inl ⟨_, rfl, rfl⟩) ?_
          refine VO.gn rfl (.inl ⟨_, rfl, rfl⟩) ?_
          refine VO.gn rfl (.inr ⟨_, rfl, rfl⟩) ?_
          refine VO.gn rfl (.inr ⟨_, rfl, rfl⟩) ?_
          refine VO.gn rfl (.inr ⟨_, rfl, rfl⟩) ?_
          refine VO.gn rfl (.inl ⟨_, rfl, rfl⟩) ?_
          refine VO.y rfl (.pT rfl rfl) ?_
          refine VO.esub [(0, _), (1, _), (2, _), (5, _), (6, _), (7, _), (8, _), (9, _), (13, _), (18, _), (37, _)] ⟨rfl, rfl, rfl, rfl, rfl, rfl, rfl, rfl, rfl, rfl, rfl, trivial⟩ (VO.nil ?_)
          refine VC.condT rfl ?_
          refine VC.rs ?_
          refine VO.y rfl (.mv rfl) ?_
          refine VO.y rfl (.fa rfl tst72 rfl) ?_
          refine VO.y rfl (.ld1 102 rfl tk3 rfl (cellsAt_one rfl rfl)) ?_
          refine VO.y rfl (.maxM rfl rfl) ?_
          refine VO.y rfl (.as rfl) ?_
          refine VO.y rfl (.as rfl) ?_
          refine VO.y rfl (.as rfl) ?_
          refine VO.esub [(0, _), (1, _), (2, _), (5, _), (6, _), (7, _), (8, _), (9, _), (13, _), (18, _), (37, _)] ⟨rfl, rfl, rfl, rfl, rfl, rfl, rfl, rfl, rfl, rfl, rfl, trivial⟩ (VO.nil ?_)
          refine VC.ret ?_
          refine outR ?_
          refine ⟨_, _, res_run (rs := [.tmp 6, .tmp 7, .tmp 8]) rfl (.tmp rfl (.tmp rfl (.tmp rfl .nil))), fun W_ hI => out_of (l := []) hI [] rfl rfl (mle_refl _) (fun hS_ => ?_)⟩
          dsimp only [packV]
          all_goals (first | rfl | (first | (rw [known_check ‹_›] <;> rfl) | (rw [known_stale ‹¬ ¬ _› (by omega)] <;> rfl) | (rw [known_later ‹¬ ¬ _› (by omega) (by omega)] <;> rfl) | (rw [known_yes ‹¬ ¬ _› (by omega) (by omega) (by omega)] <;> rfl) | (rw [known_no ‹¬ ¬ _› (by omega) (by omega) (by omega)] <;> rfl)))
        · -- FFFF
          refine VO.gy rfl ⟨_, rfl, rfl⟩ (.fa rfl tst72 rfl) ?_
          refine VO.gy rfl ⟨_, rfl, rfl⟩ (.ld1 102 rfl tk3 rfl (cellsAt_one rfl rfl)) ?_
          refine VO.gy rfl ⟨_, rfl, rfl⟩ (.eql rfl rfl) ?_
          refine VO.gy rfl ⟨_, rfl, rfl⟩ (.mv rfl) ?_
          refine VO.dec (t := 32) rfl (fun hc9 => ?_) (fun hc9 => ?_)
          · -- FFFFT
            refine VO.gy rfl ⟨_, rfl, rfl⟩ (.fa rfl tst72 rfl) ?_
            refine VO.gy rfl ⟨_, rfl, rfl⟩ (.ld1 102 rfl tk69 rfl (cellsAt_one rfl rfl)) ?_
            refine VO.gy rfl ⟨_, rfl, rfl⟩ (.eql rfl rfl) ?_
            refine VO.gy rfl ⟨_, rfl, rfl⟩ (.pT rfl rfl) ?_
            refine VO.y rfl (.pF rfl rfl) ?_
            refine VO.esub [(0, _), (1, _), (2, _), (5, _), (6, _), (7, _), (8, _), (9, _), (13, _), (18, _), (37, _)] ⟨rfl, rfl, rfl, rfl, rfl, rfl, rfl, rfl, rfl, rfl, rfl, trivial⟩ (VO.nil ?_)
            refine VC.cond rfl (fun hc10 => ?_) (fun hc10 => ?_)
            · -- FFFFTT
              refine VC.rs ?_
              refine VO.y rfl (.mv rfl) ?_
              refine VO.y rfl (.fa rfl tst72 rfl) ?_
              refine VO.y rfl (.ld1 102 rfl tk3 rfl (cellsAt_one rfl rfl)) ?_
              refine VO.y rfl (.maxM rfl rfl) ?_
              refine VO.y rfl (.as rfl) ?_
              refine VO.y rfl (.as rfl) ?_
              refine VO.y rfl (.as rfl) ?_
              refine VO.esub [(0, _), (1, _), (2, _), (5, _), (6, _), (7, _), (8, _), (9, _), (13, _), (18, _), (37, _)] ⟨rfl, rfl, rfl, rfl, rfl, rfl, rfl, rfl, rfl, rfl, rfl, trivial⟩ (VO.nil ?_)
              refine VC.ret ?_
              refine outR ?_
              refine ⟨_, _, res_run (rs := [.tmp 6, .tmp 7, .tmp 8]) rfl (.tmp rfl (.tmp rfl (.tmp rfl .nil))), fun W_ hI => out_of (l := []) hI [] rfl rfl (mle_refl _) (fun hS_ => ?_)⟩
              dsimp only [packV]
              all_goals (first | rfl | (first | (rw [known_check ‹_›] <;> rfl) | (rw [known_stale ‹¬ ¬ _› (by omega)] <;> rfl) | (rw [known_later ‹¬ ¬ _› (by omega) (by omega)] <;> rfl) | (rw [known_yes ‹¬ ¬ _› (by omega) (by omega) (by omega)] <;> rfl) | (rw [known_no ‹¬ ¬ _› (by omega) (by omega) (by omega)] <;> rfl)))
            · -- FFFFTF
              refine VC.skip ?_
              refine outN ?_
              refine VC.rs ?_
              refine VO.y rfl (.mv rfl) ?_
              refine VO.y rfl (.as rfl) ?_
              refine VO.y rfl (.as rfl) ?_
              refine VO.y rfl (.as rfl) ?_
              refine VO.esub [(0, _), (1, _), (2, _), (5, _), (6, _), (7, _), (8, _), (9, _), (13, _), (18, _), (37, _)] ⟨rfl, rfl, rfl, rfl, rfl, rfl, rfl, rfl, rfl, rfl, rfl, trivial⟩ (VO.nil ?_)
              refine VC.ret ?_
              refine ⟨_, _, res_run (rs := [.tmp 6, .tmp 7, .tmp 8]) rfl (.tmp rfl (.tmp rfl (.tmp rfl .nil))), fun W_ hI => out_of (l := []) hI [] rfl rfl (mle_refl _) (fun hS_ => ?_)⟩
              dsimp only [packV]
              all_goals (first | rfl | (first | (rw [known_check ‹_›] <;> rfl) | (rw [known_stale ‹¬ ¬ _› (by omega)] <;> rfl) | (rw [known_later ‹¬ ¬ _› (by omega) (by omega)] <;> rfl) | (rw [known_yes ‹¬ ¬ _› (by omega) (by omega) (by omega)] <;> rfl) | (rw [known_no ‹¬ ¬ _› (by omega) (by omega) (by omega)] <;> rfl)))
          · -- FFFFF
            refine VO.gn rfl (.inl ⟨_, rfl, rfl⟩) ?_
            refine VO.gn rfl (.inl ⟨_, rfl, rfl⟩) ?_
            refine VO.gn rfl (.inl ⟨_, rfl, rfl⟩) ?_
            refine VO.gy rfl ⟨_, rfl, rfl⟩ (.pF rfl rfl) ?_
            refine VO.y rfl (.pF rfl rfl) ?_
            refine VO.esub [(0, _), (1, _), (2, _), (5, _), (6, _), (7, _), (8, _), (9, _), (13, _), (18, _), (37, _)] ⟨rfl, rfl, rfl, rfl, rfl, rfl, rfl, rfl, rfl, rfl, rfl, trivial⟩ (VO.nil ?_)
            refine VC.condF rfl ?_
            refine VC.skip ?_
            refine outN ?_
            refine VC.rs ?_
            refine VO.y rfl (.mv rfl) ?_
            refine VO.y rfl (.as rfl) ?_
            refine VO.y rfl (.as rfl) ?_
            refine VO.y rfl (.as rfl) ?_
            refine VO.esub [(0, _), (1, _), (2, _), (5, _), (6, _), (7, _), (8, _), (9, _), (13, _), (18, _), (37, _)] ⟨rfl, rfl, rfl, rfl, rfl, rfl, rfl, rfl, rfl, rfl, rfl, trivial⟩ (VO.nil ?_)
            refine VC.ret ?_
            refine ⟨_, _, res_run (rs := [.tmp 6, .tmp 7, .tmp 8]) rfl (.tmp rfl (.tmp rfl (.tmp rfl .nil))), fun W_ hI => out_of (l := []) hI [] rfl rfl (mle_refl _) (fun hS_ => ?_)⟩
            dsimp only [packV]
            all_goals (first | rfl | (first | (rw [known_check ‹_›] <;> rfl) | (rw [known_stale ‹¬ ¬ _› (by omega)] <;> rfl) | (rw [known_later ‹¬ ¬ _› (by omega) (by omega)] <;> rfl) | (rw [known_yes ‹¬ ¬ _› (by omega) (by omega) (by omega)] <;> rfl) | (rw [known_no ‹¬ ¬ _› (by omega) (by omega) (by omega)] <;> rfl)))
theorem lives18_ok (W : World) : CallR Try.prog 81 [] W (mnil) (fun v m' => v = .bool true) := by
  refine CallR.ofA (n := 20) Try.func81 rfl rfl rfl ?_
  refine VC.rs ?_
  refine VO.y rfl (.as rfl) ?_
  refine VO.esub [(0, _)] ⟨rfl, trivial⟩ (VO.nil ?_)
  refine VC.rs ?_
  refine VO.bsl (cs := [Value.int .i64 (1), Value.int .i64 (1), Value.int .i64 (3)]) 102 rfl rfl tsl96 tz3 rfl rfl (fun g1 => ?_)
  have ho4 : OwnL (.int .i64) (mone g1 (.cells [Value.int .i64 (1), Value.int .i64 (1), Value.int .i64 (3)].toArray 3 (0, 0))) mnil (Value.slice (some ⟨g1, 0, none⟩) (3) (3)) [1, 1, 3] := OwnL.lit 3 (All2c.cons (c1 := [Value.int .i64 (1)]) (show Rd (.int .i64) _ [_] _ from ⟨rfl, by simp only [inK]; (first | omega | (simp only [List.length_append, List.length_nil, List.length_cons, List.length_take, List.length_drop] at *; omega) | (have : exC.length = 6 := rfl; omega) | decide)⟩) (All2c.cons (c1 := [Value.int .i64 (1)]) (show Rd (.int .i64) _ [_] _ from ⟨rfl, by simp only [inK]; (first | omega | (simp only [List.length_append, List.length_nil, List.length_cons, List.length_take, List.length_drop] at *; omega) | (have : exC.length = 6 := rfl; omega) | decide)⟩) (All2c.cons (c1 := [Value.int .i64 (3)]) (show Rd (.int .i64) _ [_] _ from ⟨rfl, by simp only [inK]; (first | omega | (simp only [List.length_append, List.length_nil, List.length_cons, List.length_take, List.length_drop] at *; omega) | (have : exC.length = 6 := rfl; omega) | decide)⟩) All2c.nil))) rfl rfl
  refine VO.callN 103 rfl fnOk77 rfl (fun W hW => log18_ok W 1 (by simp only [inK]; (first | omega | (simp only [List.length_append, List.length_nil, List.length_cons, List.length_take, List.length_drop] at *; omega) | (have : exC.length = 6 := rfl; omega) | decide)) (OwnL.rd ho4 (hW.at (i := 102) rfl) (mle_nil _)) (by first | omega | (simp only [List.length_append, List.length_nil, List.length_cons, List.length_take, List.length_drop] at *; omega) | (have : exC.length = 6 := rfl; omega) | decide) (by first | decide | omega | (simp; done))) (fun v3 m3 hv3 => ?_)
  obtain ⟨s3_0, rfl, f3_0⟩ := hv3
  obtain ⟨A3_0, c3_0, eq3_0, l3_0, k3_0⟩ := f3_0.slice
  subst eq3_0
  simp only [maxLen] at k3_0
  refine VO.bsl (cs := [Value.int .i64 (3), Value.int .i64 (3)]) 106 rfl rfl tsl96 tz3 rfl rfl (fun g5 => ?_)
  have ho8 : OwnL (.int .i64) (mone g5 (.cells [Value.int .i64 (3), Value.int .i64 (3)].toArray 3 (0, 0))) mnil (Value.slice (some ⟨g5, 0, none⟩) (2) (2)) [3, 3] := OwnL.lit 2 (All2c.cons (c1 := [Value.int .i64 (3)]) (show Rd (.int .i64) _ [_] _ from ⟨rfl, by simp only [inK]; (first | omega | (simp only [List.length_append, List.length_nil, List.length_cons, List.length_take, List.length_drop] at *; omega) | (have : exC.length = 6 := rfl; omega) | decide)⟩) (All2c.cons (c1 := [Value.int .i64 (3)]) (show Rd (.int .i64) _ [_] _ from ⟨rfl, by simp only [inK]; (first | omega | (simp only [List.length_append, List.length_nil, List.length_cons, List.length_take, List.length_drop] at *; omega) | (have : exC.length = 6 := rfl; omega) | decide)⟩) All2c.nil)) rfl rfl
  refine VO.callN 107 rfl fnOk77 rfl (fun W hW => log18_ok W 3 (by simp only [inK]; (first | omega | (simp only [List.length_append, List.length_nil, List.length_cons, List.length_take, List.length_drop] at *; omega) | (have : exC.length = 6 := rfl; omega) | decide)) (OwnL.rd ho8 (hW.at (i := 106) rfl) (mle_nil _)) (by first | omega | (simp only [List.length_append, List.length_nil, List.length_cons, List.length_take, List.length_drop] at *; omega) | (have : exC.length = 6 := rfl; omega) | decide) (by first | decide | omega | (simp; done))) (fun v7 m7 hv7 => ?_)
  obtain ⟨s7_0, rfl, f7_0⟩ := hv7
  obtain ⟨A7_0, c7_0, eq7_0, l7_0, k7_0⟩ := f7_0.slice
  subst eq7_0
  simp only [maxLen] at k7_0
  refine VO.callN 109 rfl fnOk79 rfl (fun W hW => shipped_ok W 3 (by simp only [inK]; (first | omega | (simp only [List.length_append, List.length_nil, List.length_cons, List.length_take, List.length_drop] at *; omega) | (have : exC.length = 6 := rfl; omega) | decide)) 3 (by simp only [inK]; (first | omega | (simp only [List.length_append, List.length_nil, List.length_cons, List.length_take, List.length_drop] at *; omega) | (have : exC.length = 6 := rfl; omega) | decide)) 1 (by simp only [inK]; (first | omega | (simp only [List.length_append, List.length_nil, List.length_cons, List.length_take, List.length_drop] at *; omega) | (have : exC.length = 6 := rfl; omega) | decide)) (Ow.rd f7_0 (hW.at (i := 107) rfl))) (fun v9 m9 hv9 => ?_)
  subst hv9
  refine VO.callN 110 rfl fnOk78 rfl (fun W hW => take_ok W 3 (by simp only [inK]; (first | omega | (simp only [List.length_append, List.length_nil, List.length_cons, List.length_take, List.length_drop] at *; omega) | (have : exC.length = 6 := rfl; omega) | decide)) (Ow.rd f3_0 (hW.at (i := 103) rfl)) (mk_Message (m := wm W) 2 3 0 0 ([]) 3 1 (logC 3 ([3, 3])) (by simp only [inK]; (first | omega | (simp only [List.length_append, List.length_nil, List.length_cons, List.length_take, List.length_drop] at *; omega) | (have : exC.length = 6 := rfl; omega) | decide)) (by simp only [inK]; (first | omega | (simp only [List.length_append, List.length_nil, List.length_cons, List.length_take, List.length_drop] at *; omega) | (have : exC.length = 6 := rfl; omega) | decide)) (by simp only [inK]; (first | omega | (simp only [List.length_append, List.length_nil, List.length_cons, List.length_take, List.length_drop] at *; omega) | (have : exC.length = 6 := rfl; omega) | decide)) (by simp only [inK]; (first | omega | (simp only [List.length_append, List.length_nil, List.length_cons, List.length_take, List.length_drop] at *; omega) | (have : exC.length = 6 := rfl; omega) | decide)) (Rd.nil _ _ none 0 (Nat.zero_le _)) (by simp only [inK]; (first | omega | (simp only [List.length_append, List.length_nil, List.length_cons, List.length_take, List.length_drop] at *; omega) | (have : exC.length = 6 := rfl; omega) | decide)) (by simp only [inK]; (first | omega | (simp only [List.length_append, List.length_nil, List.length_cons, List.length_take, List.length_drop] at *; omega) | (have : exC.length = 6 := rfl; omega) | decide)) (Ow.rd f7_0 (hW.at (i := 107) rfl)))) (fun v10 m10 hv10 => ?_)
  obtain ⟨s10_0, rfl, f10_0⟩ := hv10
  obtain ⟨A10_0, c10_0, eq10_0, l10_0, k10_0⟩ := f10_0.slice
  subst eq10_0
  simp only [maxLen] at k10_0
  refine VO.y rfl (.mv rfl) ?_
  refine VO.y rfl (.ext rfl rfl) ?_
  refine VO.y rfl (.ext rfl rfl) ?_
  refine VO.y rfl (.as rfl) ?_
  refine VO.y rfl (.as rfl) ?_
  refine VO.esub [(0, _), (1, _), (2, _)] ⟨rfl, rfl, rfl, trivial⟩ (VO.nil ?_)
  refine VC.rs ?_
  refine VO.y rfl (.mv rfl) ?_
  refine VO.y rfl (.eql rfl rfl) ?_
  refine VO.y rfl (.mv rfl) ?_
  refine VO.dec (t := 14) rfl (fun hc11 => ?_) (fun hc11 => ?_)
  · -- T
    refine VO.gy rfl ⟨_, rfl, rfl⟩ (.mv rfl) ?_
    refine VO.gbsl (cs := [Value.int .i64 (3)]) 113 rfl ⟨_, rfl, rfl⟩ rfl tsl96 tz3 rfl rfl (fun g12 => ?_)
    have ho15 : OwnL (.int .i64) (mone g12 (.cells [Value.int .i64 (3)].toArray 3 (0, 0))) mnil (Value.slice (some ⟨g12, 0, none⟩) (1) (1)) [3] := OwnL.lit 1 (All2c.cons (c1 := [Value.int .i64 (3)]) (show Rd (.int .i64) _ [_] _ from ⟨rfl, by simp only [inK]; (first | omega | (simp only [List.length_append, List.length_nil, List.length_cons, List.length_take, List.length_drop] at *; omega) | (have : exC.length = 6 := rfl; omega) | decide)⟩) All2c.nil) rfl rfl
    refine VO.gcallN 114 rfl ⟨_, rfl, rfl⟩ fnOk77 rfl (fun W hW => log18_ok W 4 (by simp only [inK]; (first | omega | (simp only [List.length_append, List.length_nil, List.length_cons, List.length_take, List.length_drop] at *; omega) | (have : exC.length = 6 := rfl; omega) | decide)) (OwnL.rd ho15 (hW.at (i := 113) rfl) (mle_nil _)) (by first | omega | (simp only [List.length_append, List.length_nil, List.length_cons, List.length_take, List.length_drop] at *; omega) | (have : exC.length = 6 := rfl; omega) | decide) (by first | decide | omega | (simp; done))) (fun v14 m14 hv14 => ?_)
    obtain ⟨s14_0, rfl, f14_0⟩ := hv14
    obtain ⟨A14_0, c14_0, eq14_0, l14_0, k14_0⟩ := f14_0.slice
    subst eq14_0
    simp only [maxLen] at k14_0
    refine VO.gcallN 116 rfl ⟨_, rfl, rfl⟩ fnOk69 rfl (fun W hW => SameCommits_ok W (Ow.rd f10_0 (hW.at (i := 110) rfl)) (Ow.rd f14_0 (hW.at (i := 114) rfl))) (fun v16 m16 hv16 => ?_)
    subst hv16
    refine VO.y rfl (.pT rfl rfl) ?_
    refine VO.y rfl (.as rfl) ?_
    refine VO.inv [(110, _), (0, _)] (fun _ h => h.sub [110, 0]) ?_
    refine VO.esub [(0, _), (1, _), (2, _)] ⟨rfl, rfl, rfl, trivial⟩ (VO.nil ?_)
    refine VC.ret ?_
    refine ⟨_, _, res_run (rs := [.tmp 0]) rfl (.tmp rfl .nil), fun W_ hI => out_of (l := []) hI [] rfl rfl (mle_refl _) (fun hS_ => ?_)⟩
    dsimp only [packV]
    all_goals (first | rfl | (exact congrArg Value.bool (decide_eq_true (by first | rfl | decide))))
  · -- F
    exact absurd (by first | rfl | decide) hc11
theorem takeNames_ok (W : World) : CallR Try.prog 17 [] W (mnil) (fun v m' => v = .bool true) := by
  refine CallR.ofA (n := 150) Try.func17 rfl rfl rfl ?_
  refine VC.rs ?_
  refine VO.y rfl (.as rfl) ?_
  refine VO.esub [(0, _)] ⟨rfl, trivial⟩ (VO.nil ?_)
  refine VC.rs ?_
  refine VO.y rfl (.as rfl) ?_
  refine VO.esub [(0, _), (1, _)] ⟨rfl, rfl, trivial⟩ (VO.nil ?_)
  refine VC.rs ?_
  refine VO.bsl (cs := [Value.int .i64 (1), Value.int .i64 (1), Value.int .i64 (3)]) 102 rfl rfl tsl96 tz3 rfl rfl (fun g1 => ?_)
  have ho4 : OwnL (.int .i64) (mone g1 (.cells [Value.int .i64 (1), Value.int .i64 (1), Value.int .i64 (3)].toArray 3 (0, 0))) mnil (Value.slice (some ⟨g1, 0, none⟩) (3) (3)) [1, 1, 3] := OwnL.lit 3 (All2c.cons (c1 := [Value.int .i64 (1)]) (show Rd (.int .i64) _ [_] _ from ⟨rfl, by simp only [inK]; (first | omega | (simp only [List.length_append, List.length_nil, List.length_cons, List.length_take, List.length_drop] at *; omega) | (have : exC.length = 6 := rfl; omega) | decide)⟩) (All2c.cons (c1 := [Value.int .i64 (1)]) (show Rd (.int .i64) _ [_] _ from ⟨rfl, by simp only [inK]; (first | omega | (simp only [List.length_append, List.length_nil, List.length_cons, List.length_take, List.length_drop] at *; omega) | (have : exC.length = 6 := rfl; omega) | decide)⟩) (All2c.cons (c1 := [Value.int .i64 (3)]) (show Rd (.int .i64) _ [_] _ from ⟨rfl, by simp only [inK]; (first | omega | (simp only [List.length_append, List.length_nil, List.length_cons, List.length_take, List.length_drop] at *; omega) | (have : exC.length = 6 := rfl; omega) | decide)⟩) All2c.nil))) rfl rfl
  refine VO.callN 103 rfl fnOk77 rfl (fun W hW => log18_ok W 1 (by simp only [inK]; (first | omega | (simp only [List.length_append, List.length_nil, List.length_cons, List.length_take, List.length_drop] at *; omega) | (have : exC.length = 6 := rfl; omega) | decide)) (OwnL.rd ho4 (hW.at (i := 102) rfl) (mle_nil _)) (by first | omega | (simp only [List.length_append, List.length_nil, List.length_cons, List.length_take, List.length_drop] at *; omega) | (have : exC.length = 6 := rfl; omega) | decide) (by first | decide | omega | (simp; done))) (fun v3 m3 hv3 => ?_)
  obtain ⟨s3_0, rfl, f3_0⟩ := hv3
  obtain ⟨A3_0, c3_0, eq3_0, l3_0, k3_0⟩ := f3_0.slice
  subst eq3_0
  simp only [maxLen] at k3_0
  refine VO.y rfl (.as rfl) ?_
  refine VO.esub [(0, _), (1, _), (2, _)] ⟨rfl, rfl, rfl, trivial⟩ (VO.nil ?_)
  refine VC.rs ?_
  refine VO.y rfl (.mv rfl) ?_
  refine VO.callN 105 rfl fnOk79 rfl (fun W hW => shipped_ok W 3 (by simp only [inK]; (first | omega | (simp only [List.length_append, List.length_nil, List.length_cons, List.length_take, List.length_drop] at *; omega) | (have : exC.length = 6 := rfl; omega) | decide)) 4 (by simp only [inK]; (first | omega | (simp only [List.length_append, List.length_nil, List.length_cons, List.length_take, List.length_drop] at *; omega) | (have : exC.length = 6 := rfl; omega) | decide)) 3 (by simp only [inK]; (first | omega | (simp only [List.length_append, List.length_nil, List.length_cons, List.length_take, List.length_drop] at *; omega) | (have : exC.length = 6 := rfl; omega) | decide)) (Rd.nil _ _ none 0 (Nat.zero_le _))) (fun v5 m5 hv5 => ?_)
  subst hv5
  refine VO.callN 106 rfl fnOk78 rfl (fun W hW => take_ok W 3 (by simp only [inK]; (first | omega | (simp only [List.length_append, List.length_nil, List.length_cons, List.length_take, List.length_drop] at *; omega) | (have : exC.length = 6 := rfl; omega) | decide)) (Ow.rd f3_0 (hW.at (i := 103) rfl)) (mk_Message (m := wm W) 2 3 0 0 ([]) 4 3 ([]) (by simp only [inK]; (first | omega | (simp only [List.length_append, List.length_nil, List.length_cons, List.length_take, List.length_drop] at *; omega) | (have : exC.length = 6 := rfl; omega) | decide)) (by simp only [inK]; (first | omega | (simp only [List.length_append, List.length_nil, List.length_cons, List.length_take, List.length_drop] at *; omega) | (have : exC.length = 6 := rfl; omega) | decide)) (by simp only [inK]; (first | omega | (simp only [List.length_append, List.length_nil, List.length_cons, List.length_take, List.length_drop] at *; omega) | (have : exC.length = 6 := rfl; omega) | decide)) (by simp only [inK]; (first | omega | (simp only [List.length_append, List.length_nil, List.length_cons, List.length_take, List.length_drop] at *; omega) | (have : exC.length = 6 := rfl; omega) | decide)) (Rd.nil _ _ none 0 (Nat.zero_le _)) (by simp only [inK]; (first | omega | (simp only [List.length_append, List.length_nil, List.length_cons, List.length_take, List.length_drop] at *; omega) | (have : exC.length = 6 := rfl; omega) | decide)) (by simp only [inK]; (first | omega | (simp only [List.length_append, List.length_nil, List.length_cons, List.length_take, List.length_drop] at *; omega) | (have : exC.length = 6 := rfl; omega) | decide)) (Rd.nil _ _ none 0 (Nat.zero_le _)))) (fun v6 m6 hv6 => ?_)
  obtain ⟨s6_0, rfl, f6_0⟩ := hv6
  obtain ⟨A6_0, c6_0, eq6_0, l6_0, k6_0⟩ := f6_0.slice
  subst eq6_0
  simp only [maxLen] at k6_0
  refine VO.y rfl (.mv rfl) ?_
  refine VO.y rfl (.ext rfl rfl) ?_
  refine VO.y rfl (.ext rfl rfl) ?_
  refine VO.y rfl (.as rfl) ?_
  refine VO.y rfl (.as rfl) ?_
  refine VO.esub [(0, _), (1, _), (2, _), (3, _), (4, _)] ⟨rfl, rfl, rfl, rfl, rfl, trivial⟩ (VO.nil ?_)
  refine VC.rs ?_
  refine VO.y rfl (.mv rfl) ?_
  refine VO.callN 107 rfl fnOk79 rfl (fun W hW => shipped_ok W 3 (by simp only [inK]; (first | omega | (simp only [List.length_append, List.length_nil, List.length_cons, List.length_take, List.length_drop] at *; omega) | (have : exC.length = 6 := rfl; omega) | decide)) 5 (by simp only [inK]; (first | omega | (simp only [List.length_append, List.length_nil, List.length_cons, List.length_take, List.length_drop] at *; omega) | (have : exC.length = 6 := rfl; omega) | decide)) 3 (by simp only [inK]; (first | omega | (simp only [List.length_append, List.length_nil, List.length_cons, List.length_take, List.length_drop] at *; omega) | (have : exC.length = 6 := rfl; omega) | decide)) (Rd.nil _ _ none 0 (Nat.zero_le _))) (fun v7 m7 hv7 => ?_)
  subst hv7
  refine VO.callN 108 rfl fnOk78 rfl (fun W hW => take_ok W 3 (by simp only [inK]; (first | omega | (simp only [List.length_append, List.length_nil, List.length_cons, List.length_take, List.length_drop] at *; omega) | (have : exC.length = 6 := rfl; omega) | decide)) (Ow.rd f3_0 (hW.at (i := 103) rfl)) (mk_Message (m := wm W) 2 3 0 0 ([]) 5 3 ([]) (by simp only [inK]; (first | omega | (simp only [List.length_append, List.length_nil, List.length_cons, List.length_take, List.length_drop] at *; omega) | (have : exC.length = 6 := rfl; omega) | decide)) (by simp only [inK]; (first | omega | (simp only [List.length_append, List.length_nil, List.length_cons, List.length_take, List.length_drop] at *; omega) | (have : exC.length = 6 := rfl; omega) | decide)) (by simp only [inK]; (first | omega | (simp only [List.length_append, List.length_nil, List.length_cons, List.length_take, List.length_drop] at *; omega) | (have : exC.length = 6 := rfl; omega) | decide)) (by simp only [inK]; (first | omega | (simp only [List.length_append, List.length_nil, List.length_cons, List.length_take, List.length_drop] at *; omega) | (have : exC.length = 6 := rfl; omega) | decide)) (Rd.nil _ _ none 0 (Nat.zero_le _)) (by simp only [inK]; (first | omega | (simp only [List.length_append, List.length_nil, List.length_cons, List.length_take, List.length_drop] at *; omega) | (have : exC.length = 6 := rfl; omega) | decide)) (by simp only [inK]; (first | omega | (simp only [List.length_append, List.length_nil, List.length_cons, List.length_take, List.length_drop] at *; omega) | (have : exC.length = 6 := rfl; omega) | decide)) (Rd.nil _ _ none 0 (Nat.zero_le _)))) (fun v8 m8 hv8 => ?_)
  obtain ⟨s8_0, rfl, f8_0⟩ := hv8
  obtain ⟨A8_0, c8_0, eq8_0, l8_0, k8_0⟩ := f8_0.slice
  subst eq8_0
  simp only [maxLen] at k8_0
  refine VO.y rfl (.mv rfl) ?_
  refine VO.y rfl (.ext rfl rfl) ?_
  refine VO.y rfl (.ext rfl rfl) ?_
  refine VO.y rfl (.as rfl) ?_
  refine VO.y rfl (.as rfl) ?_
  refine VO.esub [(0, _), (1, _), (2, _), (3, _), (4, _), (6, _)] ⟨rfl, rfl, rfl, rfl, rfl, rfl, trivial⟩ (VO.nil ?_)
  refine VC.rs ?_
  refine VO.y rfl (.mv rfl) ?_
  refine VO.callN 109 rfl fnOk79 rfl (fun W hW => shipped_ok W 3 (by simp only [inK]; (first | omega | (simp only [List.length_append, List.length_nil, List.length_cons, List.length_take, List.length_drop] at *; omega) | (have : exC.length = 6 := rfl; omega) | decide)) 4 (by simp only [inK]; (first | omega | (simp only [List.length_append, List.length_nil, List.length_cons, List.length_take, List.length_drop] at *; omega) | (have : exC.length = 6 := rfl; omega) | decide)) 2 (by simp only [inK]; (first | omega | (simp only [List.length_append, List.length_nil, List.length_cons, List.length_take, List.length_drop] at *; omega) | (have : exC.length = 6 := rfl; omega) | decide)) (Rd.nil _ _ none 0 (Nat.zero_le _))) (fun v9 m9 hv9 => ?_)
  subst hv9
  refine VO.callN 110 rfl fnOk78 rfl (fun W hW => take_ok W 3 (by simp only [inK]; (first | omega | (simp only [List.length_append, List.length_nil, List.length_cons, List.length_take, List.length_drop] at *; omega) | (have : exC.length = 6 := rfl; omega) | decide)) (Ow.rd f3_0 (hW.at (i := 103) rfl)) (mk_Message (m := wm W) 2 3 0 0 ([]) 4 2 ([]) (by simp only [inK]; (first | omega | (simp only [List.length_append, List.length_nil, List.length_cons, List.length_take, List.length_drop] at *; omega) | (have : exC.length = 6 := rfl; omega) | decide)) (by simp only [inK]; (first | omega | (simp only [List.length_append, List.length_nil, List.length_cons, List.length_take, List.length_drop] at *; omega) | (have : exC.length = 6 := rfl; omega) | decide)) (by simp only [inK]; (first | omega | (simp only [List.length_append, List.length_nil, List.length_cons, List.length_take, List.length_drop] at *; omega) | (have : exC.length = 6 := rfl; omega) | decide)) (by simp only [inK]; (first | omega | (simp only [List.length_append, List.length_nil, List.length_cons, List.length_take, List.length_drop] at *; omega) | (have : exC.length = 6 := rfl; omega) | decide)) (Rd.nil _ _ none 0 (Nat.zero_le _)) (by simp only [inK]; (first | omega | (simp only [List.length_append, List.length_nil, List.length_cons, List.length_take, List.length_drop] at *; omega) | (have : exC.length = 6 := rfl; omega) | decide)) (by simp only [inK]; (first | omega | (simp only [List.length_append, List.length_nil, List.length_cons, List.length_take, List.length_drop] at *; omega) | (have : exC.length = 6 := rfl; omega) | decide)) (Rd.nil _ _ none 0 (Nat.zero_le _)))) (fun v10 m10 hv10 => ?_)
  obtain ⟨s10_0, rfl, f10_0⟩ := hv10
  obtain ⟨A10_0, c10_0, eq10_0, l10_0, k10_0⟩ := f10_0.slice
  subst eq10_0
  simp only [maxLen] at k10_0
  refine VO.y rfl (.mv rfl) ?_
  refine VO.y rfl (.ext rfl rfl) ?_
  refine VO.y rfl (.ext rfl rfl) ?_
  refine VO.y rfl (.as rfl) ?_
  refine VO.y rfl (.as rfl) ?_
  refine VO.inv [(106, _), (103, _), (0, _)] (fun _ h => h.sub [106, 103, 0]) ?_
  refine VO.esub [(0, _), (1, _), (2, _), (3, _), (4, _), (6, _), (8, _)] ⟨rfl, rfl, rfl, rfl, rfl, rfl, rfl, trivial⟩ (VO.nil ?_)
  refine VC.rs ?_
  refine VO.y rfl (.mv rfl) ?_
  refine VO.bsl (cs := [Value.int .i64 (3)]) 112 rfl rfl tsl96 tz3 rfl rfl (fun g11 => ?_)
  have ho14 : OwnL (.int .i64) (mone g11 (.cells [Value.int .i64 (3)].toArray 3 (0, 0))) mnil (Value.slice (some ⟨g11, 0, none⟩) (1) (1)) [3] := OwnL.lit 1 (All2c.cons (c1 := [Value.int .i64 (3)]) (show Rd (.int .i64) _ [_] _ from ⟨rfl, by simp only [inK]; (first | omega | (simp only [List.length_append, List.length_nil, List.length_cons, List.length_take, List.length_drop] at *; omega) | (have : exC.length = 6 := rfl; omega) | decide)⟩) All2c.nil) rfl rfl
  refine VO.callN 113 rfl fnOk77 rfl (fun W hW => log18_ok W 2 (by simp only [inK]; (first | omega | (simp only [List.length_append, List.length_nil, List.length_cons, List.length_take, List.length_drop] at *; omega) | (have : exC.length = 6 := rfl; omega) | decide)) (OwnL.rd ho14 (hW.at (i := 112) rfl) (mle_nil _)) (by first | omega | (simp only [List.length_append, List.length_nil, List.length_cons, List.length_take, List.length_drop] at *; omega) | (have : exC.length = 6 := rfl; omega) | decide) (by first | decide | omega | (simp; done))) (fun v13 m13 hv13 => ?_)
  obtain ⟨s13_0, rfl, f13_0⟩ := hv13
  obtain ⟨A13_0, c13_0, eq13_0, l13_0, k13_0⟩ := f13_0.slice
  subst eq13_0
  simp only [maxLen] at k13_0
  refine VO.callN 115 rfl fnOk79 rfl (fun W hW => shipped_ok W 3 (by simp only [inK]; (first | omega | (simp only [List.length_append, List.length_nil, List.length_cons, List.length_take, List.length_drop] at *; omega) | (have : exC.length = 6 := rfl; omega) | decide)) 2 (by simp only [inK]; (first | omega | (simp only [List.length_append, List.length_nil, List.length_cons, List.length_take, List.length_drop] at *; omega) | (have : exC.length = 6 := rfl; omega) | decide)) 1 (by simp only [inK]; (first | omega | (simp only [List.length_append, List.length_nil, List.length_cons, List.length_take, List.length_drop] at *; omega) | (have : exC.length = 6 := rfl; omega) | decide)) (Ow.rd f13_0 (hW.at (i := 113) rfl))) (fun v15 m15 hv15 => ?_)
  subst hv15
  refine VO.callN 116 rfl fnOk78 rfl (fun W hW => take_ok W 3 (by simp only [inK]; (first | omega | (simp only [List.length_append, List.length_nil, List.length_cons, List.length_take, List.length_drop] at *; omega) | (have : exC.length = 6 := rfl; omega) | decide)) (Ow.rd f3_0 (hW.at (i := 103) rfl)) (mk_Message (m := wm W) 2 3 0 0 ([]) 2 1 (logC 2 ([3])) (by simp only [inK]; (first | omega | (simp only [List.length_append, List.length_nil, List.length_cons, List.length_take, List.length_drop] at *; omega) | (have : exC.length = 6 := rfl; omega) | decide)) (by simp only [inK]; (first | omega | (simp only [List.length_append, List.length_nil, List.length_cons, List.length_take, List.length_drop] at *; omega) | (have : exC.length = 6 := rfl; omega) | decide)) (by simp only [inK]; (first | omega | (simp only [List.length_append, List.length_nil, List.length_cons, List.length_take, List.length_drop] at *; omega) | (have : exC.length = 6 := rfl; omega) | decide)) (by simp only [inK]; (first | omega | (simp only [List.length_append, List.length_nil, List.length_cons, List.length_take, List.length_drop] at *; omega) | (have : exC.length = 6 := rfl; omega) | decide)) (Rd.nil _ _ none 0 (Nat.zero_le _)) (by simp only [inK]; (first | omega | (simp only [List.length_append, List.length_nil, List.length_cons, List.length_take, List.length_drop] at *; omega) | (have : exC.length = 6 := rfl; omega) | decide)) (by simp only [inK]; (first | omega | (simp only [List.length_append, List.length_nil, List.length_cons, List.length_take, List.length_drop] at *; omega) | (have : exC.length = 6 := rfl; omega) | decide)) (Ow.rd f13_0 (hW.at (i := 113) rfl)))) (fun v16 m16 hv16 => ?_)
  obtain ⟨s16_0, rfl, f16_0⟩ := hv16
  obtain ⟨A16_0, c16_0, eq16_0, l16_0, k16_0⟩ := f16_0.slice
  subst eq16_0
  simp only [maxLen] at k16_0
  refine VO.y rfl (.mv rfl) ?_
  refine VO.y rfl (.ext rfl rfl) ?_
  refine VO.y rfl (.ext rfl rfl) ?_
  refine VO.y rfl (.as rfl) ?_
  refine VO.y rfl (.as rfl) ?_
  refine VO.esub [(0, _), (1, _), (2, _), (3, _), (4, _), (6, _), (8, _), (10, _)] ⟨rfl, rfl, rfl, rfl, rfl, rfl, rfl, rfl, trivial⟩ (VO.nil ?_)
  refine VC.rs ?_
  refine VO.y rfl (.mv rfl) ?_
  refine VO.callN 117 rfl fnOk79 rfl (fun W hW => shipped_ok W 3 (by simp only [inK]; (first | omega | (simp only [List.length_append, List.length_nil, List.length_cons, List.length_take, List.length_drop] at *; omega) | (have : exC.length = 6 := rfl; omega) | decide)) 4 (by simp only [inK]; (first | omega | (simp only [List.length_append, List.length_nil, List.length_cons, List.length_take, List.length_drop] at *; omega) | (have : exC.length = 6 := rfl; omega) | decide)) 3 (by simp only [inK]; (first | omega | (simp only [List.length_append, List.length_nil, List.length_cons, List.length_take, List.length_drop] at *; omega) | (have : exC.length = 6 := rfl; omega) | decide)) (Rd.nil _ _ none 0 (Nat.zero_le _))) (fun v17 m17 hv17 => ?_)
  subst hv17
  refine VO.callN 118 rfl fnOk78 rfl (fun W hW => take_ok W 4 (by simp only [inK]; (first | omega | (simp only [List.length_append, List.length_nil, List.length_cons, List.length_take, List.length_drop] at *; omega) | (have : exC.length = 6 := rfl; omega) | decide)) (Ow.rd f3_0 (hW.at (i := 103) rfl)) (mk_Message (m := wm W) 2 3 0 0 ([]) 4 3 ([]) (by simp only [inK]; (first | omega | (simp only [List.length_append, List.length_nil, List.length_cons, List.length_take, List.length_drop] at *; omega) | (have : exC.length = 6 := rfl; omega) | decide)) (by simp only [inK]; (first | omega | (simp only [List.length_append, List.length_nil, List.length_cons, List.length_take, List.length_drop] at *; omega) | (have : exC.length = 6 := rfl; omega) | decide)) (by simp only [inK]; (first | omega | (simp only [List.length_append, List.length_nil, List.length_cons, List.length_take, List.length_drop] at *; omega) | (have : exC.length = 6 := rfl; omega) | decide)) (by simp only [inK]; (first | omega | (simp only [List.length_append, List.length_nil, List.length_cons, List.length_take, List.length_drop] at *; omega) | (have : exC.length = 6 := rfl; omega) | decide)) (Rd.nil _ _ none 0 (Nat.zero_le _)) (by simp only [inK]; (first | omega | (simp only [List.length_append, List.length_nil, List.length_cons, List.length_take, List.length_drop] at *; omega) | (have : exC.length = 6 := rfl; omega) | decide)) (by simp only [inK]; (first | omega | (simp only [List.length_append, List.length_nil, List.length_cons, List.length_take, List.length_drop] at *; omega) | (have : exC.length = 6 := rfl; omega) | decide)) (Rd.nil _ _ none 0 (Nat.zero_le _)))) (fun v18 m18 hv18 => ?_)
  obtain ⟨s18_0, rfl, f18_0⟩ := hv18
  obtain ⟨A18_0, c18_0, eq18_0, l18_0, k18_0⟩ := f18_0.slice
  subst eq18_0
  simp only [maxLen] at k18_0
  refine VO.y rfl (.mv rfl) ?_
  refine VO.y rfl (.ext rfl rfl) ?_
  refine VO.y rfl (.ext rfl rfl) ?_
  refine VO.y rfl (.as rfl) ?_
  refine VO.y rfl (.as rfl) ?_
  refine VO.inv [(106, _), (103, _), (0, _)] (fun _ h => h.sub [106, 103, 0]) ?_
  refine VO.esub [(0, _), (1, _), (2, _), (3, _), (4, _), (6, _), (8, _), (10, _), (12, _)] ⟨rfl, rfl, rfl, rfl, rfl, rfl, rfl, rfl, rfl, trivial⟩ (VO.nil ?_)
  refine VC.rs ?_
  refine VO.y rfl (.mv rfl) ?_
  refine VO.callN 119 rfl fnOk79 rfl (fun W hW => shipped_ok W 3 (by simp only [inK]; (first | omega | (simp only [List.length_append, List.length_nil, List.length_cons, List.length_take, List.length_drop] at *; omega) | (have : exC.length = 6 := rfl; omega) | decide)) 4 (by simp only [inK]; (first | omega | (simp only [List.length_append, List.length_nil, List.length_cons, List.length_take, List.length_drop] at *; omega) | (have : exC.length = 6 := rfl; omega) | decide)) 3 (by simp only [inK]; (first | omega | (simp only [List.length_append, List.length_nil, List.length_cons, List.length_take, List.length_drop] at *; omega) | (have : exC.length = 6 := rfl; omega) | decide)) (Rd.nil _ _ none 0 (Nat.zero_le _))) (fun v19 m19 hv19 => ?_)
  subst hv19
  refine VO.callN 120 rfl fnOk78 rfl (fun W hW => take_ok W 2 (by simp only [inK]; (first | omega | (simp only [List.length_append, List.length_nil, List.length_cons, List.length_take, List.length_drop] at *; omega) | (have : exC.length = 6 := rfl; omega) | decide)) (Ow.rd f3_0 (hW.at (i := 103) rfl)) (mk_Message (m := wm W) 2 3 0 0 ([]) 4 3 ([]) (by simp only [inK]; (first | omega | (simp only [List.length_append, List.length_nil, List.length_cons, List.length_take, List.length_drop] at *; omega) | (have : exC.length = 6 := rfl; omega) | decide)) (by simp only [inK]; (first | omega | (simp only [List.length_append, List.length_nil, List.length_cons, List.length_take, List.length_drop] at *; omega) | (have : exC.length = 6 := rfl; omega) | decide)) (by simp only [inK]; (first | omega | (simp only [List.length_append, List.length_nil, List.length_cons, List.length_take, List.length_drop] at *; omega) | (have : exC.length = 6 := rfl; omega) | decide)) (by simp only [inK]; (first | omega | (simp only [List.length_append, List.length_nil, List.length_cons, List.length_take, List.length_drop] at *; omega) | (have : exC.length = 6 := rfl; omega) | decide)) (Rd.nil _ _ none 0 (Nat.zero_le _)) (by simp only [inK]; (first | omega | (simp only [List.length_append, List.length_nil, List.length_cons, List.length_take, List.length_drop] at *; omega) | (have : exC.length = 6 := rfl; omega) | decide)) (by simp only [inK]; (first | omega | (simp only [List.length_append, List.length_nil, List.length_cons, List.length_take, List.length_drop] at *; omega) | (have : exC.length = 6 := rfl; omega) | decide)) (Rd.nil _ _ none 0 (Nat.zero_le _)))) (fun v20 m20 hv20 => ?_)
  obtain ⟨s20_0, rfl, f20_0⟩ := hv20
  obtain ⟨A20_0, c20_0, eq20_0, l20_0, k20_0⟩ := f20_0.slice
  subst eq20_0
  simp only [maxLen] at k20_0
  refine VO.y rfl (.mv rfl) ?_
  refine VO.y rfl (.ext rfl rfl) ?_
  refine VO.y rfl (.ext rfl rfl) ?_
  refine VO.y rfl (.as rfl) ?_
  refine VO.y rfl (.as rfl) ?_
  refine VO.esub [(0, _), (1, _), (2, _), (3, _), (4, _), (6, _), (8, _), (10, _), (12, _), (14, _)] ⟨rfl, rfl, rfl, rfl, rfl, rfl, rfl, rfl, rfl, rfl, trivial⟩ (VO.nil ?_)
  refine VC.rs ?_
  refine VO.y rfl (.mv rfl) ?_
  refine VO.y rfl (.eql rfl rfl) ?_
  refine VO.y rfl (.mv rfl) ?_
  refine VO.dec (t := 64) rfl (fun hc21 => ?_) (fun hc21 => ?_)
  · -- T
    refine VO.gy rfl ⟨_, rfl, rfl⟩ (.mv rfl) ?_
    refine VO.gy rfl ⟨_, rfl, rfl⟩ (.lenS rfl tsl61) ?_
    refine VO.gy rfl ⟨_, rfl, rfl⟩ (.eql rfl rfl) ?_
    refine VO.y rfl (.pT rfl rfl) ?_
    refine VO.y rfl (.mv rfl) ?_
    refine VO.dec (t := 69) rfl (fun hc22 => ?_) (fun hc22 => ?_)
    · -- TT
      refine VO.gy rfl ⟨_, rfl, rfl⟩ (.mv rfl) ?_
      refine VO.gy rfl ⟨_, rfl, rfl⟩ (.eql rfl rfl) ?_
      refine VO.y rfl (.pT rfl rfl) ?_
      refine VO.y rfl (.mv rfl) ?_
      refine VO.dec (t := 73) rfl (fun hc23 => ?_) (fun hc23 => ?_)
      · -- TTT
        refine VO.gy rfl ⟨_, rfl, rfl⟩ (.mv rfl) ?_
        refine VO.gy rfl ⟨_, rfl, rfl⟩ (.eql rfl rfl) ?_
        refine VO.y rfl (.pT rfl rfl) ?_
        refine VO.y rfl (.mv rfl) ?_
        refine VO.dec (t := 77) rfl (fun hc24 => ?_) (fun hc24 => ?_)
        · -- TTTT
          refine VO.gy rfl ⟨_, rfl, rfl⟩ (.mv rfl) ?_
          refine VO.gy rfl ⟨_, rfl, rfl⟩ (.eql rfl rfl) ?_
          refine VO.y rfl (.pT rfl rfl) ?_
          refine VO.y rfl (.mv rfl) ?_
          refine VO.dec (t := 81) rfl (fun hc25 => ?_) (fun hc25 => ?_)
          · -- TTTTT
            refine VO.gy rfl ⟨_, rfl, rfl⟩ (.mv rfl) ?_
            refine VO.gy rfl ⟨_, rfl, rfl⟩ (.eql rfl rfl) ?_
            refine VO.y rfl (.pT rfl rfl) ?_
            refine VO.y rfl (.mv rfl) ?_
            refine VO.dec (t := 85) rfl (fun hc26 => ?_) (fun hc26 => ?_)
            · -- TTTTTT
              refine VO.gy rfl ⟨_, rfl, rfl⟩ (.mv rfl) ?_
              refine VO.gy rfl ⟨_, rfl, rfl⟩ (.eql rfl rfl) ?_
              refine VO.y rfl (.pT rfl rfl) ?_
              refine VO.y rfl (.as rfl) ?_
              refine VO.esub [(0, _), (1, _), (2, _), (3, _), (4, _), (6, _), (8, _), (10, _), (12, _), (14, _), (15, _)] ⟨rfl, rfl, rfl, rfl, rfl, rfl, rfl, rfl, rfl, rfl, rfl, trivial⟩ (VO.nil ?_)
              refine VC.rs ?_
              refine VO.y rfl (.bst (cs := [Value.int .i64 (3), Value.int .i64 (3), Value.int .u8 (0), Value.int .i64 (2), Value.slice none (0) (0), Value.int .i64 (0), Value.int .i64 (0), Value.slice none (0) (0)]) rfl tst72 tz72 rfl) ?_
              refine VO.callN 127 rfl fnOk80 rfl (fun W hW => known_ok W 3 (by simp only [inK]; (first | omega | (simp only [List.length_append, List.length_nil, List.length_cons, List.length_take, List.length_drop] at *; omega) | (have : exC.length = 6 := rfl; omega) | decide)) (-1) (by simp only [inK]; (first | omega | (simp only [List.length_append, List.length_nil, List.length_cons, List.length_take, List.length_drop] at *; omega) | (have : exC.length = 6 := rfl; omega) | decide)) (mk_Message (m := wm W) 3 3 0 2 ([]) 0 0 ([]) (by simp only [inK]; (first | omega | (simp only [List.length_append, List.length_nil, List.length_cons, List.length_take, List.length_drop] at *; omega) | (have : exC.length = 6 := rfl; omega) | decide)) (by simp only [inK]; (first | omega | (simp only [List.length_append, List.length_nil, List.length_cons, List.length_take, List.length_drop] at *; omega) | (have : exC.length = 6 := rfl; omega) | decide)) (by simp only [inK]; (first | omega | (simp only [List.length_append, List.length_nil, List.length_cons, List.length_take, List.length_drop] at *; omega) | (have : exC.length = 6 := rfl; omega) | decide)) (by simp only [inK]; (first | omega | (simp only [List.length_append, List.length_nil, List.length_cons, List.length_take, List.length_drop] at *; omega) | (have : exC.length = 6 := rfl; omega) | decide)) (Rd.nil _ _ none 0 (Nat.zero_le _)) (by simp only [inK]; (first | omega | (simp only [List.length_append, List.length_nil, List.length_cons, List.length_take, List.length_drop] at *; omega) | (have : exC.length = 6 := rfl; omega) | decide)) (by simp only [inK]; (first | omega | (simp only [List.length_append, List.length_nil, List.length_cons, List.length_take, List.length_drop] at *; omega) | (have : exC.length = 6 := rfl; omega) | decide)) (Rd.nil _ _ none 0 (Nat.zero_le _)))) (fun v27 m27 hv27 => ?_)
              subst hv27
              refine VO.y rfl (.mv rfl) ?_
              refine VO.y rfl (.ext rfl rfl) ?_
              refine VO.y rfl (.ext rfl rfl) ?_
              refine VO.y rfl (.ext rfl rfl) ?_
              refine VO.y rfl (.as rfl) ?_
              refine VO.y rfl (.as rfl) ?_
              refine VO.y rfl (.as rfl) ?_
              refine VO.esub [(0, _), (1, _), (2, _), (3, _), (4, _), (6, _), (8, _), (10, _), (12, _), (14, _), (15, _), (16, _), (17, _)] ⟨rfl, rfl, rfl, rfl, rfl, rfl, rfl, rfl, rfl, rfl, rfl, rfl, rfl, trivial⟩ (VO.nil ?_)
              refine VC.rs ?_
              refine VO.y rfl (.bst (cs := [Value.int .i64 (3), Value.int .i64 (3), Value.int .u8 (0), Value.int .i64 (2), Value.slice none (0) (0), Value.int .i64 (0), Value.int .i64 (0), Value.slice none (0) (0)]) rfl tst72 tz72 rfl) ?_
              refine VO.callN 128 rfl fnOk80 rfl (fun W hW => known_ok W 3 (by simp only [inK]; (first | omega | (simp only [List.length_append, List.length_nil, List.length_cons, List.length_take, List.length_drop] at *; omega) | (have : exC.length = 6 := rfl; omega) | decide)) 5 (by simp only [inK]; (first | omega | (simp only [List.length_append, List.length_nil, List.length_cons, List.length_take, List.length_drop] at *; omega) | (have : exC.length = 6 := rfl; omega) | decide)) (mk_Message (m := wm W) 3 3 0 2 ([]) 0 0 ([]) (by simp only [inK]; (first | omega | (simp only [List.length_append, List.length_nil, List.length_cons, List.length_take, List.length_drop] at *; omega) | (have : exC.length = 6 := rfl; omega) | decide)) (by simp only [inK]; (first | omega | (simp only [List.length_append, List.length_nil, List.length_cons, List.length_take, List.length_drop] at *; omega) | (have : exC.length = 6 := rfl; omega) | decide)) (by simp only [inK]; (first | omega | (simp only [List.length_append, List.length_nil, List.length_cons, List.length_take, List.length_drop] at *; omega) | (have : exC.length = 6 := rfl; omega) | decide)) (by simp only [inK]; (first | omega | (simp only [List.length_append, List.length_nil, List.length_cons, List.length_take, List.length_drop] at *; omega) | (have : exC.length = 6 := rfl; omega) | decide)) (Rd.nil _ _ none 0 (Nat.zero_le _)) (by simp only [inK]; (first | omega | (simp only [List.length_append, List.length_nil, List.length_cons, List.length_take, List.length_drop] at *; omega) | (have : exC.length = 6 := rfl; omega) | decide)) (by simp only [inK]; (first | omega | (simp only [List.length_append, List.length_nil, List.length_cons, List.length_take, List.length_drop] at *; omega) | (have : exC.length = 6 := rfl; omega) | decide)) (Rd.nil _ _ none 0 (Nat.zero_le _)))) (fun v28 m28 hv28 => ?_)
              subst hv28
              refine VO.y rfl (.mv rfl) ?_
              refine VO.y rfl (.ext rfl rfl) ?_
              refine VO.y rfl (.ext rfl rfl) ?_
              refine VO.y rfl (.ext rfl rfl) ?_
              refine VO.y rfl (.as rfl) ?_
              refine VO.y rfl (.as rfl) ?_
              refine VO.y rfl (.as rfl) ?_
              refine VO.esub [(0, _), (1, _), (2, _), (3, _), (4, _), (6, _), (8, _), (10, _), (12, _), (14, _), (15, _), (16, _), (17, _), (18, _), (19, _)] ⟨rfl, rfl, rfl, rfl, rfl, rfl, rfl, rfl, rfl, rfl, rfl, rfl, rfl, rfl, rfl, trivial⟩ (VO.nil ?_)
              refine VC.rs ?_
              refine VO.y rfl (.bst (cs := [Value.int .i64 (1), Value.int .i64 (1)]) rfl tst90 tz90 rfl) ?_
              refine VO.bsl (cs := [Value.int .i64 (1), Value.int .i64 (1)]) 130 rfl rfl tsl70 tz90 rfl rfl (fun g29 => ?_)
              refine VO.y rfl (.bst (cs := [Value.int .i64 (1), Value.int .i64 (3), Value.int .u8 (3), Value.int .i64 (9), Value.slice (some ⟨g29, 0, none⟩) (1) (1), Value.int .i64 (0), Value.int .i64 (0), Value.slice none (0) (0)]) rfl tst72 tz72 rfl) ?_
              have ho32 : OwnL TStart (mone g29 (.cells [Value.int .i64 (1), Value.int .i64 (1)].toArray 90 (0, 0))) mnil (Value.slice (some ⟨g29, 0, none⟩) (1) (1)) [(1, 1)] := OwnL.lit 1 (All2c.cons (c1 := [Value.int .i64 (1), Value.int .i64 (1)]) (mk_Start (m := _) 1 1 (by simp only [inK]; (first | omega | (simp only [List.length_append, List.length_nil, List.length_cons, List.length_take, List.length_drop] at *; omega) | (have : exC.length = 6 := rfl; omega) | decide)) (by simp only [inK]; (first | omega | (simp only [List.length_append, List.length_nil, List.length_cons, List.length_take, List.length_drop] at *; omega) | (have : exC.length = 6 := rfl; omega) | decide))) All2c.nil) rfl rfl
              refine VO.callN 131 rfl fnOk80 rfl (fun W hW => known_ok W 3 (by simp only [inK]; (first | omega | (simp only [List.length_append, List.length_nil, List.length_cons, List.length_take, List.length_drop] at *; omega) | (have : exC.length = 6 := rfl; omega) | decide)) 5 (by simp only [inK]; (first | omega | (simp only [List.length_append, List.length_nil, List.length_cons, List.length_take, List.length_drop] at *; omega) | (have : exC.length = 6 := rfl; omega) | decide)) (mk_Message (m := wm W) 1 3 3 9 ([(1, 1)]) 0 0 ([]) (by simp only [inK]; (first | omega | (simp only [List.length_append, List.length_nil, List.length_cons, List.length_take, List.length_drop] at *; omega) | (have : exC.length = 6 := rfl; omega) | decide)) (by simp only [inK]; (first | omega | (simp only [List.length_append, List.length_nil, List.length_cons, List.length_take, List.length_drop] at *; omega) | (have : exC.length = 6 := rfl; omega) | decide)) (by simp only [inK]; (first | omega | (simp only [List.length_append, List.length_nil, List.length_cons, List.length_take, List.length_drop] at *; omega) | (have : exC.length = 6 := rfl; omega) | decide)) (by simp only [inK]; (first | omega | (simp only [List.length_append, List.length_nil, List.length_cons, List.length_take, List.length_drop] at *; omega) | (have : exC.length = 6 := rfl; omega) | decide)) (OwnL.rd ho32 (hW.at (i := 130) rfl) (mle_nil _)) (by simp only [inK]; (first | omega | (simp only [List.length_append, List.length_nil, List.length_cons, List.length_take, List.length_drop] at *; omega) | (have : exC.length = 6 := rfl; omega) | decide)) (by simp only [inK]; (first | omega | (simp only [List.length_append, List.length_nil, List.length_cons, List.length_take, List.length_drop] at *; omega) | (have : exC.length = 6 := rfl; omega) | decide)) (Rd.nil _ _ none 0 (Nat.zero_le _)))) (fun v31 m31 hv31 => ?_)
              subst hv31
              refine VO.y rfl (.mv rfl) ?_
              refine VO.y rfl (.ext rfl rfl) ?_
              refine VO.y rfl (.ext rfl rfl) ?_
              refine VO.y rfl (.ext rfl rfl) ?_
              refine VO.y rfl (.as rfl) ?_
              refine VO.y rfl (.as rfl) ?_
              refine VO.y rfl (.as rfl) ?_
              refine VO.inv [(106, _), (103, _), (0, _)] (fun _ h => h.sub [106, 103, 0]) ?_
              refine VO.esub [(0, _), (1, _), (2, _), (3, _), (4, _), (6, _), (8, _), (10, _), (12, _), (14, _), (15, _), (16, _), (17, _), (18, _), (19, _), (20, _), (21, _)] ⟨rfl, rfl, rfl, rfl, rfl, rfl, rfl, rfl, rfl, rfl, rfl, rfl, rfl, rfl, rfl, rfl, rfl, trivial⟩ (VO.nil ?_)
              refine VC.rs ?_
              refine VO.y rfl (.mv rfl) ?_
              refine VO.y rfl (.mv rfl) ?_
              refine VO.gcallN 133 rfl ⟨_, rfl, rfl⟩ fnOk81 rfl (fun W hW => lives18_ok W ) (fun v33 m33 hv33 => ?_)
              subst hv33
              refine VO.y rfl (.pT rfl rfl) ?_
              refine VO.y rfl (.mv rfl) ?_
              refine VO.gy rfl ⟨_, rfl, rfl⟩ (.mv rfl) ?_
              refine VO.y rfl (.pT rfl rfl) ?_
              refine VO.y rfl (.mv rfl) ?_
              refine VO.dec (t := 116) rfl (fun hc34 => ?_) (fun hc34 => ?_)
              · -- TTTTTTT
                refine VO.gy rfl ⟨_, rfl, rfl⟩ (.mv rfl) ?_
                refine VO.gy rfl ⟨_, rfl, rfl⟩ (.eql rfl rfl) ?_
                refine VO.y rfl (.pT rfl rfl) ?_
                refine VO.y rfl (.mv rfl) ?_
                refine VO.dec (t := 120) rfl (fun hc35 => ?_) (fun hc35 => ?_)
                · -- TTTTTTTT
                  refine VO.gy rfl ⟨_, rfl, rfl⟩ (.mv rfl) ?_
                  refine VO.y rfl (.pT rfl rfl) ?_
                  refine VO.y rfl (.mv rfl) ?_
                  refine VO.dec (t := 123) rfl (fun hc36 => ?_) (fun hc36 => ?_)
                  · -- TTTTTTTTT
                    refine VO.gy rfl ⟨_, rfl, rfl⟩ (.mv rfl) ?_
                    refine VO.gy rfl ⟨_, rfl, rfl⟩ (.eql rfl rfl) ?_
                    refine VO.y rfl (.pT rfl rfl) ?_
                    refine VO.y rfl (.mv rfl) ?_
                    refine VO.dec (t := 127) rfl (fun hc37 => ?_) (fun hc37 => ?_)
                    · -- TTTTTTTTTT
                      refine VO.gy rfl ⟨_, rfl, rfl⟩ (.mv rfl) ?_
                      refine VO.gy rfl ⟨_, rfl, rfl⟩ (.eql rfl rfl) ?_
                      refine VO.y rfl (.pT rfl rfl) ?_
                      refine VO.y rfl (.mv rfl) ?_
                      refine VO.dec (t := 131) rfl (fun hc38 => ?_) (fun hc38 => ?_)
                      · -- TTTTTTTTTTT
                        refine VO.gy rfl ⟨_, rfl, rfl⟩ (.mv rfl) ?_
                        refine VO.y rfl (.pT rfl rfl) ?_
                        refine VO.y rfl (.mv rfl) ?_
                        refine VO.dec (t := 134) rfl (fun hc39 => ?_) (fun hc39 => ?_)
                        · -- TTTTTTTTTTTT
                          refine VO.gy rfl ⟨_, rfl, rfl⟩ (.mv rfl) ?_
                          refine VO.gy rfl ⟨_, rfl, rfl⟩ (.eql rfl rfl) ?_
                          refine VO.y rfl (.pT rfl rfl) ?_
                          refine VO.y rfl (.mv rfl) ?_
                          refine VO.dec (t := 138) rfl (fun hc40 => ?_) (fun hc40 => ?_)
                          · -- TTTTTTTTTTTTT
                            refine VO.gy rfl ⟨_, rfl, rfl⟩ (.mv rfl) ?_
                            refine VO.gy rfl ⟨_, rfl, rfl⟩ (.eql rfl rfl) ?_
                            refine VO.y rfl (.pT rfl rfl) ?_
                            refine VO.y rfl (.mv rfl) ?_
                            refine VO.dec (t := 142) rfl (fun hc41 => ?_) (fun hc41 => ?_)
                            · -- TTTTTTTTTTTTTT
                              refine VO.gy rfl ⟨_, rfl, rfl⟩ (.mv rfl) ?_
                              refine VO.gy rfl ⟨_, rfl, rfl⟩ (.notD rfl) ?_
                              refine VO.y rfl (.pT rfl rfl) ?_
                              refine VO.y rfl (.mv rfl) ?_
                              refine VO.dec (t := 146) rfl (fun hc42 => ?_) (fun hc42 => ?_)
                              · -- TTTTTTTTTTTTTTT
                                refine VO.gy rfl ⟨_, rfl, rfl⟩ (.mv rfl) ?_
                                refine VO.gy rfl ⟨_, rfl, rfl⟩ (.eql rfl rfl) ?_
                                refine VO.y rfl (.pT rfl rfl) ?_
                                refine VO.y rfl (.as rfl) ?_
                                refine VO.esub [(0, _), (1, _), (2, _), (3, _), (4, _), (6, _), (8, _), (10, _), (12, _), (14, _), (15, _), (16, _), (17, _), (18, _), (19, _), (20, _), (21, _)] ⟨rfl, rfl, rfl, rfl, rfl, rfl, rfl, rfl, rfl, rfl, rfl, rfl, rfl, rfl, rfl, rfl, rfl, trivial⟩ (VO.nil ?_)
                                refine VC.ret ?_
                                refine ⟨_, _, res_run (rs := [.tmp 0]) rfl (.tmp rfl .nil), fun W_ hI => out_of (l := []) hI [] rfl rfl (mle_refl _) (fun hS_ => ?_)⟩
                                dsimp only [packV]
                                all_goals (first | rfl | (exact congrArg Value.bool (decide_eq_true (by first | rfl | decide))))
                              · -- TTTTTTTTTTTTTTF
                                exact absurd (by first | rfl | decide) hc42
                            · -- TTTTTTTTTTTTTF
                              exact absurd (by first | rfl | decide) hc41
                          · -- TTTTTTTTTTTTF
                            exact absurd (by first | rfl | decide) hc40
                        · -- TTTTTTTTTTTF
                          exact absurd (by first | rfl | decide) hc39
                      · -- TTTTTTTTTTF
                        exact absurd (by first | rfl | decide) hc38
                    · -- TTTTTTTTTF
                      exact absurd (by first | rfl | decide) hc37
                  · -- TTTTTTTTF
                    exact absurd (by first | rfl | decide) hc36
                · -- TTTTTTTF
                  exact absurd (by first | rfl | decide) hc35
              · -- TTTTTTF
                exact absurd (by first | rfl | decide) hc34
            · -- TTTTTF
              exact absurd (by first | rfl | decide) hc26
          · -- TTTTF
            exact absurd (by first | rfl | decide) hc25
        · -- TTTF
          exact absurd (by first | rfl | decide) hc24
      · -- TTF
        exact absurd (by first | rfl | decide) hc23
    · -- TF
      exact absurd (by first | rfl | decide) hc22
  · -- F
    exact absurd (by first | rfl | decide) hc21
end Go.Proofs.Ytfaknkkaegjdaaa
