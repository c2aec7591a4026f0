/- Part 3 of the proof of LTakeCalls: what it needs of the library, the walks and the plain laws. Conditions: those named in each theorem. -/
import Derived.Test.YtfaknkkaegjdaaaLTakeCallsM2
namespace Go.Proofs.Ytfaknkkaegjdaaa
section
set_option linter.unusedVariables false
set_option linter.unusedSimpArgs false
set_option maxRecDepth 4000
theorem fnOk119 : fnOk Try.prog 119 = true := by kernel_rfl
theorem fnOk77 : fnOk Try.prog 77 = true := by kernel_rfl
theorem fnOk78 : fnOk Try.prog 78 = true := by kernel_rfl
theorem fnOk79 : fnOk Try.prog 79 = true := by kernel_rfl
theorem fnOk80 : fnOk Try.prog 80 = true := by kernel_rfl
theorem fnOk81 : fnOk Try.prog 81 = true := by kernel_rfl
theorem fnOk87 : fnOk Try.prog 87 = true := by kernel_rfl
theorem tsl96 : tsl Try.prog 96 = some (3, 1, 8) := by kernel_rfl
theorem tz3 : tz Try.prog 3 = some [.int .i64 0] := by kernel_rfl
theorem log18_ok (W : World) (d0 : Int) (h0 : inK .i64 d0) {v1 : Value} {d1 : List Int} (h1 : Rd (.sl (.int .i64)) (wm W) [v1] d1) (e0 : 0 ≤ d0 ∧ d0 ≤ 1000) (e1 : d1.length ≤ 1000) : CallR Try.prog 77 [.int .i64 d0, v1] W (mnil) (fun v m' => ∃ (s0 : Value), v = s0 ∧ Ow (.sl TCommit) m' [s0] (logC d0 d1)) := by
  have h0' := h0; simp only [inK] at h0'
  obtain ⟨A1, c1, rfl, l1, k1⟩ := h1.slice
  simp only [maxLen] at k1
  refine CallR.ofA (n := 27) Try.func77 rfl rfl rfl ?_
  refine VC.rs ?_
  refine VO.as ?_
  refine VO.k3 0 1 4 ?_
  refine VC.rs ?_
  refine VO.as ?_
  refine VO.k4 0 1 4 5 ?_
  refine VC.seq ?_
  refine VC.rs ?_
  refine VO.as ?_
  refine VO.kp [0] [(0, wm W)] ?_
  refine VO.k5 0 1 4 5 6 ?_
  refine VC.block ?_
  refine VC.inv ((101, mnil) :: _) (fun _ h => h.nilc 101) ?_
  refine VC.loop (G := Nat × (List DCommit) × (Option Addr) × Nat × Mem) (fun g => [(5, Value.slice (g.2.2.1) ((g.2.1).length) ((g.2.2.2.1))), (6, Value.int .i64 ((((g.1) : Nat) : Int))), (0, Value.int .i64 (d0)), (1, Value.slice A1 (d1.length) (c1)), (4, Value.slice none (0) (0))]) (fun g => [(101, (g.2.2.2.2)), (0, wm W)]) (fun g => ((g.1) ≤ d1.length) ∧ ((g.2.1) ++ logC (d0 + (g.1)) (d1.drop (g.1)) = logC d0 d1) ∧ (Ow (.sl TCommit) (g.2.2.2.2) [.slice (g.2.2.1) (g.2.1).length (g.2.2.2.1)] (g.2.1))) (fun g => d1.length - (g.1)) (0, [], none, 0, mnil) (⟨by omega, by simp, (Ow.nil TCommit mnil)⟩) ⟨⟨rfl, rfl, rfl, rfl, rfl, trivial⟩, fun _ h => h.sub [101, 0]⟩ ?_
  rintro ⟨k, l, l_A, l_c, l_m⟩ ⟨hk, hl, h_l⟩
  replace hk : k ≤ d1.length := hk
  replace hl : l ++ logC (d0 + k) (d1.drop k) = logC d0 d1 := hl
  replace h_l : Ow (.sl TCommit) l_m [.slice l_A l.length l_c] l := h_l
  show VC _ _ _ _ _ [(5, Value.slice l_A (l.length) (l_c)), (6, Value.int .i64 (((k : Nat) : Int))), (0, Value.int .i64 (d0)), (1, Value.slice A1 (d1.length) (c1)), (4, Value.slice none (0) (0))] [(101, l_m), (0, wm W)]
  have l_l : l.length ≤ l_c := by obtain ⟨_, _, he, hl, _⟩ := h_l.slice; simp only [Value.slice.injEq] at he; omega
  have k_l : l_c ≤ 9223372036854775807 := by obtain ⟨_, _, he, _, hl⟩ := h_l.slice; simp only [Value.slice.injEq, maxLen] at he hl; omega
  have hll : l.length ≤ 1000 := by have := congrArg List.length hl; simp [logC_len] at this; omega
  refine VC.seq ?_
  refine VC.rs ?_
  refine VO.mv ?_
  refine VO.mv ?_
  refine VO.y rfl (.lenS rfl tsl96) ?_
  refine VO.y rfl (.lss rfl rfl) ?_
  refine VO.k6 0 1 4 5 6 10 ?_
  refine VC.cond rfl (fun hc2 => ?_) (fun hc2 => ?_)
  · -- T
    refine VC.skip ?_
    refine outN ?_
    refine VC.seq ?_
    refine VC.block ?_
    refine VC.reg ?_
    refine VO.mv ?_
    refine VO.mv ?_
    refine VO.mv ?_
    obtain ⟨x3, hx3⟩ : ∃ z_, (d1)[k]? = some z_ := ⟨_, List.getElem?_eq_getElem bd⟩
    obtain ⟨gg3, oo3, ec3, ea3, hce3, hre3⟩ := h1.elem hx3
    cases ea3
    obtain ⟨rfl, q3⟩ := hre3; simp only [inK] at q3
    refine VO.y rfl (.ixI k rfl rfl tsl96 rfl bd) ?_
    refine VO.y rfl (.ld1 0 rfl tk3 rfl hce3) ?_
    refine VO.mv ?_
    refine VO.mv ?_
    refine VO.y rfl (.add rfl rfl rfl ⟨bd, bd⟩) ?_
    refine VO.y rfl (.bst (cs := [Value.bool false, str ([107]), str ([])]) rfl tst49 tz49 rfl) ?_
    refine VO.bsl (cs := [Value.bool false, str ([107]), str ([])]) 105 rfl rfl tsl22 tz49 rfl rfl (fun g4 => ?_)
    refine VO.y rfl (.bst (cs := [Value.int .i64 (x3), Value.int .i64 (d0 + ((k : Nat) : Int)), Value.slice (some ⟨g4, 0, none⟩) (1) (1)]) rfl tst52 tz52 rfl) ?_
    refine VO.bsl (cs := [Value.int .i64 (x3), Value.int .i64 (d0 + ((k : Nat) : Int)), Value.slice (some ⟨g4, 0, none⟩) (1) (1)]) 107 rfl rfl tsl61 tz52 rfl rfl (fun g6 => ?_)
    have ho9 : OwnL TOp (mone g4 (.cells [Value.bool false, str ([107]), str ([])].toArray 49 (0, 0))) mnil (Value.slice (some ⟨g4, 0, none⟩) (1) (1)) [(false, [107], [])] := OwnL.lit 1 (All2c.cons (c1 := [Value.bool false, str ([107]), str ([])]) (mk_Op (m := _) false ([107]) [] bdm bdm) All2c.nil) rfl rfl
    refine VO.appO (e := TCommit) 101 105 107 rfl rfl rfl tsl61 tz52 rfl rfl rfl rfl h_l (mkO_Commit x3 (d0 + ((k : Nat) : Int)) ([(false, [107], [])]) (Seps.one (mle_refl _)) bdk bdk (OwnL.ow ho9 rfl)) Try.underlying61 (cellsAt_one rfl rfl) bdm bd (by decide) (fun v8 m8 ho8 => ?_)
    obtain ⟨A8, c8, rfl, l8, k8⟩ := ho8.slice
    simp only [maxLen] at k8
    refine VO.as ?_
    refine VO.k6 0 1 4 5 6 10 ?_
    refine outBN ?_
    refine outN ?_
    refine VC.reg ?_
    refine VO.mv ?_
    refine VO.y rfl (.add (c := ((k + 1 : Nat) : Int)) rfl rfl (by omega) ⟨bd, bd⟩) ?_
    refine VO.as ?_
    refine VO.kp [101, 0] [(101, m8), (0, wm W)] ?_
    refine VO.k6 0 1 4 5 6 10 ?_
    exact outN ⟨⟨k + 1, l ++ [(x3, d0 + ((k : Nat) : Int), [(false, [107], [])])], A8, c8, m8⟩, ⟨by omega, by exact logC_next hl ‹_›, ho8⟩, bd, ⟨⟨rfl, rfl, rfl, rfl, rfl, trivial⟩, fun _ h => Inv.sub h [101, 0]⟩⟩
  · -- F
    refine VC.exit ?_
    refine outE ?_
    refine outE ?_
    refine outBB ?_
    refine outN ?_
    refine VC.rs ?_
    refine VO.mv ?_
    refine VO.as ?_
    refine VO.k6 0 1 4 5 6 10 ?_
    refine VC.ret ?_
    refine ⟨_, _, res_run (rs := [.tmp 4]) rfl (.tmp rfl .nil), fun W_ hI => out_of (l := [l_m]) hI [101] rfl rfl (mle_refl _) (fun hS_ => ?_)⟩
    dsimp only [packV]
    have he0 : (logC d0 d1 : Ty.Den (.sl TCommit)) = l := by first | rfl | (rw [← hl, List.drop_of_length_le (by omega)]; simp [logC])
    refine ⟨Value.slice l_A (l.length) (l_c), ?_, ?_⟩
    rotate_left
    · rw [he0]; exact (Ow.up h_l (hS_.1 _ (.head _)))
    all_goals (first | rfl | (simp [*]; done))
theorem shipped_ok (W : World) (d0 : Int) (h0 : inK .i64 d0) (d1 : Int) (h1 : inK .i64 d1) (d2 : Int) (h2 : inK .i64 d2) {v3 : Value} {d3 : List DCommit} (h3 : Rd (.sl TCommit) (wm W) [v3] d3) : CallR Try.prog 79 [.int .i64 d0, .int .i64 d1, .int .i64 d2, v3] W (mnil) (fun v m' => v = .agg [.int .i64 (2), .int .i64 (d0), .int .u8 (0), .int .i64 (0), .slice none 0 0, .int .i64 (d1), .int .i64 (d2), v3].toArray) := by
  have h0' := h0; simp only [inK] at h0'
  have h1' := h1; simp only [inK] at h1'
  have h2' := h2; simp only [inK] at h2'
  obtain ⟨A3, c3, rfl, l3, k3⟩ := h3.slice
  simp only [maxLen] at k3
  refine CallR.ofA (n := 14) Try.func79 rfl rfl rfl ?_
  refine VC.rs ?_
  refine VO.alloc 102 rfl tz72 (fun g1 => ?_)
  refine VO.k5 0 1 2 3 8 ?_
  refine VC.rs ?_
  refine VO.mv ?_
  refine VO.mv ?_
  refine VO.mv ?_
  refine VO.mv ?_
  refine VO.y rfl (.bst (cs := [Value.int .i64 (2), Value.int .i64 (d0), Value.int .u8 (0), Value.int .i64 (0), Value.slice none (0) (0), Value.int .i64 (d1), Value.int .i64 (d2), Value.slice A3 (d3.length) (c3)]) rfl tst72 tz72 rfl) ?_
  refine VO.store (k := 8) 102 rfl rfl (.inl tk72) rfl rfl rfl rfl rfl ?_
  refine VO.k5 0 1 2 3 8 ?_
  refine VC.ret ?_
  refine ⟨_, _, res_run (rs := [.cell 8 72]) rfl (.agg 102 rfl tk72 rfl ⟨_, _, _, mone_self _ _, Nat.le_of_ble_eq_true rfl, rfl⟩ .nil), fun W_ hI => out_of (l := []) hI [] rfl rfl (mle_refl _) (fun hS_ => ?_)⟩
  dsimp only [packV]
  all_goals (first | rfl | (simp [*]; done))
theorem fin0_fits_ok {P : Prop} (h : P := by first | exact congrArg Value.bool (decide_eq_false (fun e => by have e2 := e.2 _ (List.mem_of_getElem? ‹d1.2.2.2.2.2.2.2[k]? = some _›) (by omega); rw [epochAt_of ‹d0[_]? = some _›] at e2; omega)).symm | exact congrArg Value.bool (decide_eq_false (fun e => by have e2 := e.1 (by omega); rw [epochAt_of ‹d0[_]? = some _›] at e2; omega)).symm | exact congrArg Value.bool (decide_eq_true (⟨fun h => by first | omega | (rw [epochAt_of ‹d0[_]? = some _›]; omega), by have ha2 := ha; rw [List.take_of_length_le (by omega)] at ha2; exact ha2⟩ : fitsM d0 d1)).symm) : P := h
theorem fin1_fits_ok {P : Prop} (h : P := by first | omega | (simp only [List.length_append, List.length_nil, List.length_cons, List.length_take, List.length_drop] at *; omega) | (have := e1 _ (List.mem_of_getElem? ‹d1.2.2.2.2.2.2.2[k]? = some _›); omega)) : P := h
theorem fits_ok (W : World) {v0 : Value} {d0 : List DCommit} (h0 : Rd (.sl TCommit) (wm W) [v0] d0) {v1 : List Value} {d1 : DMessage} (h1 : Rd TMessage (wm W) v1 d1) (e0 : d1.2.2.2.2.2.1 - 1 ≤ (d0.length : Int)) (e1 : ∀ c ∈ d1.2.2.2.2.2.2.2, 1 ≤ c.2.1) : CallR Try.prog 119 [v0, .agg v1.toArray] W (mnil) (fun v m' => v = .bool (decide (fitsM d0 d1))) := by
  obtain ⟨A0, c0, rfl, l0, k0⟩ := h0.slice
  simp only [maxLen] at k0
  obtain ⟨p1_A4, p1_c4, p1_A7, p1_c7, rfl, p1_0, p1_1, p1_2, p1_3, p1_4, p1_5, p1_6, p1_7⟩ := open_Message (x0 := d1.1) (x1 := d1.2.1) (x2 := d1.2.2.1) (x3 := d1.2.2.2.1) (x4 := d1.2.2.2.2.1) (x5 := d1.2.2.2.2.2.1) (x6 := d1.2.2.2.2.2.2.1) (x7 := d1.2.2.2.2.2.2.2) h1
  simp only [inK] at p1_0
  simp only [inK] at p1_1
  simp only [inK] at p1_2
  simp only [inK] at p1_3
  have p1_r4 := Rd.room p1_4
  simp only [inK] at p1_5
  simp only [inK] at p1_6
  have p1_r7 := Rd.room p1_7
  refine CallR.ofA (n := 47) Try.func119 rfl rfl rfl ?_
  refine VC.rs ?_
  refine VO.box (cs := [Value.int .i64 (d1.1), Value.int .i64 (d1.2.1), Value.int .u8 (d1.2.2.1), Value.int .i64 (d1.2.2.2.1), Value.slice p1_A4 (d1.2.2.2.2.1.length) (p1_c4), Value.int .i64 (d1.2.2.2.2.2.1), Value.int .i64 (d1.2.2.2.2.2.2.1), Value.slice p1_A7 (d1.2.2.2.2.2.2.2.length) (p1_c7)]) 102 rfl rfl rfl (fun g1 => ?_)
  refine VO.as ?_
  refine VO.k4 0 1 3 4 ?_
  refine VC.seq ?_
  refine VC.seq ?_
  refine VC.regD _ 13 [(0, true), (1, true), (2, true), (3, true), (4, true), (5, true), (6, true), (7, true), (8, true), (9, true), (10, true), (11, true), (12, true)] follows (by kernel_rfl) (fun _ h => h.sub [102, 0]) ?_
  refine VD.y rfl rfl (.inl rfl) (.fa rfl tst72 rfl) ?_
  refine VD.y rfl rfl (.inl rfl) (.ld1 102 rfl tk3 rfl (cellsAt_one rfl rfl)) ?_
  refine VD.y rfl rfl (.inl rfl) (.gtr rfl rfl) ?_
  refine VD.y rfl rfl (.inl rfl) (.mv rfl) ?_
  refine VD.dec (s := 10) rfl (fun hc3 => ?_) (fun hc3 => ?_)
  · -- T
    refine VD.y rfl rfl (.inr ⟨_, _, rfl, _, rfl, rfl⟩) (.mv rfl) ?_
    refine VD.y rfl rfl (.inr ⟨_, _, rfl, _, rfl, rfl⟩) (.fa rfl tst72 rfl) ?_
    refine VD.y rfl rfl (.inr ⟨_, _, rfl, _, rfl, rfl⟩) (.ld1 102 rfl tk3 rfl (cellsAt_one rfl rfl)) ?_
    refine VD.y rfl rfl (.inr ⟨_, _, rfl, _, rfl, rfl⟩) (.sub rfl rfl rfl ⟨by exact fin1_fits_ok, by exact fin1_fits_ok⟩) ?_
    obtain ⟨x4, hx4⟩ : ∃ z_, (d0)[(d1.2.2.2.2.2.1 - 2).toNat]? = some z_ := ⟨_, List.getElem?_eq_getElem (by exact fin1_fits_ok)⟩
    obtain ⟨gg4, oo4, ec4, ea4, hce4, hre4⟩ := h0.elem hx4
    cases ea4
    obtain ⟨q4_A2, q4_c2, rfl, q4_0, q4_1, q4_2⟩ := open_Commit (x0 := x4.1) (x1 := x4.2.1) (x2 := x4.2.2) hre4
    simp only [inK] at q4_0
    simp only [inK] at q4_1
    have q4_r2 := Rd.room q4_2
    refine VD.y rfl rfl (.inr ⟨_, _, rfl, _, rfl, rfl⟩) (.ixI ((d1.2.2.2.2.2.1 - 2).toNat) rfl rfl tsl61 (by exact fin1_fits_ok) (by exact fin1_fits_ok)) ?_
    refine VD.y rfl rfl (.inr ⟨_, _, rfl, _, rfl, rfl⟩) (.fa rfl tst52 rfl) ?_
    refine VD.y rfl rfl (.inr ⟨_, _, rfl, _, rfl, rfl⟩) (.ld1 0 rfl tk3 rfl (hce4.at1 (j := 0) rfl)) ?_
    refine VD.y rfl rfl (.inr ⟨_, _, rfl, _, rfl, rfl⟩) (.fa rfl tst72 rfl) ?_
    refine VD.y rfl rfl (.inr ⟨_, _, rfl, _, rfl, rfl⟩) (.ld1 102 rfl tk3 rfl (cellsAt_one rfl rfl)) ?_
    refine VD.nil rfl ?_ rfl
    refine VO.gy rfl ⟨_, rfl, rfl⟩ (.neq rfl rfl) ?_
    refine VO.y rfl (.pT rfl rfl) ?_
    refine VO.k5 0 1 3 4 21 ?_
    refine outN ?_
    refine VC.cond rfl (fun hc5 => ?_) (fun hc5 => ?_)
    · -- TT
      refine VC.rs ?_
      refine VO.as ?_
      refine VO.kp [102, 0] [(102, mone g1 (.cells [Value.int .i64 (d1.1), Value.int .i64 (d1.2.1), Value.int .u8 (d1.2.2.1), Value.int .i64 (d1.2.2.2.1), Value.slice p1_A4 (d1.2.2.2.2.1.length) (p1_c4), Value.int .i64 (d1.2.2.2.2.2.1), Value.int .i64 (d1.2.2.2.2.2.2.1), Value.slice p1_A7 (d1.2.2.2.2.2.2.2.length) (p1_c7)].toArray 72 (0, 0))), (0, wm W)] ?_
      refine VO.k5 0 1 3 4 21 ?_
      refine VC.ret ?_
      refine outR ?_
      refine ⟨_, _, res_run (rs := [.tmp 4]) rfl (.tmp rfl .nil), fun W_ hI => out_of (l := []) hI [] rfl rfl (mle_refl _) (fun hS_ => ?_)⟩
      dsimp only [packV]
      all_goals (first | rfl | (exact fin0_fits_ok))
    · -- TF
      refine VC.skip ?_
      refine outN ?_
      refine VC.seq ?_
      refine VC.rs ?_
      refine VO.y rfl (.fa rfl tst72 rfl) ?_
      refine VO.y rfl (.ld1 102 rfl tk61 rfl (cellsAt_one rfl rfl)) ?_
      refine VO.y rfl (.lenS rfl tsl61) ?_
      refine VO.mv ?_
      refine VO.kp [102, 0] [(102, mone g1 (.cells [Value.int .i64 (d1.1), Value.int .i64 (d1.2.1), Value.int .u8 (d1.2.2.1), Value.int .i64 (d1.2.2.2.1), Value.slice p1_A4 (d1.2.2.2.2.1.length) (p1_c4), Value.int .i64 (d1.2.2.2.2.2.1), Value.int .i64 (d1.2.2.2.2.2.2.1), Value.slice p1_A7 (d1.2.2.2.2.2.2.2.length) (p1_c7)].toArray 72 (0, 0))), (0, wm W)] ?_
      refine VO.k8 0 1 3 4 21 23 24 25 ?_
      refine VC.block ?_
      refine VC.loop (G := Nat) (fun k => [(25, Value.int .i64 (((k : Nat) : Int))), (0, Value.slice (some ⟨gg4, oo4, none⟩) (d0.length) (c0)), (1, Value.agg [Value.int .i64 (d1.1), Value.int .i64 (d1.2.1), Value.int .u8 (d1.2.2.1), Value.int .i64 (d1.2.2.2.1), Value.slice p1_A4 (d1.2.2.2.2.1.length) (p1_c4), Value.int .i64 (d1.2.2.2.2.2.1), Value.int .i64 (d1.2.2.2.2.2.2.1), Value.slice p1_A7 (d1.2.2.2.2.2.2.2.length) (p1_c7)].toArray), (3, Value.pointer (some ⟨g1, 0, none⟩)), (21, Value.bool (decide (¬ x4.1 = d1.2.2.2.2.2.2.1))), (23, Value.slice p1_A7 (d1.2.2.2.2.2.2.2.length) (p1_c7)), (24, Value.int .i64 (((d1.2.2.2.2.2.2.2.length : Nat) : Int)))]) (fun k => [(102, mone g1 (.cells [Value.int .i64 (d1.1), Value.int .i64 (d1.2.1), Value.int .u8 (d1.2.2.1), Value.int .i64 (d1.2.2.2.1), Value.slice p1_A4 (d1.2.2.2.2.1.length) (p1_c4), Value.int .i64 (d1.2.2.2.2.2.1), Value.int .i64 (d1.2.2.2.2.2.2.1), Value.slice p1_A7 (d1.2.2.2.2.2.2.2.length) (p1_c7)].toArray 72 (0, 0))), (0, wm W)]) (fun k => (k ≤ d1.2.2.2.2.2.2.2.length) ∧ (∀ c ∈ d1.2.2.2.2.2.2.2.take k, c.2.1 ≤ d0.length → epochAt d0 (c.2.1 - 1) = c.1)) (fun k => d1.2.2.2.2.2.2.2.length - k) 0 (⟨by omega, by simp⟩) ⟨⟨rfl, rfl, rfl, rfl, rfl, rfl, rfl, trivial⟩, fun _ h => h.sub [102, 0]⟩ ?_
      rintro k ⟨hk, ha⟩
      refine VC.rs ?_
      refine VO.y rfl (.lss rfl rfl) ?_
      refine VO.k8 0 1 3 21 23 24 25 26 ?_
      refine VC.seq ?_
      refine VC.cond rfl (fun hc6 => ?_) (fun hc6 => ?_)
      · -- TFT
        refine VC.skip ?_
        refine outN ?_
        refine VC.seq ?_
        refine VC.block ?_
        refine VC.rs ?_
        obtain ⟨x7, hx7⟩ : ∃ z_, (d1.2.2.2.2.2.2.2)[k]? = some z_ := ⟨_, List.getElem?_eq_getElem (by exact fin1_fits_ok)⟩
        obtain ⟨gg7, oo7, ec7, ea7, hce7, hre7⟩ := p1_7.elem hx7
        cases ea7
        obtain ⟨q7_A2, q7_c2, rfl, q7_0, q7_1, q7_2⟩ := open_Commit (x0 := x7.1) (x1 := x7.2.1) (x2 := x7.2.2) hre7
        simp only [inK] at q7_0
        simp only [inK] at q7_1
        have q7_r2 := Rd.room q7_2
        refine VO.y rfl (.ixI k rfl rfl tsl61 rfl (by exact fin1_fits_ok)) ?_
        refine VO.y rfl (.ldA 0 rfl tk52 rfl hce7) ?_
        refine VO.alloc 109 rfl tz52 (fun g8 => ?_)
        refine VO.store (k := 3) (c' := [Value.int .i64 (x7.1), Value.int .i64 (x7.2.1), Value.slice q7_A2 (x7.2.2.length) (q7_c2)]) 109 rfl rfl (.inl tk52) rfl rfl rfl rfl rfl ?_
        refine VO.k9 0 1 3 6 21 23 24 25 26 ?_
        refine VC.seq ?_
        refine VC.regD _ 15 [(0, true), (1, true), (2, true), (3, true), (4, true), (5, true), (6, true), (7, true), (8, true), (9, true), (10, true), (11, true), (12, true), (13, true), (14, true)] follows (by kernel_rfl) (fun _ h => h.sub [109, 102, 0]) ?_
        refine VD.y rfl rfl (.inl rfl) (.fa rfl tst52 rfl) ?_
        refine VD.y rfl rfl (.inl rfl) (.ld1 109 rfl tk3 rfl (cellsAt_one rfl rfl)) ?_
        refine VD.y rfl rfl (.inl rfl) (.mv rfl) ?_
        refine VD.y rfl rfl (.inl rfl) (.lenS rfl tsl61) ?_
        refine VD.y rfl rfl (.inl rfl) (.leq rfl rfl) ?_
        refine VD.y rfl rfl (.inl rfl) (.mv rfl) ?_
        refine VD.dec (s := 34) rfl (fun hc10 => ?_) (fun hc10 => ?_)
        · -- TFTT
          refine VD.y rfl rfl (.inr ⟨_, _, rfl, _, rfl, rfl⟩) (.mv rfl) ?_
          refine VD.y rfl rfl (.inr ⟨_, _, rfl, _, rfl, rfl⟩) (.fa rfl tst52 rfl) ?_
          refine VD.y rfl rfl (.inr ⟨_, _, rfl, _, rfl, rfl⟩) (.ld1 109 rfl tk3 rfl (cellsAt_one rfl rfl)) ?_
          refine VD.y rfl rfl (.inr ⟨_, _, rfl, _, rfl, rfl⟩) (.sub rfl rfl rfl ⟨by exact fin1_fits_ok, by exact fin1_fits_ok⟩) ?_
          obtain ⟨x11, hx11⟩ : ∃ z_, (d0)[(x7.2.1 - 1).toNat]? = some z_ := ⟨_, List.getElem?_eq_getElem (by exact fin1_fits_ok)⟩
          obtain ⟨gg11, oo11, ec11, ea11, hce11, hre11⟩ := h0.elem hx11
          cases ea11
          obtain ⟨q11_A2, q11_c2, rfl, q11_0, q11_1, q11_2⟩ := open_Commit (x0 := x11.1) (x1 := x11.2.1) (x2 := x11.2.2) hre11
          simp only [inK] at q11_0
          simp only [inK] at q11_1
          have q11_r2 := Rd.room q11_2
          refine VD.y rfl rfl (.inr ⟨_, _, rfl, _, rfl, rfl⟩) (.ixI ((x7.2.1 - 1).toNat) rfl rfl tsl61 (by exact fin1_fits_ok) (by exact fin1_fits_ok)) ?_
          refine VD.y rfl rfl (.inr ⟨_, _, rfl, _, rfl, rfl⟩) (.fa rfl tst52 rfl) ?_
          refine VD.y rfl rfl (.inr ⟨_, _, rfl, _, rfl, rfl⟩) (.ld1 0 rfl tk3 rfl (hce11.at1 (j := 0) rfl)) ?_
          refine VD.y rfl rfl (.inr ⟨_, _, rfl, _, rfl, rfl⟩) (.fa rfl tst52 rfl) ?_
          refine VD.y rfl rfl (.inr ⟨_, _, rfl, _, rfl, rfl⟩) (.ld1 109 rfl tk3 rfl (cellsAt_one rfl rfl)) ?_
          refine VD.nil rfl ?_ rfl
          refine VO.gy rfl ⟨_, rfl, rfl⟩ (.neq rfl rfl) ?_
          refine VO.y rfl (.pT rfl rfl) ?_
          refine VO.kp [109, 102, 0] [(109, mone g8 (.cells [Value.int .i64 (x7.1), Value.int .i64 (x7.2.1), Value.slice q7_A2 (x7.2.2.length) (q7_c2)].toArray 52 (0, 0))), (102, mone g1 (.cells [Value.int .i64 (d1.1), Value.int .i64 (d1.2.1), Value.int .u8 (d1.2.2.1), Value.int .i64 (d1.2.2.2.1), Value.slice p1_A4 (d1.2.2.2.2.1.length) (p1_c4), Value.int .i64 (d1.2.2.2.2.2.1), Value.int .i64 (d1.2.2.2.2.2.2.1), Value.slice (some ⟨gg7, oo7, none⟩) (d1.2.2.2.2.2.2.2.length) (p1_c7)].toArray 72 (0, 0))), (0, wm W)] ?_
          refine VO.k10 0 1 3 6 21 23 24 25 26 45 ?_
          refine outN ?_
          refine VC.cond rfl (fun hc12 => ?_) (fun hc12 => ?_)
          · -- TFTTT
            refine VC.rs ?_
            refine VO.as ?_
            refine VO.k11 0 1 3 4 6 21 23 24 25 26 45 ?_
            refine VC.ret ?_
            refine outBR ?_
            refine outR ?_
            refine outR ?_
            refine outBR ?_
            refine outR ?_
            refine ⟨_, _, res_run (rs := [.tmp 4]) rfl (.tmp rfl .nil), fun W_ hI => out_of (l := []) hI [] rfl rfl (mle_refl _) (fun hS_ => ?_)⟩
            dsimp only [packV]
            all_goals (first | rfl | (exact fin0_fits_ok))
          · -- TFTTF
            refine VC.skip ?_
            refine outBN ?_
            refine outN ?_
            refine VC.reg ?_
            refine VO.y rfl (.add (c := ((k + 1 : Nat) : Int)) rfl rfl (by omega) ⟨by exact fin1_fits_ok, by exact fin1_fits_ok⟩) ?_
            refine VO.mv ?_
            refine VO.k10 0 1 3 6 21 23 24 25 26 45 ?_
            exact outN ⟨k + 1, ⟨by omega, by exact all_next ha ‹d1.2.2.2.2.2.2.2[k]? = some _› (fun h => by first | omega | (rw [epochAt_of ‹d0[_]? = some _›]; omega))⟩, by exact fin1_fits_ok, ⟨⟨rfl, rfl, rfl, rfl, rfl, rfl, rfl, trivial⟩, fun _ h => Inv.sub h [102, 0]⟩⟩
        · -- TFTF
          refine VD.gn rfl rfl (.inl ⟨_, rfl, rfl⟩) ?_
          refine VD.gn rfl rfl (.inl ⟨_, rfl, rfl⟩) ?_
          refine VD.gn rfl rfl (.inl ⟨_, rfl, rfl⟩) ?_
          refine VD.gn rfl rfl (.inl ⟨_, rfl, rfl⟩) ?_
          refine VD.gn rfl rfl (.inl ⟨_, rfl, rfl⟩) ?_
          refine VD.gn rfl rfl (.inl ⟨_, rfl, rfl⟩) ?_
          refine VD.gn rfl rfl (.inl ⟨_, rfl, rfl⟩) ?_
          refine VD.gn rfl rfl (.inl ⟨_, rfl, rfl⟩) ?_
          refine VD.gn rfl rfl (.inl ⟨_, rfl, rfl⟩) ?_
          refine VD.nil rfl ?_ rfl
          refine VO.gN ?_
          refine VO.y rfl (.pF rfl rfl) ?_
          refine VO.kp [109, 102, 0] [(109, mone g8 (.cells [Value.int .i64 (x7.1), Value.int .i64 (x7.2.1), Value.slice q7_A2 (x7.2.2.length) (q7_c2)].toArray 52 (0, 0))), (102, mone g1 (.cells [Value.int .i64 (d1.1), Value.int .i64 (d1.2.1), Value.int .u8 (d1.2.2.1), Value.int .i64 (d1.2.2.2.1), Value.slice p1_A4 (d1.2.2.2.2.1.length) (p1_c4), Value.int .i64 (d1.2.2.2.2.2.1), Value.int .i64 (d1.2.2.2.2.2.2.1), Value.slice (some ⟨gg7, oo7, none⟩) (d1.2.2.2.2.2.2.2.length) (p1_c7)].toArray 72 (0, 0))), (0, wm W)] ?_
          refine VO.k10 0 1 3 6 21 23 24 25 26 45 ?_
          refine outN ?_
          refine VC.condF rfl ?_
          refine VC.skip ?_
          refine outBN ?_
          refine outN ?_
          refine VC.reg ?_
          refine VO.y rfl (.add (c := ((k + 1 : Nat) : Int)) rfl rfl (by omega) ⟨by exact fin1_fits_ok, by exact fin1_fits_ok⟩) ?_
          refine VO.mv ?_
          refine VO.k10 0 1 3 6 21 23 24 25 26 45 ?_
          exact outN ⟨k + 1, ⟨by omega, by exact all_next ha ‹d1.2.2.2.2.2.2.2[k]? = some _› (fun h => by first | omega | (rw [epochAt_of ‹d0[_]? = some _›]; omega))⟩, by exact fin1_fits_ok, ⟨⟨rfl, rfl, rfl, rfl, rfl, rfl, rfl, trivial⟩, fun _ h => Inv.sub h [102, 0]⟩⟩
      · -- TFF
        refine VC.exit ?_
        refine outE ?_
        refine outE ?_
        refine outBB ?_
        refine outN ?_
        refine VC.rs ?_
        refine VO.as ?_
        refine VO.k9 0 1 3 4 21 23 24 25 26 ?_
        refine VC.ret ?_
        refine ⟨_, _, res_run (rs := [.tmp 4]) rfl (.tmp rfl .nil), fun W_ hI => out_of (l := []) hI [] rfl rfl (mle_refl _) (fun hS_ => ?_)⟩
        dsimp only [packV]
        all_goals (first | rfl | (exact fin0_fits_ok))
  · -- F
    refine VD.gn rfl rfl (.inl ⟨_, rfl, rfl⟩) ?_
    refine VD.gn rfl rfl (.inl ⟨_, rfl, rfl⟩) ?_
    refine VD.gn rfl rfl (.inl ⟨_, rfl, rfl⟩) ?_
    refine VD.gn rfl rfl (.inl ⟨_, rfl, rfl⟩) ?_
    refine VD.gn rfl rfl (.inl ⟨_, rfl, rfl⟩) ?_
    refine VD.gn rfl rfl (.inl ⟨_, rfl, rfl⟩) ?_
    refine VD.gn rfl rfl (.inl ⟨_, rfl, rfl⟩) ?_
    refine VD.gn rfl rfl (.inl ⟨_, rfl, rfl⟩) ?_
    refine VD.gn rfl rfl (.inl ⟨_, rfl, rfl⟩) ?_
    refine VD.nil rfl ?_ rfl
    refine VO.gN ?_
    refine VO.y rfl (.pF rfl rfl) ?_
    refine VO.k5 0 1 3 4 21 ?_
    refine outN ?_
    refine VC.condF rfl ?_
    refine VC.skip ?_
    refine outN ?_
    refine VC.seq ?_
    refine VC.rs ?_
    refine VO.y rfl (.fa rfl tst72 rfl) ?_
    refine VO.y rfl (.ld1 102 rfl tk61 rfl (cellsAt_one rfl rfl)) ?_
    refine VO.y rfl (.lenS rfl tsl61) ?_
    refine VO.mv ?_
    refine VO.kp [102, 0] [(102, mone g1 (.cells [Value.int .i64 (d1.1), Value.int .i64 (d1.2.1), Value.int .u8 (d1.2.2.1), Value.int .i64 (d1.2.2.2.1), Value.slice p1_A4 (d1.2.2.2.2.1.length) (p1_c4), Value.int .i64 (d1.2.2.2.2.2.1), Value.int .i64 (d1.2.2.2.2.2.2.1), Value.slice p1_A7 (d1.2.2.2.2.2.2.2.length) (p1_c7)].toArray 72 (0, 0))), (0, wm W)] ?_
    refine VO.k8 0 1 3 4 21 23 24 25 ?_
    refine VC.block ?_
    refine VC.loop (G := Nat) (fun k => [(25, Value.int .i64 (((k : Nat) : Int))), (0, Value.slice A0 (d0.length) (c0)), (1, Value.agg [Value.int .i64 (d1.1), Value.int .i64 (d1.2.1), Value.int .u8 (d1.2.2.1), Value.int .i64 (d1.2.2.2.1), Value.slice p1_A4 (d1.2.2.2.2.1.length) (p1_c4), Value.int .i64 (d1.2.2.2.2.2.1), Value.int .i64 (d1.2.2.2.2.2.2.1), Value.slice p1_A7 (d1.2.2.2.2.2.2.2.length) (p1_c7)].toArray), (3, Value.pointer (some ⟨g1, 0, none⟩)), (21, Value.bool false), (23, Value.slice p1_A7 (d1.2.2.2.2.2.2.2.length) (p1_c7)), (24, Value.int .i64 (((d1.2.2.2.2.2.2.2.length : Nat) : Int)))]) (fun k => [(102, mone g1 (.cells [Value.int .i64 (d1.1), Value.int .i64 (d1.2.1), Value.int .u8 (d1.2.2.1), Value.int .i64 (d1.2.2.2.1), Value.slice p1_A4 (d1.2.2.2.2.1.length) (p1_c4), Value.int .i64 (d1.2.2.2.2.2.1), Value.int .i64 (d1.2.2.2.2.2.2.1), Value.slice p1_A7 (d1.2.2.2.2.2.2.2.length) (p1_c7)].toArray 72 (0, 0))), (0, wm W)]) (fun k => (k ≤ d1.2.2.2.2.2.2.2.length) ∧ (∀ c ∈ d1.2.2.2.2.2.2.2.take k, c.2.1 ≤ d0.length → epochAt d0 (c.2.1 - 1) = c.1)) (fun k => d1.2.2.2.2.2.2.2.length - k) 0 (⟨by omega, by simp⟩) ⟨⟨rfl, rfl, rfl, rfl, rfl, rfl, rfl, trivial⟩, fun _ h => h.sub [102, 0]⟩ ?_
    rintro k ⟨hk, ha⟩
    refine VC.rs ?_
    refine VO.y rfl (.lss rfl rfl) ?_
    refine VO.k8 0 1 3 21 23 24 25 26 ?_
    refine VC.seq ?_
    refine VC.cond rfl (fun hc13 => ?_) (fun hc13 => ?_)
    · -- FT
      refine VC.skip ?_
      refine outN ?_
      refine VC.seq ?_
      refine VC.block ?_
      refine VC.rs ?_
      obtain ⟨x14, hx14⟩ : ∃ z_, (d1.2.2.2.2.2.2.2)[k]? = some z_ := ⟨_, List.getElem?_eq_getElem (by exact fin1_fits_ok)⟩
      obtain ⟨gg14, oo14, ec14, ea14, hce14, hre14⟩ := p1_7.elem hx14
      cases ea14
      obtain ⟨q14_A2, q14_c2, rfl, q14_0, q14_1, q14_2⟩ := open_Commit (x0 := x14.1) (x1 := x14.2.1) (x2 := x14.2.2) hre14
      simp only [inK] at q14_0
      simp only [inK] at q14_1
      have q14_r2 := Rd.room q14_2
      refine VO.y rfl (.ixI k rfl rfl tsl61 rfl (by exact fin1_fits_ok)) ?_
      refine VO.y rfl (.ldA 0 rfl tk52 rfl hce14) ?_
      refine VO.alloc 116 rfl tz52 (fun g15 => ?_)
      refine VO.store (k := 3) (c' := [Value.int .i64 (x14.1), Value.int .i64 (x14.2.1), Value.slice q14_A2 (x14.2.2.length) (q14_c2)]) 116 rfl rfl (.inl tk52) rfl rfl rfl rfl rfl ?_
      refine VO.k9 0 1 3 6 21 23 24 25 26 ?_
      refine VC.seq ?_
      refine VC.regD _ 15 [(0, true), (1, true), (2, true), (3, true), (4, true), (5, true), (6, true), (7, true), (8, true), (9, true), (10, true), (11, true), (12, true), (13, true), (14, true)] follows (by kernel_rfl) (fun _ h => h.sub [116, 102, 0]) ?_
      refine VD.y rfl rfl (.inl rfl) (.fa rfl tst52 rfl) ?_
      refine VD.y rfl rfl (.inl rfl) (.ld1 116 rfl tk3 rfl (cellsAt_one rfl rfl)) ?_
      refine VD.y rfl rfl (.inl rfl) (.mv rfl) ?_
      refine VD.y rfl rfl (.inl rfl) (.lenS rfl tsl61) ?_
      refine VD.y rfl rfl (.inl rfl) (.leq rfl rfl) ?_
      refine VD.y rfl rfl (.inl rfl) (.mv rfl) ?_
      refine VD.dec (s := 34) rfl (fun hc17 => ?_) (fun hc17 => ?_)
      · -- FTT
        refine VD.y rfl rfl (.inr ⟨_, _, rfl, _, rfl, rfl⟩) (.mv rfl) ?_
        refine VD.y rfl rfl (.inr ⟨_, _, rfl, _, rfl, rfl⟩) (.fa rfl tst52 rfl) ?_
        refine VD.y rfl rfl (.inr ⟨_, _, rfl, _, rfl, rfl⟩) (.ld1 116 rfl tk3 rfl (cellsAt_one rfl rfl)) ?_
        refine VD.y rfl rfl (.inr ⟨_, _, rfl, _, rfl, rfl⟩) (.sub rfl rfl rfl ⟨by exact fin1_fits_ok, by exact fin1_fits_ok⟩) ?_
        obtain ⟨x18, hx18⟩ : ∃ z_, (d0)[(x14.2.1 - 1).toNat]? = some z_ := ⟨_, List.getElem?_eq_getElem (by exact fin1_fits_ok)⟩
        obtain ⟨gg18, oo18, ec18, ea18, hce18, hre18⟩ := h0.elem hx18
        cases ea18
        obtain ⟨q18_A2, q18_c2, rfl, q18_0, q18_1, q18_2⟩ := open_Commit (x0 := x18.1) (x1 := x18.2.1) (x2 := x18.2.2) hre18
        simp only [inK] at q18_0
        simp only [inK] at q18_1
        have q18_r2 := Rd.room q18_2
        refine VD.y rfl rfl (.inr ⟨_, _, rfl, _, rfl, rfl⟩) (.ixI ((x14.2.1 - 1).toNat) rfl rfl tsl61 (by exact fin1_fits_ok) (by exact fin1_fits_ok)) ?_
        refine VD.y rfl rfl (.inr ⟨_, _, rfl, _, rfl, rfl⟩) (.fa rfl tst52 rfl) ?_
        refine VD.y rfl rfl (.inr ⟨_, _, rfl, _, rfl, rfl⟩) (.ld1 0 rfl tk3 rfl (hce18.at1 (j := 0) rfl)) ?_
        refine VD.y rfl rfl (.inr ⟨_, _, rfl, _, rfl, rfl⟩) (.fa rfl tst52 rfl) ?_
        refine VD.y rfl rfl (.inr ⟨_, _, rfl, _, rfl, rfl⟩) (.ld1 116 rfl tk3 rfl (cellsAt_one rfl rfl)) ?_
        refine VD.nil rfl ?_ rfl
        refine VO.gy rfl ⟨_, rfl, rfl⟩ (.neq rfl rfl) ?_
        refine VO.y rfl (.pT rfl rfl) ?_
        refine VO.kp [116, 102, 0] [(116, mone g15 (.cells [Value.int .i64 (x14.1), Value.int .i64 (x14.2.1), Value.slice q14_A2 (x14.2.2.length) (q14_c2)].toArray 52 (0, 0))), (102, mone g1 (.cells [Value.int .i64 (d1.1), Value.int .i64 (d1.2.1), Value.int .u8 (d1.2.2.1), Value.int .i64 (d1.2.2.2.1), Value.slice p1_A4 (d1.2.2.2.2.1.length) (p1_c4), Value.int .i64 (d1.2.2.2.2.2.1), Value.int .i64 (d1.2.2.2.2.2.2.1), Value.slice (some ⟨gg14, oo14, none⟩) (d1.2.2.2.2.2.2.2.length) (p1_c7)].toArray 72 (0, 0))), (0, wm W)] ?_
        refine VO.k10 0 1 3 6 21 23 24 25 26 45 ?_
        refine outN ?_
        refine VC.cond rfl (fun hc19 => ?_) (fun hc19 => ?_)
        · -- FTTT
          refine VC.rs ?_
          refine VO.as ?_
          refine VO.k11 0 1 3 4 6 21 23 24 25 26 45 ?_
          refine VC.ret ?_
          refine outBR ?_
          refine outR ?_
          refine outR ?_
          refine outBR ?_
          refine outR ?_
          refine ⟨_, _, res_run (rs := [.tmp 4]) rfl (.tmp rfl .nil), fun W_ hI => out_of (l := []) hI [] rfl rfl (mle_refl _) (fun hS_ => ?_)⟩
          dsimp only [packV]
          all_goals (first | rfl | (exact fin0_fits_ok))
        · -- FTTF
          refine VC.skip ?_
          refine outBN ?_
          refine outN ?_
          refine VC.reg ?_
          refine VO.y rfl (.add (c := ((k + 1 : Nat) : Int)) rfl rfl (by omega) ⟨by exact fin1_fits_ok, by exact fin1_fits_ok⟩) ?_
          refine VO.mv ?_
          refine VO.k10 0 1 3 6 21 23 24 25 26 45 ?_
          exact outN ⟨k + 1, ⟨by omega, by exact all_next ha ‹d1.2.2.2.2.2.2.2[k]? = some _› (fun h => by first | omega | (rw [epochAt_of ‹d0[_]? = some _›]; omega))⟩, by exact fin1_fits_ok, ⟨⟨rfl, rfl, rfl, rfl, rfl, rfl, rfl, trivial⟩, fun _ h => Inv.sub h [102, 0]⟩⟩
      · -- FTF
        refine VD.gn rfl rfl (.inl ⟨_, rfl, rfl⟩) ?_
        refine VD.gn rfl rfl (.inl ⟨_, rfl, rfl⟩) ?_
        refine VD.gn rfl rfl (.inl ⟨_, rfl, rfl⟩) ?_
        refine VD.gn rfl rfl (.inl ⟨_, rfl, rfl⟩) ?_
        refine VD.gn rfl rfl (.inl ⟨_, rfl, rfl⟩) ?_
        refine VD.gn rfl rfl (.inl ⟨_, rfl, rfl⟩) ?_
        refine VD.gn rfl rfl (.inl ⟨_, rfl, rfl⟩) ?_
        refine VD.gn rfl rfl (.inl ⟨_, rfl, rfl⟩) ?_
        refine VD.gn rfl rfl (.inl ⟨_, rfl, rfl⟩) ?_
        refine VD.nil rfl ?_ rfl
        refine VO.gN ?_
        refine VO.y rfl (.pF rfl rfl) ?_
        refine VO.kp [116, 102, 0] [(116, mone g15 (.cells [Value.int .i64 (x14.1), Value.int .i64 (x14.2.1), Value.slice q14_A2 (x14.2.2.length) (q14_c2)].toArray 52 (0, 0))), (102, mone g1 (.cells [Value.int .i64 (d1.1), Value.int .i64 (d1.2.1), Value.int .u8 (d1.2.2.1), Value.int .i64 (d1.2.2.2.1), Value.slice p1_A4 (d1.2.2.2.2.1.length) (p1_c4), Value.int .i64 (d1.2.2.2.2.2.1), Value.int .i64 (d1.2.2.2.2.2.2.1), Value.slice (some ⟨gg14, oo14, none⟩) (d1.2.2.2.2.2.2.2.length) (p1_c7)].toArray 72 (0, 0))), (0, wm W)] ?_
        refine VO.k10 0 1 3 6 21 23 24 25 26 45 ?_
        refine outN ?_
        refine VC.condF rfl ?_
        refine VC.skip ?_
        refine outBN ?_
        refine outN ?_
        refine VC.reg ?_
        refine VO.y rfl (.add (c := ((k + 1 : Nat) : Int)) rfl rfl (by omega) ⟨by exact fin1_fits_ok, by exact fin1_fits_ok⟩) ?_
        refine VO.mv ?_
        refine VO.k10 0 1 3 6 21 23 24 25 26 45 ?_
        exact outN ⟨k + 1, ⟨by omega, by exact all_next ha ‹d1.2.2.2.2.2.2.2[k]? = some _› (fun h => by first | omega | (rw [epochAt_of ‹d0[_]? = some _›]; omega))⟩, by exact fin1_fits_ok, ⟨⟨rfl, rfl, rfl, rfl, rfl, rfl, rfl, trivial⟩, fun _ h => Inv.sub h [102, 0]⟩⟩
    · -- FF
      refine VC.exit ?_
      refine outE ?_
      refine outE ?_
      refine outBB ?_
      refine outN ?_
      refine VC.rs ?_
      refine VO.as ?_
      refine VO.k9 0 1 3 4 21 23 24 25 26 ?_
      refine VC.ret ?_
      refine ⟨_, _, res_run (rs := [.tmp 4]) rfl (.tmp rfl .nil), fun W_ hI => out_of (l := []) hI [] rfl rfl (mle_refl _) (fun hS_ => ?_)⟩
      dsimp only [packV]
      all_goals (first | rfl | (exact fin0_fits_ok))
theorem fin0_take_ok {P : Prop} (h : P := by first | (rw [take_follows ‹_›] <;> rfl) | (rw [take_check ‹¬ ¬ _› (by omega)] <;> rfl) | (rw [take_stale ‹¬ ¬ _› (by omega) (by omega) (by omega)] <;> rfl) | (rw [take_later ‹¬ ¬ _› (by omega) (by omega) (by omega) (by omega)] <;> rfl) | (rw [take_gap ‹¬ ¬ _› (by omega) (by omega) (by omega) (by omega) (by omega)] <;> rfl) | (rw [take_fork ‹¬ ¬ (cFollows 0 0 _).1 = 0› (by omega) (by omega) (by omega) (by omega) (by omega) ‹¬ fitsM _ _›] <;> rfl) | (rw [take_good ‹¬ ¬ (cFollows 0 0 _).1 = 0› (by omega) (by omega) (by omega) (by omega) (by omega) (Decidable.not_not.1 ‹¬ ¬ fitsM _ _›), ho, List.take_of_length_le (by omega)])) : P := h
theorem fin1_take_ok {P : Prop} (h : P := by first | (rw [take_follows ‹_›] <;> rfl) | (rw [take_check ‹¬ ¬ _› (by omega)] <;> rfl) | (rw [take_stale ‹¬ ¬ _› (by omega) (by omega) (by omega)] <;> rfl) | (rw [take_later ‹¬ ¬ _› (by omega) (by omega) (by omega) (by omega)] <;> rfl) | (rw [take_gap ‹¬ ¬ _› (by omega) (by omega) (by omega) (by omega) (by omega)] <;> rfl) | (rw [take_fork ‹¬ ¬ (cFollows 0 0 _).1 = 0› (by omega) (by omega) (by omega) (by omega) (by omega) ‹¬ fitsM _ _›] <;> rfl) | (rw [take_good ‹¬ ¬ (cFollows 0 0 _).1 = 0› (by omega) (by omega) (by omega) (by omega) (by omega) (Decidable.not_not.1 ‹¬ ¬ fitsM _ _›)] <;> rfl)) : P := h
theorem fin2_take_ok {P : Prop} (h : P := by first | omega | (simp only [List.length_append, List.length_nil, List.length_cons, List.length_take, List.length_drop] at *; omega) | exact ship_room (by omega) (by omega) ‹d2.2.2.2.2.2.2.2[k]? = some _› | (have := (lCheck_ship (m := d2) (by omega) (by omega)).1; omega)) : P := h
theorem take_ok (W : World) (d0 : Int) (h0 : inK .i64 d0) {v1 : Value} {d1 : List DCommit} (h1 : Rd (.sl TCommit) (wm W) [v1] d1) {v2 : List Value} {d2 : DMessage} (h2 : Rd TMessage (wm W) v2 d2) : CallR Try.prog 78 [.int .i64 d0, v1, .agg v2.toArray] W (mnil) (fun v m' => ∃ (s0 : Value), v = .tuple #[s0, .int .i64 ((takeOf d0 d1 d2).2)] ∧ Ow (.sl TCommit) m' [s0] ((takeOf d0 d1 d2).1)) := by
  have h0' := h0; simp only [inK] at h0'
  obtain ⟨A1, c1, rfl, l1, k1⟩ := h1.slice
  simp only [maxLen] at k1
  obtain ⟨p2_A4, p2_c4, p2_A7, p2_c7, rfl, p2_0, p2_1, p2_2, p2_3, p2_4, p2_5, p2_6, p2_7⟩ := open_Message (x0 := d2.1) (x1 := d2.2.1) (x2 := d2.2.2.1) (x3 := d2.2.2.2.1) (x4 := d2.2.2.2.2.1) (x5 := d2.2.2.2.2.2.1) (x6 := d2.2.2.2.2.2.2.1) (x7 := d2.2.2.2.2.2.2.2) h2
  simp only [inK] at p2_0
  simp only [inK] at p2_1
  simp only [inK] at p2_2
  simp only [inK] at p2_3
  have p2_r4 := Rd.room p2_4
  simp only [inK] at p2_5
  simp only [inK] at p2_6
  have p2_r7 := Rd.room p2_7
  refine CallR.ofA (n := 69) Try.func78 rfl rfl rfl ?_
  refine VC.rs ?_
  refine VO.box (cs := [Value.int .i64 (d2.1), Value.int .i64 (d2.2.1), Value.int .u8 (d2.2.2.1), Value.int .i64 (d2.2.2.2.1), Value.slice p2_A4 (d2.2.2.2.2.1.length) (p2_c4), Value.int .i64 (d2.2.2.2.2.2.1), Value.int .i64 (d2.2.2.2.2.2.2.1), Value.slice p2_A7 (d2.2.2.2.2.2.2.2.length) (p2_c7)]) 102 rfl rfl rfl (fun g1 => ?_)
  refine VO.as ?_
  refine VO.as ?_
  refine VO.k6 0 1 2 5 6 7 ?_
  refine VC.seq ?_
  refine VC.rs ?_
  refine VO.mv ?_
  refine VO.callN 103 rfl fnOk52 rfl (fun W hW => follows_ok W 0 (by simp only [inK]; (exact fin2_take_ok)) 0 (by simp only [inK]; (exact fin2_take_ok)) (Rd.mono h1 (hW.at (i := 0) rfl))) (fun v3 m3 hv3 => ?_)
  obtain ⟨s3_0, rfl, f3_0⟩ := hv3
  obtain ⟨rfl, q3_0_0, q3_0_1⟩ := open_Fault (x0 := (cFollows 0 0 d1).1) (x1 := (cFollows 0 0 d1).2) (f3_0.rd (mle_refl _))
  simp only [inK] at q3_0_0
  simp only [inK] at q3_0_1
  refine VO.alloc 105 rfl tz57 (fun g4 => ?_)
  refine VO.store (k := 2) (c' := [Value.int .i64 ((cFollows 0 0 d1).1), Value.int .i64 ((cFollows 0 0 d1).2)]) 105 rfl rfl (.inl tk57) rfl rfl rfl rfl rfl ?_
  refine VO.k7 0 1 2 5 6 7 8 ?_
  refine VC.rs ?_
  refine VO.y rfl (.fa rfl tst57 rfl) ?_
  refine VO.y rfl (.ld1 105 rfl tk26 rfl (cellsAt_one rfl rfl)) ?_
  refine VO.y rfl (.neq rfl rfl) ?_
  refine VO.kp [105, 102, 0] [(105, mone g4 (.cells [Value.int .i64 ((cFollows 0 0 d1).1), Value.int .i64 ((cFollows 0 0 d1).2)].toArray 57 (0, 0))), (102, mone g1 (.cells [Value.int .i64 (d2.1), Value.int .i64 (d2.2.1), Value.int .u8 (d2.2.2.1), Value.int .i64 (d2.2.2.2.1), Value.slice p2_A4 (d2.2.2.2.2.1.length) (p2_c4), Value.int .i64 (d2.2.2.2.2.2.1), Value.int .i64 (d2.2.2.2.2.2.2.1), Value.slice p2_A7 (d2.2.2.2.2.2.2.2.length) (p2_c7)].toArray 72 (0, 0))), (0, wm W)] ?_
  refine VO.k8 0 1 2 5 6 7 8 16 ?_
  refine VC.cond rfl (fun hc6 => ?_) (fun hc6 => ?_)
  · -- T
    refine VC.seq ?_
    refine VC.regD _ 3 [(0, true), (1, true), (2, true)] follows (by kernel_rfl) (fun _ h => h.sub [105, 102, 0]) ?_
    refine VD.y rfl rfl (.inl rfl) (.fa rfl tst57 rfl) ?_
    refine VD.y rfl rfl (.inl rfl) (.ld1 105 rfl tk26 rfl (cellsAt_one rfl rfl)) ?_
    refine VD.y rfl rfl (.inl rfl) (.as rfl) ?_
    refine VD.nil rfl ?_ rfl
    refine VO.as ?_
    refine VO.k8 0 1 2 5 6 7 8 16 ?_
    refine outN ?_
    refine VC.ret ?_
    refine outR ?_
    refine ⟨_, _, res_run (rs := [.tmp 6, .tmp 7]) rfl (.tmp rfl (.tmp rfl .nil)), fun W_ hI => out_of (l := []) hI [] rfl rfl (mle_refl _) (fun hS_ => ?_)⟩
    dsimp only [packV]
    have he0 : ((takeOf d0 d1 d2).1 : Ty.Den (.sl TCommit)) = [] := by first | rfl | (exact fin0_take_ok)
    refine ⟨Value.slice none (0) (0), ?_, ?_⟩
    rotate_left
    · rw [he0]; exact (Ow.nil _ _)
    all_goals (first | rfl | (exact fin1_take_ok))
  · -- F
    refine VC.skip ?_
    refine outN ?_
    refine VC.seq ?_
    refine VC.block ?_
    refine VC.rs ?_
    refine VO.y rfl (.ldA 102 rfl tk72 rfl (cellsAt_one rfl rfl)) ?_
    refine VO.callN 107 rfl fnOk87 rfl (fun W hW => lCheck_ok W (Rd.mono h2 (hW.at (i := 0) rfl))) (fun v7 m7 hv7 => ?_)
    subst hv7
    have hfa8 := lCheck_range d2
    refine VO.y rfl (.neq rfl rfl) ?_
    refine VO.mv ?_
    refine VO.dec (t := 23) rfl (fun hc9 => ?_) (fun hc9 => ?_)
    · -- FT
      refine VO.gN ?_
      refine VO.gN ?_
      refine VO.gN ?_
      refine VO.y rfl (.pT rfl rfl) ?_
      refine VO.as ?_
      refine VO.k9 0 1 2 5 6 7 8 16 19 ?_
      refine VC.condT rfl ?_
      refine VC.rs ?_
      refine VO.as ?_
      refine VO.as ?_
      refine VO.k9 0 1 2 5 6 7 8 16 19 ?_
      refine VC.ret ?_
      refine outBR ?_
      refine outR ?_
      refine ⟨_, _, res_run (rs := [.tmp 6, .tmp 7]) rfl (.tmp rfl (.tmp rfl .nil)), fun W_ hI => out_of (l := []) hI [] rfl rfl (mle_refl _) (fun hS_ => ?_)⟩
      dsimp only [packV]
      have he0 : ((takeOf d0 d1 d2).1 : Ty.Den (.sl TCommit)) = [] := by first | rfl | (exact fin0_take_ok)
      refine ⟨Value.slice none (0) (0), ?_, ?_⟩
      rotate_left
      · rw [he0]; exact (Ow.nil _ _)
      all_goals (first | rfl | (exact fin1_take_ok))
    · -- FF
      refine VO.gy rfl ⟨_, rfl, rfl⟩ (.fa rfl tst72 rfl) ?_
      refine VO.gy rfl ⟨_, rfl, rfl⟩ (.ld1 102 rfl tk3 rfl (cellsAt_one rfl rfl)) ?_
      refine VO.gy rfl ⟨_, rfl, rfl⟩ (.neq rfl rfl) ?_
      refine VO.y rfl (.pF rfl rfl) ?_
      refine VO.as ?_
      refine VO.k9 0 1 2 5 6 7 8 16 19 ?_
      refine VC.cond rfl (fun hc10 => ?_) (fun hc10 => ?_)
      · -- FFT
        refine VC.rs ?_
        refine VO.as ?_
        refine VO.as ?_
        refine VO.k9 0 1 2 5 6 7 8 16 19 ?_
        refine VC.ret ?_
        refine outBR ?_
        refine outR ?_
        refine ⟨_, _, res_run (rs := [.tmp 6, .tmp 7]) rfl (.tmp rfl (.tmp rfl .nil)), fun W_ hI => out_of (l := []) hI [] rfl rfl (mle_refl _) (fun hS_ => ?_)⟩
        dsimp only [packV]
        have he0 : ((takeOf d0 d1 d2).1 : Ty.Den (.sl TCommit)) = [] := by first | rfl | (exact fin0_take_ok)
        refine ⟨Value.slice none (0) (0), ?_, ?_⟩
        rotate_left
        · rw [he0]; exact (Ow.nil _ _)
        all_goals (first | rfl | (exact fin1_take_ok))
      · -- FFF
        refine VC.rs ?_
        refine VO.y rfl (.fa rfl tst72 rfl) ?_
        refine VO.y rfl (.ld1 102 rfl tk3 rfl (cellsAt_one rfl rfl)) ?_
        refine VO.mv ?_
        refine VO.y rfl (.lss rfl rfl) ?_
        refine VO.as ?_
        refine VO.k10 0 1 2 5 6 7 8 16 19 28 ?_
        refine VC.cond rfl (fun hc11 => ?_) (fun hc11 => ?_)
        · -- FFFT
          refine VC.rs ?_
          refine VO.as ?_
          refine VO.as ?_
          refine VO.kp [105, 102, 0] [(105, mone g4 (.cells [Value.int .i64 ((cFollows 0 0 d1).1), Value.int .i64 ((cFollows 0 0 d1).2)].toArray 57 (0, 0))), (102, mone g1 (.cells [Value.int .i64 (d2.1), Value.int .i64 (d2.2.1), Value.int .u8 (d2.2.2.1), Value.int .i64 (d2.2.2.2.1), Value.slice p2_A4 (d2.2.2.2.2.1.length) (p2_c4), Value.int .i64 (d2.2.2.2.2.2.1), Value.int .i64 (d2.2.2.2.2.2.2.1), Value.slice p2_A7 (d2.2.2.2.2.2.2.2.length) (p2_c7)].toArray 72 (0, 0))), (0, wm W)] ?_
          refine VO.k10 0 1 2 5 6 7 8 16 19 28 ?_
          refine VC.ret ?_
          refine outBR ?_
          refine outR ?_
          refine ⟨_, _, res_run (rs := [.tmp 6, .tmp 7]) rfl (.tmp rfl (.tmp rfl .nil)), fun W_ hI => out_of (l := []) hI [] rfl rfl (mle_refl _) (fun hS_ => ?_)⟩
          dsimp only [packV]
          have he0 : ((takeOf d0 d1 d2).1 : Ty.Den (.sl TCommit)) = [] := by first | rfl | (exact fin0_take_ok)
          refine ⟨Value.slice none (0) (0), ?_, ?_⟩
          rotate_left
          · rw [he0]; exact (Ow.nil _ _)
          all_goals (first | rfl | (exact fin1_take_ok))
        · -- FFFF
          refine VC.rs ?_
          refine VO.y rfl (.fa rfl tst72 rfl) ?_
          refine VO.y rfl (.ld1 102 rfl tk3 rfl (cellsAt_one rfl rfl)) ?_
          refine VO.mv ?_
          refine VO.y rfl (.gtr rfl rfl) ?_
          refine VO.as ?_
          refine VO.kp [105, 102, 0] [(105, mone g4 (.cells [Value.int .i64 ((cFollows 0 0 d1).1), Value.int .i64 ((cFollows 0 0 d1).2)].toArray 57 (0, 0))), (102, mone g1 (.cells [Value.int .i64 (d2.1), Value.int .i64 (d2.2.1), Value.int .u8 (d2.2.2.1), Value.int .i64 (d2.2.2.2.1), Value.slice p2_A4 (d2.2.2.2.2.1.length) (p2_c4), Value.int .i64 (d2.2.2.2.2.2.1), Value.int .i64 (d2.2.2.2.2.2.2.1), Value.slice p2_A7 (d2.2.2.2.2.2.2.2.length) (p2_c7)].toArray 72 (0, 0))), (0, wm W)] ?_
          refine VO.k11 0 1 2 5 6 7 8 16 19 28 33 ?_
          refine VC.cond rfl (fun hc12 => ?_) (fun hc12 => ?_)
          · -- FFFFT
            refine VC.rs ?_
            refine VO.as ?_
            refine VO.as ?_
            refine VO.k11 0 1 2 5 6 7 8 16 19 28 33 ?_
            refine VC.ret ?_
            refine outBR ?_
            refine outR ?_
            refine ⟨_, _, res_run (rs := [.tmp 6, .tmp 7]) rfl (.tmp rfl (.tmp rfl .nil)), fun W_ hI => out_of (l := []) hI [] rfl rfl (mle_refl _) (fun hS_ => ?_)⟩
            dsimp only [packV]
            have he0 : ((takeOf d0 d1 d2).1 : Ty.Den (.sl TCommit)) = [] := by first | rfl | (exact fin0_take_ok)
            refine ⟨Value.slice none (0) (0), ?_, ?_⟩
            rotate_left
            · rw [he0]; exact (Ow.nil _ _)
            all_goals (first | rfl | (exact fin1_take_ok))
          · -- FFFFF
            refine VC.rs ?_
            refine VO.y rfl (.fa rfl tst72 rfl) ?_
            refine VO.y rfl (.ld1 102 rfl tk3 rfl (cellsAt_one rfl rfl)) ?_
            refine VO.y rfl (.sub rfl rfl rfl ⟨by exact fin2_take_ok, by exact fin2_take_ok⟩) ?_
            refine VO.mv ?_
            refine VO.y rfl (.lenS rfl tsl61) ?_
            refine VO.y rfl (.gtr rfl rfl) ?_
            refine VO.as ?_
            refine VO.k12 0 1 2 5 6 7 8 16 19 28 33 38 ?_
            refine VC.cond rfl (fun hc13 => ?_) (fun hc13 => ?_)
            · -- FFFFFT
              refine VC.rs ?_
              refine VO.as ?_
              refine VO.as ?_
              refine VO.k12 0 1 2 5 6 7 8 16 19 28 33 38 ?_
              refine VC.ret ?_
              refine outBR ?_
              refine outR ?_
              refine ⟨_, _, res_run (rs := [.tmp 6, .tmp 7]) rfl (.tmp rfl (.tmp rfl .nil)), fun W_ hI => out_of (l := []) hI [] rfl rfl (mle_refl _) (fun hS_ => ?_)⟩
              dsimp only [packV]
              have he0 : ((takeOf d0 d1 d2).1 : Ty.Den (.sl TCommit)) = [] := by first | rfl | (exact fin0_take_ok)
              refine ⟨Value.slice none (0) (0), ?_, ?_⟩
              rotate_left
              · rw [he0]; exact (Ow.nil _ _)
              all_goals (first | rfl | (exact fin1_take_ok))
            · -- FFFFFF
              refine VC.rs ?_
              refine VO.mv ?_
              refine VO.y rfl (.ldA 102 rfl tk72 rfl (cellsAt_one rfl rfl)) ?_
              refine VO.callN 114 rfl fnOk119 rfl (fun W hW => fits_ok W (Rd.mono h1 (hW.at (i := 0) rfl)) (Rd.mono h2 (hW.at (i := 0) rfl)) (by omega) (by first | exact ship_pos (by omega) (by omega))) (fun v14 m14 hv14 => ?_)
              subst hv14
              refine VO.y rfl (.notD rfl) ?_
              refine VO.as ?_
              refine VO.k13 0 1 2 5 6 7 8 16 19 28 33 38 45 ?_
              refine VC.cond rfl (fun hc15 => ?_) (fun hc15 => ?_)
              · -- FFFFFFT
                refine VC.rs ?_
                refine VO.as ?_
                refine VO.as ?_
                refine VO.kp [105, 102, 0] [(105, mone g4 (.cells [Value.int .i64 ((cFollows 0 0 d1).1), Value.int .i64 ((cFollows 0 0 d1).2)].toArray 57 (0, 0))), (102, mone g1 (.cells [Value.int .i64 (d2.1), Value.int .i64 (d2.2.1), Value.int .u8 (d2.2.2.1), Value.int .i64 (d2.2.2.2.1), Value.slice p2_A4 (d2.2.2.2.2.1.length) (p2_c4), Value.int .i64 (d2.2.2.2.2.2.1), Value.int .i64 (d2.2.2.2.2.2.2.1), Value.slice p2_A7 (d2.2.2.2.2.2.2.2.length) (p2_c7)].toArray 72 (0, 0))), (0, wm W)] ?_
                refine VO.k13 0 1 2 5 6 7 8 16 19 28 33 38 45 ?_
                refine VC.ret ?_
                refine outBR ?_
                refine outR ?_
                refine ⟨_, _, res_run (rs := [.tmp 6, .tmp 7]) rfl (.tmp rfl (.tmp rfl .nil)), fun W_ hI => out_of (l := []) hI [] rfl rfl (mle_refl _) (fun hS_ => ?_)⟩
                dsimp only [packV]
                have he0 : ((takeOf d0 d1 d2).1 : Ty.Den (.sl TCommit)) = [] := by first | rfl | (exact fin0_take_ok)
                refine ⟨Value.slice none (0) (0), ?_, ?_⟩
                rotate_left
                · rw [he0]; exact (Ow.nil _ _)
                all_goals (first | rfl | (exact fin1_take_ok))
              · -- FFFFFFF
                refine VC.skip ?_
                refine outBN ?_
                refine outN ?_
                refine VC.rs ?_
                refine VO.as ?_
                refine VO.kp [105, 102, 0] [(105, mone g4 (.cells [Value.int .i64 ((cFollows 0 0 d1).1), Value.int .i64 ((cFollows 0 0 d1).2)].toArray 57 (0, 0))), (102, mone g1 (.cells [Value.int .i64 (d2.1), Value.int .i64 (d2.2.1), Value.int .u8 (d2.2.2.1), Value.int .i64 (d2.2.2.2.1), Value.slice p2_A4 (d2.2.2.2.2.1.length) (p2_c4), Value.int .i64 (d2.2.2.2.2.2.1), Value.int .i64 (d2.2.2.2.2.2.2.1), Value.slice p2_A7 (d2.2.2.2.2.2.2.2.length) (p2_c7)].toArray 72 (0, 0))), (0, wm W)] ?_
                refine VO.k14 0 1 2 5 6 7 8 9 16 19 28 33 38 45 ?_
                refine VC.seq ?_
                refine VC.rs ?_
                refine VO.y rfl (.fa rfl tst72 rfl) ?_
                refine VO.y rfl (.ld1 102 rfl tk61 rfl (cellsAt_one rfl rfl)) ?_
                refine VO.y rfl (.lenS rfl tsl61) ?_
                refine VO.mv ?_
                refine VO.k17 0 1 2 5 6 7 8 9 16 19 28 33 38 45 51 52 53 ?_
                refine VC.block ?_
                refine VC.inv ((116, mnil) :: _) (fun _ h => h.nilc 116) ?_
                refine VC.loop (G := Nat × (List DCommit) × (Option Addr) × Nat × Mem) (fun g => [(9, Value.slice (g.2.2.1) ((g.2.1).length) ((g.2.2.2.1))), (53, Value.int .i64 ((((g.1) : Nat) : Int))), (0, Value.int .i64 (d0)), (1, Value.slice A1 (d1.length) (c1)), (2, Value.agg [Value.int .i64 (d2.1), Value.int .i64 (d2.2.1), Value.int .u8 (d2.2.2.1), Value.int .i64 (d2.2.2.2.1), Value.slice p2_A4 (d2.2.2.2.2.1.length) (p2_c4), Value.int .i64 (d2.2.2.2.2.2.1), Value.int .i64 (d2.2.2.2.2.2.2.1), Value.slice p2_A7 (d2.2.2.2.2.2.2.2.length) (p2_c7)].toArray), (5, Value.pointer (some ⟨g1, 0, none⟩)), (6, Value.slice none (0) (0)), (7, Value.int .i64 (0)), (8, Value.pointer (some ⟨g4, 0, none⟩)), (16, Value.bool (decide (¬ ((cFollows 0 0 d1).1) = 0))), (19, Value.bool (decide (¬ d2.1 = 2))), (28, Value.bool (decide (d2.2.1 < d0))), (33, Value.bool (decide (d0 < d2.2.1))), (38, Value.bool (decide (((d1.length : Nat) : Int) < (d2.2.2.2.2.2.1 - 1)))), (45, Value.bool (decide (¬ (fitsM d1 d2)))), (51, Value.slice p2_A7 (d2.2.2.2.2.2.2.2.length) (p2_c7)), (52, Value.int .i64 (((d2.2.2.2.2.2.2.2.length : Nat) : Int)))]) (fun g => [(116, (g.2.2.2.2)), (105, mone g4 (.cells [Value.int .i64 ((cFollows 0 0 d1).1), Value.int .i64 ((cFollows 0 0 d1).2)].toArray 57 (0, 0))), (102, mone g1 (.cells [Value.int .i64 (d2.1), Value.int .i64 (d2.2.1), Value.int .u8 (d2.2.2.1), Value.int .i64 (d2.2.2.2.1), Value.slice p2_A4 (d2.2.2.2.2.1.length) (p2_c4), Value.int .i64 (d2.2.2.2.2.2.1), Value.int .i64 (d2.2.2.2.2.2.2.1), Value.slice p2_A7 (d2.2.2.2.2.2.2.2.length) (p2_c7)].toArray 72 (0, 0))), (0, wm W)]) (fun g => ((g.1) ≤ d2.2.2.2.2.2.2.2.length) ∧ ((g.2.1) = (d2.2.2.2.2.2.2.2.take (g.1)).filter (fun c => decide ((d1.length : Int) < c.2.1))) ∧ (Ow (.sl TCommit) (g.2.2.2.2) [.slice (g.2.2.1) (g.2.1).length (g.2.2.2.1)] (g.2.1))) (fun g => d2.2.2.2.2.2.2.2.length - (g.1)) (0, [], none, 0, mnil) (⟨by omega, by rfl, (Ow.nil TCommit mnil)⟩) ⟨⟨rfl, rfl, rfl, rfl, rfl, rfl, rfl, rfl, rfl, rfl, rfl, rfl, rfl, rfl, rfl, rfl, rfl, trivial⟩, fun _ h => h.sub [116, 105, 102, 0]⟩ ?_
                rintro ⟨k, out, out_A, out_c, out_m⟩ ⟨hk, ho, h_out⟩
                replace hk : k ≤ d2.2.2.2.2.2.2.2.length := hk
                replace ho : out = (d2.2.2.2.2.2.2.2.take k).filter (fun c => decide ((d1.length : Int) < c.2.1)) := ho
                replace h_out : Ow (.sl TCommit) out_m [.slice out_A out.length out_c] out := h_out
                show VC _ _ _ _ _ [(9, Value.slice out_A (out.length) (out_c)), (53, Value.int .i64 (((k : Nat) : Int))), (0, Value.int .i64 (d0)), (1, Value.slice A1 (d1.length) (c1)), (2, Value.agg [Value.int .i64 (d2.1), Value.int .i64 (d2.2.1), Value.int .u8 (d2.2.2.1), Value.int .i64 (d2.2.2.2.1), Value.slice p2_A4 (d2.2.2.2.2.1.length) (p2_c4), Value.int .i64 (d2.2.2.2.2.2.1), Value.int .i64 (d2.2.2.2.2.2.2.1), Value.slice p2_A7 (d2.2.2.2.2.2.2.2.length) (p2_c7)].toArray), (5, Value.pointer (some ⟨g1, 0, none⟩)), (6, Value.slice none (0) (0)), (7, Value.int .i64 (0)), (8, Value.pointer (some ⟨g4, 0, none⟩)), (16, Value.bool (decide (¬ ((cFollows 0 0 d1).1) = 0))), (19, Value.bool (decide (¬ d2.1 = 2))), (28, Value.bool (decide (d2.2.1 < d0))), (33, Value.bool (decide (d0 < d2.2.1))), (38, Value.bool (decide (((d1.length : Nat) : Int) < (d2.2.2.2.2.2.1 - 1)))), (45, Value.bool (decide (¬ (fitsM d1 d2)))), (51, Value.slice p2_A7 (d2.2.2.2.2.2.2.2.length) (p2_c7)), (52, Value.int .i64 (((d2.2.2.2.2.2.2.2.length : Nat) : Int)))] [(116, out_m), (105, mone g4 (.cells [Value.int .i64 ((cFollows 0 0 d1).1), Value.int .i64 ((cFollows 0 0 d1).2)].toArray 57 (0, 0))), (102, mone g1 (.cells [Value.int .i64 (d2.1), Value.int .i64 (d2.2.1), Value.int .u8 (d2.2.2.1), Value.int .i64 (d2.2.2.2.1), Value.slice p2_A4 (d2.2.2.2.2.1.length) (p2_c4), Value.int .i64 (d2.2.2.2.2.2.1), Value.int .i64 (d2.2.2.2.2.2.2.1), Value.slice p2_A7 (d2.2.2.2.2.2.2.2.length) (p2_c7)].toArray 72 (0, 0))), (0, wm W)]
                have l_out : out.length ≤ out_c := by obtain ⟨_, _, he, hl, _⟩ := h_out.slice; simp only [Value.slice.injEq] at he; omega
                have k_out : out_c ≤ 9223372036854775807 := by obtain ⟨_, _, he, _, hl⟩ := h_out.slice; simp only [Value.slice.injEq, maxLen] at he hl; omega
                have hlo : out.length ≤ 4 := by have h4 := (lCheck_ship (m := d2) (by omega) (by omega)).2.2.2.1; have := List.length_filter_le (fun c : DCommit => decide ((d1.length : Int) < c.2.1)) (d2.2.2.2.2.2.2.2.take k); rw [ho]; simp only [List.length_take] at this; omega
                refine VC.rs ?_
                refine VO.y rfl (.lss rfl rfl) ?_
                refine VO.k18 0 1 2 5 6 7 8 9 16 19 28 33 38 45 51 52 53 54 ?_
                refine VC.seq ?_
                refine VC.cond rfl (fun hc17 => ?_) (fun hc17 => ?_)
                · -- FFFFFFFT
                  refine VC.skip ?_
                  refine outN ?_
                  refine VC.seq ?_
                  refine VC.block ?_
                  refine VC.rs ?_
                  obtain ⟨x18, hx18⟩ : ∃ z_, (d2.2.2.2.2.2.2.2)[k]? = some z_ := ⟨_, List.getElem?_eq_getElem (by exact fin2_take_ok)⟩
                  obtain ⟨gg18, oo18, ec18, ea18, hce18, hre18⟩ := p2_7.elem hx18
                  cases ea18
                  obtain ⟨q18_A2, q18_c2, rfl, q18_0, q18_1, q18_2⟩ := open_Commit (x0 := x18.1) (x1 := x18.2.1) (x2 := x18.2.2) hre18
                  simp only [inK] at q18_0
                  simp only [inK] at q18_1
                  have q18_r2 := Rd.room q18_2
                  refine VO.y rfl (.ixI k rfl rfl tsl61 rfl (by exact fin2_take_ok)) ?_
                  refine VO.y rfl (.ldA 0 rfl tk52 rfl hce18) ?_
                  refine VO.alloc 120 rfl tz52 (fun g19 => ?_)
                  refine VO.store (k := 3) (c' := [Value.int .i64 (x18.1), Value.int .i64 (x18.2.1), Value.slice q18_A2 (x18.2.2.length) (q18_c2)]) 120 rfl rfl (.inl tk52) rfl rfl rfl rfl rfl ?_
                  refine VO.kp [120, 116, 105, 102, 0] [(120, mone g19 (.cells [Value.int .i64 (x18.1), Value.int .i64 (x18.2.1), Value.slice q18_A2 (x18.2.2.length) (q18_c2)].toArray 52 (0, 0))), (116, out_m), (105, mone g4 (.cells [Value.int .i64 ((cFollows 0 0 d1).1), Value.int .i64 ((cFollows 0 0 d1).2)].toArray 57 (0, 0))), (102, mone g1 (.cells [Value.int .i64 (d2.1), Value.int .i64 (d2.2.1), Value.int .u8 (d2.2.2.1), Value.int .i64 (d2.2.2.2.1), Value.slice p2_A4 (d2.2.2.2.2.1.length) (p2_c4), Value.int .i64 (d2.2.2.2.2.2.1), Value.int .i64 (d2.2.2.2.2.2.2.1), Value.slice (some ⟨gg18, oo18, none⟩) (d2.2.2.2.2.2.2.2.length) (p2_c7)].toArray 72 (0, 0))), (0, wm W)] ?_
                  refine VO.k19 0 1 2 5 6 7 8 9 11 16 19 28 33 38 45 51 52 53 54 ?_
                  refine VC.rs ?_
                  refine VO.y rfl (.fa rfl tst52 rfl) ?_
                  refine VO.y rfl (.ld1 120 rfl tk3 rfl (cellsAt_one rfl rfl)) ?_
                  refine VO.mv ?_
                  refine VO.y rfl (.lenS rfl tsl61) ?_
                  refine VO.y rfl (.gtr rfl rfl) ?_
                  refine VO.k20 0 1 2 5 6 7 8 9 11 16 19 28 33 38 45 51 52 53 54 61 ?_
                  refine VC.cond rfl (fun hc21 => ?_) (fun hc21 => ?_)
                  · -- FFFFFFFTT
                    refine VC.reg ?_
                    refine VO.mv ?_
                    refine VO.y rfl (.ldA 120 rfl tk52 rfl (cellsAt_one rfl rfl)) ?_
                    refine VO.callN 122 rfl fnOk60 rfl (fun W hW => cCopy_ok W (Rd.mono hre18 (hW.at (i := 0) rfl)) (by exact fin2_take_ok)) (fun v22 m22 hv22 => ?_)
                    obtain ⟨s22_0, rfl, f22_0⟩ := hv22
                    obtain ⟨q22_0_A2, q22_0_c2, q22_0_n2, rfl, q22_0_S, q22_0_0, q22_0_1, q22_0_2⟩ := openO_Commit (x0 := x18.1) (x1 := x18.2.1) (x2 := x18.2.2) f22_0
                    simp only [inK] at q22_0_0
                    simp only [inK] at q22_0_1
                    have q22_0_r2 := q22_0_2.rm
                    refine VO.inv _ (fun _ h => h.parts (i := 122) rfl q22_0_S [123]) ?_
                    refine VO.bsl (cs := [Value.int .i64 (x18.1), Value.int .i64 (x18.2.1), Value.slice q22_0_A2 (x18.2.2.length) (q22_0_c2)]) 125 rfl rfl tsl61 tz52 rfl rfl (fun g24 => ?_)
                    refine VO.appO (e := TCommit) 116 123 125 rfl rfl rfl tsl61 tz52 rfl rfl rfl rfl h_out (show Ow TCommit _ _ x18 from (mkO_Commit x18.1 x18.2.1 x18.2.2 (Seps.one (mle_refl _)) (by simp only [inK]; (exact fin2_take_ok)) (by simp only [inK]; (exact fin2_take_ok)) (OwnL.ow (Ow.ownl q22_0_2 rfl mnil) rfl))) Try.underlying61 (cellsAt_one rfl rfl) (by simp only [maxLen]; (exact fin2_take_ok)) (by exact fin2_take_ok) (by decide) (fun v26 m26 ho26 => ?_)
                    obtain ⟨A26, c26, rfl, l26, k26⟩ := ho26.slice
                    simp only [maxLen] at k26
                    refine VO.as ?_
                    refine VO.k20 0 1 2 5 6 7 8 9 11 16 19 28 33 38 45 51 52 53 54 61 ?_
                    refine outBN ?_
                    refine outN ?_
                    refine VC.reg ?_
                    refine VO.y rfl (.add (c := ((k + 1 : Nat) : Int)) rfl rfl (by omega) ⟨by exact fin2_take_ok, by exact fin2_take_ok⟩) ?_
                    refine VO.mv ?_
                    refine VO.kp [116, 120, 105, 102, 0] [(116, m26), (120, mone g19 (.cells [Value.int .i64 (x18.1), Value.int .i64 (x18.2.1), Value.slice q18_A2 (x18.2.2.length) (q18_c2)].toArray 52 (0, 0))), (105, mone g4 (.cells [Value.int .i64 ((cFollows 0 0 d1).1), Value.int .i64 ((cFollows 0 0 d1).2)].toArray 57 (0, 0))), (102, mone g1 (.cells [Value.int .i64 (d2.1), Value.int .i64 (d2.2.1), Value.int .u8 (d2.2.2.1), Value.int .i64 (d2.2.2.2.1), Value.slice p2_A4 (d2.2.2.2.2.1.length) (p2_c4), Value.int .i64 (d2.2.2.2.2.2.1), Value.int .i64 (d2.2.2.2.2.2.2.1), Value.slice (some ⟨gg18, oo18, none⟩) (d2.2.2.2.2.2.2.2.length) (p2_c7)].toArray 72 (0, 0))), (0, wm W)] ?_
                    refine VO.k20 0 1 2 5 6 7 8 9 11 16 19 28 33 38 45 51 52 53 54 61 ?_
                    exact outN ⟨⟨k + 1, out ++ [x18], A26, c26, m26⟩, ⟨by omega, by first | (rw [ho, filter_yes ‹d2.2.2.2.2.2.2.2[k]? = some _› (decide_eq_true (by omega))]) | (rw [ho, filter_no ‹d2.2.2.2.2.2.2.2[k]? = some _› (decide_eq_false (by omega))]), ho26⟩, by exact fin2_take_ok, ⟨⟨rfl, rfl, rfl, rfl, rfl, rfl, rfl, rfl, rfl, rfl, rfl, rfl, rfl, rfl, rfl, rfl, rfl, trivial⟩, fun _ h => Inv.sub h [116, 105, 102, 0]⟩⟩
                  · -- FFFFFFFTF
                    refine VC.skip ?_
                    refine outBN ?_
                    refine outN ?_
                    refine VC.reg ?_
                    refine VO.y rfl (.add (c := ((k + 1 : Nat) : Int)) rfl rfl (by omega) ⟨by exact fin2_take_ok, by exact fin2_take_ok⟩) ?_
                    refine VO.mv ?_
                    refine VO.k20 0 1 2 5 6 7 8 9 11 16 19 28 33 38 45 51 52 53 54 61 ?_
                    exact outN ⟨⟨k + 1, out, out_A, out_c, out_m⟩, ⟨by omega, by first | (rw [ho, filter_yes ‹d2.2.2.2.2.2.2.2[k]? = some _› (decide_eq_true (by omega))]) | (rw [ho, filter_no ‹d2.2.2.2.2.2.2.2[k]? = some _› (decide_eq_false (by omega))]), h_out⟩, by exact fin2_take_ok, ⟨⟨rfl, rfl, rfl, rfl, rfl, rfl, rfl, rfl, rfl, rfl, rfl, rfl, rfl, rfl, rfl, rfl, rfl, trivial⟩, fun _ h => Inv.sub h [116, 105, 102, 0]⟩⟩
                · -- FFFFFFFF
                  refine VC.exit ?_
                  refine outE ?_
                  refine outE ?_
                  refine outBB ?_
                  refine outN ?_
                  refine VC.rs ?_
                  refine VO.mv ?_
                  refine VO.as ?_
                  refine VO.as ?_
                  refine VO.kp [116, 105, 102, 0] [(116, out_m), (105, mone g4 (.cells [Value.int .i64 ((cFollows 0 0 d1).1), Value.int .i64 ((cFollows 0 0 d1).2)].toArray 57 (0, 0))), (102, mone g1 (.cells [Value.int .i64 (d2.1), Value.int .i64 (d2.2.1), Value.int .u8 (d2.2.2.1), Value.int .i64 (d2.2.2.2.1), Value.slice p2_A4 (d2.2.2.2.2.1.length) (p2_c4), Value.int .i64 (d2.2.2.2.2.2.1), Value.int .i64 (d2.2.2.2.2.2.2.1), Value.slice p2_A7 (d2.2.2.2.2.2.2.2.length) (p2_c7)].toArray 72 (0, 0))), (0, wm W)] ?_
                  refine VO.k18 0 1 2 5 6 7 8 9 16 19 28 33 38 45 51 52 53 54 ?_
                  refine VC.ret ?_
                  refine ⟨_, _, res_run (rs := [.tmp 6, .tmp 7]) rfl (.tmp rfl (.tmp rfl .nil)), fun W_ hI => out_of (l := [out_m]) hI [116] rfl rfl (mle_refl _) (fun hS_ => ?_)⟩
                  dsimp only [packV]
                  have he0 : ((takeOf d0 d1 d2).1 : Ty.Den (.sl TCommit)) = out := by first | rfl | (exact fin0_take_ok)
                  refine ⟨Value.slice out_A (out.length) (out_c), ?_, ?_⟩
                  rotate_left
                  · rw [he0]; exact (Ow.up h_out (hS_.1 _ (.head _)))
                  all_goals (first | rfl | (exact fin1_take_ok))
theorem fin0_known_ok {P : Prop} (h : P := by first | (rw [known_check ‹_›] <;> rfl) | (rw [known_stale ‹¬ ¬ _› (by omega)] <;> rfl) | (rw [known_later ‹¬ ¬ _› (by omega) (by omega)] <;> rfl) | (rw [known_yes ‹¬ ¬ _› (by omega) (by omega) (by omega)] <;> rfl) | (rw [known_no ‹¬ ¬ _› (by omega) (by omega) (by omega)] <;> rfl)) : P := h
theorem known_ok (W : World) (d0 : Int) (h0 : inK .i64 d0) (d1 : Int) (h1 : inK .i64 d1) {v2 : List Value} {d2 : DMessage} (h2 : Rd TMessage (wm W) v2 d2) : CallR Try.prog 80 [.int .i64 d0, .int .i64 d1, .agg v2.toArray] W (mnil) (fun v m' => v = .tuple #[.int .i64 ((knownOf d0 d1 d2).1), .bool (decide ((knownOf d0 d1 d2).2.1 = true)), .int .i64 ((knownOf d0 d1 d2).2.2)]) := by
  have h0' := h0; simp only [inK] at h0'
  have h1' := h1; simp only [inK] at h1'
  obtain ⟨p2_A4, p2_c4, p2_A7, p2_c7, rfl, p2_0, p2_1, p2_2, p2_3, p2_4, p2_5, p2_6, p2_7⟩ := open_Message (x0 := d2.1) (x1 := d2.2.1) (x2 := d2.2.2.1) (x3 := d2.2.2.2.1) (x4 := d2.2.2.2.2.1) (x5 := d2.2.2.2.2.2.1) (x6 := d2.2.2.2.2.2.2.1) (x7 := d2.2.2.2.2.2.2.2) h2
  simp only [inK] at p2_0
  simp only [inK] at p2_1
  simp only [inK] at p2_2
  simp only [inK] at p2_3
  have p2_r4 := Rd.room p2_4
  simp only [inK] at p2_5
  simp only [inK] at p2_6
  have p2_r7 := Rd.room p2_7
  refine CallR.ofA (n := 43) Try.func80 rfl rfl rfl ?_
  refine VC.rs ?_
  refine VO.box (cs := [Value.int .i64 (d2.1), Value.int .i64 (d2.2.1), Value.int .u8 (d2.2.2.1), Value.int .i64 (d2.2.2.2.1), Value.slice p2_A4 (d2.2.2.2.2.1.length) (p2_c4), Value.int .i64 (d2.2.2.2.2.2.1), Value.int .i64 (d2.2.2.2.2.2.2.1), Value.slice p2_A7 (d2.2.2.2.2.2.2.2.length) (p2_c7)]) 102 rfl rfl rfl (fun g1 => ?_)
  refine VO.as ?_
  refine VO.as ?_
  refine VO.as ?_
  refine VO.k7 0 1 2 5 6 7 8 ?_
  refine VC.seq ?_
  refine VC.block ?_
  refine VC.rs ?_
  refine VO.y rfl (.ldA 102 rfl tk72 rfl (cellsAt_one rfl rfl)) ?_
  refine VO.callN 103 rfl fnOk87 rfl (fun W hW => lCheck_ok W (Rd.mono h2 (hW.at (i := 0) rfl))) (fun v3 m3 hv3 => ?_)
  subst hv3
  have hfa4 := lCheck_range d2
  refine VO.y rfl (.neq rfl rfl) ?_
  refine VO.as ?_
  refine VO.k8 0 1 2 5 6 7 8 9 ?_
  refine VC.cond rfl (fun hc5 => ?_) (fun hc5 => ?_)
  · -- T
    refine VC.rs ?_
    refine VO.as ?_
    refine VO.as ?_
    refine VO.as ?_
    refine VO.kp [102, 0] [(102, mone g1 (.cells [Value.int .i64 (d2.1), Value.int .i64 (d2.2.1), Value.int .u8 (d2.2.2.1), Value.int .i64 (d2.2.2.2.1), Value.slice p2_A4 (d2.2.2.2.2.1.length) (p2_c4), Value.int .i64 (d2.2.2.2.2.2.1), Value.int .i64 (d2.2.2.2.2.2.2.1), Value.slice p2_A7 (d2.2.2.2.2.2.2.2.length) (p2_c7)].toArray 72 (0, 0))), (0, wm W)] ?_
    refine VO.k8 0 1 2 5 6 7 8 9 ?_
    refine VC.ret ?_
    refine outBR ?_
    refine outR ?_
    refine ⟨_, _, res_run (rs := [.tmp 6, .tmp 7, .tmp 8]) rfl (.tmp rfl (.tmp rfl (.tmp rfl .nil))), fun W_ hI => out_of (l := []) hI [] rfl rfl (mle_refl _) (fun hS_ => ?_)⟩
    dsimp only [packV]
    all_goals (first | rfl | (exact fin0_known_ok))
  · -- F
    refine VC.rs ?_
    refine VO.y rfl (.fa rfl tst72 rfl) ?_
    refine VO.y rfl (.ld1 102 rfl tk3 rfl (cellsAt_one rfl rfl)) ?_
    refine VO.mv ?_
    refine VO.y rfl (.lss rfl rfl) ?_
    refine VO.as ?_
    refine VO.kp [102, 0] [(102, mone g1 (.cells [Value.int .i64 (d2.1), Value.int .i64 (d2.2.1), Value.int .u8 (d2.2.2.1), Value.int .i64 (d2.2.2.2.1), Value.slice p2_A4 (d2.2.2.2.2.1.length) (p2_c4), Value.int .i64 (d2.2.2.2.2.2.1), Value.int .i64 (d2.2.2.2.2.2.2.1), Value.slice p2_A7 (d2.2.2.2.2.2.2.2.length) (p2_c7)].toArray 72 (0, 0))), (0, wm W)] ?_
    refine VO.k9 0 1 2 5 6 7 8 9 13 ?_
    refine VC.cond rfl (fun hc6 => ?_) (fun hc6 => ?_)
    · -- FT
      refine VC.rs ?_
      refine VO.as ?_
      refine VO.as ?_
      refine VO.as ?_
      refine VO.k9 0 1 2 5 6 7 8 9 13 ?_
      refine VC.ret ?_
      refine outBR ?_
      refine outR ?_
      refine ⟨_, _, res_run (rs := [.tmp 6, .tmp 7, .tmp 8]) rfl (.tmp rfl (.tmp rfl (.tmp rfl .nil))), fun W_ hI => out_of (l := []) hI [] rfl rfl (mle_refl _) (fun hS_ => ?_)⟩
      dsimp only [packV]
      all_goals (first | rfl | (exact fin0_known_ok))
    · -- FF
      refine VC.rs ?_
      refine VO.y rfl (.fa rfl tst72 rfl) ?_
      refine VO.y rfl (.ld1 102 rfl tk3 rfl (cellsAt_one rfl rfl)) ?_
      refine VO.mv ?_
      refine VO.y rfl (.gtr rfl rfl) ?_
      refine VO.as ?_
      refine VO.k10 0 1 2 5 6 7 8 9 13 18 ?_
      refine VC.cond rfl (fun hc7 => ?_) (fun hc7 => ?_)
      · -- FFT
        refine VC.rs ?_
        refine VO.as ?_
        refine VO.as ?_
        refine VO.as ?_
        refine VO.k10 0 1 2 5 6 7 8 9 13 18 ?_
        refine VC.ret ?_
        refine outBR ?_
        refine outR ?_
        refine ⟨_, _, res_run (rs := [.tmp 6, .tmp 7, .tmp 8]) rfl (.tmp rfl (.tmp rfl (.tmp rfl .nil))), fun W_ hI => out_of (l := []) hI [] rfl rfl (mle_refl _) (fun hS_ => ?_)⟩
        dsimp only [packV]
        all_goals (first | rfl | (exact fin0_known_ok))
      · -- FFF
        refine VC.skip ?_
        refine outBN ?_
        refine outN ?_
        refine VC.rs ?_
        refine VO.mv ?_
        refine VO.y rfl (.maxM rfl rfl) ?_
        refine VO.as ?_
        refine VO.k10 0 1 2 5 6 7 8 9 13 18 ?_
        refine VC.seq ?_
        refine VC.rs ?_
        refine VO.y rfl (.fa rfl tst72 rfl) ?_
        refine VO.y rfl (.ld1 102 rfl tk3 rfl (cellsAt_one rfl rfl)) ?_
        refine VO.y rfl (.eql rfl rfl) ?_
        refine VO.mv ?_
        refine VO.dec (t := 28) rfl (fun hc8 => ?_) (fun hc8 => ?_)
        · -- FFFT
          refine VO.gN ?_
          refine VO.gN ?_
          refine VO.gN ?_
          refine VO.gN ?_
          refine VO.gn rfl (.inr ⟨_, rfl, rfl⟩) ?_
          refine VO.gn rfl (.inr ⟨_, rfl, rfl⟩) ?_
          refine VO.gn rfl (.inr ⟨_, rfl, rfl⟩) ?_
          refine VO.gN ?_
          refine VO.y rfl (.pT rfl rfl) ?_
          refine VO.kp [102, 0] [(102, mone g1 (.cells [Value.int .i64 (d2.1), Value.int .i64 (d2.2.1), Value.int .u8 (d2.2.2.1), Value.int .i64 (d2.2.2.2.1), Value.slice p2_A4 (d2.2.2.2.2.1.length) (p2_c4), Value.int .i64 (d2.2.2.2.2.2.1), Value.int .i64 (d2.2.2.2.2.2.2.1), Value.slice p2_A7 (d2.2.2.2.2.2.2.2.length) (p2_c7)].toArray 72 (0, 0))), (0, wm W)] ?_
          refine VO.k11 0 1 2 5 6 7 8 9 13 18 37 ?_
          refine VC.condT rfl ?_
          refine VC.rs ?_
          refine VO.mv ?_
          refine VO.y rfl (.fa rfl tst72 rfl) ?_
          refine VO.y rfl (.ld1 102 rfl tk3 rfl (cellsAt_one rfl rfl)) ?_
          refine VO.y rfl (.maxM rfl rfl) ?_
          refine VO.as ?_
          refine VO.as ?_
          refine VO.as ?_
          refine VO.k11 0 1 2 5 6 7 8 9 13 18 37 ?_
          refine VC.ret ?_
          refine outR ?_
          refine ⟨_, _, res_run (rs := [.tmp 6, .tmp 7, .tmp 8]) rfl (.tmp rfl (.tmp rfl (.tmp rfl .nil))), fun W_ hI => out_of (l := []) hI [] rfl rfl (mle_refl _) (fun hS_ => ?_)⟩
          dsimp only [packV]
          all_goals (first | rfl | (exact fin0_known_ok))
        · -- FFFF
          refine VO.gy rfl ⟨_, rfl, rfl⟩ (.fa rfl tst72 rfl) ?_
          refine VO.gy rfl ⟨_, rfl, rfl⟩ (.ld1 102 rfl tk3 rfl (cellsAt_one rfl rfl)) ?_
          refine VO.gy rfl ⟨_, rfl, rfl⟩ (.eql rfl rfl) ?_
          refine VO.gy rfl ⟨_, rfl, rfl⟩ (.mv rfl) ?_
          refine VO.dec (t := 32) rfl (fun hc9 => ?_) (fun hc9 => ?_)
          · -- FFFFT
            refine VO.gy rfl ⟨_, rfl, rfl⟩ (.fa rfl tst72 rfl) ?_
            refine VO.gy rfl ⟨_, rfl, rfl⟩ (.ld1 102 rfl tk69 rfl (cellsAt_one rfl rfl)) ?_
            refine VO.gy rfl ⟨_, rfl, rfl⟩ (.eql rfl rfl) ?_
            refine VO.gy rfl ⟨_, rfl, rfl⟩ (.pT rfl rfl) ?_
            refine VO.y rfl (.pF rfl rfl) ?_
            refine VO.kp [102, 0] [(102, mone g1 (.cells [Value.int .i64 (d2.1), Value.int .i64 (d2.2.1), Value.int .u8 (d2.2.2.1), Value.int .i64 (d2.2.2.2.1), Value.slice p2_A4 (d2.2.2.2.2.1.length) (p2_c4), Value.int .i64 (d2.2.2.2.2.2.1), Value.int .i64 (d2.2.2.2.2.2.2.1), Value.slice p2_A7 (d2.2.2.2.2.2.2.2.length) (p2_c7)].toArray 72 (0, 0))), (0, wm W)] ?_
            refine VO.k11 0 1 2 5 6 7 8 9 13 18 37 ?_
            refine VC.cond rfl (fun hc10 => ?_) (fun hc10 => ?_)
            · -- FFFFTT
              refine VC.rs ?_
              refine VO.mv ?_
              refine VO.y rfl (.fa rfl tst72 rfl) ?_
              refine VO.y rfl (.ld1 102 rfl tk3 rfl (cellsAt_one rfl rfl)) ?_
              refine VO.y rfl (.maxM rfl rfl) ?_
              refine VO.as ?_
              refine VO.as ?_
              refine VO.as ?_
              refine VO.k11 0 1 2 5 6 7 8 9 13 18 37 ?_
              refine VC.ret ?_
              refine outR ?_
              refine ⟨_, _, res_run (rs := [.tmp 6, .tmp 7, .tmp 8]) rfl (.tmp rfl (.tmp rfl (.tmp rfl .nil))), fun W_ hI => out_of (l := []) hI [] rfl rfl (mle_refl _) (fun hS_ => ?_)⟩
              dsimp only [packV]
              all_goals (first | rfl | (exact fin0_known_ok))
            · -- FFFFTF
              refine VC.skip ?_
              refine outN ?_
              refine VC.rs ?_
              refine VO.mv ?_
              refine VO.as ?_
              refine VO.as ?_
              refine VO.as ?_
              refine VO.k11 0 1 2 5 6 7 8 9 13 18 37 ?_
              refine VC.ret ?_
              refine ⟨_, _, res_run (rs := [.tmp 6, .tmp 7, .tmp 8]) rfl (.tmp rfl (.tmp rfl (.tmp rfl .nil))), fun W_ hI => out_of (l := []) hI [] rfl rfl (mle_refl _) (fun hS_ => ?_)⟩
              dsimp only [packV]
              all_goals (first | rfl | (exact fin0_known_ok))
          · -- FFFFF
            refine VO.gN ?_
            refine VO.gN ?_
            refine VO.gN ?_
            refine VO.gy rfl ⟨_, rfl, rfl⟩ (.pF rfl rfl) ?_
            refine VO.y rfl (.pF rfl rfl) ?_
            refine VO.kp [102, 0] [(102, mone g1 (.cells [Value.int .i64 (d2.1), Value.int .i64 (d2.2.1), Value.int .u8 (d2.2.2.1), Value.int .i64 (d2.2.2.2.1), Value.slice p2_A4 (d2.2.2.2.2.1.length) (p2_c4), Value.int .i64 (d2.2.2.2.2.2.1), Value.int .i64 (d2.2.2.2.2.2.2.1), Value.slice p2_A7 (d2.2.2.2.2.2.2.2.length) (p2_c7)].toArray 72 (0, 0))), (0, wm W)] ?_
            refine VO.k11 0 1 2 5 6 7 8 9 13 18 37 ?_
            refine VC.condF rfl ?_
            refine VC.skip ?_
            refine outN ?_
            refine VC.rs ?_
            refine VO.mv ?_
            refine VO.as ?_
            refine VO.as ?_
            refine VO.as ?_
            refine VO.k11 0 1 2 5 6 7 8 9 13 18 37 ?_
            refine VC.ret ?_
            refine ⟨_, _, res_run (rs := [.tmp 6, .tmp 7, .tmp 8]) rfl (.tmp rfl (.tmp rfl (.tmp rfl .nil))), fun W_ hI => out_of (l := []) hI [] rfl rfl (mle_refl _) (fun hS_ => ?_)⟩
            dsimp only [packV]
            all_goals (first | rfl | (exact fin0_known_ok))
theorem fin0_lives18_ok {P : Prop} (h : P := by first | omega | (simp only [List.length_append, List.length_nil, List.length_cons, List.length_take, List.length_drop] at *; omega) | (have : exC.length = 6 := rfl; omega) | decide) : P := h
theorem lives18_ok (W : World) : CallR Try.prog 81 [] W (mnil) (fun v m' => v = .bool true) := by
  refine CallR.ofA (n := 20) Try.func81 rfl rfl rfl ?_
  refine VC.rs ?_
  refine VO.as ?_
  refine VO.k1 0 ?_
  refine VC.rs ?_
  refine VO.bsl (cs := [Value.int .i64 (1), Value.int .i64 (1), Value.int .i64 (3)]) 102 rfl rfl tsl96 tz3 rfl rfl (fun g1 => ?_)
  have ho4 : OwnL (.int .i64) (mone g1 (.cells [Value.int .i64 (1), Value.int .i64 (1), Value.int .i64 (3)].toArray 3 (0, 0))) mnil (Value.slice (some ⟨g1, 0, none⟩) (3) (3)) [1, 1, 3] := OwnL.lit 3 (All2c.cons (c1 := [Value.int .i64 (1)]) (show Rd (.int .i64) _ [_] _ from ⟨rfl, by simp only [inK]; (exact fin0_lives18_ok)⟩) (All2c.cons (c1 := [Value.int .i64 (1)]) (show Rd (.int .i64) _ [_] _ from ⟨rfl, by simp only [inK]; (exact fin0_lives18_ok)⟩) (All2c.cons (c1 := [Value.int .i64 (3)]) (show Rd (.int .i64) _ [_] _ from ⟨rfl, by simp only [inK]; (exact fin0_lives18_ok)⟩) All2c.nil))) rfl rfl
  refine VO.callN 103 rfl fnOk77 rfl (fun W hW => log18_ok W 1 (by simp only [inK]; (exact fin0_lives18_ok)) (OwnL.rd ho4 (hW.at (i := 102) rfl) (mle_nil _)) (by exact fin0_lives18_ok) (by first | decide | omega | (simp; done))) (fun v3 m3 hv3 => ?_)
  obtain ⟨s3_0, rfl, f3_0⟩ := hv3
  obtain ⟨A3_0, c3_0, eq3_0, l3_0, k3_0⟩ := f3_0.slice
  subst eq3_0
  simp only [maxLen] at k3_0
  refine VO.bsl (cs := [Value.int .i64 (3), Value.int .i64 (3)]) 106 rfl rfl tsl96 tz3 rfl rfl (fun g5 => ?_)
  have ho8 : OwnL (.int .i64) (mone g5 (.cells [Value.int .i64 (3), Value.int .i64 (3)].toArray 3 (0, 0))) mnil (Value.slice (some ⟨g5, 0, none⟩) (2) (2)) [3, 3] := OwnL.lit 2 (All2c.cons (c1 := [Value.int .i64 (3)]) (show Rd (.int .i64) _ [_] _ from ⟨rfl, by simp only [inK]; (exact fin0_lives18_ok)⟩) (All2c.cons (c1 := [Value.int .i64 (3)]) (show Rd (.int .i64) _ [_] _ from ⟨rfl, by simp only [inK]; (exact fin0_lives18_ok)⟩) All2c.nil)) rfl rfl
  refine VO.callN 107 rfl fnOk77 rfl (fun W hW => log18_ok W 3 (by simp only [inK]; (exact fin0_lives18_ok)) (OwnL.rd ho8 (hW.at (i := 106) rfl) (mle_nil _)) (by exact fin0_lives18_ok) (by first | decide | omega | (simp; done))) (fun v7 m7 hv7 => ?_)
  obtain ⟨s7_0, rfl, f7_0⟩ := hv7
  obtain ⟨A7_0, c7_0, eq7_0, l7_0, k7_0⟩ := f7_0.slice
  subst eq7_0
  simp only [maxLen] at k7_0
  refine VO.callN 109 rfl fnOk79 rfl (fun W hW => shipped_ok W 3 (by simp only [inK]; (exact fin0_lives18_ok)) 3 (by simp only [inK]; (exact fin0_lives18_ok)) 1 (by simp only [inK]; (exact fin0_lives18_ok)) (Ow.rd f7_0 (hW.at (i := 107) rfl))) (fun v9 m9 hv9 => ?_)
  subst hv9
  refine VO.callN 110 rfl fnOk78 rfl (fun W hW => take_ok W 3 (by simp only [inK]; (exact fin0_lives18_ok)) (Ow.rd f3_0 (hW.at (i := 103) rfl)) (mk_Message (m := wm W) 2 3 0 0 [] 3 1 (logC 3 ([3, 3])) (by simp only [inK]; (exact fin0_lives18_ok)) (by simp only [inK]; (exact fin0_lives18_ok)) (by simp only [inK]; (exact fin0_lives18_ok)) (by simp only [inK]; (exact fin0_lives18_ok)) (Rd.nil _ _ none 0 (Nat.zero_le _)) (by simp only [inK]; (exact fin0_lives18_ok)) (by simp only [inK]; (exact fin0_lives18_ok)) (Ow.rd f7_0 (hW.at (i := 107) rfl)))) (fun v10 m10 hv10 => ?_)
  try dsimp only at hv10
  obtain ⟨s10_0, rfl, f10_0⟩ := hv10
  obtain ⟨A10_0, c10_0, eq10_0, l10_0, k10_0⟩ := f10_0.slice
  subst eq10_0
  simp only [maxLen] at k10_0
  refine VO.mv ?_
  refine VO.y rfl (.ext rfl rfl) ?_
  refine VO.y rfl (.ext rfl rfl) ?_
  refine VO.as ?_
  refine VO.as ?_
  refine VO.k3 0 1 2 ?_
  refine VC.rs ?_
  refine VO.mv ?_
  refine VO.y rfl (.eql rfl rfl) ?_
  refine VO.mv ?_
  refine VO.dec (t := 14) rfl (fun hc11 => ?_) (fun hc11 => ?_)
  · -- T
    refine VO.gy rfl ⟨_, rfl, rfl⟩ (.mv rfl) ?_
    refine VO.gbsl (cs := [Value.int .i64 (3)]) 113 rfl ⟨_, rfl, rfl⟩ rfl tsl96 tz3 rfl rfl (fun g12 => ?_)
    have ho15 : OwnL (.int .i64) (mone g12 (.cells [Value.int .i64 (3)].toArray 3 (0, 0))) mnil (Value.slice (some ⟨g12, 0, none⟩) (1) (1)) [3] := OwnL.lit 1 (All2c.cons (c1 := [Value.int .i64 (3)]) (show Rd (.int .i64) _ [_] _ from ⟨rfl, by simp only [inK]; (exact fin0_lives18_ok)⟩) All2c.nil) rfl rfl
    refine VO.gcallN 114 rfl ⟨_, rfl, rfl⟩ fnOk77 rfl (fun W hW => log18_ok W 4 (by simp only [inK]; (exact fin0_lives18_ok)) (OwnL.rd ho15 (hW.at (i := 113) rfl) (mle_nil _)) (by exact fin0_lives18_ok) (by first | decide | omega | (simp; done))) (fun v14 m14 hv14 => ?_)
    obtain ⟨s14_0, rfl, f14_0⟩ := hv14
    obtain ⟨A14_0, c14_0, eq14_0, l14_0, k14_0⟩ := f14_0.slice
    subst eq14_0
    simp only [maxLen] at k14_0
    refine VO.gcallN 116 rfl ⟨_, rfl, rfl⟩ fnOk69 rfl (fun W hW => SameCommits_ok W (Ow.rd f10_0 (hW.at (i := 110) rfl)) (Ow.rd f14_0 (hW.at (i := 114) rfl))) (fun v16 m16 hv16 => ?_)
    subst hv16
    refine VO.y rfl (.pT rfl rfl) ?_
    refine VO.as ?_
    refine VO.kp [110, 0] [(110, m10), (0, wm W)] ?_
    refine VO.k3 0 1 2 ?_
    refine VC.ret ?_
    refine ⟨_, _, res_run (rs := [.tmp 0]) rfl (.tmp rfl .nil), fun W_ hI => out_of (l := []) hI [] rfl rfl (mle_refl _) (fun hS_ => ?_)⟩
    dsimp only [packV]
    all_goals (first | rfl | (exact congrArg Value.bool (decide_eq_true (by first | rfl | decide))))
  · -- F
    exact absurd (by first | rfl | decide) hc11
end
section
set_option linter.unusedVariables false
set_option linter.unusedSimpArgs false
set_option maxRecDepth 4000
theorem small18_ok (W : World) {v0 : Value} {d0 : List DCommit} (h0 : Rd (.sl TCommit) (wm W) [v0] d0) : CallR Try.prog 82 [v0] W (mnil) (fun v m' => v = .bool (decide ((∀ c ∈ d0, c.2.2.length ≤ 40) ∧ d0.length ≤ 40))) := by
  obtain ⟨A0, c0, rfl, l0, k0⟩ := h0.slice
  simp only [maxLen] at k0
  refine CallR.ofA (n := 20) Try.func82 rfl rfl rfl ?_
  refine VC.rs ?_
  refine VO.as ?_
  refine VO.k2 0 2 ?_
  refine VC.seq ?_
  refine VC.rs ?_
  refine VO.as ?_
  refine VO.k3 0 2 3 ?_
  refine VC.block ?_
  refine VC.loop (G := Nat) (fun k => [(3, Value.int .i64 (((k : Nat) : Int))), (0, Value.slice A0 (d0.length) (c0))]) (fun k => [(0, wm W)]) (fun k => (k ≤ d0.length) ∧ (∀ c ∈ d0.take k, c.2.2.length ≤ 40)) (fun k => d0.length - k) 0 (⟨by omega, by simp⟩) ⟨⟨rfl, rfl, trivial⟩, fun _ h => h.sub [0]⟩ ?_
  rintro k ⟨hk, ha⟩
  refine VC.seq ?_
  refine VC.rs ?_
  refine VO.mv ?_
  refine VO.mv ?_
  refine VO.y rfl (.lenS rfl tsl61) ?_
  refine VO.y rfl (.lss rfl rfl) ?_
  refine VO.kp [0] [(0, wm W)] ?_
  refine VO.k3 0 3 7 ?_
  refine VC.cond rfl (fun hc1 => ?_) (fun hc1 => ?_)
  · -- T
    refine VC.skip ?_
    refine outN ?_
    refine VC.seq ?_
    refine VC.block ?_
    refine VC.rs ?_
    refine VO.mv ?_
    refine VO.mv ?_
    obtain ⟨x2, hx2⟩ : ∃ z_, (d0)[k]? = some z_ := ⟨_, List.getElem?_eq_getElem bd⟩
    obtain ⟨gg2, oo2, ec2, ea2, hce2, hre2⟩ := h0.elem hx2
    cases ea2
    obtain ⟨q2_A2, q2_c2, rfl, q2_0, q2_1, q2_2⟩ := open_Commit (x0 := x2.1) (x1 := x2.2.1) (x2 := x2.2.2) hre2
    simp only [inK] at q2_0
    simp only [inK] at q2_1
    have q2_r2 := Rd.room q2_2
    refine VO.y rfl (.ixI k rfl rfl tsl61 rfl bd) ?_
    refine VO.y rfl (.fa rfl tst52 rfl) ?_
    refine VO.y rfl (.ld1 0 rfl tk22 rfl (hce2.at1 (j := 2) rfl)) ?_
    refine VO.y rfl (.lenS rfl tsl22) ?_
    refine VO.y rfl (.gtr rfl rfl) ?_
    refine VO.k4 0 3 7 16 ?_
    refine VC.cond rfl (fun hc3 => ?_) (fun hc3 => ?_)
    · -- TT
      refine VC.rs ?_
      refine VO.as ?_
      refine VO.k5 0 2 3 7 16 ?_
      refine VC.ret ?_
      refine outBR ?_
      refine outR ?_
      refine outR ?_
      refine outBR ?_
      refine outR ?_
      refine ⟨_, _, res_run (rs := [.tmp 2]) rfl (.tmp rfl .nil), fun W_ hI => out_of (l := []) hI [] rfl rfl (mle_refl _) (fun hS_ => ?_)⟩
      dsimp only [packV]
      all_goals (first | rfl | (first | exact congrArg Value.bool (decide_eq_false (fun e => by have := e.1 _ (List.mem_of_getElem? ‹d0[k]? = some _›); omega)).symm | exact congrArg Value.bool (decide_eq_decide.2 (by have ha2 := ha; rw [List.take_of_length_le (by omega)] at ha2; exact ⟨fun h => ⟨ha2, by omega⟩, fun h => by omega⟩))))
    · -- TF
      refine VC.skip ?_
      refine outBN ?_
      refine outN ?_
      refine VC.reg ?_
      refine VO.mv ?_
      refine VO.y rfl (.add (c := ((k + 1 : Nat) : Int)) rfl rfl (by omega) ⟨bd, bd⟩) ?_
      refine VO.as ?_
      refine VO.k4 0 3 7 16 ?_
      exact outN ⟨k + 1, ⟨by omega, by exact all_next ha ‹d0[k]? = some _› (by omega)⟩, bd, ⟨⟨rfl, rfl, trivial⟩, fun _ h => Inv.sub h [0]⟩⟩
  · -- F
    refine VC.exit ?_
    refine outE ?_
    refine outE ?_
    refine outBB ?_
    refine outN ?_
    refine VC.rs ?_
    refine VO.mv ?_
    refine VO.y rfl (.lenS rfl tsl61) ?_
    refine VO.y rfl (.leq rfl rfl) ?_
    refine VO.as ?_
    refine VO.k4 0 2 3 7 ?_
    refine VC.ret ?_
    refine ⟨_, _, res_run (rs := [.tmp 2]) rfl (.tmp rfl .nil), fun W_ hI => out_of (l := []) hI [] rfl rfl (mle_refl _) (fun hS_ => ?_)⟩
    dsimp only [packV]
    all_goals (first | rfl | (first | exact congrArg Value.bool (decide_eq_false (fun e => by have := e.1 _ (List.mem_of_getElem? ‹d0[k]? = some _›); omega)).symm | exact congrArg Value.bool (decide_eq_decide.2 (by have ha2 := ha; rw [List.take_of_length_le (by omega)] at ha2; exact ⟨fun h => ⟨ha2, by omega⟩, fun h => by omega⟩))))
end
section
set_option linter.unusedVariables false
theorem follows_cons {e n i : Int} {c : DCommit} {r : List DCommit} (h : (cFollowsAt e n i (c :: r)).1 = 0) : cCheck c = 0 ∧ c.2.1 = n + 1 ∧ e ≤ c.1 ∧ (cFollowsAt c.1 c.2.1 (i + 1) r).1 = 0 := by
  unfold cFollowsAt at h
  split at h
  · exact absurd h (by assumption)
  · rename_i h1
    split at h
    · cases h
    · exact ⟨Decidable.not_not.1 h1, by omega, by omega, h⟩
end
section
set_option linter.unusedVariables false
theorem follows_zero : ∀ {l : List DCommit} {e n i : Int}, (cFollowsAt e n i l).1 = 0 → cFollowsAt e n i l = (0, 0)
  | [], _, _, _, _ => rfl
  | c :: r, e, n, i, h => by
    obtain ⟨h1, h2, h3, h4⟩ := follows_cons h
    unfold cFollowsAt
    rw [if_neg (by omega), if_neg (by omega)]
    exact follows_zero h4
theorem keep_all : ∀ {cs : List DCommit} {e p i q : Int}, (cFollowsAt e p i cs).1 = 0 → q ≤ p → cs.filter (fun c => decide (q < c.2.1)) = cs
  | [], _, _, _, _, _, _ => rfl
  | c :: r, e, p, i, q, h, hq => by
    obtain ⟨h1, h2, h3, h4⟩ := follows_cons h
    rw [List.filter_cons, if_pos (decide_eq_true (by omega)), keep_all h4 (by omega)]
theorem keep_drop : ∀ {cs : List DCommit} {e p i q : Int}, (cFollowsAt e p i cs).1 = 0 → p ≤ q → cs.filter (fun c => decide (q < c.2.1)) = cs.drop (q - p).toNat
  | [], _, _, _, _, _, _ => by simp
  | c :: r, e, p, i, q, h, hq => by
    by_cases hpq : p = q
    · subst hpq
      rw [keep_all h (Int.le_refl _)]
      simp
    · obtain ⟨h1, h2, h3, h4⟩ := follows_cons h
      rw [List.filter_cons, if_neg (by simp; omega), keep_drop h4 (by omega), show (q - p).toNat = (q - c.2.1).toNat + 1 by omega, List.drop_succ_cons]
theorem take_facts {e : Int} {l : List DCommit} {m : DMessage} (h : (takeOf e l m).2 = 0) : (cFollows 0 0 l).1 = 0 ∧ lCheck m = 0 ∧ m.1 = 2 ∧ m.2.1 = e ∧ m.2.2.2.2.2.1 - 1 ≤ (l.length : Int) ∧ fitsM l m ∧ (takeOf e l m).1 = m.2.2.2.2.2.2.2.drop ((l.length : Int) - (m.2.2.2.2.2.1 - 1)).toNat := by
  unfold takeOf at h ⊢
  split at h
  · exact absurd h (by assumption)
  · rename_i h1
    split at h
    · cases h
    · rename_i h2
      split at h
      · cases h
      · rename_i h3
        split at h
        · cases h
        · rename_i h4
          split at h
          · cases h
          · rename_i h5
            split at h
            · cases h
            · rename_i h6
              have hc : lCheck m = 0 := by omega
              have hk : m.1 = 2 := by omega
              have hs := lCheck_ship hc hk
              refine ⟨by omega, hc, hk, by omega, by omega, Decidable.not_not.1 h6, ?_⟩
              rw [if_neg h1, if_neg h2, if_neg h3, if_neg h4, if_neg h5, if_neg h6]
              exact keep_drop hs.2.2.2.2.1 (by omega)
theorem take_bad {e : Int} {l : List DCommit} {m : DMessage} (h : ¬ (takeOf e l m).2 = 0) : (takeOf e l m).1 = [] := by
  unfold takeOf at h ⊢
  split at h
  · rename_i h1; rw [if_pos h1]
  · rename_i h1
    rw [if_neg h1]
    split at h
    · rename_i h2; rw [if_pos h2]
    · rename_i h2
      rw [if_neg h2]
      split at h
      · rename_i h3; rw [if_pos h3]
      · rename_i h3
        rw [if_neg h3]
        split at h
        · rename_i h4; rw [if_pos h4]
        · rename_i h4
          rw [if_neg h4]
          split at h
          · rename_i h5; rw [if_pos h5]
          · rename_i h5
            rw [if_neg h5]
            split at h
            · rename_i h6; rw [if_pos h6]
            · exact absurd rfl h
section
variable {e : Int} {l : List DCommit} {m : DMessage}
theorem take_len (h : (takeOf e l m).2 = 0) : ((takeOf e l m).1.length : Int) = max 0 (m.2.2.2.2.2.1 - 1 + m.2.2.2.2.2.2.2.length - l.length) ∧ (takeOf e l m).1.length ≤ 4 := by
  obtain ⟨h1, h2, h3, h4, h5, h6, h7⟩ := take_facts h
  have hs := lCheck_ship h2 h3
  rw [h7, List.length_drop]
  have := hs.1
  have := hs.2.2.2.1
  omega
end
end
section
set_option linter.unusedVariables false
set_option linter.unusedSimpArgs false
set_option maxRecDepth 4000
theorem fnOk110 : fnOk Try.prog 110 = true := by kernel_rfl
theorem fnOk56 : fnOk Try.prog 56 = true := by kernel_rfl
theorem fnOk82 : fnOk Try.prog 82 = true := by kernel_rfl
theorem CopyCommit_ok (W : World) {v0 : List Value} {d0 : DCommit} (h0 : Rd TCommit (wm W) v0 d0) (e0 : d0.2.2.length ≤ 3518437208800) : CallR Try.prog 110 [.agg v0.toArray] W (mnil) (fun v m' => ∃ (s0 : List Value), v = .agg s0.toArray ∧ Ow TCommit m' s0 (d0)) := by
  obtain ⟨p0_A2, p0_c2, rfl, p0_0, p0_1, p0_2⟩ := open_Commit (x0 := d0.1) (x1 := d0.2.1) (x2 := d0.2.2) h0
  simp only [inK] at p0_0
  simp only [inK] at p0_1
  have p0_r2 := Rd.room p0_2
  refine CallR.ofA (n := 11) Try.func110 rfl rfl rfl ?_
  refine VC.rs ?_
  refine VO.box (cs := [Value.int .i64 (d0.1), Value.int .i64 (d0.2.1), Value.slice p0_A2 (d0.2.2.length) (p0_c2)]) 102 rfl rfl rfl (fun g1 => ?_)
  refine VO.alloc 104 rfl tz52 (fun g3 => ?_)
  refine VO.k3 0 1 2 ?_
  refine VC.seq ?_
  refine VC.regD _ 7 [(0, true), (1, true), (2, true), (3, true), (4, true), (5, true), (6, false)] follows (by kernel_rfl) (fun _ h => h.sub [104, 102, 0]) ?_
  refine VD.y rfl rfl (.inl rfl) (.fa rfl tst52 rfl) ?_
  refine VD.y rfl rfl (.inl rfl) (.ld1 102 rfl tk3 rfl (cellsAt_one rfl rfl)) ?_
  refine VD.y rfl rfl (.inl rfl) (.fa rfl tst52 rfl) ?_
  refine VD.y rfl rfl (.inl rfl) (.ld1 102 rfl tk3 rfl (cellsAt_one rfl rfl)) ?_
  refine VD.y rfl rfl (.inl rfl) (.fa rfl tst52 rfl) ?_
  refine VD.y rfl rfl (.inl rfl) (.ld1 102 rfl tk22 rfl (cellsAt_one rfl rfl)) ?_
  refine VD.callN 105 rfl rfl (.inl rfl) fnOk96 rfl (fun _ h => h.sub [104, 102, 0]) (fun W hW => CopyOps_ok W (Rd.mono p0_2 (hW.at (i := 0) rfl)) bd) (fun v5 m5 hv5 => ?_)
  obtain ⟨s5_0, rfl, f5_0⟩ := hv5
  obtain ⟨A5_0, c5_0, eq5_0, l5_0, k5_0⟩ := f5_0.slice
  subst eq5_0
  simp only [maxLen] at k5_0
  refine VD.nil rfl ?_ rfl
  refine VO.y rfl (.bst (cs := [Value.int .i64 (d0.1), Value.int .i64 (d0.2.1), Value.slice A5_0 (d0.2.2.length) (c5_0)]) rfl tst52 tz52 rfl) ?_
  refine VO.store (k := 3) (c' := [Value.int .i64 (d0.1), Value.int .i64 (d0.2.1), Value.slice A5_0 (d0.2.2.length) (c5_0)]) 104 rfl rfl (.inl tk52) rfl rfl rfl rfl rfl ?_
  refine VO.k3 0 1 2 ?_
  refine outN ?_
  refine VC.ret ?_
  refine ⟨_, _, res_run (rs := [.cell 2 52]) rfl (.agg 104 rfl tk52 rfl ⟨_, _, _, mone_self _ _, Nat.le_of_ble_eq_true rfl, rfl⟩ .nil), fun W_ hI => out_of (l := [m5]) hI [105] rfl rfl (mle_refl _) (fun hS_ => ?_)⟩
  dsimp only [packV]
  have he0 : (d0 : Ty.Den TCommit) = d0 := by first | rfl | (simp [*]; done)
  refine ⟨[Value.int .i64 (d0.1), Value.int .i64 (d0.2.1), Value.slice A5_0 (d0.2.2.length) (c5_0)], ?_, ?_⟩
  rotate_left
  · rw [he0]; exact (show Ow TCommit _ _ d0 from (mkO_Commit d0.1 d0.2.1 d0.2.2 hS_ bdk bdk (OwnL.ow (Ow.ownl f5_0 rfl mnil) rfl)))
  all_goals (first | rfl | (simp [*]; done))
theorem fin0_CopyCommits_ok {P : Prop} (h : P := by first | omega | (simp only [List.length_append, List.length_nil, List.length_cons, List.length_take, List.length_drop] at *; omega) | exact e1 _ (List.mem_of_getElem? ‹d0[_]? = some _›)) : P := h
theorem CopyCommits_ok (W : World) {v0 : Value} {d0 : List DCommit} (h0 : Rd (.sl TCommit) (wm W) [v0] d0) (e0 : d0.length ≤ 3518437200000) (e1 : ∀ c ∈ d0, c.2.2.length ≤ 3518437208800) : CallR Try.prog 56 [v0] W (mnil) (fun v m' => ∃ (s0 : Value), v = s0 ∧ Ow (.sl TCommit) m' [s0] (d0)) := by
  obtain ⟨A0, c0, rfl, l0, k0⟩ := h0.slice
  simp only [maxLen] at k0
  refine CallR.ofA (n := 20) Try.func56 rfl rfl rfl ?_
  refine VC.rs ?_
  refine VO.as ?_
  refine VO.k2 0 2 ?_
  refine VC.rs ?_
  refine VO.as ?_
  refine VO.k3 0 2 3 ?_
  refine VC.seq ?_
  refine VC.rs ?_
  refine VO.as ?_
  refine VO.kp [0] [(0, wm W)] ?_
  refine VO.k4 0 2 3 4 ?_
  refine VC.block ?_
  refine VC.inv ((101, mnil) :: _) (fun _ h => h.nilc 101) ?_
  refine VC.loop (G := Nat × (List DCommit) × (Option Addr) × Nat × Mem) (fun g => [(3, Value.slice (g.2.2.1) ((g.2.1).length) ((g.2.2.2.1))), (4, Value.int .i64 ((((g.1) : Nat) : Int))), (0, Value.slice A0 (d0.length) (c0)), (2, Value.slice none (0) (0))]) (fun g => [(101, (g.2.2.2.2)), (0, wm W)]) (fun g => ((g.1) ≤ d0.length) ∧ ((g.2.1) = d0.take (g.1)) ∧ (Ow (.sl TCommit) (g.2.2.2.2) [.slice (g.2.2.1) (g.2.1).length (g.2.2.2.1)] (g.2.1))) (fun g => d0.length - (g.1)) (0, [], none, 0, mnil) (⟨by omega, by rfl, (Ow.nil TCommit mnil)⟩) ⟨⟨rfl, rfl, rfl, rfl, trivial⟩, fun _ h => h.sub [101, 0]⟩ ?_
  rintro ⟨k, out, out_A, out_c, out_m⟩ ⟨hk, ho, h_out⟩
  replace hk : k ≤ d0.length := hk
  replace ho : out = d0.take k := ho
  replace h_out : Ow (.sl TCommit) out_m [.slice out_A out.length out_c] out := h_out
  show VC _ _ _ _ _ [(3, Value.slice out_A (out.length) (out_c)), (4, Value.int .i64 (((k : Nat) : Int))), (0, Value.slice A0 (d0.length) (c0)), (2, Value.slice none (0) (0))] [(101, out_m), (0, wm W)]
  have l_out : out.length ≤ out_c := by obtain ⟨_, _, he, hl, _⟩ := h_out.slice; simp only [Value.slice.injEq] at he; omega
  have k_out : out_c ≤ 9223372036854775807 := by obtain ⟨_, _, he, _, hl⟩ := h_out.slice; simp only [Value.slice.injEq, maxLen] at he hl; omega
  have hlo : out.length ≤ k := by rw [ho]; simp; omega
  refine VC.seq ?_
  refine VC.rs ?_
  refine VO.mv ?_
  refine VO.mv ?_
  refine VO.y rfl (.lenS rfl tsl61) ?_
  refine VO.y rfl (.lss rfl rfl) ?_
  refine VO.k5 0 2 3 4 8 ?_
  refine VC.cond rfl (fun hc2 => ?_) (fun hc2 => ?_)
  · -- T
    refine VC.skip ?_
    refine outN ?_
    refine VC.seq ?_
    refine VC.block ?_
    refine VC.reg ?_
    refine VO.mv ?_
    refine VO.mv ?_
    refine VO.mv ?_
    obtain ⟨x3, hx3⟩ : ∃ z_, (d0)[k]? = some z_ := ⟨_, List.getElem?_eq_getElem (by exact fin0_CopyCommits_ok)⟩
    obtain ⟨gg3, oo3, ec3, ea3, hce3, hre3⟩ := h0.elem hx3
    cases ea3
    obtain ⟨q3_A2, q3_c2, rfl, q3_0, q3_1, q3_2⟩ := open_Commit (x0 := x3.1) (x1 := x3.2.1) (x2 := x3.2.2) hre3
    simp only [inK] at q3_0
    simp only [inK] at q3_1
    have q3_r2 := Rd.room q3_2
    refine VO.y rfl (.ixI k rfl rfl tsl61 rfl (by exact fin0_CopyCommits_ok)) ?_
    refine VO.y rfl (.ldA 0 rfl tk52 rfl hce3) ?_
    refine VO.callN 104 rfl fnOk110 rfl (fun W hW => CopyCommit_ok W (Rd.mono hre3 (hW.at (i := 0) rfl)) (by exact fin0_CopyCommits_ok)) (fun v4 m4 hv4 => ?_)
    obtain ⟨s4_0, rfl, f4_0⟩ := hv4
    obtain ⟨q4_0_A2, q4_0_c2, q4_0_n2, rfl, q4_0_S, q4_0_0, q4_0_1, q4_0_2⟩ := openO_Commit (x0 := x3.1) (x1 := x3.2.1) (x2 := x3.2.2) f4_0
    simp only [inK] at q4_0_0
    simp only [inK] at q4_0_1
    have q4_0_r2 := q4_0_2.rm
    refine VO.inv _ (fun _ h => h.parts (i := 104) rfl q4_0_S [105]) ?_
    refine VO.bsl (cs := [Value.int .i64 (x3.1), Value.int .i64 (x3.2.1), Value.slice q4_0_A2 (x3.2.2.length) (q4_0_c2)]) 107 rfl rfl tsl61 tz52 rfl rfl (fun g6 => ?_)
    refine VO.appO (e := TCommit) 101 105 107 rfl rfl rfl tsl61 tz52 rfl rfl rfl rfl h_out (show Ow TCommit _ _ x3 from (mkO_Commit x3.1 x3.2.1 x3.2.2 (Seps.one (mle_refl _)) (by simp only [inK]; (exact fin0_CopyCommits_ok)) (by simp only [inK]; (exact fin0_CopyCommits_ok)) (OwnL.ow (Ow.ownl q4_0_2 rfl mnil) rfl))) Try.underlying61 (cellsAt_one rfl rfl) (by simp only [maxLen]; (exact fin0_CopyCommits_ok)) (by exact fin0_CopyCommits_ok) (by decide) (fun v8 m8 ho8 => ?_)
    obtain ⟨A8, c8, rfl, l8, k8⟩ := ho8.slice
    simp only [maxLen] at k8
    refine VO.as ?_
    refine VO.k5 0 2 3 4 8 ?_
    refine outBN ?_
    refine outN ?_
    refine VC.reg ?_
    refine VO.mv ?_
    refine VO.y rfl (.add (c := ((k + 1 : Nat) : Int)) rfl rfl (by omega) ⟨by exact fin0_CopyCommits_ok, by exact fin0_CopyCommits_ok⟩) ?_
    refine VO.as ?_
    refine VO.kp [101, 0] [(101, m8), (0, wm W)] ?_
    refine VO.k5 0 2 3 4 8 ?_
    exact outN ⟨⟨k + 1, out ++ [x3], A8, c8, m8⟩, ⟨by omega, by rw [ho]; exact (take_one ‹_›).symm, ho8⟩, by exact fin0_CopyCommits_ok, ⟨⟨rfl, rfl, rfl, rfl, trivial⟩, fun _ h => Inv.sub h [101, 0]⟩⟩
  · -- F
    refine VC.exit ?_
    refine outE ?_
    refine outE ?_
    refine outBB ?_
    refine outN ?_
    refine VC.rs ?_
    refine VO.mv ?_
    refine VO.as ?_
    refine VO.k5 0 2 3 4 8 ?_
    refine VC.ret ?_
    refine ⟨_, _, res_run (rs := [.tmp 2]) rfl (.tmp rfl .nil), fun W_ hI => out_of (l := [out_m]) hI [101] rfl rfl (mle_refl _) (fun hS_ => ?_)⟩
    dsimp only [packV]
    have he0 : (d0 : Ty.Den (.sl TCommit)) = out := by first | rfl | (rw [ho, List.take_of_length_le (by omega)])
    refine ⟨Value.slice out_A (out.length) (out_c), ?_, ?_⟩
    rotate_left
    · rw [he0]; exact (Ow.up h_out (hS_.1 _ (.head _)))
    all_goals (first | rfl | (simp [*]; done))
end
section
set_option linter.unusedVariables false
set_option linter.unusedSimpArgs false
set_option maxRecDepth 4000
theorem fnOk32 : fnOk Try.prog 32 = true := by kernel_rfl
theorem fnOk99 : fnOk Try.prog 99 = true := by kernel_rfl
theorem rbCheck_ok (W : World) {v0 : Value} {d0 : List DOp} (h0 : Rd (.sl TOp) (wm W) [v0] d0) : CallR Try.prog 32 [v0] W (mnil) (fun v m' => v = .int .i64 (batchCheck d0)) := by
  obtain ⟨A0, c0, rfl, l0, k0⟩ := h0.slice
  simp only [maxLen] at k0
  refine CallR.ofA (n := 25) Try.func32 rfl rfl rfl ?_
  refine VC.rs ?_
  refine VO.as ?_
  refine VO.k2 0 2 ?_
  refine VC.seq ?_
  refine VC.rs ?_
  refine VO.mv ?_
  refine VO.y rfl (.lenS rfl tsl22) ?_
  refine VO.y rfl (.eql rfl rfl) ?_
  refine VO.k3 0 2 7 ?_
  refine VC.cond rfl (fun hc1 => ?_) (fun hc1 => ?_)
  · -- T
    refine VC.rs ?_
    refine VO.as ?_
    refine VO.kp [0] [(0, wm W)] ?_
    refine VO.k3 0 2 7 ?_
    refine VC.ret ?_
    refine outR ?_
    refine ⟨_, _, res_run (rs := [.tmp 2]) rfl (.tmp rfl .nil), fun W_ hI => out_of (l := []) hI [] rfl rfl (mle_refl _) (fun hS_ => ?_)⟩
    dsimp only [packV]
    all_goals (first | rfl | (congr 1; first | exact (bcheck_empty ‹_›).symm | exact (bcheck_long ‹_›).symm | exact (bcheck_bad ‹_› ‹_› ‹d0[k]? = some _› ‹_›).symm | exact (bcheck_good ‹¬ (d0.length : Int) = 0› ‹¬ (8 : Int) < d0.length› ha ‹_›).symm))
  · -- F
    refine VC.skip ?_
    refine outN ?_
    refine VC.seq ?_
    refine VC.rs ?_
    refine VO.mv ?_
    refine VO.y rfl (.lenS rfl tsl22) ?_
    refine VO.y rfl (.gtr rfl rfl) ?_
    refine VO.kp [0] [(0, wm W)] ?_
    refine VO.k4 0 2 7 10 ?_
    refine VC.cond rfl (fun hc2 => ?_) (fun hc2 => ?_)
    · -- FT
      refine VC.rs ?_
      refine VO.as ?_
      refine VO.k4 0 2 7 10 ?_
      refine VC.ret ?_
      refine outR ?_
      refine ⟨_, _, res_run (rs := [.tmp 2]) rfl (.tmp rfl .nil), fun W_ hI => out_of (l := []) hI [] rfl rfl (mle_refl _) (fun hS_ => ?_)⟩
      dsimp only [packV]
      all_goals (first | rfl | (congr 1; first | exact (bcheck_empty ‹_›).symm | exact (bcheck_long ‹_›).symm | exact (bcheck_bad ‹_› ‹_› ‹d0[k]? = some _› ‹_›).symm | exact (bcheck_good ‹¬ (d0.length : Int) = 0› ‹¬ (8 : Int) < d0.length› ha ‹_›).symm))
    · -- FF
      refine VC.skip ?_
      refine outN ?_
      refine VC.seq ?_
      refine VC.rs ?_
      refine VO.as ?_
      refine VO.k5 0 2 3 7 10 ?_
      refine VC.block ?_
      refine VC.loop (G := Nat) (fun k => [(3, Value.int .i64 (((k : Nat) : Int))), (0, Value.slice A0 (d0.length) (c0)), (7, Value.bool (decide (((d0.length : Nat) : Int) = 0))), (10, Value.bool (decide (8 < ((d0.length : Nat) : Int))))]) (fun k => [(0, wm W)]) (fun k => (k ≤ d0.length) ∧ (∀ o ∈ d0.take k, opOk o)) (fun k => d0.length - k) 0 (⟨by omega, by simp⟩) ⟨⟨rfl, rfl, rfl, rfl, trivial⟩, fun _ h => h.sub [0]⟩ ?_
      rintro k ⟨hk, ha⟩
      refine VC.seq ?_
      refine VC.rs ?_
      refine VO.mv ?_
      refine VO.mv ?_
      refine VO.y rfl (.lenS rfl tsl22) ?_
      refine VO.y rfl (.lss rfl rfl) ?_
      refine VO.k5 0 3 7 10 14 ?_
      refine VC.cond rfl (fun hc3 => ?_) (fun hc3 => ?_)
      · -- FFT
        refine VC.skip ?_
        refine outN ?_
        refine VC.seq ?_
        refine VC.block ?_
        refine VC.rs ?_
        refine VO.mv ?_
        refine VO.mv ?_
        obtain ⟨x4, hx4⟩ : ∃ z_, (d0)[k]? = some z_ := ⟨_, List.getElem?_eq_getElem bd⟩
        obtain ⟨gg4, oo4, ec4, ea4, hce4, hre4⟩ := h0.elem hx4
        cases ea4
        obtain ⟨rfl, q4_1, q4_2⟩ := open_Op (x0 := x4.1) (x1 := x4.2.1) (x2 := x4.2.2) hre4
        simp only [maxLen] at q4_1
        simp only [maxLen] at q4_2
        refine VO.y rfl (.ixI k rfl rfl tsl22 rfl bd) ?_
        refine VO.y rfl (.ldA 0 rfl tk49 rfl hce4) ?_
        refine VO.callN 105 rfl fnOk99 rfl (fun W hW => refOpCheck_ok W (Rd.mono hre4 (hW.at (i := 0) rfl))) (fun v5 m5 hv5 => ?_)
        subst hv5
        refine VO.as ?_
        refine VO.kp [0] [(0, wm W)] ?_
        refine VO.k6 0 3 4 7 10 14 ?_
        refine VC.rs ?_
        refine VO.mv ?_
        refine VO.y rfl (.neq rfl rfl) ?_
        refine VO.k7 0 3 4 7 10 14 23 ?_
        refine VC.cond rfl (fun hc6 => ?_) (fun hc6 => ?_)
        · -- FFTT
          refine VC.rs ?_
          refine VO.mv ?_
          refine VO.as ?_
          refine VO.k8 0 2 3 4 7 10 14 23 ?_
          refine VC.ret ?_
          refine outBR ?_
          refine outR ?_
          refine outR ?_
          refine outBR ?_
          refine outR ?_
          refine ⟨_, _, res_run (rs := [.tmp 2]) rfl (.tmp rfl .nil), fun W_ hI => out_of (l := []) hI [] rfl rfl (mle_refl _) (fun hS_ => ?_)⟩
          dsimp only [packV]
          all_goals (first | rfl | (congr 1; first | exact (bcheck_empty ‹_›).symm | exact (bcheck_long ‹_›).symm | exact (bcheck_bad ‹_› ‹_› ‹d0[k]? = some _› ‹_›).symm | exact (bcheck_good ‹¬ (d0.length : Int) = 0› ‹¬ (8 : Int) < d0.length› ha ‹_›).symm))
        · -- FFTF
          refine VC.skip ?_
          refine outBN ?_
          refine outN ?_
          refine VC.reg ?_
          refine VO.mv ?_
          refine VO.y rfl (.add (c := ((k + 1 : Nat) : Int)) rfl rfl (by omega) ⟨bd, bd⟩) ?_
          refine VO.as ?_
          refine VO.k7 0 3 4 7 10 14 23 ?_
          exact outN ⟨k + 1, ⟨by omega, by exact all_next ha ‹d0[k]? = some _› (opOk_of (Decidable.not_not.1 ‹¬ ¬ _›))⟩, bd, ⟨⟨rfl, rfl, rfl, rfl, trivial⟩, fun _ h => Inv.sub h [0]⟩⟩
      · -- FFF
        refine VC.exit ?_
        refine outE ?_
        refine outE ?_
        refine outBB ?_
        refine outN ?_
        refine VC.rs ?_
        refine VO.as ?_
        refine VO.kp [0] [(0, wm W)] ?_
        refine VO.k6 0 2 3 7 10 14 ?_
        refine VC.ret ?_
        refine ⟨_, _, res_run (rs := [.tmp 2]) rfl (.tmp rfl .nil), fun W_ hI => out_of (l := []) hI [] rfl rfl (mle_refl _) (fun hS_ => ?_)⟩
        dsimp only [packV]
        all_goals (first | rfl | (congr 1; first | exact (bcheck_empty ‹_›).symm | exact (bcheck_long ‹_›).symm | exact (bcheck_bad ‹_› ‹_› ‹d0[k]? = some _› ‹_›).symm | exact (bcheck_good ‹¬ (d0.length : Int) = 0› ‹¬ (8 : Int) < d0.length› ha ‹_›).symm))
end
section
set_option linter.unusedVariables false
theorem cellsAt.uniq {m : Mem} {g off k : Nat} {a b : List Value} (h : cellsAt m g off k a) (h' : cellsAt m g off k b) : a = b := by
  obtain ⟨c, E, fz, h1, h2, h3⟩ := h
  obtain ⟨c', E', fz', h1', h2', h3'⟩ := h'
  rw [h1] at h1'
  cases h1'
  rw [h3, h3']
theorem OwAll.hole {α : Type} {R : Mem → List Value → α → Prop} {k : Nat} (hk : ∀ m c x, R m c x → c.length = k) : ∀ {xs : List α} {m : Mem} {cs : List Value} {i : Nat} {a : α}, OwAll R m cs xs → xs[i]? = some a →
    ∃ mr me, mdj mr me ∧ mle mr m ∧ mle me m ∧ R me ((cs.drop (i * k)).take k) a ∧ ∀ me' x', mdj mr me' → R me' ((cs.drop (i * k)).take k) x' → OwAll R (mun mr me') cs (xs.set i x')
  | y :: r, m, _, 0, a, ⟨c1, c2, m1, m2, h1, h2, h3, h4, h5, h6⟩, hi => by
    simp at hi; subst hi
    have e : ((c1 ++ c2).drop (0 * k)).take k = c1 := by rw [Nat.zero_mul, List.drop_zero]; exact List.take_left' (hk _ _ _ h5)
    rw [h1, e]
    exact ⟨m2, m1, h2.symm, h4, h3, h5, fun me' x' hd hx => ⟨c1, c2, me', m2, rfl, hd.symm, mle_un_right hd, mle_un_left _ _, hx, h6⟩⟩
  | y :: r, m, _, i + 1, a, ⟨c1, c2, m1, m2, h1, h2, h3, h4, h5, h6⟩, hi => by
    have hi' : r[i]? = some a := by simpa using hi
    obtain ⟨mr, me, d, l1, l2, hR, hb⟩ := OwAll.hole hk h6 hi'
    have d1 : mdj m1 mr := h2.mono (mle_refl _) l1
    have e : ((c1 ++ c2).drop ((i + 1) * k)).take k = (c2.drop (i * k)).take k := by
      rw [show (i + 1) * k = c1.length + i * k by rw [hk _ _ _ h5, Nat.add_mul]; omega, ← List.drop_drop, List.drop_left]
    rw [h1, e]
    refine ⟨mun m1 mr, me, mdj_un (h2.mono (mle_refl _) l2) d, mun_le h3 (l1.trans h4), l2.trans h4, hR, fun me' x' hd hx => ?_⟩
    have d2 := hd.mono (mle_un_left _ _) (mle_refl _)
    have d3 := hd.mono (mle_un_right d1) (mle_refl _)
    exact ⟨c1, c2, m1, mun mr me', rfl, (mdj_un d1.symm d2.symm).symm, (mle_un_left _ _).trans (mle_un_left _ _), mun_le ((mle_un_right d1).trans (mle_un_left _ _)) (mle_un_right hd), h5, hb me' x' d3 hx⟩
/-- An element of a list of one's own is taken out; what is put back goes into its place. -/
theorem Ow.hole {e : Ty} {m : Mem} {g off l c i : Nat} {xs : List e.Den} {a : e.Den} {yc : List Value} (h : Ow (.sl e) m [.slice (some ⟨g, off, none⟩) l c] xs) (hi : xs[i]? = some a) (hc : cellsAt m g (off + i * e.sz) e.sz yc) :
    ∃ mr me, Seps m [mr, me] ∧ Ow e me yc a ∧ ∀ me' x', mdj mr me' → Ow e me' yc x' → Ow (.sl e) (mun mr me') [.slice (some ⟨g, off, none⟩) l c] (xs.set i x') := by
  obtain ⟨m0, m1, rc, hS, hA, hL⟩ := h.opn
  have hlt : i < xs.length := (List.getElem?_eq_some_iff.1 hi).1
  have d01 : mdj m0 m1 := by have := hS.2; simpa using this
  have l0 := hS.1 m0 (.head _)
  have l1 := hS.1 m1 (.tail _ (.head _))
  obtain ⟨g', off', c', hv, hcell⟩ := hA.cells (by omega)
  simp only [Value.slice.injEq, Option.some.injEq, Addr.mk.injEq, and_true] at hv
  obtain ⟨⟨rfl, rfl⟩, hl, rfl⟩ := hv
  have hm2 : i * e.sz + e.sz ≤ xs.length * e.sz := by
    have := Nat.mul_le_mul_right e.sz (Nat.succ_le_of_lt hlt)
    rwa [Nat.succ_mul] at this
  have hyc := ((hcell.sub hm2).mono l0).uniq hc
  obtain ⟨mr, me, d, k1, k2, hR, hb⟩ := OwAll.hole (fun _ _ _ h => h.len) hL hi
  rw [hyc] at hR hb
  have d0r : mdj m0 mr := d01.mono (mle_refl _) k1
  have d0e : mdj m0 me := d01.mono (mle_refl _) k2
  refine ⟨mun m0 mr, me, .two (mdj_un d0e d) (mun_le l0 (k1.trans l1)) (k2.trans l1), hR, fun me' x' hd hx => ?_⟩
  have d2 := hd.mono (mle_un_left _ _) (mle_refl _)
  have d3 := hd.mono (mle_un_right d0r) (mle_refl _)
  refine Ow.cls (m0 := m0) (m1 := mun mr me') (rc := rc) (.two (mdj_un d0r.symm d2.symm).symm ((mle_un_left _ _).trans (mle_un_left _ _)) (mun_le ((mle_un_right d0r).trans (mle_un_left _ _)) (mle_un_right hd))) ?_ (hb me' x' d3 hx)
  rw [List.length_set]; exact hA
theorem Seps.back {e : Ty} {mr me : Mem} {v : Value} {xs : List e.Den} (hS : Seps (muns [mr, me]) [mr, me]) (h : mdj mr me → Ow (.sl e) (mun mr me) [v] xs) : Ow (.sl e) (muns [mr, me]) [v] xs :=
  (h (by simpa using hS.2)).up (mun_le (hS.1 _ (.head _)) (hS.1 _ (.tail _ (.head _))))
section
variable {P : Program} {n : Nat} {w0 : World} {σ : Env} {Ω : Ctx} {ops : Array Oper} {K : Env → Ctx → Prop} {R : Exit → Env → Ctx → Prop}
variable {ty : TypeId} {pos : String} {af : Array Edge} {d : Option Tmp} {gd : Option (Nat × Bool)} {r : List Oper}
theorem appIn_wp {s x : Operand} {t xt e : TypeId} {sz b len cap k : Nat} {A : Option Addr} {xv : Value} {cs xs : List Value} {i : Nat} {m m0 : Mem} {a : Act} {W : World} (he : EnvOk n σ a) (hi : Inv w0 Ω W) (hsv : ev σ s = some (.slice A len cap)) (hxv : ev σ x = some xv) (ht : tsl P t = some (e, sz, b))
    (hm : cget Ω i = some m) (hm0 : mle m0 m) (hown : OwnA sz m0 (.slice A len cap) len cs) (hs : SrcW P W sz xt xv k xs) (h1 : ∀ u ∈ xs, u.oneCell' = true) (hle : len + k ≤ cap)
    {K' : Act → World → Prop} {Q : Exit → Act → World → Prop} (hK : ∀ m' W', OwnA sz m' (.slice A (len + k) cap) (len + k) (cs ++ xs) → Inv w0 (cset Ω i m') W' → K' (a.put d (.slice A (len + k) cap)) W') :
    (⟨d, .call { callee := .builtin .append, args := [s, x].toArray, argTypes := [t, xt].toArray }, ty, pos, af, gd⟩ : Oper).wp P a W K' Q := by
  have hex : ∀ (res : Value) (W' : World), (Builtin.append_ #[t, xt] ty #[.slice A len cap, xv]).run P W = .ok res W' → (execOp a.eval ⟨d, .call { callee := .builtin .append, args := [s, x].toArray, argTypes := [t, xt].toArray }, ty, pos, af, gd⟩).run P W = .ok (.value res) W' := by
    intro res W' h
    simp [execOp, resolve, invoke, builtin, he.eval hsv, he.eval hxv, h]
  cases hown with
  | nil A =>
    have hk : k = 0 := by omega
    subst hk
    have hx : xs = [] := List.eq_nil_of_length_eq_zero (by simpa using hs.len)
    subst hx
    unfold Oper.wp
    rw [hex (.slice A 0 0) W (by rw [append_eq ht hs ty (by omega)]; cases A <;> rfl)]
    exact hK mnil _ (.nil A) (hi.set hm rfl rfl rfl (Nat.le_refl _) (mout_le _ _) (mle_nil _) fun g => .inl rfl)
  | row g off len cap E c h1' h2' h3' =>
    have hg := hi.at hm g _ (hm0 g _ (mone_self _ _))
    have hmul := Nat.mul_le_mul_right sz hle
    have hl2 := hs.len
    obtain ⟨W', hrun, ho, htp, hu, hsz, hfar, hgg⟩ := setCells_heap (P := P) xs W g (off + len * sz) c.toArray E (0, 0) hg (by simp [hl2]; rw [Nat.add_mul] at hmul; omega) (Nat.le_refl _) h1 0 (off + len * sz) rfl
    unfold Oper.wp
    rw [hex (.slice (some ⟨g, off, none⟩) (len + k) cap) W' (by rw [append_eq ht hs ty hle]; simp only [add_off, hrun]; rfl)]
    have hsl : splice c (off + len * sz) xs = c.take (off + len * sz) ++ (xs ++ c.drop (off + len * sz + xs.length)) := rfl
    have hlc : (splice c (off + len * sz) xs).length = c.length := by rw [hsl]; simp [hl2]; rw [Nat.add_mul] at hmul; omega
    refine hK (mone g (.cells (splice c (off + len * sz) xs).toArray E (0, 0))) _ ?_ (hi.set hm ho htp hu (Nat.le_of_eq hsz.symm) ?_ (mone_le hgg) fun g' => ?_)
    · have := OwnA.row (sz := sz) g off (len + k) cap E (splice c (off + len * sz) xs) (by rw [hlc]; exact h1') hle h3'
      have e1 : List.take ((len + k) * sz) (List.drop off (splice c (off + len * sz) xs)) = List.take (len * sz) (List.drop off c) ++ xs := by
        rw [hsl, List.drop_append_of_le_length (by simp; rw [Nat.add_mul] at hmul; omega), ← List.append_assoc]
        have e2 : List.drop off (List.take (off + len * sz) c) = List.take (len * sz) (List.drop off c) := by
          rw [List.drop_take]; congr 1; omega
        rw [e2]
        have e3 : (List.take (len * sz) (List.drop off c) ++ xs).length = (len + k) * sz := by
          rw [Nat.add_mul] at hmul ⊢
          simp [hl2]; omega
        rw [← e3]
        exact List.take_left
      rw [e1] at this
      exact this
    · intro q o h
      unfold mout at h
      split at h
      · cases h
      · rename_i hn
        have hne : q ≠ g := by rintro rfl; rw [hm0 _ _ (mone_self _ _)] at hn; cases hn
        unfold wm at h ⊢
        rw [hfar q hne]; exact h
    · by_cases hgg' : g' = g
      · subst hgg'; right; left; rw [hm0 _ _ (mone_self _ _)]; simp
      · exact .inl (mone_ne _ hgg')
/-- One thing, owned in chunk j, is appended within the room: the list stays where it is. -/
theorem VO.appI {e : Ty} {s x : Operand} {t xt et xe : TypeId} {b dd g c cap l : Nat} {A : Option Addr} {xs : List e.Den} {y : e.Den} {yc : List Value} (i j k : Nat) {m mj mk : Mem} (hd : Nat.blt dd n = true) (hsv : ev σ s = some (.slice A l cap)) (hxv : ev σ x = some (.slice (some ⟨g, 0, none⟩) 1 c)) (ht : tsl P t = some (et, e.sz, b))
    (hm : cget Ω i = some m) (hj : cget (cdel Ω i) j = some mj) (hk : cget Ω k = some mk) (hown : Ow (.sl e) m [.slice A l cap] xs) (hy : Ow e mj yc y) (hxt : P.underlying xt = some (.slice xe)) (hc : cellsAt mk g 0 e.sz yc) (hle : l + 1 ≤ cap)
    (h : ∀ m', Ow (.sl e) m' [.slice A (l + 1) cap] (xs ++ [y]) → VO P n w0 ops r ((dd, .slice A (l + 1) cap) :: σ) ((i, m') :: cdel (cdel Ω i) j) K) :
    VO P n w0 ops (⟨some dd, .call { callee := .builtin .append, args := [s, x].toArray, argTypes := [t, xt].toArray }, ty, pos, af, none⟩ :: r) σ Ω K :=
  fun Q hQ a W he hi => wpList_plain rfl fun K' hK => by
    obtain rfl := slice_len hown
    obtain ⟨m0, m1, rc, hS, hA, hL⟩ := hown.opn
    obtain ⟨q1, q2, q3, q4, _⟩ := hi.gets (ids := [i, j]) (l := [m, mj]) (by simp [cgets, hm, hj])
    have dmj : mdj m mj := by simpa using q1
    have d01 : mdj m0 m1 := by have := hS.2; simpa using this
    have l0 := hS.1 m0 (.head _)
    have l1 := hS.1 m1 (.tail _ (.head _))
    have d1j : mdj m1 mj := dmj.mono l1 (mle_refl _)
    have hnew : mdj m0 (mun m1 mj) := (mdj_un d01.symm (dmj.mono l0 (mle_refl _)).symm).symm
    have hΩ2 : Inv w0 ((i, m0) :: (j, mun m1 mj) :: cdel (cdel Ω i) j) W := by
      have hdel : Inv w0 (cdel (cdel Ω i) j) W := q4
      have f1 : ∀ p ∈ cdel (cdel Ω i) j, mdj m p.2 := fun p hp => q3 m (.head _) p hp
      have f2 : ∀ p ∈ cdel (cdel Ω i) j, mdj mj p.2 := fun p hp => q3 mj (.tail _ (.head _)) p hp
      refine ⟨hi.os, hi.tape, hi.output, hi.size, fun p hp => ?_, List.pairwise_cons.2 ⟨fun p hp => ?_, List.pairwise_cons.2 ⟨fun p hp => ?_, hdel.dj⟩⟩⟩
      · rcases List.mem_cons.1 hp with rfl | hp
        · exact l0.trans (hi.at hm)
        · rcases List.mem_cons.1 hp with rfl | hp
          · exact mun_le (l1.trans (hi.at hm)) (q2 mj (.tail _ (.head _)))
          · exact hdel.le p hp
      · rcases List.mem_cons.1 hp with rfl | hp
        · exact hnew
        · exact (f1 p hp).mono l0 (mle_refl _)
      · exact mdj_un ((f1 p hp).mono l1 (mle_refl _)) (f2 p hp)
    have hsrc : SrcW P W e.sz xt (.slice (some ⟨g, 0, none⟩) 1 c) 1 yc := by
      refine ⟨⟨_, hxt, by simp⟩, by rw [hy.len]; omega, fun W' hW => ?_, fun W' => by simp [Builtin.lenOf]⟩
      have hc2 : cellsAt (wm W') g 0 (1 * e.sz) yc := by
        rw [Nat.one_mul]
        refine hc.mono (fun q o ho => ?_)
        have := hi.at hk q o ho
        unfold wm at this ⊢
        rw [hW]; exact this
      exact firstCells_row hc2
    refine appIn_wp (i := i) (m := m0) (m0 := m0) he hΩ2 hsv hxv ht (by simp [cget]) (mle_refl _) hA hsrc hy.nice hle fun m' W' hA' hi' => ?_
    have hc' : cset ((i, m0) :: (j, mun m1 mj) :: cdel (cdel Ω i) j) i m' = (i, m') :: (j, mun m1 mj) :: cdel (cdel Ω i) j := by simp [cset]
    rw [hc'] at hi'
    have hdj : mdj m' (mun m1 mj) := (List.pairwise_cons.1 hi'.dj).1 _ (.head _)
    have hall : OwAll (Ow e) (mun m1 mj) (rc ++ yc) (xs ++ [y]) := OwAll.app d1j (mle_un_left _ _) (mle_un_right d1j) hL (.one hy (mle_refl _))
    have el : (xs ++ [y]).length = xs.length + 1 := by simp
    have hA' : OwnA e.sz m' (.slice A (xs.length + 1) cap) (xs ++ [y]).length (rc ++ yc) := by rw [el]; exact hA'
    have how : Ow (.sl e) (mun m' (mun m1 mj)) [.slice A (xs.length + 1) cap] (xs ++ [y]) := ⟨_, m', mun m1 mj, rc ++ yc, rfl, hdj, mle_un_left _ _, mle_un_right hdj, hA', hall⟩
    refine hK _ _ (h _ how Q hQ _ _ (he.put hd _) ?_)
    refine ⟨hi'.os, hi'.tape, hi'.output, hi'.size, fun p hp => ?_, List.pairwise_cons.2 ⟨fun p hp => ?_, (List.pairwise_cons.1 (List.pairwise_cons.1 hi'.dj).2).2⟩⟩
    · rcases List.mem_cons.1 hp with rfl | hp
      · exact mun_le (hi'.le (i, m') (.head _)) (hi'.le (j, mun m1 mj) (.tail _ (.head _)))
      · exact hi'.le p (.tail _ (.tail _ hp))
    · exact mdj_un ((List.pairwise_cons.1 hi'.dj).1 p (.tail _ hp)) ((List.pairwise_cons.1 (List.pairwise_cons.1 hi'.dj).2).1 p hp)
end
end
section
set_option linter.unusedVariables false
theorem over_set {α : Type} {f : α → α} {d l : List α} {k : Nat} {x : α} (hl : l = (d.take k).map f ++ d.drop k) (hx : l[k]? = some x) : d[k]? = some x ∧ l.set k (f x) = (d.take (k + 1)).map f ++ d.drop (k + 1) := by
  subst hl
  have hk : k < d.length := by
    have := (List.getElem?_eq_some_iff.1 hx).1
    simp at this; omega
  have hlen : ((d.take k).map f).length = k := by simp; omega
  rw [List.getElem?_append_right (by omega), hlen, Nat.sub_self, List.getElem?_drop, Nat.add_zero] at hx
  refine ⟨hx, ?_⟩
  obtain ⟨_, hx'⟩ := List.getElem?_eq_some_iff.1 hx
  rw [List.set_append_right _ _ (by omega), hlen, Nat.sub_self, List.drop_eq_getElem_cons hk, List.set_cons_zero, List.take_succ_eq_append_getElem hk, List.map_append, List.append_assoc, hx']
  rfl
theorem over_more {α : Type} {d l : List α} {x : α} (h : ∃ j, l = d ++ List.replicate j x) : ∃ j, l ++ [x] = d ++ List.replicate j x := by
  obtain ⟨j, rfl⟩ := h
  exact ⟨j + 1, by rw [List.replicate_succ', List.append_assoc]⟩
theorem fill_next {α : Type} {was d : List α} {i : Nat} {x y : α} (h : was = d.take i ++ List.replicate (d.length - i) y) (hx : d[i]? = some x) : was.set i x = d.take (i + 1) ++ List.replicate (d.length - (i + 1)) y := by
  subst h
  obtain ⟨hi, hx'⟩ := List.getElem?_eq_some_iff.1 hx
  rw [List.set_append_right _ _ (by simp; omega), List.length_take, Nat.min_eq_left (by omega), Nat.sub_self, show d.length - i = (d.length - (i + 1)) + 1 by omega, List.replicate_succ, List.set_cons_zero, List.take_succ_eq_append_getElem hi, hx', List.append_assoc]
  rfl
theorem fill_all {α : Type} {was d : List α} {i : Nat} {y : α} (h : was = d.take i ++ List.replicate (d.length - i) y) (hi : d.length ≤ i) : was = d := by
  rw [h, List.take_of_length_le hi, show d.length - i = 0 by omega]; simp
theorem over_all {α : Type} {f : α → α} {d l : List α} {k : Nat} (hl : l = (d.take k).map f ++ d.drop k) (hk : d.length ≤ k) : l = d.map f := by
  rw [hl, List.take_of_length_le hk, List.drop_of_length_le hk, List.append_nil]
section
variable {α : Type} {f : α → α} {d l was : List (List α)} {i k : Nat} {x y : List α} {a b : α}
theorem apart_at (hl : l = d.map (List.map f)) (hw : was = d) (hx : l[i]? = some x) (hy : was[i]? = some y) : x = y.map f := by
  subst hl; subst hw
  rw [List.getElem?_map, hy] at hx
  exact (Option.some.inj hx).symm
theorem apart_len (hl : l = d.map (List.map f)) (hw : was = d) (hx : l[i]? = some x) (hy : was[i]? = some y) : x.length = y.length := by rw [apart_at hl hw hx hy, List.length_map]
theorem apart_eq (hl : l = d.map (List.map f)) (hw : was = d) (hx : l[i]? = some x) (hy : was[i]? = some y) (hxk : x[k]? = some a) (hyk : y[k]? = some b) : a = f b := by
  rw [apart_at hl hw hx hy, List.getElem?_map, hyk] at hxk
  exact (Option.some.inj hxk).symm
end
theorem apart_same {α : Type} {f : α → α} {d l was : List α} {k : Nat} {x y : α} (hl : l = (d.take k).map f ++ d.drop k) (hw : was = d) (hx : l[k]? = some x) (hy : was[k]? = some y) : x = y := by
  subst hw
  have := (over_set hl hx).1
  rw [hy] at this
  exact (Option.some.inj this).symm
def overOp (o : DOp) : DOp := (o.1, o.2.1 ++ [126], o.2.2)
theorem key_of {n i k : Nat} {d was : List (List DOp)} {y : List DOp} {o : DOp} (hw : was = d) (e : ∀ x ∈ d, x.length ≤ n ∧ ∀ o ∈ x, o.2.1.length ≤ 140737488400000) (hy : was[i]? = some y) (hk : y[k]? = some o) : o.2.1.length ≤ 140737488400000 := by
  subst hw
  exact (e _ (List.mem_of_getElem? hy)).2 _ (List.mem_of_getElem? hk)
end
section
set_option linter.unusedVariables false
set_option linter.unusedSimpArgs false
set_option maxRecDepth 4000
theorem fnOk102 : fnOk Try.prog 102 = true := by kernel_rfl
theorem tsl42 : tsl Try.prog 42 = some (22, 1, 24) := by kernel_rfl
theorem tz22 : tz Try.prog 22 = some [.slice none 0 0] := by kernel_rfl
theorem fin0_overOps_ok {P : Prop} (h : P := by first | omega | (simp only [List.length_append, List.length_nil, List.length_cons, List.length_take, List.length_drop] at *; omega) | (have h_ := e0 _ (List.mem_of_getElem? (over_set hl ‹l[_]? = some _›).1); omega) | (have h_ := e0 _ (List.mem_of_getElem? (over_set hl ‹l[_]? = some _›).1); simp only [List.length_append, List.length_cons, List.length_nil] at *; omega)) : P := h
theorem overOps_ok (W : World) {m0 : Mem} (hm : mle (m0) (wm W)) {v0 : Value} {d0 : List DOp} (h0 : Ow (.sl TOp) m0 [v0] d0) (e0 : ∀ o ∈ d0, o.2.1.length ≤ 140737488400000) : CallR Try.prog 102 [v0] W (m0) (fun v m' => v = .tuple #[] ∧ Ow (.sl TOp) m' [v0] (d0.map overOp)) := by
  obtain ⟨A0, c0, e0_, l0, k0⟩ := h0.slice
  subst e0_
  simp only [maxLen] at k0
  refine CallR.ofB (n := 30) hm Try.func102 rfl rfl rfl ?_
  refine VC.rs ?_
  refine VO.mv ?_
  refine VO.y rfl (.capS rfl tsl22) ?_
  refine VO.as ?_
  refine VO.k2 0 2 ?_
  refine VC.seq ?_
  refine VC.rs ?_
  refine VO.as ?_
  refine VO.k3 0 2 3 ?_
  refine VC.block ?_
  refine VC.loop (G := Nat × (List DOp) × Mem) (fun g => [(0, Value.slice A0 (d0.length) (c0)), (3, Value.int .i64 ((((g.1) : Nat) : Int))), (0, Value.slice A0 (d0.length) (c0)), (2, Value.int .i64 (((c0 : Nat) : Int)))]) (fun g => [(0, mout (wm W) (m0)), (1, (g.2.2))]) (fun g => ((g.1) ≤ d0.length) ∧ ((g.2.1) = (d0.take (g.1)).map overOp ++ d0.drop (g.1)) ∧ (OwnL TOp (g.2.2) mnil (.slice A0 (d0.length) (c0)) (g.2.1))) (fun g => d0.length - (g.1)) (0, d0, m0) (⟨by omega, by simp, (Ow.ownl h0 rfl mnil)⟩) ⟨⟨rfl, rfl, rfl, rfl, trivial⟩, fun _ h => h.sub [0, 1]⟩ ?_
  rintro ⟨k, l, l_m⟩ ⟨hk, hl, h_l⟩
  replace hk : k ≤ d0.length := hk
  replace hl : l = (d0.take k).map overOp ++ d0.drop k := hl
  replace h_l : OwnL TOp l_m mnil (.slice A0 (d0.length) (c0)) l := h_l
  show VC _ _ _ _ _ [(0, Value.slice A0 (d0.length) (c0)), (3, Value.int .i64 (((k : Nat) : Int))), (0, Value.slice A0 (d0.length) (c0)), (2, Value.int .i64 (((c0 : Nat) : Int)))] [(0, mout (wm W) (m0)), (1, l_m)]
  have ll_l := slice_len (OwnL.ow h_l rfl)
  refine VC.seq ?_
  refine VC.rs ?_
  refine VO.mv ?_
  refine VO.mv ?_
  refine VO.y rfl (.lenS rfl tsl22) ?_
  refine VO.y rfl (.lss rfl rfl) ?_
  refine VO.kp [0, 1] [(0, mout (wm W) (m0)), (1, l_m)] ?_
  refine VO.k4 0 2 3 9 ?_
  refine VC.cond rfl (fun hc1 => ?_) (fun hc1 => ?_)
  · -- T
    refine VC.skip ?_
    refine outN ?_
    refine VC.seq ?_
    refine VC.block ?_
    refine VC.reg ?_
    refine VO.mv ?_
    refine VO.mv ?_
    refine VO.mv ?_
    refine VO.mv ?_
    obtain ⟨x2, hx2⟩ : ∃ z_, (l)[k]? = some z_ := ⟨_, List.getElem?_eq_getElem (by exact fin0_overOps_ok)⟩
    obtain ⟨gg2, oo2, ec2, ea2, hce2, hre2⟩ := h_l.elem hx2
    cases ea2
    obtain ⟨rfl, q2_1, q2_2⟩ := open_Op (x0 := x2.1) (x1 := x2.2.1) (x2 := x2.2.2) hre2
    simp only [maxLen] at q2_1
    simp only [maxLen] at q2_2
    refine VO.y rfl (.ixI k rfl rfl tsl22 rfl (by exact fin0_overOps_ok)) ?_
    refine VO.y rfl (.fa rfl tst49 rfl) ?_
    refine VO.y rfl (.ld1 1 rfl tk9 rfl (hce2.at1 (j := 1) rfl)) ?_
    refine VO.y rfl (.scat rfl rfl (by exact fin0_overOps_ok)) ?_
    refine VO.y rfl (.ixI k rfl rfl tsl22 rfl (by exact fin0_overOps_ok)) ?_
    refine VO.y rfl (.fa rfl tst49 rfl) ?_
    refine VO.upd (e := TOp) (k := 1) (i := k) (x' := (x2.1, x2.2.1 ++ ([126]), x2.2.2)) 1 1 rfl rfl (.inr ⟨tk9, rfl⟩) rfl rfl rfl (OwnL.ow h_l rfl) rfl hx2 rfl (fun mi ec he => by obtain ⟨rfl, z1, z2⟩ := open_Op (x0 := x2.1) (x1 := x2.2.1) (x2 := x2.2.2) (he.rd (mle_refl _)); exact Ow.of (m := mnil) rfl (mk_Op x2.1 (x2.2.1 ++ ([126])) x2.2.2 (by simp only [maxLen]; (exact fin0_overOps_ok)) z2)) (fun mu4 hu4 => ?_)
    have hl4 := slice_len hu4
    refine VO.k4 0 2 3 9 ?_
    refine outBN ?_
    refine outN ?_
    refine VC.reg ?_
    refine VO.mv ?_
    refine VO.y rfl (.add (c := ((k + 1 : Nat) : Int)) rfl rfl (by omega) ⟨by exact fin0_overOps_ok, by exact fin0_overOps_ok⟩) ?_
    refine VO.as ?_
    refine VO.k4 0 2 3 9 ?_
    exact outN ⟨⟨k + 1, (l).set k (x2.1, x2.2.1 ++ ([126]), x2.2.2), mu4⟩, ⟨by omega, by exact (over_set (f := overOp) hl ‹l[k]? = some _›).2, (Ow.ownl hu4 rfl mnil)⟩, by exact fin0_overOps_ok, ⟨⟨rfl, rfl, rfl, rfl, trivial⟩, fun _ h => Inv.sub h [0, 1]⟩⟩
  · -- F
    refine VC.exit ?_
    refine outE ?_
    refine outE ?_
    refine outBB ?_
    refine outN ?_
    refine VC.block ?_
    refine VC.loop (G := (List DOp) × Mem × Nat) (fun g => [(0, Value.slice A0 ((g.2.2)) (c0)), (2, Value.int .i64 (((c0 : Nat) : Int))), (3, Value.int .i64 (((k : Nat) : Int))), (9, Value.bool (decide (((k : Nat) : Int) < ((d0.length : Nat) : Int))))]) (fun g => [(0, mout (wm W) (m0)), (1, (g.2.1))]) (fun g => (∃ j, (g.1) = d0.map overOp ++ List.replicate j (false, [111, 118, 101, 114], [])) ∧ ((g.2.2) ≤ c0) ∧ (OwnL TOp (g.2.1) mnil (.slice A0 ((g.2.2)) (c0)) (g.1))) (fun g => c0 - (g.2.2)) (l, l_m, d0.length) (⟨by (exact ⟨0, by rw [hl, List.take_of_length_le (by omega), List.drop_of_length_le (by omega)]; simp⟩), by omega, h_l⟩) ⟨⟨rfl, rfl, rfl, rfl, trivial⟩, fun _ h => h.sub [0, 1]⟩ ?_
    rintro ⟨l2, l2_m, l2_n⟩ ⟨hl2, hc, h_l2⟩
    replace hl2 : ∃ j, l2 = d0.map overOp ++ List.replicate j (false, [111, 118, 101, 114], []) := hl2
    replace hc : l2_n ≤ c0 := hc
    replace h_l2 : OwnL TOp l2_m mnil (.slice A0 (l2_n) (c0)) l2 := h_l2
    show VC _ _ _ _ _ [(0, Value.slice A0 (l2_n) (c0)), (2, Value.int .i64 (((c0 : Nat) : Int))), (3, Value.int .i64 (((k : Nat) : Int))), (9, Value.bool (decide (((k : Nat) : Int) < ((d0.length : Nat) : Int))))] [(0, mout (wm W) (m0)), (1, l2_m)]
    have ll_l2 := slice_len (OwnL.ow h_l2 rfl)
    refine VC.seq ?_
    refine VC.rs ?_
    refine VO.mv ?_
    refine VO.y rfl (.lenS rfl tsl22) ?_
    refine VO.mv ?_
    refine VO.y rfl (.lss rfl rfl) ?_
    refine VO.k5 0 2 3 9 25 ?_
    refine VC.cond rfl (fun hc5 => ?_) (fun hc5 => ?_)
    · -- FT
      refine VC.skip ?_
      refine outN ?_
      refine VC.block ?_
      refine VC.reg ?_
      refine VO.mv ?_
      refine VO.y rfl (.bst (cs := [Value.bool false, str ([111, 118, 101, 114]), str ([])]) rfl tst49 tz49 rfl) ?_
      refine VO.bsl (cs := [Value.bool false, str ([111, 118, 101, 114]), str ([])]) 107 rfl rfl tsl22 tz49 rfl rfl (fun g6 => ?_)
      refine VO.inv ((109, mnil) :: _) (fun _ h => h.nilc 109) ?_
      have hxl8 := slice_len (OwnL.ow h_l2 rfl)
      refine VO.appI (e := TOp) (xs := l2) (cap := c0) (A := A0) (l := l2_n) 1 109 107 rfl rfl rfl tsl22 rfl rfl rfl (OwnL.ow h_l2 rfl) (Ow.of (m := mnil) rfl (mk_Op (m := _) false ([111, 118, 101, 114]) [] (by simp only [maxLen]; (exact fin0_overOps_ok)) (by simp only [maxLen]; (exact fin0_overOps_ok)))) Try.underlying22 (cellsAt_one rfl rfl) (by exact fin0_overOps_ok) (fun m8 ho8 => ?_)
      refine VO.as ?_
      refine VO.k5 0 2 3 9 25 ?_
      refine outBN ?_
      exact outN ⟨⟨l2 ++ [(false, [111, 118, 101, 114], [])], m8, l2_n + 1⟩, ⟨by exact over_more hl2, by dsimp only; omega, (Ow.ownl ho8 rfl mnil)⟩, by (dsimp only; omega), ⟨⟨rfl, rfl, rfl, rfl, trivial⟩, fun _ h => Inv.sub h [0, 1]⟩⟩
    · -- FF
      refine VC.exit ?_
      refine outE ?_
      refine outE ?_
      refine outBB ?_
      have hcut0 := Ow.pre (j := d0.length) (OwnL.ow h_l2 rfl) (by exact fin0_overOps_ok)
      refine ⟨_, _, res_run (rs := []) rfl .nil, fun W_ hI => out_of (l := [l2_m]) hI [1] rfl rfl (mle_refl _) (fun hS_ => ?_)⟩
      dsimp only [packV]
      have hm0_ : (d0.map overOp : Ty.Den (.sl TOp)) = (l2).take d0.length := by first | rfl | (obtain ⟨j, rfl⟩ := hl2; simp)
      refine ⟨?_, ?_⟩
      rotate_left
      · rw [hm0_]; exact (Ow.up hcut0 (hS_.1 _ (.head _)))
      all_goals (first | rfl | (simp [*]; done))
theorem fin0_ApartOps_ok {P : Prop} (h : P := by first | omega | (simp only [List.length_append, List.length_nil, List.length_cons, List.length_take, List.length_drop] at *; omega) | (have h_ := apart_len hl4 hw4 ‹l[_]? = some _› ‹was[_]? = some _›; omega) | (have h_ := key_of hw4 e1 ‹was[_]? = some _› (by assumption); simp only [List.length_append, List.length_cons, List.length_nil] at *; omega) | (exact (e1 _ (List.mem_of_getElem? ‹d0[_]? = some _›)).1)) : P := h
theorem ApartOps_ok (W : World) {m0 : Mem} (hm : mle (m0) (wm W)) {v0 : Value} {d0 : List (List DOp)} (h0 : Ow (.sl (.sl TOp)) m0 [v0] d0) (e0 : d0.length ≤ 1000) (e1 : ∀ x ∈ d0, x.length ≤ 3518437208800 ∧ ∀ o ∈ x, o.2.1.length ≤ 140737488400000) : CallR Try.prog 39 [v0] W (m0) (fun v m' => v = .bool true) := by
  obtain ⟨A0, c0, e0_, l0, k0⟩ := h0.slice
  subst e0_
  simp only [maxLen] at k0
  refine CallR.ofB (n := 79) hm Try.func39 rfl rfl rfl ?_
  refine VC.rs ?_
  refine VO.as ?_
  refine VO.k2 0 2 ?_
  refine VC.rs ?_
  refine VO.mv ?_
  refine VO.y rfl (.lenS rfl tsl42) ?_
  refine VO.mks (e := (.sl TOp)) (a := ((d0.length : Nat) : Int)) (k := d0.length) 101 rfl rfl rfl rfl tsl42 tz22 (y := []) (Ow.nil _ mnil) (by simp only [maxLen]; (exact fin0_ApartOps_ok)) (by exact fin0_ApartOps_ok) (by decide) (fun v1 m1 hk1 => ?_)
  obtain ⟨A1, c1, rfl, l1, k1⟩ := hk1.slice
  simp only [maxLen] at k1
  have ln1 : (List.replicate d0.length ([] : List DOp)).length = d0.length := List.length_replicate
  refine VO.as ?_
  refine VO.k3 0 2 3 ?_
  refine VC.seq ?_
  refine VC.rs ?_
  refine VO.as ?_
  refine VO.kp [101, 0, 1] [(101, m1), (0, mout (wm W) (m0)), (1, m0)] ?_
  refine VO.k4 0 2 3 4 ?_
  refine VC.block ?_
  refine VC.loop (G := Nat × (List (List DOp)) × Mem) (fun g => [(3, Value.slice A1 ((List.replicate d0.length ([] : List DOp)).length) (c1)), (4, Value.int .i64 ((((g.1) : Nat) : Int))), (0, Value.slice A0 (d0.length) (c0)), (2, Value.bool false), (3, Value.slice A1 ((List.replicate d0.length ([] : List DOp)).length) (c1))]) (fun g => [(101, (g.2.2)), (0, mout (wm W) (m0)), (1, m0)]) (fun g => ((g.1) ≤ d0.length) ∧ ((g.2.1) = d0.take (g.1) ++ List.replicate (d0.length - (g.1)) []) ∧ (Ow (.sl (.sl TOp)) (g.2.2) [.slice A1 ((List.replicate d0.length ([] : List DOp)).length) (c1)] (g.2.1))) (fun g => d0.length - (g.1)) (0, List.replicate d0.length ([] : List DOp), m1) (⟨by omega, by simp, hk1⟩) ⟨⟨rfl, rfl, rfl, rfl, rfl, trivial⟩, fun _ h => h.sub [101, 0, 1]⟩ ?_
  rintro ⟨i, was, was_m⟩ ⟨hi, hw, h_was⟩
  replace hi : i ≤ d0.length := hi
  replace hw : was = d0.take i ++ List.replicate (d0.length - i) [] := hw
  replace h_was : Ow (.sl (.sl TOp)) was_m [.slice A1 ((List.replicate d0.length ([] : List DOp)).length) (c1)] was := h_was
  show VC _ _ _ _ _ [(3, Value.slice A1 ((List.replicate d0.length ([] : List DOp)).length) (c1)), (4, Value.int .i64 (((i : Nat) : Int))), (0, Value.slice A0 (d0.length) (c0)), (2, Value.bool false), (3, Value.slice A1 ((List.replicate d0.length ([] : List DOp)).length) (c1))] [(101, was_m), (0, mout (wm W) (m0)), (1, m0)]
  have ll_was := slice_len h_was
  refine VC.seq ?_
  refine VC.rs ?_
  refine VO.mv ?_
  refine VO.mv ?_
  refine VO.y rfl (.lenS rfl tsl42) ?_
  refine VO.y rfl (.lss rfl rfl) ?_
  refine VO.k5 0 2 3 4 14 ?_
  refine VC.cond rfl (fun hc2 => ?_) (fun hc2 => ?_)
  · -- T
    refine VC.skip ?_
    refine outN ?_
    refine VC.seq ?_
    refine VC.block ?_
    refine VC.reg ?_
    refine VO.mv ?_
    refine VO.mv ?_
    refine VO.mv ?_
    refine VO.mv ?_
    obtain ⟨x3, hx3⟩ : ∃ z_, (d0)[i]? = some z_ := ⟨_, List.getElem?_eq_getElem (by exact fin0_ApartOps_ok)⟩
    obtain ⟨gg3, oo3, ec3, ea3, hce3, hre3⟩ := (Ow.rd h0 (mle_refl _)).elem hx3
    cases ea3
    have hr3 := hre3
    obtain ⟨A3_, c3_, rfl, _⟩ := hre3
    have rr3 := Rd.room hr3
    refine VO.y rfl (.ixI i rfl rfl tsl42 rfl (by exact fin0_ApartOps_ok)) ?_
    refine VO.y rfl (.ld1 1 rfl tk22 rfl hce3) ?_
    refine VO.callN 104 rfl fnOk96 rfl (fun W hW => CopyOps_ok W (Rd.mono hr3 (hW.at (i := 1) rfl)) (by exact fin0_ApartOps_ok)) (fun v4 m4 hv4 => ?_)
    obtain ⟨s4_0, rfl, f4_0⟩ := hv4
    obtain ⟨A4_0, c4_0, eq4_0, l4_0, k4_0⟩ := f4_0.slice
    subst eq4_0
    simp only [maxLen] at k4_0
    obtain ⟨x5, hx5⟩ : ∃ z_, (was)[i]? = some z_ := ⟨_, List.getElem?_eq_getElem (by exact fin0_ApartOps_ok)⟩
    obtain ⟨gg5, oo5, ec5, ea5, hce5, hre5⟩ := (Ow.rd h_was (mle_refl _)).elem hx5
    cases ea5
    have hr5 := hre5
    obtain ⟨A5_, c5_, rfl, _⟩ := hre5
    have rr5 := Rd.room hr5
    refine VO.y rfl (.ixI i rfl rfl tsl42 rfl (by exact fin0_ApartOps_ok)) ?_
    refine VO.setE (e := (.sl TOp)) (k := 1) (i := i) 101 104 rfl rfl (.inr ⟨tk22, rfl⟩) rfl rfl rfl rfl h_was rfl hx5 (x' := x3) (Ow.up (OwnL.ow (Ow.ownl f4_0 rfl mnil) rfl) ((Seps.one (mle_refl _)).1 _ (.head _))) (fun mu6 hu6 => ?_)
    have hl6 := slice_len hu6
    refine VO.k5 0 2 3 4 14 ?_
    refine outBN ?_
    refine outN ?_
    refine VC.reg ?_
    refine VO.mv ?_
    refine VO.y rfl (.add (c := ((i + 1 : Nat) : Int)) rfl rfl (by omega) ⟨by exact fin0_ApartOps_ok, by exact fin0_ApartOps_ok⟩) ?_
    refine VO.as ?_
    refine VO.kp [101, 0, 1] [(101, mu6), (0, mout (wm W) (m0)), (1, m0)] ?_
    refine VO.k5 0 2 3 4 14 ?_
    exact outN ⟨⟨i + 1, (was).set i x3, mu6⟩, ⟨by omega, by exact fill_next hw ‹d0[i]? = some _›, hu6⟩, by exact fin0_ApartOps_ok, ⟨⟨rfl, rfl, rfl, rfl, rfl, trivial⟩, fun _ h => Inv.sub h [101, 0, 1]⟩⟩
  · -- F
    refine VC.exit ?_
    refine outE ?_
    refine outE ?_
    refine outBB ?_
    refine outN ?_
    refine VC.seq ?_
    refine VC.rs ?_
    refine VO.as ?_
    refine VO.k6 0 2 3 4 5 14 ?_
    refine VC.block ?_
    refine VC.loop (G := Nat × (List (List DOp)) × Mem) (fun g => [(0, Value.slice A0 (d0.length) (c0)), (5, Value.int .i64 ((((g.1) : Nat) : Int))), (0, Value.slice A0 (d0.length) (c0)), (3, Value.slice A1 ((List.replicate d0.length ([] : List DOp)).length) (c1)), (4, Value.int .i64 (((i : Nat) : Int))), (14, Value.bool (decide (((i : Nat) : Int) < ((d0.length : Nat) : Int))))]) (fun g => [(101, was_m), (0, mout (wm W) (m0)), (1, (g.2.2))]) (fun g => (was = d0) ∧ ((g.1) ≤ d0.length) ∧ ((g.2.1) = (d0.take (g.1)).map (List.map overOp) ++ d0.drop (g.1)) ∧ (Ow (.sl (.sl TOp)) (g.2.2) [.slice A0 (d0.length) (c0)] (g.2.1))) (fun g => d0.length - (g.1)) (0, d0, m0) (⟨by exact fill_all hw (by omega), by omega, by simp, h0⟩) ⟨⟨rfl, rfl, rfl, rfl, rfl, rfl, trivial⟩, fun _ h => h.sub [101, 0, 1]⟩ ?_
    rintro ⟨j, l, l_m⟩ ⟨hw2, hj, hl, h_l⟩
    replace hw2 : was = d0 := hw2
    replace hj : j ≤ d0.length := hj
    replace hl : l = (d0.take j).map (List.map overOp) ++ d0.drop j := hl
    replace h_l : Ow (.sl (.sl TOp)) l_m [.slice A0 (d0.length) (c0)] l := h_l
    show VC _ _ _ _ _ [(0, Value.slice A0 (d0.length) (c0)), (5, Value.int .i64 (((j : Nat) : Int))), (0, Value.slice A0 (d0.length) (c0)), (3, Value.slice A1 ((List.replicate d0.length ([] : List DOp)).length) (c1)), (4, Value.int .i64 (((i : Nat) : Int))), (14, Value.bool (decide (((i : Nat) : Int) < ((d0.length : Nat) : Int))))] [(101, was_m), (0, mout (wm W) (m0)), (1, l_m)]
    have ll_l := slice_len h_l
    refine VC.seq ?_
    refine VC.rs ?_
    refine VO.mv ?_
    refine VO.mv ?_
    refine VO.y rfl (.lenS rfl tsl42) ?_
    refine VO.y rfl (.lss rfl rfl) ?_
    refine VO.kp [101, 0, 1] [(101, was_m), (0, mout (wm W) (m0)), (1, l_m)] ?_
    refine VO.k6 0 3 4 5 14 28 ?_
    refine VC.cond rfl (fun hc7 => ?_) (fun hc7 => ?_)
    · -- FT
      refine VC.skip ?_
      refine outN ?_
      refine VC.seq ?_
      refine VC.block ?_
      refine VC.seq ?_
      refine VC.seq ?_
      refine VC.regD _ 8 [(0, true), (1, true), (2, true), (3, true), (4, true), (5, true), (6, true), (7, true)] follows (by kernel_rfl) (fun _ h => h.sub [101, 0, 1]) ?_
      refine VD.y rfl rfl (.inl rfl) (.mv rfl) ?_
      refine VD.y rfl rfl (.inl rfl) (.mv rfl) ?_
      obtain ⟨x8, hx8⟩ : ∃ z_, (l)[j]? = some z_ := ⟨_, List.getElem?_eq_getElem (by exact fin0_ApartOps_ok)⟩
      obtain ⟨gg8, oo8, ec8, ea8, hce8, hre8⟩ := (Ow.rd h_l (mle_refl _)).elem hx8
      cases ea8
      have hr8 := hre8
      obtain ⟨A8_, c8_, rfl, _⟩ := hre8
      have rr8 := Rd.room hr8
      refine VD.y rfl rfl (.inl rfl) (.ixI j rfl rfl tsl42 rfl (by exact fin0_ApartOps_ok)) ?_
      refine VD.y rfl rfl (.inl rfl) (.ld1 1 rfl tk22 rfl hce8) ?_
      refine VD.y rfl rfl (.inl rfl) (.mv rfl) ?_
      refine VD.y rfl rfl (.inl rfl) (.mv rfl) ?_
      obtain ⟨x9, hx9⟩ : ∃ z_, (was)[j]? = some z_ := ⟨_, List.getElem?_eq_getElem (by exact fin0_ApartOps_ok)⟩
      obtain ⟨gg9, oo9, ec9, ea9, hce9, hre9⟩ := (Ow.rd h_was (mle_refl _)).elem hx9
      cases ea9
      have hr9 := hre9
      obtain ⟨A9_, c9_, rfl, _⟩ := hre9
      have rr9 := Rd.room hr9
      refine VD.y rfl rfl (.inl rfl) (.ixI j rfl rfl tsl42 rfl (by exact fin0_ApartOps_ok)) ?_
      refine VD.y rfl rfl (.inl rfl) (.ld1 101 rfl tk22 rfl hce9) ?_
      refine VD.nil rfl ?_ rfl
      refine VO.callN 110 rfl fnOk38 rfl (fun W hW => SameOps_ok W (Rd.mono hr8 (hW.at (i := 1) rfl)) (Rd.mono hr9 (hW.at (i := 101) rfl))) (fun v10 m10 hv10 => ?_)
      subst hv10
      refine VO.y rfl (.notD rfl) ?_
      refine VO.k7 0 3 4 5 14 28 40 ?_
      refine outN ?_
      refine VC.cond rfl (fun hc11 => ?_) (fun hc11 => ?_)
      · -- FTT
        exact absurd (apart_same hl hw2 ‹l[j]? = some _› ‹was[j]? = some _›) hc11
      · -- FTF
        refine VC.skip ?_
        refine outN ?_
        refine VC.reg ?_
        refine VO.mv ?_
        refine VO.mv ?_
        refine VO.y rfl (.ixI j rfl rfl tsl42 rfl (by exact fin0_ApartOps_ok)) ?_
        refine VO.y rfl (.ld1 1 rfl tk22 rfl hce8) ?_
        obtain ⟨mr13, me13, hH13, hE13, hB13⟩ := Ow.hole h_l hx8 hce8
        refine VO.parts 1 [1, 114] rfl hH13 ?_
        refine VO.call 114 rfl fnOk102 rfl rfl (fun W hW => overOps_ok W (hW.at (i := 114) rfl) hE13 (by exact fun o ho => (e1 _ (List.mem_of_getElem? (over_set hl ‹l[_]? = some _›).1)).2 o ho)) (fun v13 m13 hv13 => ?_)
        obtain ⟨rfl, w13_0⟩ := hv13
        have wl13_0 := slice_len w13_0
        refine VO.gather (l := [mr13, m13]) 1 [1, 114] rfl (fun hg13 => ?_)
        have hL13 := Seps.back hg13 (fun hd_ => hB13 _ _ hd_ w13_0)
        have hl13 := slice_len hL13
        refine VO.k7 0 3 4 5 14 28 40 ?_
        refine outBN ?_
        refine outN ?_
        refine VC.reg ?_
        refine VO.mv ?_
        refine VO.y rfl (.add (c := ((j + 1 : Nat) : Int)) rfl rfl (by omega) ⟨by exact fin0_ApartOps_ok, by exact fin0_ApartOps_ok⟩) ?_
        refine VO.as ?_
        refine VO.kp [1, 101, 0] [(1, muns [mr13, m13]), (101, was_m), (0, mout (wm W) (m0))] ?_
        refine VO.k7 0 3 4 5 14 28 40 ?_
        exact outN ⟨⟨j + 1, (l).set j (x8.map overOp), muns [mr13, m13]⟩, ⟨by exact hw2, by omega, by exact (over_set hl ‹l[j]? = some _›).2, hL13⟩, by exact fin0_ApartOps_ok, ⟨⟨rfl, rfl, rfl, rfl, rfl, rfl, trivial⟩, fun _ h => Inv.sub h [101, 0, 1]⟩⟩
    · -- FF
      refine VC.exit ?_
      refine outE ?_
      refine outE ?_
      refine outBB ?_
      refine outN ?_
      refine VC.seq ?_
      refine VC.rs ?_
      refine VO.as ?_
      refine VO.k7 0 3 4 5 6 14 28 ?_
      refine VC.block ?_
      refine VC.loop (G := Nat) (fun p => [(6, Value.int .i64 (((p : Nat) : Int))), (0, Value.slice A0 (d0.length) (c0)), (3, Value.slice A1 ((List.replicate d0.length ([] : List DOp)).length) (c1)), (4, Value.int .i64 (((i : Nat) : Int))), (5, Value.int .i64 (((j : Nat) : Int))), (14, Value.bool (decide (((i : Nat) : Int) < ((d0.length : Nat) : Int)))), (28, Value.bool (decide (((j : Nat) : Int) < ((d0.length : Nat) : Int))))]) (fun p => [(101, was_m), (0, mout (wm W) (m0)), (1, l_m)]) (fun p => (was = d0) ∧ (p ≤ d0.length) ∧ (l = d0.map (List.map overOp))) (fun p => d0.length - p) 0 (⟨by exact hw2, by omega, by exact over_all hl (by omega)⟩) ⟨⟨rfl, rfl, rfl, rfl, rfl, rfl, rfl, trivial⟩, fun _ h => h.sub [101, 0, 1]⟩ ?_
      rintro p ⟨hw4, hp, hl4⟩
      refine VC.seq ?_
      refine VC.rs ?_
      refine VO.mv ?_
      refine VO.mv ?_
      refine VO.y rfl (.lenS rfl tsl42) ?_
      refine VO.y rfl (.lss rfl rfl) ?_
      refine VO.k8 0 3 4 5 6 14 28 49 ?_
      refine VC.cond rfl (fun hc15 => ?_) (fun hc15 => ?_)
      · -- FFT
        refine VC.skip ?_
        refine outN ?_
        refine VC.seq ?_
        refine VC.block ?_
        refine VC.rs ?_
        refine VO.as ?_
        refine VO.kp [101, 0, 1] [(101, was_m), (0, mout (wm W) (m0)), (1, l_m)] ?_
        refine VO.k9 0 3 4 5 6 7 14 28 49 ?_
        refine VC.block ?_
        refine VC.loop (G := Nat) (fun k => [(7, Value.int .i64 (((k : Nat) : Int))), (0, Value.slice A0 (d0.length) (c0)), (3, Value.slice A1 ((List.replicate d0.length ([] : List DOp)).length) (c1)), (4, Value.int .i64 (((i : Nat) : Int))), (5, Value.int .i64 (((j : Nat) : Int))), (6, Value.int .i64 (((p : Nat) : Int))), (14, Value.bool (decide (((i : Nat) : Int) < ((d0.length : Nat) : Int)))), (28, Value.bool (decide (((j : Nat) : Int) < ((d0.length : Nat) : Int)))), (49, Value.bool (decide (((p : Nat) : Int) < ((d0.length : Nat) : Int))))]) (fun k => [(101, was_m), (0, mout (wm W) (m0)), (1, l_m)]) (fun k => (k ≤ 9223372036854775807)) (fun k => 9223372036854775807 - k) 0 (by omega) ⟨⟨rfl, rfl, rfl, rfl, rfl, rfl, rfl, rfl, rfl, trivial⟩, fun _ h => h.sub [101, 0, 1]⟩ ?_
        rintro k hk
        refine VC.seq ?_
        refine VC.rs ?_
        refine VO.mv ?_
        refine VO.mv ?_
        refine VO.mv ?_
        obtain ⟨x16, hx16⟩ : ∃ z_, (l)[p]? = some z_ := ⟨_, List.getElem?_eq_getElem (by exact fin0_ApartOps_ok)⟩
        obtain ⟨gg16, oo16, ec16, ea16, hce16, hre16⟩ := (Ow.rd h_l (mle_refl _)).elem hx16
        cases ea16
        have hr16 := hre16
        obtain ⟨A16_, c16_, rfl, _⟩ := hre16
        have rr16 := Rd.room hr16
        refine VO.y rfl (.ixI p rfl rfl tsl42 rfl (by exact fin0_ApartOps_ok)) ?_
        refine VO.y rfl (.ld1 1 rfl tk22 rfl hce16) ?_
        refine VO.y rfl (.lenS rfl tsl22) ?_
        refine VO.y rfl (.lss rfl rfl) ?_
        refine VO.k10 0 3 4 5 6 7 14 28 49 58 ?_
        refine VC.cond rfl (fun hc17 => ?_) (fun hc17 => ?_)
        · -- FFTT
          refine VC.skip ?_
          refine outN ?_
          refine VC.seq ?_
          refine VC.block ?_
          refine VC.seq ?_
          refine VC.regD _ 17 [(0, true), (1, true), (2, true), (3, true), (4, true), (5, true), (6, true), (7, true), (8, true), (9, true), (10, true), (11, true), (12, true), (13, true), (14, true), (15, true), (16, true)] follows (by kernel_rfl) (fun _ h => h.sub [101, 0, 1]) ?_
          refine VD.y rfl rfl (.inl rfl) (.mv rfl) ?_
          refine VD.y rfl rfl (.inl rfl) (.mv rfl) ?_
          refine VD.y rfl rfl (.inl rfl) (.ixI p rfl rfl tsl42 rfl (by exact fin0_ApartOps_ok)) ?_
          refine VD.y rfl rfl (.inl rfl) (.ld1 1 rfl tk22 rfl hce16) ?_
          refine VD.y rfl rfl (.inl rfl) (.mv rfl) ?_
          obtain ⟨x19, hx19⟩ : ∃ z_, (x16)[k]? = some z_ := ⟨_, List.getElem?_eq_getElem (by exact fin0_ApartOps_ok)⟩
          obtain ⟨gg19, oo19, ec19, ea19, hce19, hre19⟩ := hr16.elem hx19
          cases ea19
          obtain ⟨rfl, q19_1, q19_2⟩ := open_Op (x0 := x19.1) (x1 := x19.2.1) (x2 := x19.2.2) hre19
          simp only [maxLen] at q19_1
          simp only [maxLen] at q19_2
          refine VD.y rfl rfl (.inl rfl) (.ixI k rfl rfl tsl22 rfl (by exact fin0_ApartOps_ok)) ?_
          refine VD.y rfl rfl (.inl rfl) (.fa rfl tst49 rfl) ?_
          refine VD.y rfl rfl (.inl rfl) (.ld1 1 rfl tk9 rfl (hce19.at1 (j := 1) rfl)) ?_
          refine VD.y rfl rfl (.inl rfl) (.mv rfl) ?_
          refine VD.y rfl rfl (.inl rfl) (.mv rfl) ?_
          obtain ⟨x20, hx20⟩ : ∃ z_, (was)[p]? = some z_ := ⟨_, List.getElem?_eq_getElem (by exact fin0_ApartOps_ok)⟩
          obtain ⟨gg20, oo20, ec20, ea20, hce20, hre20⟩ := (Ow.rd h_was (mle_refl _)).elem hx20
          cases ea20
          have hr20 := hre20
          obtain ⟨A20_, c20_, rfl, _⟩ := hre20
          have rr20 := Rd.room hr20
          refine VD.y rfl rfl (.inl rfl) (.ixI p rfl rfl tsl42 rfl (by exact fin0_ApartOps_ok)) ?_
          refine VD.y rfl rfl (.inl rfl) (.ld1 101 rfl tk22 rfl hce20) ?_
          refine VD.y rfl rfl (.inl rfl) (.mv rfl) ?_
          obtain ⟨x21, hx21⟩ : ∃ z_, (x20)[k]? = some z_ := ⟨_, List.getElem?_eq_getElem (by exact fin0_ApartOps_ok)⟩
          obtain ⟨gg21, oo21, ec21, ea21, hce21, hre21⟩ := hr20.elem hx21
          cases ea21
          obtain ⟨rfl, q21_1, q21_2⟩ := open_Op (x0 := x21.1) (x1 := x21.2.1) (x2 := x21.2.2) hre21
          simp only [maxLen] at q21_1
          simp only [maxLen] at q21_2
          refine VD.y rfl rfl (.inl rfl) (.ixI k rfl rfl tsl22 rfl (by exact fin0_ApartOps_ok)) ?_
          refine VD.y rfl rfl (.inl rfl) (.fa rfl tst49 rfl) ?_
          refine VD.y rfl rfl (.inl rfl) (.ld1 101 rfl tk9 rfl (hce21.at1 (j := 1) rfl)) ?_
          refine VD.y rfl rfl (.inl rfl) (.scat rfl rfl (by exact fin0_ApartOps_ok)) ?_
          refine VD.nil rfl ?_ rfl
          refine VO.y rfl (.sneq rfl rfl) ?_
          refine VO.k11 0 3 4 5 6 7 14 28 49 58 78 ?_
          refine outN ?_
          refine VC.cond rfl (fun hc22 => ?_) (fun hc22 => ?_)
          · -- FFTTT
            exact absurd (by have h_ := apart_eq (f := overOp) hl4 hw4 ‹l[p]? = some _› ‹was[p]? = some _› (by assumption) (by assumption); rw [h_]; rfl) hc22
          · -- FFTTF
            refine VC.skip ?_
            refine outBN ?_
            refine outN ?_
            refine VC.reg ?_
            refine VO.mv ?_
            refine VO.y rfl (.add (c := ((k + 1 : Nat) : Int)) rfl rfl (by omega) ⟨by exact fin0_ApartOps_ok, by exact fin0_ApartOps_ok⟩) ?_
            refine VO.as ?_
            refine VO.kp [101, 0, 1] [(101, was_m), (0, mout (wm W) (m0)), (1, l_m)] ?_
            refine VO.k11 0 3 4 5 6 7 14 28 49 58 78 ?_
            exact outN ⟨k + 1, by omega, by exact fin0_ApartOps_ok, ⟨⟨rfl, rfl, rfl, rfl, rfl, rfl, rfl, rfl, rfl, trivial⟩, fun _ h => Inv.sub h [101, 0, 1]⟩⟩
        · -- FFTF
          refine VC.exit ?_
          refine outE ?_
          refine outE ?_
          refine outBB ?_
          refine outBN ?_
          refine outN ?_
          refine VC.reg ?_
          refine VO.mv ?_
          refine VO.y rfl (.add (c := ((p + 1 : Nat) : Int)) rfl rfl (by omega) ⟨by exact fin0_ApartOps_ok, by exact fin0_ApartOps_ok⟩) ?_
          refine VO.as ?_
          refine VO.k10 0 3 4 5 6 7 14 28 49 58 ?_
          exact outN ⟨p + 1, ⟨by exact hw4, by omega, by exact hl4⟩, by exact fin0_ApartOps_ok, ⟨⟨rfl, rfl, rfl, rfl, rfl, rfl, rfl, trivial⟩, fun _ h => Inv.sub h [101, 0, 1]⟩⟩
      · -- FFF
        refine VC.exit ?_
        refine outE ?_
        refine outE ?_
        refine outBB ?_
        refine outN ?_
        refine VC.rs ?_
        refine VO.as ?_
        refine VO.kp [101, 0, 1] [(101, was_m), (0, mout (wm W) (m0)), (1, l_m)] ?_
        refine VO.k9 0 2 3 4 5 6 14 28 49 ?_
        refine VC.ret ?_
        refine ⟨_, _, res_run (rs := [.tmp 2]) rfl (.tmp rfl .nil), fun W_ hI => out_of (l := []) hI [] rfl rfl (mle_refl _) (fun hS_ => ?_)⟩
        dsimp only [packV]
        all_goals (first | rfl | (simp [*]; done))
end
section
set_option linter.unusedVariables false
theorem none_iff {e n i : Int} {l : List DCommit} : ((cFollowsAt e n i l).1 = 0 ∧ (cFollowsAt e n i l).2 = 0) ↔ (cFollowsAt e n i l).1 = 0 := ⟨fun h => h.1, fun h => by rw [follows_zero h]; exact ⟨rfl, rfl⟩⟩
end
section
set_option linter.unusedVariables false
theorem Ow.full {e : Ty} {m : Mem} {A : Option Addr} {l c : Nat} {x : List e.Den × List e.Den} (h : Ow (.spl e) m [.slice A l c] x) : l = x.1.length ∧ Ow (.sl e) m [.slice A (x.1 ++ x.2).length c] (x.1 ++ x.2) := by
  obtain ⟨A', c', m0, m1, rc, h1, h2, h3, h4, h5, h6⟩ := h
  simp only [List.cons.injEq, Value.slice.injEq, and_true] at h1
  obtain ⟨rfl, rfl, rfl⟩ := h1
  exact ⟨rfl, _, m0, m1, rc, rfl, h2, h3, h4, h5, h6⟩
theorem Ow.mkSpl {e : Ty} {m : Mem} {A : Option Addr} {l c k : Nat} {xs ys : List e.Den} (h : Ow (.sl e) m [.slice A l c] (xs ++ ys)) (hk : k = xs.length) : Ow (.spl e) m [.slice A k c] (xs, ys) := by
  have hl := slice_len h
  obtain ⟨v, m0, m1, rc, h1, h2, h3, h4, h5, h6⟩ := h
  simp only [List.cons.injEq, and_true] at h1
  subst h1
  exact ⟨A, c, m0, m1, rc, by rw [hk], h2, h3, h4, by rw [← hl] at h5; exact h5, h6⟩
theorem Ow.pre2 {e : Ty} {m : Mem} {A : Option Addr} {l c : Nat} {xs ys : List e.Den} (h : Ow (.sl e) m [.slice A l c] (xs ++ ys)) : Ow (.sl e) m [.slice A xs.length c] xs := by
  have := Ow.pre (j := xs.length) h (by simp)
  rwa [List.take_left] at this
theorem Ow.nilSpl (e : Ty) (m : Mem) : Ow (.spl e) m [.slice none 0 0] ([], []) := Ow.mkSpl (xs := []) (ys := []) (Ow.nil e m) rfl
theorem Rd.nilSpl (e : Ty) (m : Mem) : Rd (.spl e) m [.slice none 0 0] ([], []) := (Ow.nilSpl e m).rd (mle_refl _)
theorem OwAll.map {α β : Type} {R : Mem → List Value → α → Prop} {S : Mem → List Value → β → Prop} (f : α → β) (hf : ∀ m c x, R m c x → S m c (f x)) : ∀ {xs : List α} {m : Mem} {cs : List Value}, OwAll R m cs xs → OwAll S m cs (xs.map f)
  | [], _, _, h => h
  | _ :: _, _, _, ⟨c1, c2, m1, m2, h1, h2, h3, h4, h5, h6⟩ => ⟨c1, c2, m1, m2, h1, h2, h3, h4, hf _ _ _ h5, h6.map f hf⟩
theorem Rd.mapL {e e' : Ty} (f : e.Den → e'.Den) (hz : e'.sz = e.sz) (hf : ∀ m c x, Rd e m c x → Rd e' m c (f x)) {m : Mem} {cs : List Value} {xs : List e.Den} (h : Rd (.sl e) m cs xs) : Rd (.sl e') m cs (xs.map f) := by
  obtain ⟨A, c, h1, h2, h3, h4⟩ := h
  have hl : (xs.map f).length = xs.length := List.length_map ..
  refine ⟨A, c, by rw [hl]; exact h1, by rw [hl]; exact h2, h3, ?_⟩
  rw [hl, hz]
  exact h4.imp id fun ⟨g, off, all, k1, k2, k3⟩ => ⟨g, off, all, k1, k2, k3.map _ (hf m)⟩
theorem Ow.mapL {e e' : Ty} (f : e.Den → e'.Den) (hz : e'.sz = e.sz) (hf : ∀ m c x, Ow e m c x → Ow e' m c (f x)) {m : Mem} {cs : List Value} {xs : List e.Den} (h : Ow (.sl e) m cs xs) : Ow (.sl e') m cs (xs.map f) := by
  obtain ⟨v, m0, m1, rc, h1, h2, h3, h4, h5, h6⟩ := h
  have hl : (xs.map f).length = xs.length := List.length_map ..
  refine ⟨v, m0, m1, rc, h1, h2, h3, h4, ?_, h6.map _ hf⟩
  rw [hl, hz]; exact h5
theorem VO.apart {P : Program} {n : Nat} {w0 : World} {σ : Env} {Ω : Ctx} {ops : Array Oper} {K : Env → Ctx → Prop} {r : List Oper} (ids : List Nat) {l : List Mem} (hg : cgets Ω ids = some l) (h : l.Pairwise mdj → VO P n w0 ops r σ Ω K) : VO P n w0 ops r σ Ω K :=
  fun Q hQ a W he hi => h (hi.gets hg).1 Q hQ a W he hi
theorem VD.apart {P : Program} {n : Nat} {w0 : World} {σ : Env} {Ω ΩS : Ctx} {ops : Array Oper} {K : Env → Ctx → Prop} {t : Nat} {ss : List (Nat × Bool)} (ids : List Nat) {l : List Mem} (hg : cgets Ω ids = some l) (h : l.Pairwise mdj → VD P n w0 ops ΩS t ss σ Ω K) : VD P n w0 ops ΩS t ss σ Ω K :=
  fun Q hn hQ listed a W he hi => h (hi.gets hg).1 Q hn hQ listed a W he hi
theorem VD.gbsl {P : Program} {n : Nat} {w0 : World} {σ : Env} {Ω ΩS : Ctx} {ops : Array Oper} {t : Nat} {K : Env → Ctx → Prop} {ty : TypeId} {pos : String} {af : Array Edge} {i : Nat} {rr : List (Nat × Bool)} {dd : Nat} {t' e : TypeId} {s b len : Nat} {l : List (Nat × Operand)} {ps : List (Nat × Value)} {z cs : List Value} {jj : Nat} {b' : Bool} (j : Nat) (hd : Nat.blt dd n = true) (ho : ops[i]? = some ⟨some dd, .buildSlice t' len l.toArray, ty, pos, af, some (jj, b')⟩) (hg : gyes σ ops jj b')
    (hl : evp σ l = some ps) (ht : tsl P t' = some (e, s, b)) (hz : tz P e = some z)
    (hsmall : Nat.ble (len * s) 16777216 = true) (hb : bld (fun i => some (i * s, s)) ((List.range (len * s)).map fun j => z.toArray[j % z.toArray.size]!) ps = some cs) (hS : ∀ W, Inv w0 Ω W → Inv w0 ΩS W)
    (h : ∀ g, VD P n w0 ops ΩS t rr ((dd, .slice (some ⟨g, 0, none⟩) len len) :: σ) ((j, mone g (.cells cs.toArray e (0, 0))) :: Ω) K) : VD P n w0 ops ΩS t ((i, false) :: rr) σ Ω K :=
  VD.s (fun v => (dd, v) :: σ) ho (fun v _ he => he.put hd v) (.inr ⟨_, _, rfl, hg⟩) (Stp.bsl j hl ht hz hsmall hb) (fun _ _ ⟨_, _, hΩ⟩ W hW => hS W (by subst hΩ; exact hW.tl)) (fun _ _ ⟨g, hv, hΩ⟩ => hv ▸ hΩ ▸ h g)
abbrev Hd := Option Addr × Nat × Nat
def hv (h : Hd) : Value := .slice h.1 h.2.1 h.2.2
/-- two numbers and a list; two numbers and a list's header. -/
abbrev tC (e : Ty) : Ty := .pair (.int .i64) (.pair (.int .i64) (.sl e))
abbrev tH : Ty := .pair (.int .i64) (.pair (.int .i64) .hdr)
abbrev DH := Int × Int × Hd
/-- this one, but for where the ops are. -/
def Pc (e : Ty) (m : Mem) (h : DH) (x : (tC e).Den) : Prop := h.1 = x.1 ∧ h.2.1 = x.2.1 ∧ Rd (.sl e) m [hv h.2.2] x.2.2
inductive F2 {α β : Type} (R : α → β → Prop) : List α → List β → Prop
  | nil : F2 R [] []
  | cons {a : α} {b : β} {l : List α} {r : List β} (h : R a b) (t : F2 R l r) : F2 R (a :: l) (b :: r)
theorem F2.mono {α β : Type} {R S : α → β → Prop} {l : List α} {r : List β} (h : F2 R l r) (hs : ∀ a b, R a b → S a b) : F2 S l r := by
  induction h with
  | nil => exact .nil
  | cons h _ ih => exact .cons (hs _ _ h) ih
theorem F2.len {α β : Type} {R : α → β → Prop} {l : List α} {r : List β} (h : F2 R l r) : l.length = r.length := by
  induction h with
  | nil => rfl
  | cons _ _ ih => simp [ih]
theorem F2.get {α β : Type} {R : α → β → Prop} {l : List α} {r : List β} (h : F2 R l r) {i : Nat} {a : α} (ha : l[i]? = some a) : ∃ b, r[i]? = some b ∧ R a b := by
  induction h generalizing i with
  | nil => simp at ha
  | cons h _ ih =>
    cases i with
    | zero => simp at ha; subst ha; exact ⟨_, rfl, h⟩
    | succ i => simp at ha; simpa using ih ha
variable {e : Ty}
theorem Pc.mono {m m' : Mem} {h : DH} {x : (tC e).Den} (hp : Pc e m h x) (hm : mle m m') : Pc e m' h x := ⟨hp.1, hp.2.1, hp.2.2.mono hm⟩
theorem Ow.peel1 {m : Mem} {cs : List Value} {x : (tC e).Den} (h : Ow (tC e) m cs x) : ∃ h' : DH, Ow tH mnil cs h' ∧ Pc e m h' x ∧ Ow (.sl e) m [hv h'.2.2] x.2.2 := by
  obtain ⟨c1, c2, m1, m2, rfl, _, _, hm2, ⟨rfl, k1⟩, c3, c4, m3, m4, rfl, _, _, hm4, ⟨rfl, k2⟩, k3⟩ := h
  obtain ⟨A, c, rfl, _, _⟩ := Ow.slice1 k3
  have k4 := k3.up (hm4.trans hm2)
  exact ⟨(x.1, x.2.1, A, x.2.2.length, c), Ow.of rfl (m := mnil) ⟨_, _, rfl, ⟨rfl, k1⟩, _, _, rfl, ⟨rfl, k2⟩, rfl⟩, ⟨rfl, rfl, k4.rd (mle_refl _)⟩, k4⟩
theorem OwAll.peel : ∀ {xs : List (tC e).Den} {m : Mem} {cs : List Value}, OwAll (Ow (tC e)) m cs xs → ∃ hs : List DH, OwAll (Ow tH) mnil cs hs ∧ F2 (Pc e m) hs xs ∧ OwAll (Ow (.sl e)) m (hs.map fun h => hv h.2.2) (xs.map fun x => x.2.2)
  | [], _, _, h => ⟨[], h, .nil, rfl⟩
  | x :: r, m, _, ⟨c1, c2, m1, m2, h1, h2, h3, h4, h5, h6⟩ => by
    obtain ⟨h', k1, k2, k3⟩ := h5.peel1
    obtain ⟨hs, l1, l2, l3⟩ := OwAll.peel h6
    exact ⟨h' :: hs, ⟨c1, c2, mnil, mnil, h1, mdj_nil _, mle_nil _, mle_nil _, k1, l1⟩, .cons (k2.mono h3) (l2.mono fun _ _ h => h.mono h4), ⟨[hv h'.2.2], _, m1, m2, rfl, h2, h3, h4, k3, l3⟩⟩
theorem Ow.peelL {m : Mem} {cs : List Value} {xs : List (tC e).Den} (h : Ow (.sl (tC e)) m cs xs) : ∃ (hs : List DH) (ma mo : Mem), mdj ma mo ∧ mle ma m ∧ mle mo m ∧ Ow (.sl tH) ma cs hs ∧ F2 (Pc e mo) hs xs ∧ OwAll (Ow (.sl e)) mo (hs.map fun h => hv h.2.2) (xs.map fun x => x.2.2) := by
  obtain ⟨v, m0, m1, rc, rfl, h2, h3, h4, h5, h6⟩ := h
  obtain ⟨hs, l1, l2, l3⟩ := OwAll.peel h6
  refine ⟨hs, m0, m1, h2, h3, h4, ⟨v, m0, mnil, rc, rfl, mdj_nil _, mle_refl _, mle_nil _, ?_, l1⟩, l2, l3⟩
  rw [l2.len]; exact h5
theorem OwAll.peelL : ∀ {xss : List (List (tC e).Den)} {m : Mem} {cs : List Value}, OwAll (Ow (.sl (tC e))) m cs xss → ∃ (hss : List (List DH)) (ma mo : Mem), mdj ma mo ∧ mle ma m ∧ mle mo m ∧ OwAll (Ow (.sl tH)) ma cs hss ∧ F2 (F2 (Pc e mo)) hss xss ∧
    OwAll (Ow (.sl e)) mo (hss.flatten.map fun h => hv h.2.2) (xss.flatten.map fun x => x.2.2)
  | [], _, _, h => ⟨[], mnil, mnil, mdj_nil _, mle_nil _, mle_nil _, h, .nil, rfl⟩
  | x :: r, m, _, ⟨c1, c2, m1, m2, h1, h2, h3, h4, h5, h6⟩ => by
    obtain ⟨hs, a1, o1, k1, k2, k3, k4, k5, k6⟩ := h5.peelL
    obtain ⟨hss, a2, o2, l1, l2, l3, l4, l5, l6⟩ := OwAll.peelL h6
    have d1 : mdj a1 a2 := h2.mono k2 l2
    have d2 : mdj o1 o2 := h2.mono k3 l3
    refine ⟨hs :: hss, mun a1 a2, mun o1 o2, ?_, mun_le (k2.trans h3) (l2.trans h4), mun_le (k3.trans h3) (l3.trans h4), ⟨c1, c2, a1, a2, h1, d1, mle_un_left _ _, mle_un_right d1, k4, l4⟩,
      .cons (k5.mono fun _ _ h => h.mono (mle_un_left _ _)) (l5.mono fun _ _ h => h.mono fun _ _ h => h.mono (mle_un_right d2)), ?_⟩
    · exact mdj_un (mdj_un k1.symm (h2.mono k2 l3).symm).symm (mdj_un (h2.mono k3 l2) l1.symm).symm
    · simp only [List.flatten_cons, List.map_append]
      exact OwAll.app d2 (mle_un_left _ _) (mle_un_right d2) k6 l6
theorem Ow.peelLL {m : Mem} {cs : List Value} {xss : List (List (tC e).Den)} (h : Ow (.sl (.sl (tC e))) m cs xss) : ∃ (hss : List (List DH)) (ml mo : Mem), Seps m [ml, mo] ∧ Ow (.sl (.sl tH)) ml cs hss ∧ F2 (F2 (Pc e mo)) hss xss ∧
    OwAll (Ow (.sl e)) mo (hss.flatten.map fun h => hv h.2.2) (xss.flatten.map fun x => x.2.2) := by
  obtain ⟨v, m0, m1, rc, rfl, h2, h3, h4, h5, h6⟩ := h
  obtain ⟨hss, a, o, k1, k2, k3, k4, k5, k6⟩ := OwAll.peelL h6
  have d := h2.mono (mle_refl _) k2
  have d2 := h2.mono (mle_refl _) k3
  refine ⟨hss, mun m0 a, o, .two (mdj_un d2 k1) (mun_le h3 (k2.trans h4)) (k3.trans h4), ⟨v, m0, a, rc, rfl, d, mle_un_left _ _, mle_un_right d, ?_, k4⟩, k5, k6⟩
  rw [k5.len]; exact h5
theorem hdrs_are : ∀ {hs : List Hd} {m : Mem} {rc : List Value}, OwAll (Ow .hdr) m rc hs → rc = hs.map hv
  | [], _, _, h => h
  | _ :: _, _, _, ⟨c1, c2, m1, m2, h1, _, _, _, h5, h6⟩ => by
    rw [h1, show c1 = _ from h5, hdrs_are h6]; rfl
theorem OwAll.len {α : Type} {R : Mem → List Value → α → Prop} {k : Nat} (hk : ∀ m c x, R m c x → c.length = k) : ∀ {xs : List α} {m : Mem} {cs : List Value}, OwAll R m cs xs → cs.length = xs.length * k
  | [], _, _, h => by rw [show _ = [] from h]; simp
  | _ :: r, _, _, ⟨c1, c2, m1, m2, h1, _, _, _, h5, h6⟩ => by
    rw [h1, List.length_append, hk _ _ _ h5, OwAll.len hk h6, List.length_cons, Nat.add_mul]; omega
/-- The headers of one's own, and what they lead to. -/
theorem Ow.mkOps {M mp mo : Mem} {v : Value} {hs : List Hd} {os : List (List e.Den)} (hS : Seps M [mp, mo]) (h : Ow (.sl .hdr) mp [v] hs) (ho : OwAll (Ow (.sl e)) mo (hs.map hv) os) : Ow (.sl (.sl e)) M [v] os := by
  obtain ⟨v', m0, m1, rc, h1, h2, h3, h4, h5, h6⟩ := h
  obtain rfl := hdrs_are h6
  have hl : hs.length = os.length := by
    have := ho.len (k := 1) (fun _ _ _ h => h.len)
    simpa using this
  have hd : mdj mp mo := by have := hS.2; simp at this; exact this
  refine ⟨v', m0, mo, _, h1, hd.mono h3 (mle_refl _), h3.trans (hS.1 _ (.head _)), hS.1 _ (.tail _ (.head _)), ?_, ho⟩
  rw [← hl]; exact h5
theorem row_all {m : Mem} : ∀ {hs : List DH} {xs : List (tC e).Den} {cs : List Value}, F2 (Pc e m) hs xs → All2c (Rd tH m) cs hs → All2c (Rd (tC e) m) cs xs
  | _, _, _, .nil, h => h
  | _, _, _, .cons (b := b) hp hr, ⟨c1, c2, h1, ⟨a1, a2, e1, h2, b1, b2, e2, h3, h4⟩, h5⟩ => by
    refine ⟨c1, c2, h1, ⟨a1, a2, e1, ?_, b1, b2, e2, ?_, ?_⟩, row_all hr h5⟩
    · rw [← hp.1]; exact h2
    · rw [← hp.2.1]; exact h3
    · have h4' : b2 = [hv _] := h4
      rw [h4']; exact hp.2.2
theorem row_rd {m : Mem} {v : Value} {hs : List DH} {xs : List (tC e).Den} (h : Rd (.sl tH) m [v] hs) (hp : F2 (Pc e m) hs xs) : Rd (.sl (tC e)) m [v] xs := by
  obtain ⟨A, c, h1, h2, h3, h4⟩ := h
  have hl := hp.len
  refine ⟨A, c, by rw [← hl]; exact h1, by rw [← hl]; exact h2, h3, ?_⟩
  rw [← hl]
  exact h4.imp id fun ⟨g, off, all, k1, k2, k3⟩ => ⟨g, off, all, k1, k2, row_all hp k3⟩
end
section
set_option linter.unusedVariables false
set_option linter.unusedSimpArgs false
set_option maxRecDepth 4000
theorem fnOk61 : fnOk Try.prog 61 = true := by kernel_rfl
theorem c4Check_ok (W : World) {v0 : List Value} {d0 : DCommit} (h0 : Rd TCommit (wm W) v0 d0) : CallR Try.prog 61 [.agg v0.toArray] W (mnil) (fun v m' => v = .int .i64 (cCheck d0)) := by
  obtain ⟨p0_A2, p0_c2, rfl, p0_0, p0_1, p0_2⟩ := open_Commit (x0 := d0.1) (x1 := d0.2.1) (x2 := d0.2.2) h0
  simp only [inK] at p0_0
  simp only [inK] at p0_1
  have p0_r2 := Rd.room p0_2
  refine CallR.ofA (n := 24) Try.func61 rfl rfl rfl ?_
  refine VC.rs ?_
  refine VO.box (cs := [Value.int .i64 (d0.1), Value.int .i64 (d0.2.1), Value.slice p0_A2 (d0.2.2.length) (p0_c2)]) 102 rfl rfl rfl (fun g1 => ?_)
  refine VO.as ?_
  refine VO.k3 0 1 2 ?_
  refine VC.seq ?_
  refine VC.rs ?_
  refine VO.y rfl (.fa rfl tst52 rfl) ?_
  refine VO.y rfl (.ld1 102 rfl tk3 rfl (cellsAt_one rfl rfl)) ?_
  refine VO.y rfl (.lss rfl rfl) ?_
  refine VO.mv ?_
  refine VO.dec (t := 6) rfl (fun hc3 => ?_) (fun hc3 => ?_)
  · -- T
    refine VO.gN ?_
    refine VO.gN ?_
    refine VO.gN ?_
    refine VO.y rfl (.pT rfl rfl) ?_
    refine VO.mv ?_
    refine VO.gN ?_
    refine VO.gN ?_
    refine VO.gN ?_
    refine VO.y rfl (.pT rfl rfl) ?_
    refine VO.mv ?_
    refine VO.gN ?_
    refine VO.gN ?_
    refine VO.gN ?_
    refine VO.y rfl (.pT rfl rfl) ?_
    refine VO.k4 0 1 2 20 ?_
    refine VC.condT rfl ?_
    refine VC.rs ?_
    refine VO.as ?_
    refine VO.kp [102, 0] [(102, mone g1 (.cells [Value.int .i64 (d0.1), Value.int .i64 (d0.2.1), Value.slice p0_A2 (d0.2.2.length) (p0_c2)].toArray 52 (0, 0))), (0, wm W)] ?_
    refine VO.k4 0 1 2 20 ?_
    refine VC.ret ?_
    refine outR ?_
    refine ⟨_, _, res_run (rs := [.tmp 2]) rfl (.tmp rfl .nil), fun W_ hI => out_of (l := []) hI [] rfl rfl (mle_refl _) (fun hS_ => ?_)⟩
    dsimp only [packV]
    all_goals (first | rfl | (unfold cCheck; congr 1; split <;> (try split) <;> first | rfl | omega))
  · -- F
    refine VO.gy rfl ⟨_, rfl, rfl⟩ (.fa rfl tst52 rfl) ?_
    refine VO.gy rfl ⟨_, rfl, rfl⟩ (.ld1 102 rfl tk3 rfl (cellsAt_one rfl rfl)) ?_
    refine VO.gy rfl ⟨_, rfl, rfl⟩ (.gtr rfl rfl) ?_
    refine VO.y rfl (.pF rfl rfl) ?_
    refine VO.mv ?_
    refine VO.dec (t := 11) rfl (fun hc4 => ?_) (fun hc4 => ?_)
    · -- FT
      refine VO.gN ?_
      refine VO.gN ?_
      refine VO.gN ?_
      refine VO.y rfl (.pT rfl rfl) ?_
      refine VO.mv ?_
      refine VO.gN ?_
      refine VO.gN ?_
      refine VO.gN ?_
      refine VO.y rfl (.pT rfl rfl) ?_
      refine VO.k4 0 1 2 20 ?_
      refine VC.condT rfl ?_
      refine VC.rs ?_
      refine VO.as ?_
      refine VO.kp [102, 0] [(102, mone g1 (.cells [Value.int .i64 (d0.1), Value.int .i64 (d0.2.1), Value.slice p0_A2 (d0.2.2.length) (p0_c2)].toArray 52 (0, 0))), (0, wm W)] ?_
      refine VO.k4 0 1 2 20 ?_
      refine VC.ret ?_
      refine outR ?_
      refine ⟨_, _, res_run (rs := [.tmp 2]) rfl (.tmp rfl .nil), fun W_ hI => out_of (l := []) hI [] rfl rfl (mle_refl _) (fun hS_ => ?_)⟩
      dsimp only [packV]
      all_goals (first | rfl | (unfold cCheck; congr 1; split <;> (try split) <;> first | rfl | omega))
    · -- FF
      refine VO.gy rfl ⟨_, rfl, rfl⟩ (.fa rfl tst52 rfl) ?_
      refine VO.gy rfl ⟨_, rfl, rfl⟩ (.ld1 102 rfl tk3 rfl (cellsAt_one rfl rfl)) ?_
      refine VO.gy rfl ⟨_, rfl, rfl⟩ (.lss rfl rfl) ?_
      refine VO.y rfl (.pF rfl rfl) ?_
      refine VO.mv ?_
      refine VO.dec (t := 16) rfl (fun hc5 => ?_) (fun hc5 => ?_)
      · -- FFT
        refine VO.gN ?_
        refine VO.gN ?_
        refine VO.gN ?_
        refine VO.y rfl (.pT rfl rfl) ?_
        refine VO.k4 0 1 2 20 ?_
        refine VC.condT rfl ?_
        refine VC.rs ?_
        refine VO.as ?_
        refine VO.kp [102, 0] [(102, mone g1 (.cells [Value.int .i64 (d0.1), Value.int .i64 (d0.2.1), Value.slice p0_A2 (d0.2.2.length) (p0_c2)].toArray 52 (0, 0))), (0, wm W)] ?_
        refine VO.k4 0 1 2 20 ?_
        refine VC.ret ?_
        refine outR ?_
        refine ⟨_, _, res_run (rs := [.tmp 2]) rfl (.tmp rfl .nil), fun W_ hI => out_of (l := []) hI [] rfl rfl (mle_refl _) (fun hS_ => ?_)⟩
        dsimp only [packV]
        all_goals (first | rfl | (unfold cCheck; congr 1; split <;> (try split) <;> first | rfl | omega))
      · -- FFF
        refine VO.gy rfl ⟨_, rfl, rfl⟩ (.fa rfl tst52 rfl) ?_
        refine VO.gy rfl ⟨_, rfl, rfl⟩ (.ld1 102 rfl tk3 rfl (cellsAt_one rfl rfl)) ?_
        refine VO.gy rfl ⟨_, rfl, rfl⟩ (.gtr rfl rfl) ?_
        refine VO.y rfl (.pF rfl rfl) ?_
        refine VO.k4 0 1 2 20 ?_
        refine VC.cond rfl (fun hc6 => ?_) (fun hc6 => ?_)
        · -- FFFT
          refine VC.rs ?_
          refine VO.as ?_
          refine VO.kp [102, 0] [(102, mone g1 (.cells [Value.int .i64 (d0.1), Value.int .i64 (d0.2.1), Value.slice p0_A2 (d0.2.2.length) (p0_c2)].toArray 52 (0, 0))), (0, wm W)] ?_
          refine VO.k4 0 1 2 20 ?_
          refine VC.ret ?_
          refine outR ?_
          refine ⟨_, _, res_run (rs := [.tmp 2]) rfl (.tmp rfl .nil), fun W_ hI => out_of (l := []) hI [] rfl rfl (mle_refl _) (fun hS_ => ?_)⟩
          dsimp only [packV]
          all_goals (first | rfl | (unfold cCheck; congr 1; split <;> (try split) <;> first | rfl | omega))
        · -- FFFF
          refine VC.skip ?_
          refine outN ?_
          refine VC.rs ?_
          refine VO.y rfl (.fa rfl tst52 rfl) ?_
          refine VO.y rfl (.ld1 102 rfl tk22 rfl (cellsAt_one rfl rfl)) ?_
          refine VO.callN 107 rfl fnOk32 rfl (fun W hW => rbCheck_ok W (Rd.mono p0_2 (hW.at (i := 0) rfl))) (fun v7 m7 hv7 => ?_)
          subst hv7
          have hfa8 := batchCheck_range d0.2.2
          refine VO.as ?_
          refine VO.kp [102, 0] [(102, mone g1 (.cells [Value.int .i64 (d0.1), Value.int .i64 (d0.2.1), Value.slice p0_A2 (d0.2.2.length) (p0_c2)].toArray 52 (0, 0))), (0, wm W)] ?_
          refine VO.k4 0 1 2 20 ?_
          refine VC.ret ?_
          refine ⟨_, _, res_run (rs := [.tmp 2]) rfl (.tmp rfl .nil), fun W_ hI => out_of (l := []) hI [] rfl rfl (mle_refl _) (fun hS_ => ?_)⟩
          dsimp only [packV]
          all_goals (first | rfl | (unfold cCheck; congr 1; split <;> (try split) <;> first | rfl | omega))
end
section
set_option linter.unusedVariables false
abbrev TLCommit : Ty := .pair (.int .i64) (.pair (.int .i64) (.spl TOp))
abbrev DLCommit := Int × Int × (List DOp × List DOp)
theorem open_LCommit {m : Mem} {cs : List Value} {x0 : Int} {x1 : Int} {x2 : List DOp × List DOp} (h : Rd TLCommit m cs (x0, x1, x2)) : ∃ (A2 : Option Addr), ∃ (c2 : Nat), cs = [(.int .i64 x0 : Value), .int .i64 x1, .slice A2 x2.1.length c2] ∧ inK .i64 x0 ∧ inK .i64 x1 ∧ Rd (.spl TOp) m [.slice A2 x2.1.length c2] x2 := by
  obtain ⟨p1, q1, rfl, u1, w1⟩ := Rd.pair h
  obtain ⟨rfl, z2⟩ := (show _ = _ ∧ _ from u1)
  obtain ⟨p3, q3, rfl, u3, w3⟩ := Rd.pair w1
  obtain ⟨rfl, z4⟩ := (show _ = _ ∧ _ from u3)
  have z5 := w3
  obtain ⟨A5, c5, rfl, _⟩ := Rd.spl1 w3
  exact ⟨A5, c5, rfl, z2, z4, z5⟩
theorem openO_LCommit {m : Mem} {cs : List Value} {x0 : Int} {x1 : Int} {x2 : List DOp × List DOp} (h : Ow TLCommit m cs (x0, x1, x2)) : ∃ (A2 : Option Addr), ∃ (c2 : Nat), ∃ (n2 : Mem), cs = [(.int .i64 x0 : Value), .int .i64 x1, .slice A2 x2.1.length c2] ∧ Seps m [n2] ∧ inK .i64 x0 ∧ inK .i64 x1 ∧ Ow (.spl TOp) n2 [.slice A2 x2.1.length c2] x2 := by
  obtain ⟨p1, q1, ma1, mb1, rfl, dj1, la1, lb1, u1, w1⟩ := Ow.pair h
  obtain ⟨rfl, z2⟩ := (show _ = _ ∧ _ from u1)
  obtain ⟨p3, q3, ma3, mb3, rfl, dj3, la3, lb3, u3, w3⟩ := Ow.pair w1
  obtain ⟨rfl, z4⟩ := (show _ = _ ∧ _ from u3)
  have z5 := w3
  obtain ⟨A5, c5, rfl, _⟩ := Ow.spl1 w3
  exact ⟨A5, c5, _, rfl, (Seps.app dj1 la1 lb1 (Seps.nil _) (Seps.app dj3 la3 lb3 (Seps.nil _) (Seps.one (mle_refl _)))), z2, z4, z5⟩
theorem mkO_LCommit {m : Mem} {n2 : Mem} (x0 : Int) (x1 : Int) (x2 : List DOp × List DOp) (hS : Seps m [n2]) (h0 : inK .i64 x0) (h1 : inK .i64 x1) {v2 : Value} (h2 : Ow (.spl TOp) n2 [v2] x2) : Ow TLCommit m [.int .i64 x0, .int .i64 x1, v2] (x0, x1, x2) := by
  obtain ⟨e1, la1, lb1, Sa1, Sb1⟩ := Seps.cut (l := []) (r := [n2]) hS
  obtain ⟨e2, la2, lb2, Sa2, Sb2⟩ := Seps.cut (l := []) (r := [n2]) Sb1
  exact (Ow.mkPair (c1 := [_]) e1 la1 lb1 (show Ow (.int .i64) _ [_] _ from ⟨rfl, h0⟩) (Ow.mkPair (c1 := [_]) e2 la2 lb2 (show Ow (.int .i64) _ [_] _ from ⟨rfl, h1⟩) (h2.up (Sb2.1 _ (.head _)))))
abbrev THC : Ty := .pair (.int .i64) (.pair (.int .i64) .hdr)
abbrev DHC := Int × Int × Hd
instance decHC : DecidableEq DHC := (@instDecidableEqProd _ _ inferInstance (@instDecidableEqProd _ _ inferInstance inferInstance))
theorem open_HC {m : Mem} {cs : List Value} {x0 : Int} {x1 : Int} {x2 : Hd} (h : Rd THC m cs (x0, x1, x2)) : cs = [(.int .i64 x0 : Value), .int .i64 x1, .slice x2.1 x2.2.1 x2.2.2] ∧ inK .i64 x0 ∧ inK .i64 x1 := by
  obtain ⟨p1, q1, rfl, u1, w1⟩ := Rd.pair h
  obtain ⟨rfl, z2⟩ := (show _ = _ ∧ _ from u1)
  obtain ⟨p3, q3, rfl, u3, w3⟩ := Rd.pair w1
  obtain ⟨rfl, z4⟩ := (show _ = _ ∧ _ from u3)
  obtain rfl := (show _ = _ from w3)
  exact ⟨rfl, z2, z4⟩
theorem mk_HC {m : Mem} (x0 : Int) (x1 : Int) (x2 : Hd) (h0 : inK .i64 x0) (h1 : inK .i64 x1) : Rd THC m [.int .i64 x0, .int .i64 x1, .slice x2.1 x2.2.1 x2.2.2] (x0, x1, x2) := (Rd.mkPair (c1 := [_]) (show Rd (.int .i64) m [_] _ from ⟨rfl, h0⟩) (Rd.mkPair (c1 := [_]) (show Rd (.int .i64) m [_] _ from ⟨rfl, h1⟩) (show Rd .hdr m [_] _ from rfl)))
end
section
set_option linter.unusedVariables false
def lentC (c : DCommit) : DLCommit := (c.1, c.2.1, c.2.2, spareO)
def spareC : List DLCommit := [(-7, 0, [], []), (-7, 0, [], []), (-7, 0, [], [])]
def fgC (c : DLCommit) : DCommit := (c.1, c.2.1, c.2.2.1)
theorem fg_lent (l : List DCommit) : (l.map lentC).map fgC = l := by
  rw [List.map_map]; exact List.map_id l
theorem lent_take (l : List DCommit) : ((l.map lentC ++ spareC).take l.length) = l.map lentC := by
  rw [List.take_append_of_le_length (by simp), List.take_of_length_le (by simp)]
theorem lent_fg (l : List DCommit) : ((l.map lentC ++ spareC).take l.length).map fgC = l := by rw [lent_take, fg_lent]
theorem fgC_rd1 {m : Mem} {c : List Value} {x : DLCommit} (h : Rd TLCommit m c x) : Rd TCommit m c (fgC x) := by
  obtain ⟨A, k, rfl, z0, z1, z2⟩ := open_LCommit (x0 := x.1) (x1 := x.2.1) (x2 := x.2.2) h
  exact mk_Commit (m := m) _ _ _ z0 z1 (Rd.pre2 (Rd.full z2).2)
theorem fgC_ow1 {m : Mem} {c : List Value} {x : DLCommit} (h : Ow TLCommit m c x) : Ow TCommit m c (fgC x) := by
  obtain ⟨A, k, n, rfl, zS, z0, z1, z2⟩ := openO_LCommit (x0 := x.1) (x1 := x.2.1) (x2 := x.2.2) h
  exact mkO_Commit _ _ _ zS z0 z1 (Ow.pre2 (Ow.full z2).2)
theorem fgC_rd {m : Mem} {cs : List Value} {l : List DLCommit} (h : Rd (.sl TLCommit) m cs l) : Rd (.sl TCommit) m cs (l.map fgC) := Rd.mapL (e := TLCommit) (e' := TCommit) fgC rfl (fun _ _ _ h => fgC_rd1 h) h
theorem fgC_ow {m : Mem} {cs : List Value} {l : List DLCommit} (h : Ow (.sl TLCommit) m cs l) : Ow (.sl TCommit) m cs (l.map fgC) := Ow.mapL (e := TLCommit) (e' := TCommit) fgC rfl (fun _ _ _ h => fgC_ow1 h) h
theorem lent_rd {m : Mem} {cs : List Value} {l : List DCommit} (h : Rd (.sl TLCommit) m cs ((l.map lentC ++ spareC).take l.length)) : Rd (.sl TCommit) m cs l := by
  have h2 := fgC_rd h
  rwa [lent_fg] at h2
theorem lent_ow {m : Mem} {cs : List Value} {l : List DCommit} (h : Ow (.sl TLCommit) m cs ((l.map lentC ++ spareC).take l.length)) : Ow (.sl TCommit) m cs l := by
  have h2 := fgC_ow h
  rwa [lent_fg] at h2
theorem lent_len (l : List DCommit) : (l.map lentC ++ spareC).length = l.length + 3 := by simp [spareC]
theorem lent_next {out : List DLCommit} {l0 : List DCommit} {k : Nat} {c : DCommit} (h : out = (l0.take k).map lentC) (hc : l0[k]? = some c) : out ++ [lentC c] = (l0.take (k + 1)).map lentC := by
  rw [h, take_one hc, List.map_append]; rfl
theorem spareC_next {out d : List DLCommit} {k : Nat} (h : out = d ++ spareC.take k) (hk : k < 3) : out ++ [(-7, 0, [], [])] = d ++ spareC.take (k + 1) := by
  rw [h, List.append_assoc]
  congr 1
  rcases k with _ | _ | _ | k
  · rfl
  · rfl
  · rfl
  · omega
theorem lent_at {full : List DLCommit} {l : List DCommit} {k : Nat} {x : DLCommit} {c : DCommit} (e : full = l.map lentC ++ spareC) (hx : full[k]? = some x) (hc : l[k]? = some c) : x = lentC c := by
  obtain ⟨hk, _⟩ := List.getElem?_eq_some_iff.1 hc
  rw [e, List.getElem?_append_left (by simpa using hk), List.getElem?_map, hc] at hx
  exact (Option.some.inj hx).symm
theorem spare_at {full : List DLCommit} {l : List DCommit} {k : Nat} {x : DLCommit} (h : full = l.map lentC ++ spareC) (hk : l.length ≤ k) (hx : full[k]? = some x) : x = (-7, 0, [], []) := by
  obtain ⟨hk2, _⟩ := List.getElem?_eq_some_iff.1 hx
  rw [h, lent_len] at hk2
  rw [h, List.getElem?_append_right (by simpa using hk), List.length_map] at hx
  have h3 : k - l.length = 0 ∨ k - l.length = 1 ∨ k - l.length = 2 := by omega
  rcases h3 with e | e | e <;> rw [e] at hx <;> exact (Option.some.inj hx).symm
theorem opsLent {l : List DOp} {n : Nat} (h : n = l.length) : (l ++ spareO).take (n + 3) = l ++ spareO := by
  rw [List.take_of_length_le]; simp [spareO]; omega
end
section
set_option linter.unusedVariables false
set_option linter.unusedSimpArgs false
set_option maxRecDepth 4000
theorem fnOk57 : fnOk Try.prog 57 = true := by kernel_rfl
theorem fnOk64 : fnOk Try.prog 64 = true := by kernel_rfl
theorem fnOk35 : fnOk Try.prog 35 = true := by kernel_rfl
theorem LentCommit_ok (W : World) {v0 : List Value} {d0 : DCommit} (h0 : Rd TCommit (wm W) v0 d0) (e0 : d0.2.2.length ≤ 3518437208800) : CallR Try.prog 57 [.agg v0.toArray] W (mnil) (fun v m' => ∃ (s0 : List Value), v = .agg s0.toArray ∧ Ow TLCommit m' s0 (lentC d0)) := by
  obtain ⟨p0_A2, p0_c2, rfl, p0_0, p0_1, p0_2⟩ := open_Commit (x0 := d0.1) (x1 := d0.2.1) (x2 := d0.2.2) h0
  simp only [inK] at p0_0
  simp only [inK] at p0_1
  have p0_r2 := Rd.room p0_2
  refine CallR.ofA (n := 15) Try.func57 rfl rfl rfl ?_
  refine VC.rs ?_
  refine VO.box (cs := [Value.int .i64 (d0.1), Value.int .i64 (d0.2.1), Value.slice p0_A2 (d0.2.2.length) (p0_c2)]) 102 rfl rfl rfl (fun g1 => ?_)
  refine VO.alloc 104 rfl tz52 (fun g3 => ?_)
  refine VO.k3 0 1 2 ?_
  refine VC.seq ?_
  refine VC.regD _ 11 [(0, true), (1, true), (2, true), (3, true), (4, true), (5, true), (7, true), (8, true), (9, true), (6, false), (10, true)] follows (by kernel_rfl) (fun _ h => h.sub [104, 102, 0]) ?_
  refine VD.y rfl rfl (.inl rfl) (.fa rfl tst52 rfl) ?_
  refine VD.y rfl rfl (.inl rfl) (.ld1 102 rfl tk3 rfl (cellsAt_one rfl rfl)) ?_
  refine VD.y rfl rfl (.inl rfl) (.fa rfl tst52 rfl) ?_
  refine VD.y rfl rfl (.inl rfl) (.ld1 102 rfl tk3 rfl (cellsAt_one rfl rfl)) ?_
  refine VD.y rfl rfl (.inl rfl) (.fa rfl tst52 rfl) ?_
  refine VD.y rfl rfl (.inl rfl) (.ld1 102 rfl tk22 rfl (cellsAt_one rfl rfl)) ?_
  refine VD.y rfl rfl (.inl rfl) (.fa rfl tst52 rfl) ?_
  refine VD.y rfl rfl (.inl rfl) (.ld1 102 rfl tk22 rfl (cellsAt_one rfl rfl)) ?_
  refine VD.y rfl rfl (.inl rfl) (.lenS rfl tsl22) ?_
  refine VD.callN 105 rfl rfl (.inl rfl) fnOk29 rfl (fun _ h => h.sub [104, 102, 0]) (fun W hW => LentOps_ok W (Rd.mono p0_2 (hW.at (i := 0) rfl)) bd) (fun v5 m5 hv5 => ?_)
  obtain ⟨s5_0, rfl, f5_0⟩ := hv5
  obtain ⟨A5_0, c5_0, eq5_0, l5_0, k5_0⟩ := f5_0.slice
  subst eq5_0
  simp only [maxLen] at k5_0
  have hs6 := (OwnL.rd (Ow.ownl f5_0 rfl mnil) (mle_refl _) (mle_nil _)).pre (j := d0.2.2.length) bd
  rw [List.take_left] at hs6
  refine VD.y rfl rfl (.inl rfl) (.slHI d0.2.2.length rfl rfl tsl22 rfl bd) ?_
  refine VD.nil rfl ?_ rfl
  refine VO.y rfl (.bst (cs := [Value.int .i64 (d0.1), Value.int .i64 (d0.2.1), Value.slice A5_0 (d0.2.2.length) (c5_0)]) rfl tst52 tz52 rfl) ?_
  refine VO.store (k := 3) (c' := [Value.int .i64 (d0.1), Value.int .i64 (d0.2.1), Value.slice A5_0 (d0.2.2.length) (c5_0)]) 104 rfl rfl (.inl tk52) rfl rfl rfl rfl rfl ?_
  refine VO.k3 0 1 2 ?_
  refine outN ?_
  refine VC.ret ?_
  refine ⟨_, _, res_run (rs := [.cell 2 52]) rfl (.agg 104 rfl tk52 rfl ⟨_, _, _, mone_self _ _, Nat.le_of_ble_eq_true rfl, rfl⟩ .nil), fun W_ hI => out_of (l := [m5]) hI [105] rfl rfl (mle_refl _) (fun hS_ => ?_)⟩
  dsimp only [packV]
  have he0 : (lentC d0 : Ty.Den TLCommit) = (d0.1, d0.2.1, (d0.2.2, spareO)) := by first | rfl | (simp [*]; done)
  refine ⟨[Value.int .i64 (d0.1), Value.int .i64 (d0.2.1), Value.slice A5_0 (d0.2.2.length) (c5_0)], ?_, ?_⟩
  rotate_left
  · rw [he0]; exact (mkO_LCommit d0.1 d0.2.1 (d0.2.2, spareO) hS_ bdk bdk (Ow.mkSpl (e := TOp) (xs := d0.2.2) (ys := spareO) (OwnL.ow (Ow.ownl f5_0 rfl mnil) rfl) (by first | rfl | simp)))
  all_goals (first | rfl | (simp [*]; done))
theorem KeptCommit_ok (W : World) {v0 : List Value} {d0 : DLCommit} (h0 : Rd TLCommit (wm W) v0 d0) {v1 : List Value} {d1 : DCommit} (h1 : Rd TCommit (wm W) v1 d1) (e0 : d0 = lentC d1) (e1 : d1.2.2.length ≤ 3518437208800) : CallR Try.prog 64 [.agg v0.toArray, .agg v1.toArray] W (mnil) (fun v m' => v = .bool true) := by
  have ea := congrArg Prod.fst e0; have eb := congrArg (fun x => x.2.1) e0; have ec := congrArg (fun x => x.2.2.1) e0; have ed := congrArg (fun x => x.2.2.2) e0; simp only [lentC] at ea eb ec ed; have el := congrArg List.length ec; have em := congrArg List.length ed; simp only [spareO, List.length_cons, List.length_nil] at em
  obtain ⟨p0_A2, p0_c2, rfl, p0_0, p0_1, p0_2⟩ := open_LCommit (x0 := d0.1) (x1 := d0.2.1) (x2 := d0.2.2) h0
  simp only [inK] at p0_0
  simp only [inK] at p0_1
  have p0_f2 := (Rd.full p0_2).2
  have p0_s2 := Rd.pre2 p0_f2
  have p0_r2 := Rd.room p0_f2
  obtain ⟨p1_A2, p1_c2, rfl, p1_0, p1_1, p1_2⟩ := open_Commit (x0 := d1.1) (x1 := d1.2.1) (x2 := d1.2.2) h1
  simp only [inK] at p1_0
  simp only [inK] at p1_1
  have p1_r2 := Rd.room p1_2
  refine CallR.ofA (n := 38) Try.func64 rfl rfl rfl ?_
  refine VC.rs ?_
  refine VO.box (cs := [Value.int .i64 (d0.1), Value.int .i64 (d0.2.1), Value.slice p0_A2 (d0.2.2.1.length) (p0_c2)]) 102 rfl rfl rfl (fun g1 => ?_)
  refine VO.box (cs := [Value.int .i64 (d1.1), Value.int .i64 (d1.2.1), Value.slice p1_A2 (d1.2.2.length) (p1_c2)]) 104 rfl rfl rfl (fun g3 => ?_)
  refine VO.as ?_
  refine VO.k5 0 1 2 3 4 ?_
  refine VC.seq ?_
  refine VC.regD _ 31 [(0, true), (1, true), (2, true), (3, true), (4, true), (5, true), (6, true), (7, true), (8, true), (9, true), (10, true), (11, true), (12, true), (13, true), (14, true), (15, true), (16, true), (17, true), (18, true), (19, true), (20, true), (21, true), (22, true), (23, true), (24, true), (25, true), (26, true), (27, true), (28, true), (29, true), (30, true)] follows (by kernel_rfl) (fun _ h => h.sub [104, 102, 0]) ?_
  refine VD.y rfl rfl (.inl rfl) (.fa rfl tst52 rfl) ?_
  refine VD.y rfl rfl (.inl rfl) (.ld1 102 rfl tk3 rfl (cellsAt_one rfl rfl)) ?_
  refine VD.y rfl rfl (.inl rfl) (.fa rfl tst52 rfl) ?_
  refine VD.y rfl rfl (.inl rfl) (.ld1 104 rfl tk3 rfl (cellsAt_one rfl rfl)) ?_
  refine VD.y rfl rfl (.inl rfl) (.eql rfl rfl) ?_
  refine VD.y rfl rfl (.inl rfl) (.mv rfl) ?_
  refine VD.dec (s := 10) rfl (fun hc5 => ?_) (fun hc5 => ?_)
  · -- T
    refine VD.y rfl rfl (.inr ⟨_, _, rfl, _, rfl, rfl⟩) (.fa rfl tst52 rfl) ?_
    refine VD.y rfl rfl (.inr ⟨_, _, rfl, _, rfl, rfl⟩) (.ld1 102 rfl tk3 rfl (cellsAt_one rfl rfl)) ?_
    refine VD.y rfl rfl (.inr ⟨_, _, rfl, _, rfl, rfl⟩) (.fa rfl tst52 rfl) ?_
    refine VD.y rfl rfl (.inr ⟨_, _, rfl, _, rfl, rfl⟩) (.ld1 104 rfl tk3 rfl (cellsAt_one rfl rfl)) ?_
    refine VD.y rfl rfl (.inr ⟨_, _, rfl, _, rfl, rfl⟩) (.eql rfl rfl) ?_
    refine VD.y rfl rfl (.inl rfl) (.pT rfl rfl) ?_
    refine VD.y rfl rfl (.inl rfl) (.mv rfl) ?_
    refine VD.dec (s := 17) rfl (fun hc6 => ?_) (fun hc6 => ?_)
    · -- TT
      refine VD.y rfl rfl (.inr ⟨_, _, rfl, _, rfl, rfl⟩) (.fa rfl tst52 rfl) ?_
      refine VD.y rfl rfl (.inr ⟨_, _, rfl, _, rfl, rfl⟩) (.ld1 102 rfl tk22 rfl (cellsAt_one rfl rfl)) ?_
      refine VD.y rfl rfl (.inr ⟨_, _, rfl, _, rfl, rfl⟩) (.lenS rfl tsl22) ?_
      refine VD.y rfl rfl (.inr ⟨_, _, rfl, _, rfl, rfl⟩) (.fa rfl tst52 rfl) ?_
      refine VD.y rfl rfl (.inr ⟨_, _, rfl, _, rfl, rfl⟩) (.ld1 104 rfl tk22 rfl (cellsAt_one rfl rfl)) ?_
      refine VD.y rfl rfl (.inr ⟨_, _, rfl, _, rfl, rfl⟩) (.lenS rfl tsl22) ?_
      refine VD.y rfl rfl (.inr ⟨_, _, rfl, _, rfl, rfl⟩) (.eql rfl rfl) ?_
      refine VD.y rfl rfl (.inl rfl) (.pT rfl rfl) ?_
      refine VD.y rfl rfl (.inl rfl) (.mv rfl) ?_
      refine VD.dec (s := 26) rfl (fun hc7 => ?_) (fun hc7 => ?_)
      · -- TTT
        refine VD.y rfl rfl (.inr ⟨_, _, rfl, _, rfl, rfl⟩) (.fa rfl tst52 rfl) ?_
        refine VD.y rfl rfl (.inr ⟨_, _, rfl, _, rfl, rfl⟩) (.ld1 102 rfl tk22 rfl (cellsAt_one rfl rfl)) ?_
        refine VD.y rfl rfl (.inr ⟨_, _, rfl, _, rfl, rfl⟩) (.fa rfl tst52 rfl) ?_
        refine VD.y rfl rfl (.inr ⟨_, _, rfl, _, rfl, rfl⟩) (.ld1 104 rfl tk22 rfl (cellsAt_one rfl rfl)) ?_
        refine VD.y rfl rfl (.inr ⟨_, _, rfl, _, rfl, rfl⟩) (.lenS rfl tsl22) ?_
        refine VD.y rfl rfl (.inr ⟨_, _, rfl, _, rfl, rfl⟩) (.add (c := ((d1.2.2.length + 3 : Nat) : Int)) rfl rfl (by omega) ⟨bd, bd⟩) ?_
        have hs8 := p0_f2.pre (j := (d1.2.2.length + 3)) bd
        refine VD.y rfl rfl (.inr ⟨_, _, rfl, _, rfl, rfl⟩) (.slHI (d1.2.2.length + 3) rfl rfl tsl22 rfl bd) ?_
        refine VD.y rfl rfl (.inr ⟨_, _, rfl, _, rfl, rfl⟩) (.fa rfl tst52 rfl) ?_
        refine VD.y rfl rfl (.inr ⟨_, _, rfl, _, rfl, rfl⟩) (.ld1 104 rfl tk22 rfl (cellsAt_one rfl rfl)) ?_
        refine VD.nil rfl ?_ rfl
        refine VO.gcallN 109 rfl ⟨_, rfl, rfl⟩ fnOk35 rfl (fun W hW => KeptOps_ok W (Rd.mono hs8 (hW.at (i := 0) rfl)) (Rd.mono p1_2 (hW.at (i := 0) rfl)) bd) (fun v9 m9 hv9 => ?_)
        subst hv9
        refine VO.y rfl (.pT rfl rfl) ?_
        refine VO.as ?_
        refine VO.k5 0 1 2 3 4 ?_
        refine outN ?_
        refine VC.ret ?_
        refine ⟨_, _, res_run (rs := [.tmp 4]) rfl (.tmp rfl .nil), fun W_ hI => out_of (l := []) hI [] rfl rfl (mle_refl _) (fun hS_ => ?_)⟩
        dsimp only [packV]
        all_goals (first | rfl | (exact congrArg Value.bool (decide_eq_true (by rw [ec, ed]; exact opsLent (by omega)))))
      · -- TTF
        exact absurd (by rw [el]) hc7
    · -- TF
      exact absurd eb hc6
  · -- F
    exact absurd ea hc5
theorem fin0_LentCommits_ok {P : Prop} (h : P := by first | omega | (simp only [List.length_append, List.length_nil, List.length_cons, List.length_take, List.length_drop] at *; omega) | exact e1 _ (List.mem_of_getElem? ‹d0[_]? = some _›)) : P := h
theorem LentCommits_ok (W : World) {v0 : Value} {d0 : List DCommit} (h0 : Rd (.sl TCommit) (wm W) [v0] d0) (e0 : d0.length ≤ 3518437200000) (e1 : ∀ c ∈ d0, c.2.2.length ≤ 3518437208800) : CallR Try.prog 53 [v0] W (mnil) (fun v m' => ∃ (s0 : Value), v = s0 ∧ Ow (.sl TLCommit) m' [s0] (d0.map lentC ++ spareC)) := by
  obtain ⟨A0, c0, rfl, l0, k0⟩ := h0.slice
  simp only [maxLen] at k0
  refine CallR.ofA (n := 29) Try.func53 rfl rfl rfl ?_
  refine VC.rs ?_
  refine VO.as ?_
  refine VO.k2 0 2 ?_
  refine VC.rs ?_
  refine VO.as ?_
  refine VO.k3 0 2 3 ?_
  refine VC.seq ?_
  refine VC.rs ?_
  refine VO.as ?_
  refine VO.kp [0] [(0, wm W)] ?_
  refine VO.k4 0 2 3 4 ?_
  refine VC.block ?_
  refine VC.inv ((101, mnil) :: _) (fun _ h => h.nilc 101) ?_
  refine VC.loop (G := Nat × (List DLCommit) × (Option Addr) × Nat × Mem) (fun g => [(3, Value.slice (g.2.2.1) ((g.2.1).length) ((g.2.2.2.1))), (4, Value.int .i64 ((((g.1) : Nat) : Int))), (0, Value.slice A0 (d0.length) (c0)), (2, Value.slice none (0) (0))]) (fun g => [(101, (g.2.2.2.2)), (0, wm W)]) (fun g => ((g.1) ≤ d0.length) ∧ ((g.2.1) = (d0.take (g.1)).map lentC) ∧ (Ow (.sl TLCommit) (g.2.2.2.2) [.slice (g.2.2.1) (g.2.1).length (g.2.2.2.1)] (g.2.1))) (fun g => d0.length - (g.1)) (0, [], none, 0, mnil) (⟨by omega, by rfl, (Ow.nil TLCommit mnil)⟩) ⟨⟨rfl, rfl, rfl, rfl, trivial⟩, fun _ h => h.sub [101, 0]⟩ ?_
  rintro ⟨k, out, out_A, out_c, out_m⟩ ⟨hk, ho, h_out⟩
  replace hk : k ≤ d0.length := hk
  replace ho : out = (d0.take k).map lentC := ho
  replace h_out : Ow (.sl TLCommit) out_m [.slice out_A out.length out_c] out := h_out
  show VC _ _ _ _ _ [(3, Value.slice out_A (out.length) (out_c)), (4, Value.int .i64 (((k : Nat) : Int))), (0, Value.slice A0 (d0.length) (c0)), (2, Value.slice none (0) (0))] [(101, out_m), (0, wm W)]
  have l_out : out.length ≤ out_c := by obtain ⟨_, _, he, hl, _⟩ := h_out.slice; simp only [Value.slice.injEq] at he; omega
  have k_out : out_c ≤ 9223372036854775807 := by obtain ⟨_, _, he, _, hl⟩ := h_out.slice; simp only [Value.slice.injEq, maxLen] at he hl; omega
  have hlo : out.length ≤ k := by rw [ho]; simp; omega
  refine VC.seq ?_
  refine VC.rs ?_
  refine VO.mv ?_
  refine VO.mv ?_
  refine VO.y rfl (.lenS rfl tsl61) ?_
  refine VO.y rfl (.lss rfl rfl) ?_
  refine VO.k5 0 2 3 4 9 ?_
  refine VC.cond rfl (fun hc2 => ?_) (fun hc2 => ?_)
  · -- T
    refine VC.skip ?_
    refine outN ?_
    refine VC.seq ?_
    refine VC.block ?_
    refine VC.reg ?_
    refine VO.mv ?_
    refine VO.mv ?_
    refine VO.mv ?_
    obtain ⟨x3, hx3⟩ : ∃ z_, (d0)[k]? = some z_ := ⟨_, List.getElem?_eq_getElem (by exact fin0_LentCommits_ok)⟩
    obtain ⟨gg3, oo3, ec3, ea3, hce3, hre3⟩ := h0.elem hx3
    cases ea3
    obtain ⟨q3_A2, q3_c2, rfl, q3_0, q3_1, q3_2⟩ := open_Commit (x0 := x3.1) (x1 := x3.2.1) (x2 := x3.2.2) hre3
    simp only [inK] at q3_0
    simp only [inK] at q3_1
    have q3_r2 := Rd.room q3_2
    refine VO.y rfl (.ixI k rfl rfl tsl61 rfl (by exact fin0_LentCommits_ok)) ?_
    refine VO.y rfl (.ldA 0 rfl tk52 rfl hce3) ?_
    refine VO.callN 104 rfl fnOk57 rfl (fun W hW => LentCommit_ok W (Rd.mono hre3 (hW.at (i := 0) rfl)) (by exact fin0_LentCommits_ok)) (fun v4 m4 hv4 => ?_)
    obtain ⟨s4_0, rfl, f4_0⟩ := hv4
    obtain ⟨q4_0_A2, q4_0_c2, q4_0_n2, rfl, q4_0_S, q4_0_0, q4_0_1, q4_0_2⟩ := openO_LCommit (x0 := x3.1) (x1 := x3.2.1) (x2 := (x3.2.2, spareO)) f4_0
    simp only [inK] at q4_0_0
    simp only [inK] at q4_0_1
    have q4_0_f2 := (Rd.full (q4_0_2.rd (mle_refl _))).2
    have q4_0_s2 := Rd.pre2 q4_0_f2
    have q4_0_r2 := Rd.room q4_0_f2
    dsimp only at q4_0_f2 q4_0_s2 q4_0_r2
    have q4_0_o2 := (Ow.full q4_0_2).2
    have q4_0_p2 := Ow.pre2 q4_0_o2
    dsimp only at q4_0_o2 q4_0_p2
    refine VO.inv _ (fun _ h => h.parts (i := 104) rfl q4_0_S [105]) ?_
    refine VO.bsl (cs := [Value.int .i64 (x3.1), Value.int .i64 (x3.2.1), Value.slice q4_0_A2 (x3.2.2.length) (q4_0_c2)]) 107 rfl rfl tsl61 tz52 rfl rfl (fun g6 => ?_)
    refine VO.appO (e := TLCommit) 101 105 107 rfl rfl rfl tsl61 tz52 rfl rfl rfl rfl h_out (mkO_LCommit x3.1 x3.2.1 (x3.2.2, spareO) (Seps.one (mle_refl _)) (by simp only [inK]; (exact fin0_LentCommits_ok)) (by simp only [inK]; (exact fin0_LentCommits_ok)) q4_0_2) Try.underlying61 (cellsAt_one rfl rfl) (by simp only [maxLen]; (exact fin0_LentCommits_ok)) (by exact fin0_LentCommits_ok) (by decide) (fun v8 m8 ho8 => ?_)
    obtain ⟨A8, c8, rfl, l8, k8⟩ := ho8.slice
    simp only [maxLen] at k8
    refine VO.as ?_
    refine VO.k5 0 2 3 4 9 ?_
    refine outBN ?_
    refine outN ?_
    refine VC.reg ?_
    refine VO.mv ?_
    refine VO.y rfl (.add (c := ((k + 1 : Nat) : Int)) rfl rfl (by omega) ⟨by exact fin0_LentCommits_ok, by exact fin0_LentCommits_ok⟩) ?_
    refine VO.as ?_
    refine VO.kp [101, 0] [(101, m8), (0, wm W)] ?_
    refine VO.k5 0 2 3 4 9 ?_
    exact outN ⟨⟨k + 1, out ++ [(x3.1, x3.2.1, (x3.2.2, spareO))], A8, c8, m8⟩, ⟨by omega, by exact lent_next ho ‹d0[k]? = some _›, ho8⟩, by exact fin0_LentCommits_ok, ⟨⟨rfl, rfl, rfl, rfl, trivial⟩, fun _ h => Inv.sub h [101, 0]⟩⟩
  · -- F
    refine VC.exit ?_
    refine outE ?_
    refine outE ?_
    refine outBB ?_
    refine outN ?_
    refine VC.seq ?_
    refine VC.rs ?_
    refine VO.as ?_
    refine VO.k6 0 2 3 4 5 9 ?_
    refine VC.block ?_
    refine VC.loop (G := Nat × (List DLCommit) × (Option Addr) × Nat × Mem) (fun g => [(3, Value.slice (g.2.2.1) ((g.2.1).length) ((g.2.2.2.1))), (5, Value.int .i64 ((((g.1) : Nat) : Int))), (0, Value.slice A0 (d0.length) (c0)), (2, Value.slice none (0) (0)), (4, Value.int .i64 (((k : Nat) : Int))), (9, Value.bool (decide (((k : Nat) : Int) < ((d0.length : Nat) : Int))))]) (fun g => [(101, (g.2.2.2.2)), (0, wm W)]) (fun g => ((g.1) ≤ 3) ∧ ((g.2.1) = d0.map lentC ++ spareC.take (g.1)) ∧ (Ow (.sl TLCommit) (g.2.2.2.2) [.slice (g.2.2.1) (g.2.1).length (g.2.2.2.1)] (g.2.1))) (fun g => 3 - (g.1)) (0, out, out_A, out_c, out_m) (⟨by omega, by (rw [ho, List.take_of_length_le (by omega)]; simp), h_out⟩) ⟨⟨rfl, rfl, rfl, rfl, rfl, rfl, trivial⟩, fun _ h => h.sub [101, 0]⟩ ?_
    rintro ⟨j, out, out_A, out_c, out_m⟩ ⟨hj, ho2, h_out⟩
    replace hj : j ≤ 3 := hj
    replace ho2 : out = d0.map lentC ++ spareC.take j := ho2
    replace h_out : Ow (.sl TLCommit) out_m [.slice out_A out.length out_c] out := h_out
    show VC _ _ _ _ _ [(3, Value.slice out_A (out.length) (out_c)), (5, Value.int .i64 (((j : Nat) : Int))), (0, Value.slice A0 (d0.length) (c0)), (2, Value.slice none (0) (0)), (4, Value.int .i64 (((k : Nat) : Int))), (9, Value.bool (decide (((k : Nat) : Int) < ((d0.length : Nat) : Int))))] [(101, out_m), (0, wm W)]
    have l_out : out.length ≤ out_c := by obtain ⟨_, _, he, hl, _⟩ := h_out.slice; simp only [Value.slice.injEq] at he; omega
    have k_out : out_c ≤ 9223372036854775807 := by obtain ⟨_, _, he, _, hl⟩ := h_out.slice; simp only [Value.slice.injEq, maxLen] at he hl; omega
    have hlo : out.length ≤ d0.length + 3 := by rw [ho2]; simp [spareC]; omega
    refine VC.seq ?_
    refine VC.rs ?_
    refine VO.mv ?_
    refine VO.y rfl (.lss rfl rfl) ?_
    refine VO.kp [101, 0] [(101, out_m), (0, wm W)] ?_
    refine VO.k7 0 2 3 4 5 9 21 ?_
    refine VC.cond rfl (fun hc9 => ?_) (fun hc9 => ?_)
    · -- FT
      refine VC.skip ?_
      refine outN ?_
      refine VC.seq ?_
      refine VC.block ?_
      refine VC.reg ?_
      refine VO.mv ?_
      refine VO.y rfl (.bst (cs := [Value.int .i64 ((-7)), Value.int .i64 (0), Value.slice none (0) (0)]) rfl tst52 tz52 rfl) ?_
      refine VO.bsl (cs := [Value.int .i64 ((-7)), Value.int .i64 (0), Value.slice none (0) (0)]) 111 rfl rfl tsl61 tz52 rfl rfl (fun g10 => ?_)
      refine VO.inv ((113, mnil) :: _) (fun _ h => h.nilc 113) ?_
      refine VO.appO (e := TLCommit) 101 113 111 rfl rfl rfl tsl61 tz52 rfl rfl rfl rfl h_out (mkO_LCommit (-7) 0 ([], []) (Seps.nilAt 0 (Seps.nil _)) (by simp only [inK]; (exact fin0_LentCommits_ok)) (by simp only [inK]; (exact fin0_LentCommits_ok)) (Ow.nilSpl _ _)) Try.underlying61 (cellsAt_one rfl rfl) (by simp only [maxLen]; (exact fin0_LentCommits_ok)) (by exact fin0_LentCommits_ok) (by decide) (fun v12 m12 ho12 => ?_)
      obtain ⟨A12, c12, rfl, l12, k12⟩ := ho12.slice
      simp only [maxLen] at k12
      refine VO.as ?_
      refine VO.k7 0 2 3 4 5 9 21 ?_
      refine outBN ?_
      refine outN ?_
      refine VC.reg ?_
      refine VO.mv ?_
      refine VO.y rfl (.add (c := ((j + 1 : Nat) : Int)) rfl rfl (by omega) ⟨by exact fin0_LentCommits_ok, by exact fin0_LentCommits_ok⟩) ?_
      refine VO.as ?_
      refine VO.k7 0 2 3 4 5 9 21 ?_
      exact outN ⟨⟨j + 1, out ++ [(((-7), 0, ([], [])) : DLCommit)], A12, c12, m12⟩, ⟨by omega, by exact spareC_next ho2 (by omega), ho12⟩, by exact fin0_LentCommits_ok, ⟨⟨rfl, rfl, rfl, rfl, rfl, rfl, trivial⟩, fun _ h => Inv.sub h [101, 0]⟩⟩
    · -- FF
      refine VC.exit ?_
      refine outE ?_
      refine outE ?_
      refine outBB ?_
      refine outN ?_
      refine VC.rs ?_
      refine VO.mv ?_
      refine VO.as ?_
      refine VO.k7 0 2 3 4 5 9 21 ?_
      refine VC.ret ?_
      refine ⟨_, _, res_run (rs := [.tmp 2]) rfl (.tmp rfl .nil), fun W_ hI => out_of (l := [out_m]) hI [101] rfl rfl (mle_refl _) (fun hS_ => ?_)⟩
      dsimp only [packV]
      have he0 : (d0.map lentC ++ spareC : Ty.Den (.sl TLCommit)) = out := by first | rfl | (have : j = 3 := (by omega); subst this; exact ho2.symm)
      refine ⟨Value.slice out_A (out.length) (out_c), ?_, ?_⟩
      rotate_left
      · rw [he0]; exact (Ow.up h_out (hS_.1 _ (.head _)))
      all_goals (first | rfl | (simp [*]; done))
theorem fin0_KeptCommits_ok {P : Prop} (h : P := by first | omega | (simp only [List.length_append, List.length_nil, List.length_cons, List.length_take, List.length_drop] at *; omega) | exact lent_at e0 ‹d0[_]? = some _› ‹d1[_]? = some _› | exact e2 _ (List.mem_of_getElem? ‹d1[_]? = some _›)) : P := h
theorem KeptCommits_ok (W : World) {v0 : Value} {d0 : List DLCommit} (h0 : Rd (.sl TLCommit) (wm W) [v0] d0) {v1 : Value} {d1 : List DCommit} (h1 : Rd (.sl TCommit) (wm W) [v1] d1) (e0 : d0 = d1.map lentC ++ spareC) (e1 : d1.length ≤ 3518437200000) (e2 : ∀ c ∈ d1, c.2.2.length ≤ 3518437208800) : CallR Try.prog 55 [v0, v1] W (mnil) (fun v m' => v = .bool true) := by
  have el := congrArg List.length e0; rw [lent_len] at el
  obtain ⟨A0, c0, rfl, l0, k0⟩ := h0.slice
  simp only [maxLen] at k0
  obtain ⟨A1, c1, rfl, l1, k1⟩ := h1.slice
  simp only [maxLen] at k1
  refine CallR.ofA (n := 44) Try.func55 rfl rfl rfl ?_
  refine VC.rs ?_
  refine VO.as ?_
  refine VO.k3 0 1 4 ?_
  refine VC.seq ?_
  refine VC.rs ?_
  refine VO.mv ?_
  refine VO.y rfl (.lenS rfl tsl61) ?_
  refine VO.mv ?_
  refine VO.y rfl (.lenS rfl tsl61) ?_
  refine VO.y rfl (.add (c := ((d1.length + 3 : Nat) : Int)) rfl rfl (by omega) ⟨by exact fin0_KeptCommits_ok, by exact fin0_KeptCommits_ok⟩) ?_
  refine VO.y rfl (.neq rfl rfl) ?_
  refine VO.k4 0 1 4 12 ?_
  refine VC.cond rfl (fun hc1 => ?_) (fun hc1 => ?_)
  · -- T
    omega
  · -- F
    refine VC.skip ?_
    refine outN ?_
    refine VC.seq ?_
    refine VC.rs ?_
    refine VO.as ?_
    refine VO.kp [0] [(0, wm W)] ?_
    refine VO.k5 0 1 4 5 12 ?_
    refine VC.block ?_
    refine VC.loop (G := Nat) (fun k => [(5, Value.int .i64 (((k : Nat) : Int))), (0, Value.slice A0 (d0.length) (c0)), (1, Value.slice A1 (d1.length) (c1)), (12, Value.bool (decide (¬ ((d0.length : Nat) : Int) = ((d1.length + 3 : Nat) : Int))))]) (fun k => [(0, wm W)]) (fun k => (k ≤ d1.length)) (fun k => d1.length - k) 0 (by omega) ⟨⟨rfl, rfl, rfl, rfl, trivial⟩, fun _ h => h.sub [0]⟩ ?_
    rintro k hk
    refine VC.seq ?_
    refine VC.rs ?_
    refine VO.mv ?_
    refine VO.mv ?_
    refine VO.y rfl (.lenS rfl tsl61) ?_
    refine VO.y rfl (.lss rfl rfl) ?_
    refine VO.k5 0 1 5 12 16 ?_
    refine VC.cond rfl (fun hc2 => ?_) (fun hc2 => ?_)
    · -- FT
      refine VC.skip ?_
      refine outN ?_
      refine VC.seq ?_
      refine VC.block ?_
      refine VC.seq ?_
      refine VC.regD _ 8 [(0, true), (1, true), (2, true), (3, true), (4, true), (5, true), (6, true), (7, true)] follows (by kernel_rfl) (fun _ h => h.sub [0]) ?_
      refine VD.y rfl rfl (.inl rfl) (.mv rfl) ?_
      refine VD.y rfl rfl (.inl rfl) (.mv rfl) ?_
      obtain ⟨x3, hx3⟩ : ∃ z_, (d0)[k]? = some z_ := ⟨_, List.getElem?_eq_getElem (by exact fin0_KeptCommits_ok)⟩
      obtain ⟨gg3, oo3, ec3, ea3, hce3, hre3⟩ := h0.elem hx3
      cases ea3
      obtain ⟨q3_A2, q3_c2, rfl, q3_0, q3_1, q3_2⟩ := open_LCommit (x0 := x3.1) (x1 := x3.2.1) (x2 := x3.2.2) hre3
      simp only [inK] at q3_0
      simp only [inK] at q3_1
      have q3_f2 := (Rd.full q3_2).2
      have q3_s2 := Rd.pre2 q3_f2
      have q3_r2 := Rd.room q3_f2
      refine VD.y rfl rfl (.inl rfl) (.ixI k rfl rfl tsl61 rfl (by exact fin0_KeptCommits_ok)) ?_
      refine VD.y rfl rfl (.inl rfl) (.ldA 0 rfl tk52 rfl hce3) ?_
      refine VD.y rfl rfl (.inl rfl) (.mv rfl) ?_
      refine VD.y rfl rfl (.inl rfl) (.mv rfl) ?_
      obtain ⟨x4, hx4⟩ : ∃ z_, (d1)[k]? = some z_ := ⟨_, List.getElem?_eq_getElem (by exact fin0_KeptCommits_ok)⟩
      obtain ⟨gg4, oo4, ec4, ea4, hce4, hre4⟩ := h1.elem hx4
      cases ea4
      obtain ⟨q4_A2, q4_c2, rfl, q4_0, q4_1, q4_2⟩ := open_Commit (x0 := x4.1) (x1 := x4.2.1) (x2 := x4.2.2) hre4
      simp only [inK] at q4_0
      simp only [inK] at q4_1
      have q4_r2 := Rd.room q4_2
      refine VD.y rfl rfl (.inl rfl) (.ixI k rfl rfl tsl61 rfl (by exact fin0_KeptCommits_ok)) ?_
      refine VD.y rfl rfl (.inl rfl) (.ldA 0 rfl tk52 rfl hce4) ?_
      refine VD.nil rfl ?_ rfl
      refine VO.callN 105 rfl fnOk64 rfl (fun W hW => KeptCommit_ok W (Rd.mono hre3 (hW.at (i := 0) rfl)) (Rd.mono hre4 (hW.at (i := 0) rfl)) (by exact lent_at e0 ‹d0[k]? = some _› ‹d1[k]? = some _›) (by exact fin0_KeptCommits_ok)) (fun v5 m5 hv5 => ?_)
      subst hv5
      refine VO.y rfl (.not rfl) ?_
      refine VO.k6 0 1 5 12 16 28 ?_
      refine outN ?_
      refine VC.condF rfl ?_
      refine VC.skip ?_
      refine outBN ?_
      refine outN ?_
      refine VC.reg ?_
      refine VO.mv ?_
      refine VO.y rfl (.add (c := ((k + 1 : Nat) : Int)) rfl rfl (by omega) ⟨by exact fin0_KeptCommits_ok, by exact fin0_KeptCommits_ok⟩) ?_
      refine VO.as ?_
      refine VO.kp [0] [(0, wm W)] ?_
      refine VO.k6 0 1 5 12 16 28 ?_
      exact outN ⟨k + 1, by omega, by exact fin0_KeptCommits_ok, ⟨⟨rfl, rfl, rfl, rfl, trivial⟩, fun _ h => Inv.sub h [0]⟩⟩
    · -- FF
      refine VC.exit ?_
      refine outE ?_
      refine outE ?_
      refine outBB ?_
      refine outN ?_
      refine VC.seq ?_
      refine VC.rs ?_
      refine VO.mv ?_
      refine VO.y rfl (.lenS rfl tsl61) ?_
      refine VO.as ?_
      refine VO.k6 0 1 5 6 12 16 ?_
      refine VC.block ?_
      refine VC.loop (G := Nat) (fun j => [(6, Value.int .i64 (((j : Nat) : Int))), (0, Value.slice A0 (d0.length) (c0)), (1, Value.slice A1 (d1.length) (c1)), (5, Value.int .i64 (((k : Nat) : Int))), (12, Value.bool (decide (¬ ((d0.length : Nat) : Int) = ((d1.length + 3 : Nat) : Int)))), (16, Value.bool (decide (((k : Nat) : Int) < ((d1.length : Nat) : Int))))]) (fun j => [(0, wm W)]) (fun j => (d1.length ≤ j ∧ j ≤ d0.length)) (fun j => d0.length - j) d1.length (by omega) ⟨⟨rfl, rfl, rfl, rfl, rfl, rfl, trivial⟩, fun _ h => h.sub [0]⟩ ?_
      rintro j hj
      refine VC.seq ?_
      refine VC.rs ?_
      refine VO.mv ?_
      refine VO.mv ?_
      refine VO.y rfl (.lenS rfl tsl61) ?_
      refine VO.y rfl (.lss rfl rfl) ?_
      refine VO.kp [0] [(0, wm W)] ?_
      refine VO.k7 0 1 5 6 12 16 34 ?_
      refine VC.cond rfl (fun hc6 => ?_) (fun hc6 => ?_)
      · -- FFT
        refine VC.skip ?_
        refine outN ?_
        refine VC.seq ?_
        refine VC.block ?_
        refine VC.rs ?_
        refine VO.mv ?_
        refine VO.mv ?_
        obtain ⟨x7, hx7⟩ : ∃ z_, (d0)[j]? = some z_ := ⟨_, List.getElem?_eq_getElem (by exact fin0_KeptCommits_ok)⟩
        obtain ⟨gg7, oo7, ec7, ea7, hce7, hre7⟩ := h0.elem hx7
        cases ea7
        obtain ⟨q7_A2, q7_c2, rfl, q7_0, q7_1, q7_2⟩ := open_LCommit (x0 := x7.1) (x1 := x7.2.1) (x2 := x7.2.2) hre7
        simp only [inK] at q7_0
        simp only [inK] at q7_1
        have q7_f2 := (Rd.full q7_2).2
        have q7_s2 := Rd.pre2 q7_f2
        have q7_r2 := Rd.room q7_f2
        refine VO.y rfl (.ixI j rfl rfl tsl61 rfl (by exact fin0_KeptCommits_ok)) ?_
        refine VO.y rfl (.ldA 0 rfl tk52 rfl hce7) ?_
        refine VO.y rfl (.bst (cs := [Value.int .i64 ((-7)), Value.int .i64 (0), Value.slice none (0) (0)]) rfl tst52 tz52 rfl) ?_
        refine VO.callN 108 rfl fnOk49 rfl (fun W hW => SameCommit_ok W (mk_Commit (m := wm W) x7.1 x7.2.1 x7.2.2.1 (by simp only [inK]; (exact fin0_KeptCommits_ok)) (by simp only [inK]; (exact fin0_KeptCommits_ok)) (Rd.mono q7_s2 (hW.at (i := 0) rfl))) (mk_Commit (m := wm W) (-7) 0 [] (by simp only [inK]; (exact fin0_KeptCommits_ok)) (by simp only [inK]; (exact fin0_KeptCommits_ok)) (Rd.nil _ _ none 0 (Nat.zero_le _)))) (fun v8 m8 hv8 => ?_)
        try dsimp only at hv8
        subst hv8
        refine VO.y rfl (.notD rfl) ?_
        refine VO.k8 0 1 5 6 12 16 34 43 ?_
        refine VC.cond rfl (fun hc9 => ?_) (fun hc9 => ?_)
        · -- FFTT
          have h_ := spare_at e0 hj.1 ‹d0[j]? = some _›; exact absurd (by rw [h_]) hc9
        · -- FFTF
          refine VC.skip ?_
          refine outBN ?_
          refine outN ?_
          refine VC.reg ?_
          refine VO.mv ?_
          refine VO.y rfl (.add (c := ((j + 1 : Nat) : Int)) rfl rfl (by omega) ⟨by exact fin0_KeptCommits_ok, by exact fin0_KeptCommits_ok⟩) ?_
          refine VO.as ?_
          refine VO.k8 0 1 5 6 12 16 34 43 ?_
          exact outN ⟨j + 1, by omega, by exact fin0_KeptCommits_ok, ⟨⟨rfl, rfl, rfl, rfl, rfl, rfl, trivial⟩, fun _ h => Inv.sub h [0]⟩⟩
      · -- FFF
        refine VC.exit ?_
        refine outE ?_
        refine outE ?_
        refine outBB ?_
        refine outN ?_
        refine VC.rs ?_
        refine VO.as ?_
        refine VO.k8 0 1 4 5 6 12 16 34 ?_
        refine VC.ret ?_
        refine ⟨_, _, res_run (rs := [.tmp 4]) rfl (.tmp rfl .nil), fun W_ hI => out_of (l := []) hI [] rfl rfl (mle_refl _) (fun hS_ => ?_)⟩
        dsimp only [packV]
        all_goals (first | rfl | (simp [*]; done))
theorem fin0_c4Follows_ok {P : Prop} (h : P := by first | omega | (simp only [List.length_append, List.length_nil, List.length_cons, List.length_take, List.length_drop] at *; omega) | (have := cCheck_ok (by first | assumption | exact Decidable.not_not.1 (by assumption) : cCheck _ = 0); omega)) : P := h
theorem c4Follows_ok (W : World) (d0 : Int) (h0 : inK .i64 d0) (d1 : Int) (h1 : inK .i64 d1) {v2 : Value} {d2 : List DCommit} (h2 : Rd (.sl TCommit) (wm W) [v2] d2) : CallR Try.prog 54 [.int .i64 d0, .int .i64 d1, v2] W (mnil) (fun v m' => ∃ (s0 : List Value), v = .agg s0.toArray ∧ Ow TFault m' s0 (cFollows d0 d1 d2)) := by
  have h0' := h0; simp only [inK] at h0'
  have h1' := h1; simp only [inK] at h1'
  obtain ⟨A2, c2, rfl, l2, k2⟩ := h2.slice
  simp only [maxLen] at k2
  refine CallR.ofA (n := 55) Try.func54 rfl rfl rfl ?_
  refine VC.rs ?_
  refine VO.alloc 102 rfl tz57 (fun g1 => ?_)
  refine VO.k4 0 1 2 6 ?_
  refine VC.seq ?_
  refine VC.rs ?_
  refine VO.as ?_
  refine VO.k5 0 1 2 6 7 ?_
  refine VC.block ?_
  refine VC.loop (G := Nat × Int × Int) (fun g => [(0, Value.int .i64 ((g.2.1))), (1, Value.int .i64 ((g.2.2))), (7, Value.int .i64 ((((g.1) : Nat) : Int))), (2, Value.slice A2 (d2.length) (c2)), (6, Value.pointer (some ⟨g1, 0, none⟩))]) (fun g => [(102, mone g1 (.cells [Value.int .i64 (0), Value.int .i64 (0)].toArray 57 (0, 0))), (0, wm W)]) (fun g => ((g.1) ≤ d2.length) ∧ (cFollows d0 d1 d2 = cFollowsAt (g.2.1) (g.2.2) (g.1) (d2.drop (g.1)))) (fun g => d2.length - (g.1)) (0, d0, d1) (⟨by omega, by rfl⟩) ⟨⟨rfl, rfl, rfl, rfl, rfl, trivial⟩, fun _ h => h.sub [102, 0]⟩ ?_
  rintro ⟨k, e, nn⟩ ⟨hk, hf⟩
  replace hk : k ≤ d2.length := hk
  replace hf : cFollows d0 d1 d2 = cFollowsAt e nn k (d2.drop k) := hf
  show VC _ _ _ _ _ [(0, Value.int .i64 (e)), (1, Value.int .i64 (nn)), (7, Value.int .i64 (((k : Nat) : Int))), (2, Value.slice A2 (d2.length) (c2)), (6, Value.pointer (some ⟨g1, 0, none⟩))] [(102, mone g1 (.cells [Value.int .i64 (0), Value.int .i64 (0)].toArray 57 (0, 0))), (0, wm W)]
  refine VC.seq ?_
  refine VC.rs ?_
  refine VO.mv ?_
  refine VO.mv ?_
  refine VO.y rfl (.lenS rfl tsl61) ?_
  refine VO.y rfl (.lss rfl rfl) ?_
  refine VO.kp [102, 0] [(102, mone g1 (.cells [Value.int .i64 (0), Value.int .i64 (0)].toArray 57 (0, 0))), (0, wm W)] ?_
  refine VO.k6 0 1 2 6 7 12 ?_
  refine VC.cond rfl (fun hc3 => ?_) (fun hc3 => ?_)
  · -- T
    refine VC.skip ?_
    refine outN ?_
    refine VC.seq ?_
    refine VC.block ?_
    refine VC.rs ?_
    refine VO.mv ?_
    refine VO.mv ?_
    obtain ⟨x4, hx4⟩ : ∃ z_, (d2)[k]? = some z_ := ⟨_, List.getElem?_eq_getElem (by exact fin0_c4Follows_ok)⟩
    obtain ⟨gg4, oo4, ec4, ea4, hce4, hre4⟩ := h2.elem hx4
    cases ea4
    obtain ⟨q4_A2, q4_c2, rfl, q4_0, q4_1, q4_2⟩ := open_Commit (x0 := x4.1) (x1 := x4.2.1) (x2 := x4.2.2) hre4
    simp only [inK] at q4_0
    simp only [inK] at q4_1
    have q4_r2 := Rd.room q4_2
    refine VO.y rfl (.ixI k rfl rfl tsl61 rfl (by exact fin0_c4Follows_ok)) ?_
    refine VO.y rfl (.ldA 0 rfl tk52 rfl hce4) ?_
    refine VO.callN 105 rfl fnOk61 rfl (fun W hW => c4Check_ok W (Rd.mono hre4 (hW.at (i := 0) rfl))) (fun v5 m5 hv5 => ?_)
    subst hv5
    have hfa6 := cCheck_range x4
    refine VO.as ?_
    refine VO.k7 0 1 2 6 7 8 12 ?_
    refine VC.seq ?_
    refine VC.rs ?_
    refine VO.mv ?_
    refine VO.y rfl (.neq rfl rfl) ?_
    refine VO.k8 0 1 2 6 7 8 12 21 ?_
    refine VC.cond rfl (fun hc7 => ?_) (fun hc7 => ?_)
    · -- TT
      refine VC.rs ?_
      refine VO.mv ?_
      refine VO.mv ?_
      refine VO.y rfl (.bst (cs := [Value.int .i64 (cCheck x4), Value.int .i64 (((k : Nat) : Int))]) rfl tst57 tz57 rfl) ?_
      refine VO.store (k := 2) (c' := [Value.int .i64 (cCheck x4), Value.int .i64 (((k : Nat) : Int))]) 102 rfl rfl (.inl tk57) rfl rfl rfl rfl rfl ?_
      refine VO.kp [102, 0] [(102, mone g1 (.cells [Value.int .i64 (cCheck x4), Value.int .i64 (((k : Nat) : Int))].toArray 57 (0, 0))), (0, wm W)] ?_
      refine VO.k8 0 1 2 6 7 8 12 21 ?_
      refine VC.ret ?_
      refine outR ?_
      refine outBR ?_
      refine outR ?_
      refine outR ?_
      refine outBR ?_
      refine outR ?_
      refine ⟨_, _, res_run (rs := [.cell 6 57]) rfl (.agg 102 rfl tk57 rfl ⟨_, _, _, mone_self _ _, Nat.le_of_ble_eq_true rfl, rfl⟩ .nil), fun W_ hI => out_of (l := []) hI [] rfl rfl (mle_refl _) (fun hS_ => ?_)⟩
      dsimp only [packV]
      have he0 : (cFollows d0 d1 d2 : Ty.Den TFault) = (cCheck x4, ((k : Nat) : Int)) := by first | rfl | (first | (rw [hf, List.drop_of_length_le (by omega)]; rfl) | (rw [hf, follows_bad ‹d2[k]? = some _› (by first | assumption | omega)]) | (rw [hf, follows_order ‹d2[k]? = some _› (by first | assumption | omega) (by omega)]) | (exfalso; omega))
      refine ⟨[Value.int .i64 (cCheck x4), Value.int .i64 (((k : Nat) : Int))], ?_, ?_⟩
      rotate_left
      · rw [he0]; exact (Ow.of (m := mnil) rfl (mk_Fault (m := _) (cCheck x4) ((k : Nat) : Int) (by simp only [inK]; (exact fin0_c4Follows_ok)) (by simp only [inK]; (exact fin0_c4Follows_ok))))
      all_goals (first | rfl | (rfl))
    · -- TF
      refine VC.skip ?_
      refine outN ?_
      refine VC.seq ?_
      refine VC.rs ?_
      refine VO.mv ?_
      refine VO.mv ?_
      refine VO.y rfl (.ixI k rfl rfl tsl61 rfl (by exact fin0_c4Follows_ok)) ?_
      refine VO.y rfl (.fa rfl tst52 rfl) ?_
      refine VO.y rfl (.ld1 0 rfl tk3 rfl (hce4.at1 (j := 1) rfl)) ?_
      refine VO.y rfl (.sub rfl rfl rfl ⟨by exact fin0_c4Follows_ok, by exact fin0_c4Follows_ok⟩) ?_
      refine VO.mv ?_
      refine VO.y rfl (.neq rfl rfl) ?_
      refine VO.mv ?_
      refine VO.dec (t := 33) rfl (fun hc9 => ?_) (fun hc9 => ?_)
      · -- TFT
        refine VO.gN ?_
        refine VO.gN ?_
        refine VO.gN ?_
        refine VO.gN ?_
        refine VO.gN ?_
        refine VO.gN ?_
        refine VO.gN ?_
        refine VO.y rfl (.pT rfl rfl) ?_
        refine VO.kp [102, 0] [(102, mone g1 (.cells [Value.int .i64 (0), Value.int .i64 (0)].toArray 57 (0, 0))), (0, wm W)] ?_
        refine VO.k9 0 1 2 6 7 8 12 21 41 ?_
        refine VC.condT rfl ?_
        refine VC.rs ?_
        refine VO.mv ?_
        refine VO.y rfl (.bst (cs := [Value.int .i64 (15), Value.int .i64 (((k : Nat) : Int))]) rfl tst57 tz57 rfl) ?_
        refine VO.store (k := 2) (c' := [Value.int .i64 (15), Value.int .i64 (((k : Nat) : Int))]) 102 rfl rfl (.inl tk57) rfl rfl rfl rfl rfl ?_
        refine VO.k9 0 1 2 6 7 8 12 21 41 ?_
        refine VC.ret ?_
        refine outR ?_
        refine outBR ?_
        refine outR ?_
        refine outR ?_
        refine outBR ?_
        refine outR ?_
        refine ⟨_, _, res_run (rs := [.cell 6 57]) rfl (.agg 102 rfl tk57 rfl ⟨_, _, _, mone_self _ _, Nat.le_of_ble_eq_true rfl, rfl⟩ .nil), fun W_ hI => out_of (l := []) hI [] rfl rfl (mle_refl _) (fun hS_ => ?_)⟩
        dsimp only [packV]
        have he0 : (cFollows d0 d1 d2 : Ty.Den TFault) = (15, ((k : Nat) : Int)) := by first | rfl | (first | (rw [hf, List.drop_of_length_le (by omega)]; rfl) | (rw [hf, follows_bad ‹d2[k]? = some _› (by first | assumption | omega)]) | (rw [hf, follows_order ‹d2[k]? = some _› (by first | assumption | omega) (by omega)]) | (exfalso; omega))
        refine ⟨[Value.int .i64 (15), Value.int .i64 (((k : Nat) : Int))], ?_, ?_⟩
        rotate_left
        · rw [he0]; exact (Ow.of (m := mnil) rfl (mk_Fault (m := _) 15 ((k : Nat) : Int) (by simp only [inK]; (exact fin0_c4Follows_ok)) (by simp only [inK]; (exact fin0_c4Follows_ok))))
        all_goals (first | rfl | (rfl))
      · -- TFF
        refine VO.gy rfl ⟨_, rfl, rfl⟩ (.mv rfl) ?_
        refine VO.gy rfl ⟨_, rfl, rfl⟩ (.mv rfl) ?_
        refine VO.gy rfl ⟨_, rfl, rfl⟩ (.ixI k rfl rfl tsl61 rfl (by exact fin0_c4Follows_ok)) ?_
        refine VO.gy rfl ⟨_, rfl, rfl⟩ (.fa rfl tst52 rfl) ?_
        refine VO.gy rfl ⟨_, rfl, rfl⟩ (.ld1 0 rfl tk3 rfl (hce4.at1 (j := 0) rfl)) ?_
        refine VO.gy rfl ⟨_, rfl, rfl⟩ (.mv rfl) ?_
        refine VO.gy rfl ⟨_, rfl, rfl⟩ (.lss rfl rfl) ?_
        refine VO.y rfl (.pF rfl rfl) ?_
        refine VO.kp [102, 0] [(102, mone g1 (.cells [Value.int .i64 (0), Value.int .i64 (0)].toArray 57 (0, 0))), (0, wm W)] ?_
        refine VO.k9 0 1 2 6 7 8 12 21 41 ?_
        refine VC.cond rfl (fun hc11 => ?_) (fun hc11 => ?_)
        · -- TFFT
          refine VC.rs ?_
          refine VO.mv ?_
          refine VO.y rfl (.bst (cs := [Value.int .i64 (15), Value.int .i64 (((k : Nat) : Int))]) rfl tst57 tz57 rfl) ?_
          refine VO.store (k := 2) (c' := [Value.int .i64 (15), Value.int .i64 (((k : Nat) : Int))]) 102 rfl rfl (.inl tk57) rfl rfl rfl rfl rfl ?_
          refine VO.k9 0 1 2 6 7 8 12 21 41 ?_
          refine VC.ret ?_
          refine outR ?_
          refine outBR ?_
          refine outR ?_
          refine outR ?_
          refine outBR ?_
          refine outR ?_
          refine ⟨_, _, res_run (rs := [.cell 6 57]) rfl (.agg 102 rfl tk57 rfl ⟨_, _, _, mone_self _ _, Nat.le_of_ble_eq_true rfl, rfl⟩ .nil), fun W_ hI => out_of (l := []) hI [] rfl rfl (mle_refl _) (fun hS_ => ?_)⟩
          dsimp only [packV]
          have he0 : (cFollows d0 d1 d2 : Ty.Den TFault) = (15, ((k : Nat) : Int)) := by first | rfl | (first | (rw [hf, List.drop_of_length_le (by omega)]; rfl) | (rw [hf, follows_bad ‹d2[k]? = some _› (by first | assumption | omega)]) | (rw [hf, follows_order ‹d2[k]? = some _› (by first | assumption | omega) (by omega)]) | (exfalso; omega))
          refine ⟨[Value.int .i64 (15), Value.int .i64 (((k : Nat) : Int))], ?_, ?_⟩
          rotate_left
          · rw [he0]; exact (Ow.of (m := mnil) rfl (mk_Fault (m := _) 15 ((k : Nat) : Int) (by simp only [inK]; (exact fin0_c4Follows_ok)) (by simp only [inK]; (exact fin0_c4Follows_ok))))
          all_goals (first | rfl | (rfl))
        · -- TFFF
          refine VC.skip ?_
          refine outN ?_
          refine VC.regD _ 11 [(0, true), (1, true), (2, true), (3, true), (4, true), (5, true), (6, true), (7, true), (8, true), (9, true), (10, true)] follows (by kernel_rfl) (fun _ h => h.sub [102, 0]) ?_
          refine VD.y rfl rfl (.inl rfl) (.mv rfl) ?_
          refine VD.y rfl rfl (.inl rfl) (.mv rfl) ?_
          refine VD.y rfl rfl (.inl rfl) (.ixI k rfl rfl tsl61 rfl (by exact fin0_c4Follows_ok)) ?_
          refine VD.y rfl rfl (.inl rfl) (.fa rfl tst52 rfl) ?_
          refine VD.y rfl rfl (.inl rfl) (.ld1 0 rfl tk3 rfl (hce4.at1 (j := 0) rfl)) ?_
          refine VD.y rfl rfl (.inl rfl) (.mv rfl) ?_
          refine VD.y rfl rfl (.inl rfl) (.mv rfl) ?_
          refine VD.y rfl rfl (.inl rfl) (.ixI k rfl rfl tsl61 rfl (by exact fin0_c4Follows_ok)) ?_
          refine VD.y rfl rfl (.inl rfl) (.fa rfl tst52 rfl) ?_
          refine VD.y rfl rfl (.inl rfl) (.ld1 0 rfl tk3 rfl (hce4.at1 (j := 1) rfl)) ?_
          refine VD.y rfl rfl (.inl rfl) (.as rfl) ?_
          refine VD.nil rfl ?_ rfl
          refine VO.as ?_
          refine VO.k9 0 1 2 6 7 8 12 21 41 ?_
          refine outBN ?_
          refine outN ?_
          refine VC.reg ?_
          refine VO.mv ?_
          refine VO.y rfl (.add (c := ((k + 1 : Nat) : Int)) rfl rfl (by omega) ⟨by exact fin0_c4Follows_ok, by exact fin0_c4Follows_ok⟩) ?_
          refine VO.as ?_
          refine VO.k9 0 1 2 6 7 8 12 21 41 ?_
          exact outN ⟨⟨k + 1, x4.1, x4.2.1⟩, ⟨by omega, by first | (exfalso; omega) | (rw [hf, follows_step ‹d2[k]? = some _› (by first | assumption | omega) (by omega) (by omega)]; rfl)⟩, by exact fin0_c4Follows_ok, ⟨⟨rfl, rfl, rfl, rfl, rfl, trivial⟩, fun _ h => Inv.sub h [102, 0]⟩⟩
  · -- F
    refine VC.exit ?_
    refine outE ?_
    refine outE ?_
    refine outBB ?_
    refine outN ?_
    refine VC.rs ?_
    refine VO.y rfl (.bst (cs := [Value.int .i64 (0), Value.int .i64 (0)]) rfl tst57 tz57 rfl) ?_
    refine VO.store (k := 2) (c' := [Value.int .i64 (0), Value.int .i64 (0)]) 102 rfl rfl (.inl tk57) rfl rfl rfl rfl rfl ?_
    refine VO.k6 0 1 2 6 7 12 ?_
    refine VC.ret ?_
    refine ⟨_, _, res_run (rs := [.cell 6 57]) rfl (.agg 102 rfl tk57 rfl ⟨_, _, _, mone_self _ _, Nat.le_of_ble_eq_true rfl, rfl⟩ .nil), fun W_ hI => out_of (l := []) hI [] rfl rfl (mle_refl _) (fun hS_ => ?_)⟩
    dsimp only [packV]
    have he0 : (cFollows d0 d1 d2 : Ty.Den TFault) = (0, 0) := by first | rfl | (first | (rw [hf, List.drop_of_length_le (by omega)]; rfl) | (rw [hf, follows_bad ‹d2[k]? = some _› (by first | assumption | omega)]) | (rw [hf, follows_order ‹d2[k]? = some _› (by first | assumption | omega) (by omega)]) | (exfalso; omega))
    refine ⟨[Value.int .i64 (0), Value.int .i64 (0)], ?_, ?_⟩
    rotate_left
    · rw [he0]; exact (Ow.of (m := mnil) rfl (mk_Fault (m := _) 0 0 (by simp only [inK]; (exact fin0_c4Follows_ok)) (by simp only [inK]; (exact fin0_c4Follows_ok))))
    all_goals (first | rfl | (rfl))
end
section
set_option linter.unusedVariables false
def overH (h : DH) : DH := (-h.1 - 1, h.2.1, h.2.2)
def hdO (h : DH) : Hd := h.2.2
variable {mo : Mem} {hss l : List (List DH)} {d was : List (List DCommit)} {p k : Nat} {x : List DH} {y : List DCommit} {a : DH} {b : DCommit}
theorem hdr_row (hF : F2 (F2 (Pc TOp mo)) hss d) (hl : l = hss.map (List.map overH)) (hw : was = d) (hx : l[p]? = some x) (hy : was[p]? = some y) : ∃ h, x = h.map overH ∧ F2 (Pc TOp mo) h y := by
  rw [hl, List.getElem?_map] at hx
  obtain ⟨h, hh, rfl⟩ := Option.map_eq_some_iff.1 hx
  obtain ⟨y', hy', hp⟩ := hF.get hh
  rw [hw, hy'] at hy
  obtain rfl := Option.some.inj hy
  exact ⟨h, rfl, hp⟩
theorem hdr_len (hF : F2 (F2 (Pc TOp mo)) hss d) (hl : l = hss.map (List.map overH)) (hw : was = d) (hx : l[p]? = some x) (hy : was[p]? = some y) : x.length = y.length := by
  obtain ⟨h, rfl, hp⟩ := hdr_row hF hl hw hx hy
  rw [List.length_map, hp.len]
theorem hdr_at (hF : F2 (F2 (Pc TOp mo)) hss d) (hl : l = hss.map (List.map overH)) (hw : was = d) (hx : l[p]? = some x) (hy : was[p]? = some y) (ha : x[k]? = some a) (hb : y[k]? = some b) : a.1 = -b.1 - 1 := by
  obtain ⟨h, rfl, hp⟩ := hdr_row hF hl hw hx hy
  rw [List.getElem?_map] at ha
  obtain ⟨h0, hh, rfl⟩ := Option.map_eq_some_iff.1 ha
  obtain ⟨b', hb', hq⟩ := hp.get hh
  rw [hb'] at hb
  obtain rfl := Option.some.inj hb
  show -h0.1 - 1 = _
  rw [hq.1]
theorem flat_next {α β : Type} {f : α → β} {o : List β} {hs : List (List α)} {i : Nat} {r : List α} (h : o = (hs.take i).flatten.map f) (hr : hs[i]? = some r) : o ++ r.map f = (hs.take (i + 1)).flatten.map f := by
  rw [take_one hr, List.flatten_append, List.map_append, h]; simp
theorem flat_room {α β : Type} {f : α → β} {o : List β} {hs : List (List α)} {i : Nat} {r : List α} (h : o = (hs.take i).flatten.map f) (hr : hs[i]? = some r) : o.length + r.length ≤ hs.flatten.length := by
  have h1 := congrArg List.length (flat_next h hr)
  have h3 := congrArg (fun l => l.flatten.length) (List.take_append_drop (i + 1) hs)
  simp only [List.flatten_append, List.length_append] at h3
  simp only [List.length_append, List.length_map] at h1
  omega
theorem flat_len {α β : Type} {R : α → β → Prop} {hs : List (List α)} {d : List (List β)} (h : F2 (F2 R) hs d) : hs.flatten.length = d.flatten.length := by
  induction h with
  | nil => rfl
  | cons h _ ih => simp only [List.flatten_cons, List.length_append, h.len, ih]
theorem ops_room {n j : Nat} {d : List (List DCommit)} (h : ∀ x ∈ d, ∀ c ∈ x, c.2.2.length ≤ n ∧ ∀ o ∈ c.2.2, o.2.1.length ≤ j) : ∀ x ∈ d.flatten.map (fun x => x.2.2), x.length ≤ n ∧ ∀ o ∈ x, o.2.1.length ≤ j := fun x hx => by
  obtain ⟨c, hc, rfl⟩ := List.mem_map.1 hx
  obtain ⟨r, hr, hcr⟩ := List.mem_flatten.1 hc
  exact h r hr c hcr
end
section
set_option linter.unusedVariables false
set_option linter.unusedSimpArgs false
set_option maxRecDepth 4000
theorem fnOk117 : fnOk Try.prog 117 = true := by kernel_rfl
theorem fnOk118 : fnOk Try.prog 118 = true := by kernel_rfl
theorem tsl81 : tsl Try.prog 81 = some (61, 1, 24) := by kernel_rfl
theorem tz61 : tz Try.prog 61 = some [.slice none 0 0] := by kernel_rfl
theorem fnOk39 : fnOk Try.prog 39 = true := by kernel_rfl
theorem OpsOf_ok (W : World) {v0 : Value} {d0 : List DHC} (h0 : Rd (.sl THC) (wm W) [v0] d0) (e0 : d0.length ≤ 3518437200000) : CallR Try.prog 117 [v0] W (mnil) (fun v m' => ∃ (s0 : Value), v = s0 ∧ Ow (.sl .hdr) m' [s0] (d0.map hdO)) := by
  obtain ⟨A0, c0, rfl, l0, k0⟩ := h0.slice
  simp only [maxLen] at k0
  refine CallR.ofA (n := 20) Try.func117 rfl rfl rfl ?_
  refine VC.rs ?_
  refine VO.as ?_
  refine VO.k2 0 2 ?_
  refine VC.rs ?_
  refine VO.as ?_
  refine VO.k3 0 2 3 ?_
  refine VC.seq ?_
  refine VC.rs ?_
  refine VO.as ?_
  refine VO.kp [0] [(0, wm W)] ?_
  refine VO.k4 0 2 3 4 ?_
  refine VC.block ?_
  refine VC.inv ((101, mnil) :: _) (fun _ h => h.nilc 101) ?_
  refine VC.loop (G := Nat × (List Hd) × (Option Addr) × Nat × Mem) (fun g => [(3, Value.slice (g.2.2.1) ((g.2.1).length) ((g.2.2.2.1))), (4, Value.int .i64 ((((g.1) : Nat) : Int))), (0, Value.slice A0 (d0.length) (c0)), (2, Value.slice none (0) (0))]) (fun g => [(101, (g.2.2.2.2)), (0, wm W)]) (fun g => ((g.1) ≤ d0.length) ∧ ((g.2.1) = (d0.take (g.1)).map hdO) ∧ (OwnL .hdr (g.2.2.2.2) mnil (.slice (g.2.2.1) (g.2.1).length (g.2.2.2.1)) (g.2.1))) (fun g => d0.length - (g.1)) (0, [], none, 0, mnil) (⟨by omega, by rfl, (OwnL.nil .hdr mnil mnil)⟩) ⟨⟨rfl, rfl, rfl, rfl, trivial⟩, fun _ h => h.sub [101, 0]⟩ ?_
  rintro ⟨k, out, out_A, out_c, out_m⟩ ⟨hk, ho, h_out⟩
  replace hk : k ≤ d0.length := hk
  replace ho : out = (d0.take k).map hdO := ho
  replace h_out : OwnL .hdr out_m mnil (.slice out_A out.length out_c) out := h_out
  show VC _ _ _ _ _ [(3, Value.slice out_A (out.length) (out_c)), (4, Value.int .i64 (((k : Nat) : Int))), (0, Value.slice A0 (d0.length) (c0)), (2, Value.slice none (0) (0))] [(101, out_m), (0, wm W)]
  have l_out : out.length ≤ out_c := by obtain ⟨_, _, he, hl, _⟩ := h_out.slice; simp only [Value.slice.injEq] at he; omega
  have k_out : out_c ≤ 9223372036854775807 := by obtain ⟨_, _, he, _, hl⟩ := h_out.slice; simp only [Value.slice.injEq, maxLen] at he hl; omega
  have hlo : out.length ≤ k := by rw [ho]; simp; omega
  refine VC.seq ?_
  refine VC.rs ?_
  refine VO.mv ?_
  refine VO.mv ?_
  refine VO.y rfl (.lenS rfl tsl61) ?_
  refine VO.y rfl (.lss rfl rfl) ?_
  refine VO.k5 0 2 3 4 8 ?_
  refine VC.cond rfl (fun hc2 => ?_) (fun hc2 => ?_)
  · -- T
    refine VC.skip ?_
    refine outN ?_
    refine VC.seq ?_
    refine VC.block ?_
    refine VC.reg ?_
    refine VO.mv ?_
    refine VO.mv ?_
    refine VO.mv ?_
    obtain ⟨x3, hx3⟩ : ∃ z_, (d0)[k]? = some z_ := ⟨_, List.getElem?_eq_getElem bd⟩
    obtain ⟨gg3, oo3, ec3, ea3, hce3, hre3⟩ := h0.elem hx3
    cases ea3
    obtain ⟨rfl, q3_0, q3_1⟩ := open_HC (x0 := x3.1) (x1 := x3.2.1) (x2 := x3.2.2) hre3
    simp only [inK] at q3_0
    simp only [inK] at q3_1
    refine VO.y rfl (.ixI k rfl rfl tsl61 rfl bd) ?_
    refine VO.y rfl (.fa rfl tst52 rfl) ?_
    refine VO.y rfl (.ld1 0 rfl tk22 rfl (hce3.at1 (j := 2) rfl)) ?_
    refine VO.bsl (cs := [Value.slice x3.2.2.1 (x3.2.2.2.1) (x3.2.2.2.2)]) 105 rfl rfl tsl42 tz22 rfl rfl (fun g4 => ?_)
    obtain ⟨mo6, cs6, hM6, hA6, hC6⟩ := h_out
    refine VO.app 101 rfl rfl rfl tsl42 tz22 rfl rfl hM6 hA6 (.row 105 _ _ _ 1 1 _ _ Try.underlying42 rfl (cellsAt_one rfl rfl)) (by simp [Value.oneCell']) bdm bd (by decide) (fun v6 m6 hN6 => ?_)
    have ho6 : OwnL .hdr m6 mnil v6 (out ++ [x3.2.2]) := OwnL.one hC6 hN6 (show Rd .hdr _ [_] _ from rfl)
    obtain ⟨A6, c6, rfl, l6, k6⟩ := ho6.slice
    simp only [maxLen] at k6
    refine VO.as ?_
    refine VO.k5 0 2 3 4 8 ?_
    refine outBN ?_
    refine outN ?_
    refine VC.reg ?_
    refine VO.mv ?_
    refine VO.y rfl (.add (c := ((k + 1 : Nat) : Int)) rfl rfl (by omega) ⟨bd, bd⟩) ?_
    refine VO.as ?_
    refine VO.kp [101, 0] [(101, m6), (0, wm W)] ?_
    refine VO.k5 0 2 3 4 8 ?_
    exact outN ⟨⟨k + 1, out ++ [x3.2.2], A6, c6, m6⟩, ⟨by omega, by (rw [ho, take_one ‹d0[k]? = some _›, List.map_append]; rfl), ho6⟩, bd, ⟨⟨rfl, rfl, rfl, rfl, trivial⟩, fun _ h => Inv.sub h [101, 0]⟩⟩
  · -- F
    refine VC.exit ?_
    refine outE ?_
    refine outE ?_
    refine outBB ?_
    refine outN ?_
    refine VC.rs ?_
    refine VO.mv ?_
    refine VO.as ?_
    refine VO.k5 0 2 3 4 8 ?_
    refine VC.ret ?_
    refine ⟨_, _, res_run (rs := [.tmp 2]) rfl (.tmp rfl .nil), fun W_ hI => out_of (l := [out_m]) hI [101] rfl rfl (mle_refl _) (fun hS_ => ?_)⟩
    dsimp only [packV]
    have he0 : (d0.map hdO : Ty.Den (.sl .hdr)) = out := by first | rfl | (rw [ho, List.take_of_length_le (by omega)])
    refine ⟨Value.slice out_A (out.length) (out_c), ?_, ?_⟩
    rotate_left
    · rw [he0]; exact (Ow.up (OwnL.ow h_out rfl) (hS_.1 _ (.head _)))
    all_goals (first | rfl | (simp [*]; done))
theorem overCommits_ok (W : World) {m0 : Mem} (hm : mle (m0) (wm W)) {v0 : Value} {d0 : List DHC} (h0 : Ow (.sl THC) m0 [v0] d0) : CallR Try.prog 118 [v0] W (m0) (fun v m' => v = .tuple #[] ∧ Ow (.sl THC) m' [v0] (d0.map overH)) := by
  obtain ⟨A0, c0, e0_, l0, k0⟩ := h0.slice
  subst e0_
  simp only [maxLen] at k0
  refine CallR.ofB (n := 30) hm Try.func118 rfl rfl rfl ?_
  refine VC.rs ?_
  refine VO.mv ?_
  refine VO.y rfl (.capS rfl tsl61) ?_
  refine VO.as ?_
  refine VO.k2 0 2 ?_
  refine VC.seq ?_
  refine VC.rs ?_
  refine VO.as ?_
  refine VO.k3 0 2 3 ?_
  refine VC.block ?_
  refine VC.loop (G := Nat × (List DHC) × Mem) (fun g => [(0, Value.slice A0 (d0.length) (c0)), (3, Value.int .i64 ((((g.1) : Nat) : Int))), (0, Value.slice A0 (d0.length) (c0)), (2, Value.int .i64 (((c0 : Nat) : Int)))]) (fun g => [(0, mout (wm W) (m0)), (1, (g.2.2))]) (fun g => ((g.1) ≤ d0.length) ∧ ((g.2.1) = (d0.take (g.1)).map overH ++ d0.drop (g.1)) ∧ (OwnL THC (g.2.2) mnil (.slice A0 (d0.length) (c0)) (g.2.1))) (fun g => d0.length - (g.1)) (0, d0, m0) (⟨by omega, by simp, (Ow.ownl h0 rfl mnil)⟩) ⟨⟨rfl, rfl, rfl, rfl, trivial⟩, fun _ h => h.sub [0, 1]⟩ ?_
  rintro ⟨k, l, l_m⟩ ⟨hk, hl, h_l⟩
  replace hk : k ≤ d0.length := hk
  replace hl : l = (d0.take k).map overH ++ d0.drop k := hl
  replace h_l : OwnL THC l_m mnil (.slice A0 (d0.length) (c0)) l := h_l
  show VC _ _ _ _ _ [(0, Value.slice A0 (d0.length) (c0)), (3, Value.int .i64 (((k : Nat) : Int))), (0, Value.slice A0 (d0.length) (c0)), (2, Value.int .i64 (((c0 : Nat) : Int)))] [(0, mout (wm W) (m0)), (1, l_m)]
  have ll_l := slice_len (OwnL.ow h_l rfl)
  refine VC.seq ?_
  refine VC.rs ?_
  refine VO.mv ?_
  refine VO.mv ?_
  refine VO.y rfl (.lenS rfl tsl61) ?_
  refine VO.y rfl (.lss rfl rfl) ?_
  refine VO.kp [0, 1] [(0, mout (wm W) (m0)), (1, l_m)] ?_
  refine VO.k4 0 2 3 9 ?_
  refine VC.cond rfl (fun hc1 => ?_) (fun hc1 => ?_)
  · -- T
    refine VC.skip ?_
    refine outN ?_
    refine VC.seq ?_
    refine VC.block ?_
    refine VC.reg ?_
    refine VO.mv ?_
    refine VO.mv ?_
    refine VO.mv ?_
    refine VO.mv ?_
    obtain ⟨x2, hx2⟩ : ∃ z_, (l)[k]? = some z_ := ⟨_, List.getElem?_eq_getElem bd⟩
    obtain ⟨gg2, oo2, ec2, ea2, hce2, hre2⟩ := h_l.elem hx2
    cases ea2
    obtain ⟨rfl, q2_0, q2_1⟩ := open_HC (x0 := x2.1) (x1 := x2.2.1) (x2 := x2.2.2) hre2
    simp only [inK] at q2_0
    simp only [inK] at q2_1
    refine VO.y rfl (.ixI k rfl rfl tsl61 rfl bd) ?_
    refine VO.y rfl (.fa rfl tst52 rfl) ?_
    refine VO.y rfl (.ld1 1 rfl tk3 rfl (hce2.at1 (j := 0) rfl)) ?_
    refine VO.y rfl (.cpl rfl ⟨bd, bd⟩) ?_
    refine VO.y rfl (.ixI k rfl rfl tsl61 rfl bd) ?_
    refine VO.y rfl (.fa rfl tst52 rfl) ?_
    refine VO.upd (e := THC) (k := 1) (i := k) (x' := (-x2.1 - 1, x2.2)) 1 0 rfl rfl (.inr ⟨tk3, rfl⟩) rfl rfl rfl (OwnL.ow h_l rfl) rfl hx2 rfl (fun mi ec he => by obtain ⟨rfl, z0, z1⟩ := open_HC (x0 := x2.1) (x1 := x2.2.1) (x2 := x2.2.2) (he.rd (mle_refl _)); exact Ow.of (m := mnil) rfl (mk_HC (-x2.1 - 1) x2.2.1 x2.2.2 bdk z1)) (fun mu4 hu4 => ?_)
    have hl4 := slice_len hu4
    refine VO.k4 0 2 3 9 ?_
    refine outBN ?_
    refine outN ?_
    refine VC.reg ?_
    refine VO.mv ?_
    refine VO.y rfl (.add (c := ((k + 1 : Nat) : Int)) rfl rfl (by omega) ⟨bd, bd⟩) ?_
    refine VO.as ?_
    refine VO.k4 0 2 3 9 ?_
    exact outN ⟨⟨k + 1, (l).set k (-x2.1 - 1, x2.2), mu4⟩, ⟨by omega, by exact (over_set (f := overH) hl ‹l[k]? = some _›).2, (Ow.ownl hu4 rfl mnil)⟩, bd, ⟨⟨rfl, rfl, rfl, rfl, trivial⟩, fun _ h => Inv.sub h [0, 1]⟩⟩
  · -- F
    refine VC.exit ?_
    refine outE ?_
    refine outE ?_
    refine outBB ?_
    refine outN ?_
    refine VC.block ?_
    refine VC.loop (G := (List DHC) × Mem × Nat) (fun g => [(0, Value.slice A0 ((g.2.2)) (c0)), (2, Value.int .i64 (((c0 : Nat) : Int))), (3, Value.int .i64 (((k : Nat) : Int))), (9, Value.bool (decide (((k : Nat) : Int) < ((d0.length : Nat) : Int))))]) (fun g => [(0, mout (wm W) (m0)), (1, (g.2.1))]) (fun g => (∃ j, (g.1) = d0.map overH ++ List.replicate j (99, 0, (none, 0, 0))) ∧ ((g.2.2) ≤ c0) ∧ (OwnL THC (g.2.1) mnil (.slice A0 ((g.2.2)) (c0)) (g.1))) (fun g => c0 - (g.2.2)) (l, l_m, d0.length) (⟨by (exact ⟨0, by rw [hl, List.take_of_length_le (by omega), List.drop_of_length_le (by omega)]; simp⟩), by omega, h_l⟩) ⟨⟨rfl, rfl, rfl, rfl, trivial⟩, fun _ h => h.sub [0, 1]⟩ ?_
    rintro ⟨l2, l2_m, l2_n⟩ ⟨hl2, hc, h_l2⟩
    replace hl2 : ∃ j, l2 = d0.map overH ++ List.replicate j (99, 0, (none, 0, 0)) := hl2
    replace hc : l2_n ≤ c0 := hc
    replace h_l2 : OwnL THC l2_m mnil (.slice A0 (l2_n) (c0)) l2 := h_l2
    show VC _ _ _ _ _ [(0, Value.slice A0 (l2_n) (c0)), (2, Value.int .i64 (((c0 : Nat) : Int))), (3, Value.int .i64 (((k : Nat) : Int))), (9, Value.bool (decide (((k : Nat) : Int) < ((d0.length : Nat) : Int))))] [(0, mout (wm W) (m0)), (1, l2_m)]
    have ll_l2 := slice_len (OwnL.ow h_l2 rfl)
    refine VC.seq ?_
    refine VC.rs ?_
    refine VO.mv ?_
    refine VO.y rfl (.lenS rfl tsl61) ?_
    refine VO.mv ?_
    refine VO.y rfl (.lss rfl rfl) ?_
    refine VO.k5 0 2 3 9 25 ?_
    refine VC.cond rfl (fun hc5 => ?_) (fun hc5 => ?_)
    · -- FT
      refine VC.skip ?_
      refine outN ?_
      refine VC.block ?_
      refine VC.reg ?_
      refine VO.mv ?_
      refine VO.y rfl (.bst (cs := [Value.int .i64 (99), Value.int .i64 (0), Value.slice none (0) (0)]) rfl tst52 tz52 rfl) ?_
      refine VO.bsl (cs := [Value.int .i64 (99), Value.int .i64 (0), Value.slice none (0) (0)]) 107 rfl rfl tsl61 tz52 rfl rfl (fun g6 => ?_)
      refine VO.inv ((109, mnil) :: _) (fun _ h => h.nilc 109) ?_
      have hxl8 := slice_len (OwnL.ow h_l2 rfl)
      refine VO.appI (e := THC) (xs := l2) (cap := c0) (A := A0) (l := l2_n) 1 109 107 rfl rfl rfl tsl61 rfl rfl rfl (OwnL.ow h_l2 rfl) (Ow.of (m := mnil) rfl (mk_HC (m := _) 99 0 (none, 0, 0) bdk bdk)) Try.underlying61 (cellsAt_one rfl rfl) bd (fun m8 ho8 => ?_)
      refine VO.as ?_
      refine VO.k5 0 2 3 9 25 ?_
      refine outBN ?_
      exact outN ⟨⟨l2 ++ [(99, 0, (none, 0, 0))], m8, l2_n + 1⟩, ⟨by exact over_more hl2, by dsimp only; omega, (Ow.ownl ho8 rfl mnil)⟩, by (dsimp only; omega), ⟨⟨rfl, rfl, rfl, rfl, trivial⟩, fun _ h => Inv.sub h [0, 1]⟩⟩
    · -- FF
      refine VC.exit ?_
      refine outE ?_
      refine outE ?_
      refine outBB ?_
      have hcut0 := Ow.pre (j := d0.length) (OwnL.ow h_l2 rfl) bd
      refine ⟨_, _, res_run (rs := []) rfl .nil, fun W_ hI => out_of (l := [l2_m]) hI [1] rfl rfl (mle_refl _) (fun hS_ => ?_)⟩
      dsimp only [packV]
      have hm0_ : (d0.map overH : Ty.Den (.sl THC)) = (l2).take d0.length := by first | rfl | (obtain ⟨j, rfl⟩ := hl2; simp)
      refine ⟨?_, ?_⟩
      rotate_left
      · rw [hm0_]; exact (Ow.up hcut0 (hS_.1 _ (.head _)))
      all_goals (first | rfl | (simp [*]; done))
theorem fin0_ApartCommits_ok {P : Prop} (h : P := by first | omega | (simp only [List.length_append, List.length_nil, List.length_cons, List.length_take, List.length_drop] at *; omega) | (have h_ := flat_room ho ‹hss[_]? = some _›; have h2_ := flat_len hF; simp only [List.length_append, List.length_map] at *; omega) | (have h_ := hdr_len hF hl4 hw4 ‹l[_]? = some _› ‹was[_]? = some _›; omega)) : P := h
theorem ApartCommits_ok (W : World) {m0 : Mem} (hm : mle (m0) (wm W)) {v0 : Value} {d0 : List (List DCommit)} (h0 : Ow (.sl (.sl TCommit)) m0 [v0] d0) (e0 : d0.length ≤ 1000) (e1 : ∀ x ∈ d0, x.length ≤ 3518437200000) (e2 : d0.flatten.length ≤ 1000) (e3 : ∀ x ∈ d0, ∀ c ∈ x, c.2.2.length ≤ 3518437208800 ∧ ∀ o ∈ c.2.2, o.2.1.length ≤ 140737488400000) : CallR Try.prog 76 [v0] W (m0) (fun v m' => v = .bool true) := by
  obtain ⟨A0, c0, e0_, l0, k0⟩ := h0.slice
  subst e0_
  simp only [maxLen] at k0
  refine CallR.ofB (n := 89) hm Try.func76 rfl rfl rfl ?_
  obtain ⟨hss, ml, mo, hSp, hL, hF, hO⟩ := Ow.peelLL (e := TOp) h0
  have hlh := hF.len
  refine VC.inv _ (fun _ h => h.parts (i := 1) rfl hSp [1, 2]) ?_
  refine VC.rs ?_
  refine VO.as ?_
  refine VO.k2 0 2 ?_
  refine VC.rs ?_
  refine VO.mv ?_
  refine VO.y rfl (.lenS rfl tsl81) ?_
  refine VO.mks (e := (.sl TCommit)) (a := ((d0.length : Nat) : Int)) (k := d0.length) 101 rfl rfl rfl rfl tsl81 tz61 (y := []) (Ow.nil _ mnil) (by simp only [maxLen]; (exact fin0_ApartCommits_ok)) (by exact fin0_ApartCommits_ok) (by decide) (fun v1 m1 hk1 => ?_)
  obtain ⟨A1, c1, rfl, l1, k1⟩ := hk1.slice
  simp only [maxLen] at k1
  have ln1 : (List.replicate d0.length ([] : List DCommit)).length = d0.length := List.length_replicate
  refine VO.as ?_
  refine VO.k3 0 2 3 ?_
  refine VC.rs ?_
  refine VO.as ?_
  refine VO.kp [101, 1, 2, 0] [(101, m1), (1, ml), (2, mo), (0, mout (wm W) (m0))] ?_
  refine VO.k4 0 2 3 4 ?_
  refine VC.seq ?_
  refine VC.rs ?_
  refine VO.as ?_
  refine VO.k5 0 2 3 4 5 ?_
  refine VC.block ?_
  refine VC.inv ((102, mnil) :: _) (fun _ h => h.nilc 102) ?_
  refine VC.loop (G := Nat × (List (List DCommit)) × Mem × (List Hd) × (Option Addr) × Nat × Mem) (fun g => [(3, Value.slice A1 ((List.replicate d0.length ([] : List DCommit)).length) (c1)), (4, Value.slice (g.2.2.2.2.1) ((g.2.2.2.1).length) ((g.2.2.2.2.2.1))), (5, Value.int .i64 ((((g.1) : Nat) : Int))), (0, Value.slice A0 (d0.length) (c0)), (2, Value.bool false), (3, Value.slice A1 ((List.replicate d0.length ([] : List DCommit)).length) (c1))]) (fun g => [(102, (g.2.2.2.2.2.2)), (101, (g.2.2.1)), (1, ml), (2, mo), (0, mout (wm W) (m0))]) (fun g => ((g.1) ≤ d0.length) ∧ ((g.2.1) = d0.take (g.1) ++ List.replicate (d0.length - (g.1)) []) ∧ ((g.2.2.2.1) = (hss.take (g.1)).flatten.map hdO) ∧ (Ow (.sl (.sl TCommit)) (g.2.2.1) [.slice A1 ((List.replicate d0.length ([] : List DCommit)).length) (c1)] (g.2.1)) ∧ (OwnL .hdr (g.2.2.2.2.2.2) mnil (.slice (g.2.2.2.2.1) (g.2.2.2.1).length (g.2.2.2.2.2.1)) (g.2.2.2.1))) (fun g => d0.length - (g.1)) (0, List.replicate d0.length ([] : List DCommit), m1, [], none, 0, mnil) (⟨by omega, by simp, by rfl, hk1, (OwnL.nil .hdr mnil mnil)⟩) ⟨⟨rfl, rfl, rfl, rfl, rfl, rfl, trivial⟩, fun _ h => h.sub [102, 101, 1, 2, 0]⟩ ?_
  rintro ⟨i, was, was_m, ops, ops_A, ops_c, ops_m⟩ ⟨hi, hw, ho, h_was, h_ops⟩
  replace hi : i ≤ d0.length := hi
  replace hw : was = d0.take i ++ List.replicate (d0.length - i) [] := hw
  replace ho : ops = (hss.take i).flatten.map hdO := ho
  replace h_was : Ow (.sl (.sl TCommit)) was_m [.slice A1 ((List.replicate d0.length ([] : List DCommit)).length) (c1)] was := h_was
  replace h_ops : OwnL .hdr ops_m mnil (.slice ops_A ops.length ops_c) ops := h_ops
  show VC _ _ _ _ _ [(3, Value.slice A1 ((List.replicate d0.length ([] : List DCommit)).length) (c1)), (4, Value.slice ops_A (ops.length) (ops_c)), (5, Value.int .i64 (((i : Nat) : Int))), (0, Value.slice A0 (d0.length) (c0)), (2, Value.bool false), (3, Value.slice A1 ((List.replicate d0.length ([] : List DCommit)).length) (c1))] [(102, ops_m), (101, was_m), (1, ml), (2, mo), (0, mout (wm W) (m0))]
  have ll_was := slice_len h_was
  have l_ops : ops.length ≤ ops_c := by obtain ⟨_, _, he, hl, _⟩ := h_ops.slice; simp only [Value.slice.injEq] at he; omega
  have k_ops : ops_c ≤ 9223372036854775807 := by obtain ⟨_, _, he, _, hl⟩ := h_ops.slice; simp only [Value.slice.injEq, maxLen] at he hl; omega
  refine VC.seq ?_
  refine VC.rs ?_
  refine VO.mv ?_
  refine VO.mv ?_
  refine VO.y rfl (.lenS rfl tsl81) ?_
  refine VO.y rfl (.lss rfl rfl) ?_
  refine VO.k6 0 2 3 4 5 15 ?_
  refine VC.cond rfl (fun hc3 => ?_) (fun hc3 => ?_)
  · -- T
    refine VC.skip ?_
    refine outN ?_
    refine VC.seq ?_
    refine VC.block ?_
    refine VC.rs ?_
    refine VO.mv ?_
    refine VO.mv ?_
    refine VO.mv ?_
    refine VO.mv ?_
    obtain ⟨x4, hx4⟩ : ∃ z_, (hss)[i]? = some z_ := ⟨_, List.getElem?_eq_getElem (by exact fin0_ApartCommits_ok)⟩
    obtain ⟨gg4, oo4, ec4, ea4, hce4, hre4⟩ := (Ow.rd hL (mle_refl _)).elem hx4
    cases ea4
    have hr4 := hre4
    obtain ⟨A4_, c4_, rfl, _⟩ := hre4
    have rr4 := Rd.room hr4
    refine VO.y rfl (.ixI i rfl rfl tsl81 rfl (by exact fin0_ApartCommits_ok)) ?_
    refine VO.y rfl (.ld1 1 rfl tk61 rfl hce4) ?_
    obtain ⟨y4, hy4, hp4⟩ := hF.get (hx4)
    have hn4 := hp4.len
    have hm4 := e1 _ (List.mem_of_getElem? hy4)
    refine VO.callN 105 rfl fnOk56 rfl (fun W hW => CopyCommits_ok W (row_rd (e := TOp) (Rd.mono hr4 (hW.at (i := 1) rfl)) (hp4.mono fun _ _ h => Pc.mono h (hW.at (i := 2) rfl))) (by exact fin0_ApartCommits_ok) (by exact fun c hc => (e3 _ (List.mem_of_getElem? ‹d0[i]? = some _›) c hc).1)) (fun v5 m5 hv5 => ?_)
    obtain ⟨s5_0, rfl, f5_0⟩ := hv5
    obtain ⟨A5_0, c5_0, eq5_0, l5_0, k5_0⟩ := f5_0.slice
    subst eq5_0
    simp only [maxLen] at k5_0
    obtain ⟨x6, hx6⟩ : ∃ z_, (was)[i]? = some z_ := ⟨_, List.getElem?_eq_getElem (by exact fin0_ApartCommits_ok)⟩
    obtain ⟨gg6, oo6, ec6, ea6, hce6, hre6⟩ := (Ow.rd h_was (mle_refl _)).elem hx6
    cases ea6
    have hr6 := hre6
    obtain ⟨A6_, c6_, rfl, _⟩ := hre6
    have rr6 := Rd.room hr6
    refine VO.y rfl (.ixI i rfl rfl tsl81 rfl (by exact fin0_ApartCommits_ok)) ?_
    refine VO.setE (e := (.sl TCommit)) (k := 1) (i := i) 101 105 rfl rfl (.inr ⟨tk61, rfl⟩) rfl rfl rfl rfl h_was rfl hx6 (x' := y4) (Ow.up f5_0 ((Seps.one (mle_refl _)).1 _ (.head _))) (fun mu7 hu7 => ?_)
    have hl7 := slice_len hu7
    refine VO.kp [102, 101, 1, 2, 0] [(102, ops_m), (101, mu7), (1, ml), (2, mo), (0, mout (wm W) (m0))] ?_
    refine VO.k6 0 2 3 4 5 15 ?_
    refine VC.reg ?_
    refine VO.mv ?_
    refine VO.mv ?_
    refine VO.mv ?_
    refine VO.y rfl (.ixI i rfl rfl tsl81 rfl (by exact fin0_ApartCommits_ok)) ?_
    refine VO.y rfl (.ld1 1 rfl tk61 rfl hce4) ?_
    refine VO.callN 109 rfl fnOk117 rfl (fun W hW => OpsOf_ok W (Rd.mono hr4 (hW.at (i := 1) rfl)) (by exact fin0_ApartCommits_ok)) (fun v9 m9 hv9 => ?_)
    obtain ⟨s9_0, rfl, f9_0⟩ := hv9
    obtain ⟨A9_0, c9_0, eq9_0, l9_0, k9_0⟩ := f9_0.slice
    subst eq9_0
    simp only [maxLen] at k9_0
    obtain ⟨mo10, cs10, hM10, hA10, hC10⟩ := h_ops
    obtain ⟨all10, hS10, hR10⟩ := Rd.srcI (P := Try.prog) ((OwnL.rd (Ow.ownl f9_0 rfl mnil) (mle_refl _) (mle_nil _))) Try.underlying42
    refine VO.app 102 rfl rfl rfl tsl42 tz22 rfl rfl hM10 hA10 (hS10 _ 109 rfl) hR10.nice (by simp only [maxLen]; (exact fin0_ApartCommits_ok)) (by exact fin0_ApartCommits_ok) (by decide) (fun v10 m10 hN10 => ?_)
    have ho10 : OwnL .hdr m10 mnil v10 (ops ++ (x4.map hdO)) := OwnL.more hC10 hN10 (All2c.mono hR10 fun _ _ h => Rd.flat rfl h _)
    obtain ⟨A10, c10, rfl, l10, k10⟩ := ho10.slice
    simp only [maxLen] at k10
    refine VO.as ?_
    refine VO.k6 0 2 3 4 5 15 ?_
    refine outBN ?_
    refine outN ?_
    refine VC.reg ?_
    refine VO.mv ?_
    refine VO.y rfl (.add (c := ((i + 1 : Nat) : Int)) rfl rfl (by omega) ⟨by exact fin0_ApartCommits_ok, by exact fin0_ApartCommits_ok⟩) ?_
    refine VO.as ?_
    refine VO.k6 0 2 3 4 5 15 ?_
    exact outN ⟨⟨i + 1, (was).set i y4, mu7, ops ++ (x4.map hdO), A10, c10, m10⟩, ⟨by omega, by exact fill_next hw ‹d0[i]? = some _›, by exact flat_next ho ‹hss[i]? = some _›, hu7, ho10⟩, by exact fin0_ApartCommits_ok, ⟨⟨rfl, rfl, rfl, rfl, rfl, rfl, trivial⟩, fun _ h => Inv.sub h [102, 101, 1, 2, 0]⟩⟩
  · -- F
    refine VC.exit ?_
    refine outE ?_
    refine outE ?_
    refine outBB ?_
    refine outN ?_
    refine VC.seq ?_
    refine VC.rs ?_
    refine VO.as ?_
    refine VO.kp [102, 101, 1, 2, 0] [(102, ops_m), (101, was_m), (1, ml), (2, mo), (0, mout (wm W) (m0))] ?_
    refine VO.k7 0 2 3 4 5 6 15 ?_
    refine VC.block ?_
    refine VC.loop (G := Nat × (List (List DHC)) × Mem) (fun g => [(0, Value.slice A0 (d0.length) (c0)), (6, Value.int .i64 ((((g.1) : Nat) : Int))), (0, Value.slice A0 (d0.length) (c0)), (3, Value.slice A1 ((List.replicate d0.length ([] : List DCommit)).length) (c1)), (4, Value.slice ops_A (ops.length) (ops_c)), (5, Value.int .i64 (((i : Nat) : Int))), (15, Value.bool (decide (((i : Nat) : Int) < ((d0.length : Nat) : Int))))]) (fun g => [(102, ops_m), (101, was_m), (1, (g.2.2)), (2, mo), (0, mout (wm W) (m0))]) (fun g => (was = d0) ∧ ((g.1) ≤ d0.length) ∧ ((g.2.1) = (hss.take (g.1)).map (List.map overH) ++ hss.drop (g.1)) ∧ (Ow (.sl (.sl THC)) (g.2.2) [.slice A0 (d0.length) (c0)] (g.2.1))) (fun g => d0.length - (g.1)) (0, hss, ml) (⟨by exact fill_all hw (by omega), by omega, by simp, hL⟩) ⟨⟨rfl, rfl, rfl, rfl, rfl, rfl, rfl, trivial⟩, fun _ h => h.sub [102, 101, 1, 2, 0]⟩ ?_
    rintro ⟨j, l, l_m⟩ ⟨hw2, hj, hl, h_l⟩
    replace hw2 : was = d0 := hw2
    replace hj : j ≤ d0.length := hj
    replace hl : l = (hss.take j).map (List.map overH) ++ hss.drop j := hl
    replace h_l : Ow (.sl (.sl THC)) l_m [.slice A0 (d0.length) (c0)] l := h_l
    show VC _ _ _ _ _ [(0, Value.slice A0 (d0.length) (c0)), (6, Value.int .i64 (((j : Nat) : Int))), (0, Value.slice A0 (d0.length) (c0)), (3, Value.slice A1 ((List.replicate d0.length ([] : List DCommit)).length) (c1)), (4, Value.slice ops_A (ops.length) (ops_c)), (5, Value.int .i64 (((i : Nat) : Int))), (15, Value.bool (decide (((i : Nat) : Int) < ((d0.length : Nat) : Int))))] [(102, ops_m), (101, was_m), (1, l_m), (2, mo), (0, mout (wm W) (m0))]
    have ll_l := slice_len h_l
    refine VC.seq ?_
    refine VC.rs ?_
    refine VO.mv ?_
    refine VO.mv ?_
    refine VO.y rfl (.lenS rfl tsl81) ?_
    refine VO.y rfl (.lss rfl rfl) ?_
    refine VO.k7 0 3 4 5 6 15 36 ?_
    refine VC.cond rfl (fun hc11 => ?_) (fun hc11 => ?_)
    · -- FT
      refine VC.skip ?_
      refine outN ?_
      refine VC.seq ?_
      refine VC.block ?_
      refine VC.seq ?_
      refine VC.seq ?_
      refine VC.regD _ 8 [(0, true), (1, true), (2, true), (3, true), (4, true), (5, true), (6, true), (7, true)] follows (by kernel_rfl) (fun _ h => h.sub [102, 101, 1, 2, 0]) ?_
      refine VD.y rfl rfl (.inl rfl) (.mv rfl) ?_
      refine VD.y rfl rfl (.inl rfl) (.mv rfl) ?_
      obtain ⟨x12, hx12⟩ : ∃ z_, (l)[j]? = some z_ := ⟨_, List.getElem?_eq_getElem (by exact fin0_ApartCommits_ok)⟩
      obtain ⟨gg12, oo12, ec12, ea12, hce12, hre12⟩ := (Ow.rd h_l (mle_refl _)).elem hx12
      cases ea12
      have hr12 := hre12
      obtain ⟨A12_, c12_, rfl, _⟩ := hre12
      have rr12 := Rd.room hr12
      refine VD.y rfl rfl (.inl rfl) (.ixI j rfl rfl tsl81 rfl (by exact fin0_ApartCommits_ok)) ?_
      refine VD.y rfl rfl (.inl rfl) (.ld1 1 rfl tk61 rfl hce12) ?_
      obtain ⟨y12, hy12, hp12⟩ := hF.get ((over_set hl hx12).1)
      have hn12 := hp12.len
      have hm12 := e1 _ (List.mem_of_getElem? hy12)
      refine VD.y rfl rfl (.inl rfl) (.mv rfl) ?_
      refine VD.y rfl rfl (.inl rfl) (.mv rfl) ?_
      obtain ⟨x13, hx13⟩ : ∃ z_, (was)[j]? = some z_ := ⟨_, List.getElem?_eq_getElem (by exact fin0_ApartCommits_ok)⟩
      obtain ⟨gg13, oo13, ec13, ea13, hce13, hre13⟩ := (Ow.rd h_was (mle_refl _)).elem hx13
      cases ea13
      have hr13 := hre13
      obtain ⟨A13_, c13_, rfl, _⟩ := hre13
      have rr13 := Rd.room hr13
      refine VD.y rfl rfl (.inl rfl) (.ixI j rfl rfl tsl81 rfl (by exact fin0_ApartCommits_ok)) ?_
      refine VD.y rfl rfl (.inl rfl) (.ld1 101 rfl tk61 rfl hce13) ?_
      refine VD.nil rfl ?_ rfl
      refine VO.callN 114 rfl fnOk69 rfl (fun W hW => SameCommits_ok W (row_rd (e := TOp) (Rd.mono hr12 (hW.at (i := 1) rfl)) (hp12.mono fun _ _ h => Pc.mono h (hW.at (i := 2) rfl))) (Rd.mono hr13 (hW.at (i := 101) rfl))) (fun v14 m14 hv14 => ?_)
      subst hv14
      refine VO.y rfl (.notD rfl) ?_
      refine VO.k8 0 3 4 5 6 15 36 48 ?_
      refine outN ?_
      refine VC.cond rfl (fun hc15 => ?_) (fun hc15 => ?_)
      · -- FTT
        exact absurd (by have h_ := ‹was[j]? = some _›; rw [hw2] at h_; exact Option.some.inj (‹d0[j]? = some _›.symm.trans h_)) hc15
      · -- FTF
        refine VC.skip ?_
        refine outN ?_
        refine VC.reg ?_
        refine VO.mv ?_
        refine VO.mv ?_
        refine VO.y rfl (.ixI j rfl rfl tsl81 rfl (by exact fin0_ApartCommits_ok)) ?_
        refine VO.y rfl (.ld1 1 rfl tk61 rfl hce12) ?_
        obtain ⟨mr17, me17, hH17, hE17, hB17⟩ := Ow.hole h_l hx12 hce12
        refine VO.parts 1 [1, 118] rfl hH17 ?_
        refine VO.call 118 rfl fnOk118 rfl rfl (fun W hW => overCommits_ok W (hW.at (i := 118) rfl) hE17) (fun v17 m17 hv17 => ?_)
        obtain ⟨rfl, w17_0⟩ := hv17
        have wl17_0 := slice_len w17_0
        refine VO.gather (l := [mr17, m17]) 1 [1, 118] rfl (fun hg17 => ?_)
        have hL17 := Seps.back hg17 (fun hd_ => hB17 _ _ hd_ w17_0)
        have hl17 := slice_len hL17
        refine VO.kp [1, 102, 101, 2, 0] [(1, muns [mr17, m17]), (102, ops_m), (101, was_m), (2, mo), (0, mout (wm W) (m0))] ?_
        refine VO.k8 0 3 4 5 6 15 36 48 ?_
        refine outBN ?_
        refine outN ?_
        refine VC.reg ?_
        refine VO.mv ?_
        refine VO.y rfl (.add (c := ((j + 1 : Nat) : Int)) rfl rfl (by omega) ⟨by exact fin0_ApartCommits_ok, by exact fin0_ApartCommits_ok⟩) ?_
        refine VO.as ?_
        refine VO.k8 0 3 4 5 6 15 36 48 ?_
        exact outN ⟨⟨j + 1, (l).set j (x12.map overH), muns [mr17, m17]⟩, ⟨by exact hw2, by omega, by exact (over_set hl ‹l[j]? = some _›).2, hL17⟩, by exact fin0_ApartCommits_ok, ⟨⟨rfl, rfl, rfl, rfl, rfl, rfl, rfl, trivial⟩, fun _ h => Inv.sub h [102, 101, 1, 2, 0]⟩⟩
    · -- FF
      refine VC.exit ?_
      refine outE ?_
      refine outE ?_
      refine outBB ?_
      refine outN ?_
      refine VC.seq ?_
      refine VC.rs ?_
      refine VO.as ?_
      refine VO.k8 0 3 4 5 6 7 15 36 ?_
      refine VC.block ?_
      refine VC.loop (G := Nat) (fun p => [(7, Value.int .i64 (((p : Nat) : Int))), (0, Value.slice A0 (d0.length) (c0)), (3, Value.slice A1 ((List.replicate d0.length ([] : List DCommit)).length) (c1)), (4, Value.slice ops_A (ops.length) (ops_c)), (5, Value.int .i64 (((i : Nat) : Int))), (6, Value.int .i64 (((j : Nat) : Int))), (15, Value.bool (decide (((i : Nat) : Int) < ((d0.length : Nat) : Int)))), (36, Value.bool (decide (((j : Nat) : Int) < ((d0.length : Nat) : Int))))]) (fun p => [(102, ops_m), (101, was_m), (1, l_m), (2, mo), (0, mout (wm W) (m0))]) (fun p => (was = d0) ∧ (p ≤ d0.length) ∧ (l = hss.map (List.map overH))) (fun p => d0.length - p) 0 (⟨by exact hw2, by omega, by exact over_all hl (by omega)⟩) ⟨⟨rfl, rfl, rfl, rfl, rfl, rfl, rfl, rfl, trivial⟩, fun _ h => h.sub [102, 101, 1, 2, 0]⟩ ?_
      rintro p ⟨hw4, hp, hl4⟩
      refine VC.seq ?_
      refine VC.rs ?_
      refine VO.mv ?_
      refine VO.mv ?_
      refine VO.y rfl (.lenS rfl tsl81) ?_
      refine VO.y rfl (.lss rfl rfl) ?_
      refine VO.kp [102, 101, 1, 2, 0] [(102, ops_m), (101, was_m), (1, l_m), (2, mo), (0, mout (wm W) (m0))] ?_
      refine VO.k9 0 3 4 5 6 7 15 36 57 ?_
      refine VC.cond rfl (fun hc19 => ?_) (fun hc19 => ?_)
      · -- FFT
        refine VC.skip ?_
        refine outN ?_
        refine VC.seq ?_
        refine VC.block ?_
        refine VC.rs ?_
        refine VO.as ?_
        refine VO.k10 0 3 4 5 6 7 8 15 36 57 ?_
        refine VC.block ?_
        refine VC.loop (G := Nat) (fun k => [(8, Value.int .i64 (((k : Nat) : Int))), (0, Value.slice A0 (d0.length) (c0)), (3, Value.slice A1 ((List.replicate d0.length ([] : List DCommit)).length) (c1)), (4, Value.slice ops_A (ops.length) (ops_c)), (5, Value.int .i64 (((i : Nat) : Int))), (6, Value.int .i64 (((j : Nat) : Int))), (7, Value.int .i64 (((p : Nat) : Int))), (15, Value.bool (decide (((i : Nat) : Int) < ((d0.length : Nat) : Int)))), (36, Value.bool (decide (((j : Nat) : Int) < ((d0.length : Nat) : Int)))), (57, Value.bool (decide (((p : Nat) : Int) < ((d0.length : Nat) : Int))))]) (fun k => [(102, ops_m), (101, was_m), (1, l_m), (2, mo), (0, mout (wm W) (m0))]) (fun k => (k ≤ 9223372036854775807)) (fun k => 9223372036854775807 - k) 0 (by omega) ⟨⟨rfl, rfl, rfl, rfl, rfl, rfl, rfl, rfl, rfl, rfl, trivial⟩, fun _ h => h.sub [102, 101, 1, 2, 0]⟩ ?_
        rintro k hk
        refine VC.seq ?_
        refine VC.rs ?_
        refine VO.mv ?_
        refine VO.mv ?_
        refine VO.mv ?_
        obtain ⟨x20, hx20⟩ : ∃ z_, (l)[p]? = some z_ := ⟨_, List.getElem?_eq_getElem (by exact fin0_ApartCommits_ok)⟩
        obtain ⟨gg20, oo20, ec20, ea20, hce20, hre20⟩ := (Ow.rd h_l (mle_refl _)).elem hx20
        cases ea20
        have hr20 := hre20
        obtain ⟨A20_, c20_, rfl, _⟩ := hre20
        have rr20 := Rd.room hr20
        refine VO.y rfl (.ixI p rfl rfl tsl81 rfl (by exact fin0_ApartCommits_ok)) ?_
        refine VO.y rfl (.ld1 1 rfl tk61 rfl hce20) ?_
        refine VO.y rfl (.lenS rfl tsl61) ?_
        refine VO.y rfl (.lss rfl rfl) ?_
        refine VO.k11 0 3 4 5 6 7 8 15 36 57 66 ?_
        refine VC.cond rfl (fun hc21 => ?_) (fun hc21 => ?_)
        · -- FFTT
          refine VC.skip ?_
          refine outN ?_
          refine VC.seq ?_
          refine VC.block ?_
          refine VC.seq ?_
          refine VC.regD _ 17 [(0, true), (1, true), (2, true), (3, true), (4, true), (5, true), (6, true), (7, true), (8, true), (9, true), (10, true), (11, true), (12, true), (13, true), (14, true), (15, true), (16, true)] follows (by kernel_rfl) (fun _ h => h.sub [102, 101, 1, 2, 0]) ?_
          refine VD.y rfl rfl (.inl rfl) (.mv rfl) ?_
          refine VD.y rfl rfl (.inl rfl) (.mv rfl) ?_
          refine VD.y rfl rfl (.inl rfl) (.ixI p rfl rfl tsl81 rfl (by exact fin0_ApartCommits_ok)) ?_
          refine VD.y rfl rfl (.inl rfl) (.ld1 1 rfl tk61 rfl hce20) ?_
          refine VD.y rfl rfl (.inl rfl) (.mv rfl) ?_
          obtain ⟨x23, hx23⟩ : ∃ z_, (x20)[k]? = some z_ := ⟨_, List.getElem?_eq_getElem (by exact fin0_ApartCommits_ok)⟩
          obtain ⟨gg23, oo23, ec23, ea23, hce23, hre23⟩ := hr20.elem hx23
          cases ea23
          obtain ⟨rfl, q23_0, q23_1⟩ := open_HC (x0 := x23.1) (x1 := x23.2.1) (x2 := x23.2.2) hre23
          simp only [inK] at q23_0
          simp only [inK] at q23_1
          refine VD.y rfl rfl (.inl rfl) (.ixI k rfl rfl tsl61 rfl (by exact fin0_ApartCommits_ok)) ?_
          refine VD.y rfl rfl (.inl rfl) (.fa rfl tst52 rfl) ?_
          refine VD.y rfl rfl (.inl rfl) (.ld1 1 rfl tk3 rfl (hce23.at1 (j := 0) rfl)) ?_
          refine VD.y rfl rfl (.inl rfl) (.mv rfl) ?_
          refine VD.y rfl rfl (.inl rfl) (.mv rfl) ?_
          obtain ⟨x24, hx24⟩ : ∃ z_, (was)[p]? = some z_ := ⟨_, List.getElem?_eq_getElem (by exact fin0_ApartCommits_ok)⟩
          obtain ⟨gg24, oo24, ec24, ea24, hce24, hre24⟩ := (Ow.rd h_was (mle_refl _)).elem hx24
          cases ea24
          have hr24 := hre24
          obtain ⟨A24_, c24_, rfl, _⟩ := hre24
          have rr24 := Rd.room hr24
          refine VD.y rfl rfl (.inl rfl) (.ixI p rfl rfl tsl81 rfl (by exact fin0_ApartCommits_ok)) ?_
          refine VD.y rfl rfl (.inl rfl) (.ld1 101 rfl tk61 rfl hce24) ?_
          refine VD.y rfl rfl (.inl rfl) (.mv rfl) ?_
          obtain ⟨x25, hx25⟩ : ∃ z_, (x24)[k]? = some z_ := ⟨_, List.getElem?_eq_getElem (by exact fin0_ApartCommits_ok)⟩
          obtain ⟨gg25, oo25, ec25, ea25, hce25, hre25⟩ := hr24.elem hx25
          cases ea25
          obtain ⟨q25_A2, q25_c2, rfl, q25_0, q25_1, q25_2⟩ := open_Commit (x0 := x25.1) (x1 := x25.2.1) (x2 := x25.2.2) hre25
          simp only [inK] at q25_0
          simp only [inK] at q25_1
          have q25_r2 := Rd.room q25_2
          refine VD.y rfl rfl (.inl rfl) (.ixI k rfl rfl tsl61 rfl (by exact fin0_ApartCommits_ok)) ?_
          refine VD.y rfl rfl (.inl rfl) (.fa rfl tst52 rfl) ?_
          refine VD.y rfl rfl (.inl rfl) (.ld1 101 rfl tk3 rfl (hce25.at1 (j := 0) rfl)) ?_
          refine VD.y rfl rfl (.inl rfl) (.cpl rfl ⟨by exact fin0_ApartCommits_ok, by exact fin0_ApartCommits_ok⟩) ?_
          refine VD.nil rfl ?_ rfl
          refine VO.y rfl (.neq rfl rfl) ?_
          refine VO.kp [102, 101, 1, 2, 0] [(102, ops_m), (101, was_m), (1, l_m), (2, mo), (0, mout (wm W) (m0))] ?_
          refine VO.k12 0 3 4 5 6 7 8 15 36 57 66 86 ?_
          refine outN ?_
          refine VC.cond rfl (fun hc26 => ?_) (fun hc26 => ?_)
          · -- FFTTT
            exact absurd (hdr_at hF hl4 hw4 ‹l[p]? = some _› ‹was[p]? = some _› (by assumption) (by assumption)) hc26
          · -- FFTTF
            refine VC.skip ?_
            refine outBN ?_
            refine outN ?_
            refine VC.reg ?_
            refine VO.mv ?_
            refine VO.y rfl (.add (c := ((k + 1 : Nat) : Int)) rfl rfl (by omega) ⟨by exact fin0_ApartCommits_ok, by exact fin0_ApartCommits_ok⟩) ?_
            refine VO.as ?_
            refine VO.k12 0 3 4 5 6 7 8 15 36 57 66 86 ?_
            exact outN ⟨k + 1, by omega, by exact fin0_ApartCommits_ok, ⟨⟨rfl, rfl, rfl, rfl, rfl, rfl, rfl, rfl, rfl, rfl, trivial⟩, fun _ h => Inv.sub h [102, 101, 1, 2, 0]⟩⟩
        · -- FFTF
          refine VC.exit ?_
          refine outE ?_
          refine outE ?_
          refine outBB ?_
          refine outBN ?_
          refine outN ?_
          refine VC.reg ?_
          refine VO.mv ?_
          refine VO.y rfl (.add (c := ((p + 1 : Nat) : Int)) rfl rfl (by omega) ⟨by exact fin0_ApartCommits_ok, by exact fin0_ApartCommits_ok⟩) ?_
          refine VO.as ?_
          refine VO.kp [102, 101, 1, 2, 0] [(102, ops_m), (101, was_m), (1, l_m), (2, mo), (0, mout (wm W) (m0))] ?_
          refine VO.k11 0 3 4 5 6 7 8 15 36 57 66 ?_
          exact outN ⟨p + 1, ⟨by exact hw4, by omega, by exact hl4⟩, by exact fin0_ApartCommits_ok, ⟨⟨rfl, rfl, rfl, rfl, rfl, rfl, rfl, rfl, trivial⟩, fun _ h => Inv.sub h [102, 101, 1, 2, 0]⟩⟩
      · -- FFF
        refine VC.exit ?_
        refine outE ?_
        refine outE ?_
        refine outBB ?_
        refine outN ?_
        refine VC.rs ?_
        refine VO.mv ?_
        refine VO.gather (l := [ops_m, mo]) 128 [102, 2] rfl (fun hg27 => ?_)
        have hops : Ow (.sl (.sl TOp)) (muns [ops_m, mo]) [Value.slice ops_A (ops.length) (ops_c)] (d0.flatten.map fun x => x.2.2) := Ow.mkOps hg27 (OwnL.ow h_ops rfl) (by have e_ : ops = hss.flatten.map hdO := (by rw [ho, List.take_of_length_le (by omega)]); rw [e_, List.map_map]; exact hO)
        refine VO.call 128 rfl fnOk39 rfl rfl (fun W hW => ApartOps_ok W (hW.at (i := 128) rfl) hops (by rw [List.length_map]; exact e2) (by exact ops_room e3)) (fun v29 m29 hv29 => ?_)
        subst hv29
        refine VO.as ?_
        refine VO.k10 0 2 3 4 5 6 7 15 36 57 ?_
        refine VC.ret ?_
        refine ⟨_, _, res_run (rs := [.tmp 2]) rfl (.tmp rfl .nil), fun W_ hI => out_of (l := []) hI [] rfl rfl (mle_refl _) (fun hS_ => ?_)⟩
        dsimp only [packV]
        all_goals (first | rfl | (simp [*]; done))
end
section
set_option linter.unusedVariables false
set_option linter.unusedSimpArgs false
set_option maxRecDepth 4000
theorem fnOk53 : fnOk Try.prog 53 = true := by kernel_rfl
theorem fnOk54 : fnOk Try.prog 54 = true := by kernel_rfl
theorem fnOk55 : fnOk Try.prog 55 = true := by kernel_rfl
end
section
set_option linter.unusedVariables false
set_option linter.unusedSimpArgs false
set_option maxRecDepth 4000
theorem fnOk71 : fnOk Try.prog 71 = true := by kernel_rfl
end
section
set_option linter.unusedVariables false
set_option linter.unusedSimpArgs false
set_option maxRecDepth 4000
theorem fnOk116 : fnOk Try.prog 116 = true := by kernel_rfl
theorem c4Copy_ok (W : World) {v0 : List Value} {d0 : DCommit} (h0 : Rd TCommit (wm W) v0 d0) (e0 : d0.2.2.length ≤ 3518437208800) : CallR Try.prog 116 [.agg v0.toArray] W (mnil) (fun v m' => ∃ (s0 : List Value), v = .agg s0.toArray ∧ Ow TCommit m' s0 (d0)) := by
  obtain ⟨p0_A2, p0_c2, rfl, p0_0, p0_1, p0_2⟩ := open_Commit (x0 := d0.1) (x1 := d0.2.1) (x2 := d0.2.2) h0
  simp only [inK] at p0_0
  simp only [inK] at p0_1
  have p0_r2 := Rd.room p0_2
  refine CallR.ofA (n := 13) Try.func116 rfl rfl rfl ?_
  refine VC.rs ?_
  refine VO.box (cs := [Value.int .i64 (d0.1), Value.int .i64 (d0.2.1), Value.slice p0_A2 (d0.2.2.length) (p0_c2)]) 102 rfl rfl rfl (fun g1 => ?_)
  refine VO.alloc 104 rfl tz52 (fun g3 => ?_)
  refine VO.k3 0 1 2 ?_
  refine VC.rs ?_
  refine VO.as ?_
  refine VO.k4 0 1 2 3 ?_
  refine VC.seq ?_
  refine VC.regD _ 8 [(0, true), (1, true), (2, true), (3, true), (4, true), (5, true), (6, true), (7, false)] follows (by kernel_rfl) (fun _ h => h.sub [104, 102, 0]) ?_
  refine VD.y rfl rfl (.inl rfl) (.fa rfl tst52 rfl) ?_
  refine VD.y rfl rfl (.inl rfl) (.ld1 102 rfl tk3 rfl (cellsAt_one rfl rfl)) ?_
  refine VD.y rfl rfl (.inl rfl) (.fa rfl tst52 rfl) ?_
  refine VD.y rfl rfl (.inl rfl) (.ld1 102 rfl tk3 rfl (cellsAt_one rfl rfl)) ?_
  refine VD.y rfl rfl (.inl rfl) (.mv rfl) ?_
  refine VD.y rfl rfl (.inl rfl) (.fa rfl tst52 rfl) ?_
  refine VD.y rfl rfl (.inl rfl) (.ld1 102 rfl tk22 rfl (cellsAt_one rfl rfl)) ?_
  refine VD.inv _ (fun _ h => h.nilc 106) ?_
  obtain ⟨mo5, cs5, hM5, hA5, hC5⟩ := (OwnL.nil TOp mnil mnil)
  obtain ⟨all5, hS5, hR5⟩ := Rd.srcI (P := Try.prog) (p0_2) Try.underlying22
  refine VD.app 106 rfl rfl rfl rfl tsl22 tz49 rfl rfl hM5 hA5 (hS5 _ 0 rfl) hR5.nice bdm bd (by decide) (fun _ _ h => h.sub [104, 102, 0]) (fun v5 m5 hN5 => ?_)
  have ho5 : OwnL TOp m5 mnil v5 (d0.2.2) := OwnL.more hC5 hN5 (All2c.mono hR5 fun _ _ h => Rd.flat rfl h _)
  obtain ⟨A5, c5, rfl, l5, k5⟩ := ho5.slice
  simp only [maxLen] at k5
  refine VD.nil rfl ?_ rfl
  refine VO.y rfl (.bst (cs := [Value.int .i64 (d0.1), Value.int .i64 (d0.2.1), Value.slice A5 ((d0.2.2).length) (c5)]) rfl tst52 tz52 rfl) ?_
  refine VO.store (k := 3) (c' := [Value.int .i64 (d0.1), Value.int .i64 (d0.2.1), Value.slice A5 ((d0.2.2).length) (c5)]) 104 rfl rfl (.inl tk52) rfl rfl rfl rfl rfl ?_
  refine VO.kp [106, 104, 102, 0] [(106, m5), (104, mone g3 (.cells [Value.int .i64 (d0.1), Value.int .i64 (d0.2.1), Value.slice A5 ((d0.2.2).length) (c5)].toArray 52 (0, 0))), (102, mone g1 (.cells [Value.int .i64 (d0.1), Value.int .i64 (d0.2.1), Value.slice p0_A2 (d0.2.2.length) (p0_c2)].toArray 52 (0, 0))), (0, wm W)] ?_
  refine VO.k4 0 1 2 3 ?_
  refine outN ?_
  refine VC.ret ?_
  refine ⟨_, _, res_run (rs := [.cell 2 52]) rfl (.agg 104 rfl tk52 rfl ⟨_, _, _, mone_self _ _, Nat.le_of_ble_eq_true rfl, rfl⟩ .nil), fun W_ hI => out_of (l := [m5]) hI [106] rfl rfl (mle_refl _) (fun hS_ => ?_)⟩
  dsimp only [packV]
  have he0 : (d0 : Ty.Den TCommit) = d0 := by first | rfl | (simp [*]; done)
  refine ⟨[Value.int .i64 (d0.1), Value.int .i64 (d0.2.1), Value.slice A5 ((d0.2.2).length) (c5)], ?_, ?_⟩
  rotate_left
  · rw [he0]; exact (show Ow TCommit _ _ d0 from (mkO_Commit d0.1 d0.2.1 d0.2.2 hS_ bdk bdk (OwnL.ow ho5 rfl)))
  all_goals (first | rfl | (simp [*]; done))
end
section
set_option linter.unusedVariables false
theorem take_le4 (e : Int) (l : List DCommit) (m : DMessage) : (takeOf e l m).1.length ≤ 4 := by
  by_cases h : (takeOf e l m).2 = 0
  · exact (take_len h).2
  · rw [take_bad h]; simp
end
section
set_option linter.unusedVariables false
abbrev TLMessage : Ty := .pair (.int .i64) (.pair (.int .i64) (.pair (.int .u8) (.pair (.int .i64) (.pair (.spl TStart) (.pair (.int .i64) (.pair (.int .i64) (.spl TLCommit)))))))
abbrev DLMessage := Int × Int × Int × Int × (List DStart × List DStart) × Int × Int × (List DLCommit × List DLCommit)
theorem open_LMessage {m : Mem} {cs : List Value} {x0 : Int} {x1 : Int} {x2 : Int} {x3 : Int} {x4 : List DStart × List DStart} {x5 : Int} {x6 : Int} {x7 : List DLCommit × List DLCommit} (h : Rd TLMessage m cs (x0, x1, x2, x3, x4, x5, x6, x7)) : ∃ (A4 : Option Addr), ∃ (c4 : Nat), ∃ (A7 : Option Addr), ∃ (c7 : Nat), cs = [(.int .i64 x0 : Value), .int .i64 x1, .int .u8 x2, .int .i64 x3, .slice A4 x4.1.length c4, .int .i64 x5, .int .i64 x6, .slice A7 x7.1.length c7] ∧ inK .i64 x0 ∧ inK .i64 x1 ∧ inK .u8 x2 ∧ inK .i64 x3 ∧ Rd (.spl TStart) m [.slice A4 x4.1.length c4] x4 ∧ inK .i64 x5 ∧ inK .i64 x6 ∧ Rd (.spl TLCommit) m [.slice A7 x7.1.length c7] x7 := by
  obtain ⟨p1, q1, rfl, u1, w1⟩ := Rd.pair h
  obtain ⟨rfl, z2⟩ := (show _ = _ ∧ _ from u1)
  obtain ⟨p3, q3, rfl, u3, w3⟩ := Rd.pair w1
  obtain ⟨rfl, z4⟩ := (show _ = _ ∧ _ from u3)
  obtain ⟨p5, q5, rfl, u5, w5⟩ := Rd.pair w3
  obtain ⟨rfl, z6⟩ := (show _ = _ ∧ _ from u5)
  obtain ⟨p7, q7, rfl, u7, w7⟩ := Rd.pair w5
  obtain ⟨rfl, z8⟩ := (show _ = _ ∧ _ from u7)
  obtain ⟨p9, q9, rfl, u9, w9⟩ := Rd.pair w7
  have z10 := u9
  obtain ⟨A10, c10, rfl, _⟩ := Rd.spl1 u9
  obtain ⟨p11, q11, rfl, u11, w11⟩ := Rd.pair w9
  obtain ⟨rfl, z12⟩ := (show _ = _ ∧ _ from u11)
  obtain ⟨p13, q13, rfl, u13, w13⟩ := Rd.pair w11
  obtain ⟨rfl, z14⟩ := (show _ = _ ∧ _ from u13)
  have z15 := w13
  obtain ⟨A15, c15, rfl, _⟩ := Rd.spl1 w13
  exact ⟨A10, c10, A15, c15, rfl, z2, z4, z6, z8, z10, z12, z14, z15⟩
theorem mk_LMessage {m : Mem} (x0 : Int) (x1 : Int) (x2 : Int) (x3 : Int) (x4 : List DStart × List DStart) (x5 : Int) (x6 : Int) (x7 : List DLCommit × List DLCommit) (h0 : inK .i64 x0) (h1 : inK .i64 x1) (h2 : inK .u8 x2) (h3 : inK .i64 x3) {v4 : Value} (h4 : Rd (.spl TStart) m [v4] x4) (h5 : inK .i64 x5) (h6 : inK .i64 x6) {v7 : Value} (h7 : Rd (.spl TLCommit) m [v7] x7) : Rd TLMessage m [.int .i64 x0, .int .i64 x1, .int .u8 x2, .int .i64 x3, v4, .int .i64 x5, .int .i64 x6, v7] (x0, x1, x2, x3, x4, x5, x6, x7) := (Rd.mkPair (c1 := [_]) (show Rd (.int .i64) m [_] _ from ⟨rfl, h0⟩) (Rd.mkPair (c1 := [_]) (show Rd (.int .i64) m [_] _ from ⟨rfl, h1⟩) (Rd.mkPair (c1 := [_]) (show Rd (.int .u8) m [_] _ from ⟨rfl, h2⟩) (Rd.mkPair (c1 := [_]) (show Rd (.int .i64) m [_] _ from ⟨rfl, h3⟩) (Rd.mkPair (c1 := [_]) h4 (Rd.mkPair (c1 := [_]) (show Rd (.int .i64) m [_] _ from ⟨rfl, h5⟩) (Rd.mkPair (c1 := [_]) (show Rd (.int .i64) m [_] _ from ⟨rfl, h6⟩) h7)))))))
theorem openO_LMessage {m : Mem} {cs : List Value} {x0 : Int} {x1 : Int} {x2 : Int} {x3 : Int} {x4 : List DStart × List DStart} {x5 : Int} {x6 : Int} {x7 : List DLCommit × List DLCommit} (h : Ow TLMessage m cs (x0, x1, x2, x3, x4, x5, x6, x7)) : ∃ (A4 : Option Addr), ∃ (c4 : Nat), ∃ (A7 : Option Addr), ∃ (c7 : Nat), ∃ (n4 : Mem), ∃ (n7 : Mem), cs = [(.int .i64 x0 : Value), .int .i64 x1, .int .u8 x2, .int .i64 x3, .slice A4 x4.1.length c4, .int .i64 x5, .int .i64 x6, .slice A7 x7.1.length c7] ∧ Seps m [n4, n7] ∧ inK .i64 x0 ∧ inK .i64 x1 ∧ inK .u8 x2 ∧ inK .i64 x3 ∧ Ow (.spl TStart) n4 [.slice A4 x4.1.length c4] x4 ∧ inK .i64 x5 ∧ inK .i64 x6 ∧ Ow (.spl TLCommit) n7 [.slice A7 x7.1.length c7] x7 := by
  obtain ⟨p1, q1, ma1, mb1, rfl, dj1, la1, lb1, u1, w1⟩ := Ow.pair h
  obtain ⟨rfl, z2⟩ := (show _ = _ ∧ _ from u1)
  obtain ⟨p3, q3, ma3, mb3, rfl, dj3, la3, lb3, u3, w3⟩ := Ow.pair w1
  obtain ⟨rfl, z4⟩ := (show _ = _ ∧ _ from u3)
  obtain ⟨p5, q5, ma5, mb5, rfl, dj5, la5, lb5, u5, w5⟩ := Ow.pair w3
  obtain ⟨rfl, z6⟩ := (show _ = _ ∧ _ from u5)
  obtain ⟨p7, q7, ma7, mb7, rfl, dj7, la7, lb7, u7, w7⟩ := Ow.pair w5
  obtain ⟨rfl, z8⟩ := (show _ = _ ∧ _ from u7)
  obtain ⟨p9, q9, ma9, mb9, rfl, dj9, la9, lb9, u9, w9⟩ := Ow.pair w7
  have z10 := u9
  obtain ⟨A10, c10, rfl, _⟩ := Ow.spl1 u9
  obtain ⟨p11, q11, ma11, mb11, rfl, dj11, la11, lb11, u11, w11⟩ := Ow.pair w9
  obtain ⟨rfl, z12⟩ := (show _ = _ ∧ _ from u11)
  obtain ⟨p13, q13, ma13, mb13, rfl, dj13, la13, lb13, u13, w13⟩ := Ow.pair w11
  obtain ⟨rfl, z14⟩ := (show _ = _ ∧ _ from u13)
  have z15 := w13
  obtain ⟨A15, c15, rfl, _⟩ := Ow.spl1 w13
  exact ⟨A10, c10, A15, c15, _, _, rfl, (Seps.app dj1 la1 lb1 (Seps.nil _) (Seps.app dj3 la3 lb3 (Seps.nil _) (Seps.app dj5 la5 lb5 (Seps.nil _) (Seps.app dj7 la7 lb7 (Seps.nil _) (Seps.app dj9 la9 lb9 (Seps.one (mle_refl _)) (Seps.app dj11 la11 lb11 (Seps.nil _) (Seps.app dj13 la13 lb13 (Seps.nil _) (Seps.one (mle_refl _))))))))), z2, z4, z6, z8, z10, z12, z14, z15⟩
theorem mkO_LMessage {m : Mem} {n4 n7 : Mem} (x0 : Int) (x1 : Int) (x2 : Int) (x3 : Int) (x4 : List DStart × List DStart) (x5 : Int) (x6 : Int) (x7 : List DLCommit × List DLCommit) (hS : Seps m [n4, n7]) (h0 : inK .i64 x0) (h1 : inK .i64 x1) (h2 : inK .u8 x2) (h3 : inK .i64 x3) {v4 : Value} (h4 : Ow (.spl TStart) n4 [v4] x4) (h5 : inK .i64 x5) (h6 : inK .i64 x6) {v7 : Value} (h7 : Ow (.spl TLCommit) n7 [v7] x7) : Ow TLMessage m [.int .i64 x0, .int .i64 x1, .int .u8 x2, .int .i64 x3, v4, .int .i64 x5, .int .i64 x6, v7] (x0, x1, x2, x3, x4, x5, x6, x7) := by
  obtain ⟨e1, la1, lb1, Sa1, Sb1⟩ := Seps.cut (l := []) (r := [n4, n7]) hS
  obtain ⟨e2, la2, lb2, Sa2, Sb2⟩ := Seps.cut (l := []) (r := [n4, n7]) Sb1
  obtain ⟨e3, la3, lb3, Sa3, Sb3⟩ := Seps.cut (l := []) (r := [n4, n7]) Sb2
  obtain ⟨e4, la4, lb4, Sa4, Sb4⟩ := Seps.cut (l := []) (r := [n4, n7]) Sb3
  obtain ⟨e5, la5, lb5, Sa5, Sb5⟩ := Seps.cut (l := [n4]) (r := [n7]) Sb4
  obtain ⟨e6, la6, lb6, Sa6, Sb6⟩ := Seps.cut (l := []) (r := [n7]) Sb5
  obtain ⟨e7, la7, lb7, Sa7, Sb7⟩ := Seps.cut (l := []) (r := [n7]) Sb6
  exact (Ow.mkPair (c1 := [_]) e1 la1 lb1 (show Ow (.int .i64) _ [_] _ from ⟨rfl, h0⟩) (Ow.mkPair (c1 := [_]) e2 la2 lb2 (show Ow (.int .i64) _ [_] _ from ⟨rfl, h1⟩) (Ow.mkPair (c1 := [_]) e3 la3 lb3 (show Ow (.int .u8) _ [_] _ from ⟨rfl, h2⟩) (Ow.mkPair (c1 := [_]) e4 la4 lb4 (show Ow (.int .i64) _ [_] _ from ⟨rfl, h3⟩) (Ow.mkPair (c1 := [_]) e5 la5 lb5 (h4.up (Sa5.1 _ (.head _))) (Ow.mkPair (c1 := [_]) e6 la6 lb6 (show Ow (.int .i64) _ [_] _ from ⟨rfl, h5⟩) (Ow.mkPair (c1 := [_]) e7 la7 lb7 (show Ow (.int .i64) _ [_] _ from ⟨rfl, h6⟩) (h7.up (Sb7.1 _ (.head _))))))))))
end
section
set_option linter.unusedVariables false
def prevS (l : List DStart) (k : Nat) : DStart := if k = 0 then (0, 0) else match l[k - 1]? with
  | some y => y
  | none => (0, 0)
theorem prevS_of {l : List DStart} {k : Nat} {y : DStart} (hk : 0 < k) (hy : l[((k : Int) - 1).toNat]? = some y) : prevS l k = y := by
  unfold prevS
  rw [if_neg (by omega), show k - 1 = ((k : Int) - 1).toNat by omega, hy]
theorem prevS_next {l : List DStart} {k : Nat} {x : DStart} (hx : l[k]? = some x) : prevS l (k + 1) = x := prevS_of (by omega) (by rw [show (((k + 1 : Nat) : Int) - 1).toNat = k by omega]; exact hx)
theorem step8 {l : List DStart} {en : Int} {k : Nat} {x : DStart} (hx : l[k]? = some x) (h1 : ¬ x.1 < 1) (h2 : ¬ 1048576 < x.1) (h3 : ¬ en < x.2) (h4 : k = 0 → x.2 = 1)
    (h5 : 0 < k → ∃ y, l[((k : Int) - 1).toNat]? = some y ∧ y.1 < x.1 ∧ y.2 < x.2) : sGo en (prevS l k).1 (prevS l k).2 k (l.drop k) ↔ sGo en (prevS l (k + 1)).1 (prevS l (k + 1)).2 (k + 1) (l.drop (k + 1)) := by
  rw [prevS_next hx]
  by_cases hk : k = 0
  · have := h4 hk
    have e : prevS l k = (0, 0) := if_pos hk
    rw [e]
    exact sGo_step hx (by simp only; omega) (by omega) (by simp only; omega) (by omega) h4
  · obtain ⟨y, hy, h6, h7⟩ := h5 (by omega)
    rw [prevS_of (by omega) hy]
    exact sGo_step hx h6 (by omega) h7 (by omega) h4
theorem bad8 {l : List DStart} {en : Int} {k : Nat} {x : DStart} (hs : sGo en 0 0 0 l ↔ sGo en (prevS l k).1 (prevS l k).2 k (l.drop k)) (hp : 0 ≤ (prevS l k).1) (hx : l[k]? = some x)
    (h : x.1 < 1 ∨ 1048576 < x.1 ∨ en < x.2 ∨ (k = 0 ∧ ¬ x.2 = 1) ∨ ∃ y, 0 < k ∧ l[((k : Int) - 1).toNat]? = some y ∧ (x.1 ≤ y.1 ∨ x.2 ≤ y.2)) : sCheck l en = 5 := by
  refine sCheck_bad hs hx ?_
  rcases h with h | h | h | h | ⟨y, hk, hy, h | h⟩
  · exact .inl (by omega)
  · exact .inr (.inl h)
  · exact .inr (.inr (.inr (.inl h)))
  · exact .inr (.inr (.inr (.inr h)))
  · rw [prevS_of hk hy]; exact .inl h
  · rw [prevS_of hk hy]; exact .inr (.inr (.inl h))
theorem known_yes18 {e k : Int} {m : DMessage} (h : ¬ ¬ lCheck m = 0) (h1 : ¬ m.2.1 < e) (h2 : ¬ e < m.2.1) (h3 : m.1 = 3 ∨ (m.1 = 1 ∧ m.2.2.1 = 2)) : knownOf e k m = (Max.max k m.2.2.2.1, true, 0) := by
  rw [known_yes h h1 h2 h3]
  have h' := Decidable.not_not.1 h
  have hend : 0 ≤ m.2.2.2.1 := by
    unfold lCheck at h'
    split at h'
    · rename_i hh
      rcases hh.2 with ⟨a, b⟩ | ⟨a, b⟩ | ⟨a, b⟩
      · have hc := b.2.1
        unfold sCheck at hc
        split at hc
        · rename_i hq; exact hq.1
        · cases hc
      · omega
      · exact b.1.1
    · cases h'
  exact Prod.ext (by simp only; omega) rfl
def spareS : List DStart := [(-5, 0), (-5, 1), (-5, 2)]
theorem spareS_next {out d : List DStart} {k : Nat} (h : out = d ++ spareS.take k) (hk : k < 3) : out ++ [(-5, (k : Int))] = d ++ spareS.take (k + 1) := by
  rw [h, List.append_assoc]
  congr 1
  rcases k with _ | _ | _ | k
  · rfl
  · rfl
  · rfl
  · omega
def lentM (m : DMessage) : DLMessage := (m.1, m.2.1, m.2.2.1, m.2.2.2.1, (m.2.2.2.2.1, spareS), m.2.2.2.2.2.1, m.2.2.2.2.2.2.1, (m.2.2.2.2.2.2.2.map lentC, spareC))
theorem lentM_fg (m : DMessage) : ((m.1, m.2.1, m.2.2.1, m.2.2.2.1, m.2.2.2.2.1, m.2.2.2.2.2.1, m.2.2.2.2.2.2.1, (m.2.2.2.2.2.2.2.map lentC).map fgC) : DMessage) = m := by rw [fg_lent]
theorem lent_whole (l : List DCommit) : ((l.map lentC ++ spareC).take (l.length + 3)) = l.map lentC ++ spareC := List.take_of_length_le (by rw [lent_len]; exact Nat.le_refl _)
theorem lentS_whole (l : List DStart) : ((l ++ spareS).take (l.length + 3)) = l ++ spareS := List.take_of_length_le (by simp [spareS])
theorem lentm_rd {m : Mem} {cs : List Value} {l : List DCommit} (h : Rd (.sl TLCommit) m cs (l.map lentC)) : Rd (.sl TCommit) m cs l := by
  have h2 := fgC_rd h
  rwa [fg_lent] at h2
theorem lentm_ow {m : Mem} {cs : List Value} {l : List DCommit} (h : Ow (.sl TLCommit) m cs (l.map lentC)) : Ow (.sl TCommit) m cs l := by
  have h2 := fgC_ow h
  rwa [fg_lent] at h2
theorem take_mem {e : Int} {l : List DCommit} {m : DMessage} : ∀ c ∈ (takeOf e l m).1, c ∈ m.2.2.2.2.2.2.2 := by
  intro c hc
  by_cases hz : (takeOf e l m).2 = 0
  · rw [(take_facts hz).2.2.2.2.2.2] at hc; exact List.mem_of_mem_drop hc
  · rw [take_bad hz] at hc; cases hc
theorem four_a {a b l r : List DCommit} (ha : a.length ≤ 4) (hb : b.length ≤ 4) (hl : l.length ≤ 40) (hr : r.length ≤ 40) : (∀ x ∈ [a, b, l, r], x.length ≤ 3518437200000) ∧ [a, b, l, r].flatten.length ≤ 1000 := by
  refine ⟨fun x hx => ?_, by simp only [List.flatten_cons, List.flatten_nil, List.append_nil, List.length_append]; omega⟩
  simp only [List.mem_cons, List.not_mem_nil, or_false] at hx
  rcases hx with rfl | rfl | rfl | rfl <;> omega
theorem four_b {a b l r : List DCommit} (ha : ∀ c ∈ a, c ∈ r) (hb : ∀ c ∈ b, c ∈ r) (hl : ∀ c ∈ l, c.2.2.length ≤ 40) (hr : ∀ c ∈ r, c.2.2.length ≤ 40) (hk : ∀ c ∈ l, ∀ o ∈ c.2.2, o.2.1.length ≤ 140737488400000) (hq : ∀ c ∈ r, ∀ o ∈ c.2.2, o.2.1.length ≤ 140737488400000) :
    ∀ x ∈ [a, b, l, r], ∀ c ∈ x, c.2.2.length ≤ 3518437208800 ∧ ∀ o ∈ c.2.2, o.2.1.length ≤ 140737488400000 := by
  intro x hx c hc
  simp only [List.mem_cons, List.not_mem_nil, or_false] at hx
  have : c ∈ l ∨ c ∈ r := by
    rcases hx with rfl | rfl | rfl | rfl
    · exact .inr (ha c hc)
    · exact .inr (hb c hc)
    · exact .inl hc
    · exact .inr hc
  rcases this with h | h
  · exact ⟨by have := hl c h; omega, hk c h⟩
  · exact ⟨by have := hr c h; omega, hq c h⟩
end
end Go.Proofs.Ytfaknkkaegjdaaa
