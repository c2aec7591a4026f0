/- Part 5 of the proof of LRunKeeps: what it needs of the library, the walks and the plain laws. Conditions: those named in each theorem. -/
import Derived.Test.YtgmdjhdgaddigaaLRunKeepsM4
set_option linter.unusedVariables false
set_option linter.unusedSimpArgs false
set_option maxRecDepth 4000
namespace Go.Proofs.Ytgmdjhdgaddigaa
theorem fnOk66 : fnOk Try.prog 66 = true := by kernel_rfl
theorem fnOk67 : fnOk Try.prog 67 = true := by kernel_rfl
theorem fnOk68 : fnOk Try.prog 68 = true := by kernel_rfl
theorem fnOk86 : fnOk Try.prog 86 = true := by kernel_rfl
theorem fnOk87 : fnOk Try.prog 87 = true := by kernel_rfl
theorem tst127 : tst Try.prog 127 = some [(0, 1), (1, 1)] := by kernel_rfl
theorem tz127 : tz Try.prog 127 = some [.bool false, .slice none 0 0] := by kernel_rfl
theorem fnOk61 : fnOk Try.prog 61 = true := by kernel_rfl
theorem t7New_ok (W : World) : CallR Try.prog 66 [] W (mnil) (fun v m' => ∃ (s0 : Nat), v = .pointer (some ⟨s0, 0, none⟩) ∧ Ow (.ptr Tref07Table) m' [.pointer (some ⟨s0, 0, none⟩)] (s0, (true, []))) := by
  refine CallR.ofA (n := 3) Try.func66 rfl rfl rfl ?_
  refine VC.rs ?_
  refine VO.as ?_
  refine VO.k1 0 ?_
  refine VC.rs ?_
  refine VO.y rfl (.bst (cs := [Value.bool true, Value.slice none (0) (0)]) rfl tst127 tz127 rfl) ?_
  refine VO.box (cs := [Value.bool true, Value.slice none (0) (0)]) 102 rfl rfl rfl (fun g1 => ?_)
  refine VO.as ?_
  refine VO.k1 0 ?_
  refine VC.ret ?_
  refine ⟨_, _, res_run (rs := [.tmp 0]) rfl (.tmp rfl .nil), fun W_ hI => out_of (l := [mone g1 (.cells [Value.bool true, Value.slice none (0) (0)].toArray 127 (0, 0))]) hI [102] rfl rfl (mle_refl _) (fun hS_ => ?_)⟩
  dsimp only [packV]
  have he0 : ((true, []) : Dref07Table) = (true, []) := by first | rfl | (simp [*]; done)
  refine ⟨g1, ?_, ?_⟩
  rotate_left
  · rw [he0]; exact (mkP_ref07Table true [] (Seps.nilAt 1 hS_) (Ow.nil _ _))
  all_goals (first | rfl | (simp [*]; done))
theorem t7None_ok (W : World) {m0 : Mem} (hm : mle (m0) (wm W)) {g0 : Nat} {d0 : Dref07Table} (h0 : Ow (.ptr Tref07Table) m0 [.pointer (some ⟨g0, 0, none⟩)] (g0, d0)) : CallR Try.prog 86 [.pointer (some ⟨g0, 0, none⟩)] W (m0) (fun v m' => v = .bool (decide (d0.1 = false)) ∧ Ow (.ptr Tref07Table) m' [.pointer (some ⟨g0, 0, none⟩)] (g0, d0)) := by
  refine CallR.ofB (n := 12) hm Try.func86 rfl rfl rfl ?_
  refine VC.rs ?_
  refine VO.as ?_
  refine VO.k2 0 2 ?_
  refine VC.rs ?_
  refine VO.mv ?_
  refine VO.y rfl (.pnil rfl rfl Try.underlying101 rfl) ?_
  refine VO.mv ?_
  refine VO.gy rfl ⟨_, rfl, rfl⟩ (.mv rfl) ?_
  refine VO.gy rfl ⟨_, rfl, rfl⟩ (.nilp rfl) ?_
  refine VO.gy rfl ⟨_, rfl, rfl⟩ (.fa rfl tst127 rfl) ?_
  obtain ⟨q1_E, q1_A1, q1_c1, q1_n1, _, q1_S, q1_1⟩ := openP_ref07Table (x0 := d0.1) (x1 := d0.2) h0
  have q1_r1 := q1_1.rm
  refine VO.inv _ (fun _ h => h.parts (i := 1) rfl q1_S [103, 102]) ?_
  refine VO.gy rfl ⟨_, rfl, rfl⟩ (.ld1 103 rfl tk4 rfl (cellsAt_one rfl rfl)) ?_
  refine VO.gy rfl ⟨_, rfl, rfl⟩ (.not rfl) ?_
  refine VO.y rfl (.pF rfl rfl) ?_
  refine VO.as ?_
  refine VO.clsP 104 [103, 102] rfl (fun hg4 => (show Ow (.ptr Tref07Table) _ _ (_, d0) from (mkP_ref07Table d0.1 d0.2 hg4 (OwnL.ow (Ow.ownl q1_1 rfl mnil) rfl)))) (fun mc4 ho4 => ?_)
  refine VO.k2 0 2 ?_
  refine VC.ret ?_
  refine ⟨_, _, res_run (rs := [.tmp 2]) rfl (.tmp rfl .nil), fun W_ hI => out_of (l := [mc4]) hI [104] rfl rfl (mle_refl _) (fun hS_ => ?_)⟩
  dsimp only [packV]
  have hm0_ : (d0 : Dref07Table) = d0 := by first | rfl | (simp [*]; done)
  refine ⟨?_, ?_⟩
  rotate_left
  · rw [hm0_]; exact (Ow.up ho4 (hS_.1 _ (.head _)))
  all_goals (first | rfl | (first | exact congrArg Value.bool (by simp [*]) | simp [*]))
theorem t7One_ok (W : World) {m0 : Mem} (hm : mle (m0) (wm W)) {g0 : Nat} {d0 : Dref07Table} (h0 : Ow (.ptr Tref07Table) m0 [.pointer (some ⟨g0, 0, none⟩)] (g0, d0)) {v1 : List Value} {d1 : DOp} (h1 : Rd TOp (mout (wm W) (m0)) v1 d1) (e0 : d0.2.length ≤ 1700000000000) : CallR Try.prog 87 [.pointer (some ⟨g0, 0, none⟩), .agg v1.toArray] W (m0) (fun v m' => v = .tuple #[] ∧ Ow (.ptr Tref07Table) m' [.pointer (some ⟨g0, 0, none⟩)] (g0, (d0.1, tOne d0.2 d1))) := by
  obtain ⟨rfl, p1_1, p1_2⟩ := open_Op (x0 := d1.1) (x1 := d1.2.1) (x2 := d1.2.2) h1
  simp only [maxLen] at p1_1
  simp only [maxLen] at p1_2
  refine CallR.ofB (n := 66) hm Try.func87 rfl rfl rfl ?_
  refine VC.rs ?_
  refine VO.box (cs := [Value.bool d1.1, str (d1.2.1), str (d1.2.2)]) 102 rfl rfl rfl (fun g1 => ?_)
  refine VO.k3 0 1 3 ?_
  refine VC.rs ?_
  refine VO.as ?_
  refine VO.k4 0 1 3 4 ?_
  refine VC.rs ?_
  refine VO.as ?_
  refine VO.kp [102, 0, 1] [(102, mone g1 (.cells [Value.bool d1.1, str (d1.2.1), str (d1.2.2)].toArray 35 (0, 0))), (0, mout (wm W) (m0)), (1, m0)] ?_
  refine VO.k5 0 1 3 4 5 ?_
  refine VC.seq ?_
  refine VC.rs ?_
  refine VO.as ?_
  refine VO.k6 0 1 3 4 5 6 ?_
  refine VC.block ?_
  refine VC.inv ((103, mnil) :: _) (fun _ h => h.nilc 103) ?_
  refine VC.loop (G := Nat × (List DOp) × (Option Addr) × Nat × Mem × Bool × Mem) (fun g => [(4, Value.slice (g.2.2.1) ((g.2.1).length) ((g.2.2.2.1))), (5, Value.bool (g.2.2.2.2.2.1)), (6, Value.int .i64 ((((g.1) : Nat) : Int))), (0, Value.pointer (some ⟨g0, 0, none⟩)), (1, Value.agg [Value.bool d1.1, str (d1.2.1), str (d1.2.2)].toArray), (3, Value.pointer (some ⟨g1, 0, none⟩))]) (fun g => [(103, (g.2.2.2.2.1)), (102, mone g1 (.cells [Value.bool d1.1, str (d1.2.1), str (d1.2.2)].toArray 35 (0, 0))), (0, mout (wm W) (m0)), (1, (g.2.2.2.2.2.2))]) (fun g => ((g.1) ≤ d0.2.length) ∧ (tOne d0.2 d1 = (g.2.1) ++ goOne (g.2.2.2.2.2.1) (d0.2.drop (g.1)) d1) ∧ ((g.2.1).length ≤ 2 * (g.1)) ∧ (OwnL TOp (g.2.2.2.2.1) mnil (.slice (g.2.2.1) (g.2.1).length (g.2.2.2.1)) (g.2.1)) ∧ (Ow (.ptr Tref07Table) (g.2.2.2.2.2.2) [.pointer (some ⟨g0, 0, none⟩)] (g0, d0))) (fun g => d0.2.length - (g.1)) (0, [], none, 0, mnil, false, m0) (⟨by omega, by rfl, by simp, (OwnL.nil TOp mnil mnil), h0⟩) ⟨⟨rfl, rfl, rfl, rfl, rfl, rfl, trivial⟩, fun _ h => h.sub [103, 102, 0, 1]⟩ ?_
  rintro ⟨k, out, out_A, out_c, out_m, put, t_m⟩ ⟨hk, hg, hlo, h_out, h_t⟩
  replace hk : k ≤ d0.2.length := hk
  replace hg : tOne d0.2 d1 = out ++ goOne put (d0.2.drop k) d1 := hg
  replace hlo : out.length ≤ 2 * k := hlo
  replace h_out : OwnL TOp out_m mnil (.slice out_A out.length out_c) out := h_out
  replace h_t : Ow (.ptr Tref07Table) t_m [.pointer (some ⟨g0, 0, none⟩)] (g0, d0) := h_t
  show VC _ _ _ _ _ [(4, Value.slice out_A (out.length) (out_c)), (5, Value.bool put), (6, Value.int .i64 (((k : Nat) : Int))), (0, Value.pointer (some ⟨g0, 0, none⟩)), (1, Value.agg [Value.bool d1.1, str (d1.2.1), str (d1.2.2)].toArray), (3, Value.pointer (some ⟨g1, 0, none⟩))] [(103, out_m), (102, mone g1 (.cells [Value.bool d1.1, str (d1.2.1), str (d1.2.2)].toArray 35 (0, 0))), (0, mout (wm W) (m0)), (1, t_m)]
  have l_out : out.length ≤ out_c := by obtain ⟨_, _, he, hl, _⟩ := h_out.slice; simp only [Value.slice.injEq] at he; omega
  have k_out : out_c ≤ 9223372036854775807 := by obtain ⟨_, _, he, _, hl⟩ := h_out.slice; simp only [Value.slice.injEq, maxLen] at he hl; omega
  refine VC.seq ?_
  refine VC.rs ?_
  refine VO.mv ?_
  refine VO.mv ?_
  refine VO.y rfl (.nilp rfl) ?_
  refine VO.y rfl (.fa rfl tst127 rfl) ?_
  obtain ⟨q4_E, q4_A1, q4_c1, q4_n1, _, q4_S, q4_1⟩ := openP_ref07Table (x0 := d0.1) (x1 := d0.2) h_t
  have q4_r1 := q4_1.rm
  refine VO.inv _ (fun _ h => h.parts (i := 1) rfl q4_S [106, 105]) ?_
  refine VO.y rfl (.ld1 106 rfl tk30 rfl (cellsAt_one rfl rfl)) ?_
  refine VO.y rfl (.lenS rfl tsl30) ?_
  refine VO.y rfl (.lss rfl rfl) ?_
  refine VO.clsP 107 [106, 105] rfl (fun hg7 => (show Ow (.ptr Tref07Table) _ _ (_, d0) from (mkP_ref07Table d0.1 d0.2 hg7 (OwnL.ow (Ow.ownl q4_1 rfl mnil) rfl)))) (fun mc7 ho7 => ?_)
  refine VO.k7 0 1 3 4 5 6 13 ?_
  refine VC.cond rfl (fun hc8 => ?_) (fun hc8 => ?_)
  · -- T
    refine VC.skip ?_
    refine outN ?_
    refine VC.seq ?_
    refine VC.block ?_
    refine VC.seq ?_
    refine VC.seq ?_
    obtain ⟨q9_E, q9_A1, q9_c1, q9_n1, _, q9_S, q9_1⟩ := openP_ref07Table (x0 := d0.1) (x1 := d0.2) ho7
    have q9_r1 := q9_1.rm
    refine VC.inv _ (fun _ h => h.parts (i := 107) rfl q9_S [111, 110]) ?_
    refine VC.regD _ 13 [(0, true), (1, true), (2, true), (3, true), (4, true), (5, true), (6, true), (7, true), (8, true), (9, true), (10, true), (11, true), (12, true)] follows (by kernel_rfl) (fun _ h => h.sub [111, 110, 103, 102, 0]) ?_
    refine VD.y rfl rfl (.inl rfl) (.mv rfl) ?_
    refine VD.y rfl rfl (.inl rfl) (.not rfl) ?_
    refine VD.y rfl rfl (.inl rfl) (.mv rfl) ?_
    refine VD.decBN (s := 18) rfl (fun hc12 => ?_) (fun hc12 => ?_)
    · -- TT
      refine VD.y rfl rfl (.inr ⟨_, _, rfl, _, rfl, rfl⟩) (.mv rfl) ?_
      refine VD.y rfl rfl (.inr ⟨_, _, rfl, _, rfl, rfl⟩) (.nilp rfl) ?_
      refine VD.y rfl rfl (.inr ⟨_, _, rfl, _, rfl, rfl⟩) (.fa rfl tst127 rfl) ?_
      refine VD.y rfl rfl (.inr ⟨_, _, rfl, _, rfl, rfl⟩) (.ld1 111 rfl tk30 rfl (cellsAt_one rfl rfl)) ?_
      refine VD.y rfl rfl (.inr ⟨_, _, rfl, _, rfl, rfl⟩) (.mv rfl) ?_
      obtain ⟨x13, hx13⟩ : ∃ z_, (d0.2)[k]? = some z_ := ⟨_, List.getElem?_eq_getElem bd⟩
      obtain ⟨gg13, oo13, ec13, ea13, hce13, hre13⟩ := (Ow.ownl q9_1 rfl mnil).elem hx13
      cases ea13
      obtain ⟨rfl, q13_1, q13_2⟩ := open_Op (x0 := x13.1) (x1 := x13.2.1) (x2 := x13.2.2) hre13
      simp only [maxLen] at q13_1
      simp only [maxLen] at q13_2
      refine VD.y rfl rfl (.inr ⟨_, _, rfl, _, rfl, rfl⟩) (.ixI k rfl rfl tsl30 rfl bd) ?_
      refine VD.y rfl rfl (.inr ⟨_, _, rfl, _, rfl, rfl⟩) (.fa rfl tst35 rfl) ?_
      refine VD.y rfl rfl (.inr ⟨_, _, rfl, _, rfl, rfl⟩) (.ld1 110 rfl tk9 rfl (hce13.at1 (j := 1) rfl)) ?_
      refine VD.y rfl rfl (.inr ⟨_, _, rfl, _, rfl, rfl⟩) (.fa rfl tst35 rfl) ?_
      refine VD.y rfl rfl (.inr ⟨_, _, rfl, _, rfl, rfl⟩) (.ld1 102 rfl tk9 rfl (cellsAt_one rfl rfl)) ?_
      refine VD.nil rfl ?_ rfl
      refine VO.gy rfl ⟨_, rfl, rfl⟩ (.sgeq rfl rfl) ?_
      refine VO.y rfl (.pT rfl rfl) ?_
      refine VO.clsP 114 [111, 110] rfl (fun hg14 => (show Ow (.ptr Tref07Table) _ _ (_, d0) from (mkP_ref07Table d0.1 d0.2 hg14 (OwnL.ow (Ow.ownl q9_1 rfl mnil) rfl)))) (fun mc14 ho14 => ?_)
      refine VO.kp [114, 103, 102, 0] [(114, mc14), (103, out_m), (102, mone g1 (.cells [Value.bool d1.1, str (d1.2.1), str (d1.2.2)].toArray 35 (0, 0))), (0, mout (wm W) (m0))] ?_
      refine VO.k8 0 1 3 4 5 6 13 30 ?_
      refine outN ?_
      refine VC.cond rfl (fun hc15 => ?_) (fun hc15 => ?_)
      · -- TTT
        refine VC.rs ?_
        refine VO.mv ?_
        refine VO.y rfl (.ldA 102 rfl tk35 rfl (cellsAt_one rfl rfl)) ?_
        refine VO.bsl (cs := [Value.bool d1.1, str (d1.2.1), str (d1.2.2)]) 117 rfl rfl tsl30 tz35 rfl rfl (fun g16 => ?_)
        obtain ⟨mo18, cs18, hM18, hA18, hC18⟩ := h_out
        refine VO.app 103 rfl rfl rfl tsl30 tz35 rfl rfl hM18 hA18 (.row 117 _ _ _ 1 1 _ _ Try.underlying30 rfl (cellsAt_one rfl rfl)) (by simp [Value.oneCell']) bdm bd (by decide) (fun v18 m18 hN18 => ?_)
        have ho18 : OwnL TOp m18 mnil v18 (out ++ [d1]) := OwnL.one hC18 hN18 (Rd.flat rfl h1 _)
        obtain ⟨A18, c18, rfl, l18, k18⟩ := ho18.slice
        simp only [maxLen] at k18
        refine VO.as ?_
        refine VO.k8 0 1 3 4 5 6 13 30 ?_
        refine VC.reg ?_
        refine VO.as ?_
        refine VO.k8 0 1 3 4 5 6 13 30 ?_
        refine outN ?_
        refine VC.seq ?_
        obtain ⟨q19_E, q19_A1, q19_c1, q19_n1, _, q19_S, q19_1⟩ := openP_ref07Table (x0 := d0.1) (x1 := d0.2) ho14
        have q19_r1 := q19_1.rm
        refine VC.inv _ (fun _ h => h.parts (i := 114) rfl q19_S [121, 120]) ?_
        refine VC.regD _ 10 [(0, true), (1, true), (2, true), (3, true), (4, true), (5, true), (6, true), (7, true), (8, true), (9, true)] follows (by kernel_rfl) (fun _ h => h.sub [121, 120, 117, 103, 102, 0]) ?_
        refine VD.y rfl rfl (.inl rfl) (.mv rfl) ?_
        refine VD.y rfl rfl (.inl rfl) (.nilp rfl) ?_
        refine VD.y rfl rfl (.inl rfl) (.fa rfl tst127 rfl) ?_
        refine VD.y rfl rfl (.inl rfl) (.ld1 121 rfl tk30 rfl (cellsAt_one rfl rfl)) ?_
        refine VD.y rfl rfl (.inl rfl) (.mv rfl) ?_
        obtain ⟨x22, hx22⟩ : ∃ z_, (d0.2)[k]? = some z_ := ⟨_, List.getElem?_eq_getElem bd⟩
        obtain ⟨gg22, oo22, ec22, ea22, hce22, hre22⟩ := (Ow.ownl q19_1 rfl mnil).elem hx22
        cases ea22
        obtain ⟨rfl, q22_1, q22_2⟩ := open_Op (x0 := x22.1) (x1 := x22.2.1) (x2 := x22.2.2) hre22
        simp only [maxLen] at q22_1
        simp only [maxLen] at q22_2
        refine VD.y rfl rfl (.inl rfl) (.ixI k rfl rfl tsl30 rfl bd) ?_
        refine VD.y rfl rfl (.inl rfl) (.fa rfl tst35 rfl) ?_
        refine VD.y rfl rfl (.inl rfl) (.ld1 120 rfl tk9 rfl (hce22.at1 (j := 1) rfl)) ?_
        refine VD.y rfl rfl (.inl rfl) (.fa rfl tst35 rfl) ?_
        refine VD.y rfl rfl (.inl rfl) (.ld1 102 rfl tk9 rfl (cellsAt_one rfl rfl)) ?_
        refine VD.nil rfl ?_ rfl
        refine VO.y rfl (.sneq rfl rfl) ?_
        refine VO.clsP 123 [121, 120] rfl (fun hg23 => (show Ow (.ptr Tref07Table) _ _ (_, d0) from (mkP_ref07Table d0.1 d0.2 hg23 (OwnL.ow (Ow.ownl q19_1 rfl mnil) rfl)))) (fun mc23 ho23 => ?_)
        refine VO.kp [123, 103, 102, 0] [(123, mc23), (103, m18), (102, mone g1 (.cells [Value.bool d1.1, str (d1.2.1), str (d1.2.2)].toArray 35 (0, 0))), (0, mout (wm W) (m0))] ?_
        refine VO.k9 0 1 3 4 5 6 13 30 45 ?_
        refine outN ?_
        refine VC.cond rfl (fun hc24 => ?_) (fun hc24 => ?_)
        · -- TTTT
          refine VC.reg ?_
          refine VO.mv ?_
          refine VO.mv ?_
          refine VO.y rfl (.nilp rfl) ?_
          refine VO.y rfl (.fa rfl tst127 rfl) ?_
          obtain ⟨q25_E, q25_A1, q25_c1, q25_n1, _, q25_S, q25_1⟩ := openP_ref07Table (x0 := d0.1) (x1 := d0.2) ho23
          have q25_r1 := q25_1.rm
          refine VO.inv _ (fun _ h => h.parts (i := 123) rfl q25_S [127, 126]) ?_
          refine VO.y rfl (.ld1 127 rfl tk30 rfl (cellsAt_one rfl rfl)) ?_
          refine VO.mv ?_
          obtain ⟨x28, hx28⟩ : ∃ z_, (d0.2)[k]? = some z_ := ⟨_, List.getElem?_eq_getElem bd⟩
          obtain ⟨gg28, oo28, ec28, ea28, hce28, hre28⟩ := (Ow.ownl q25_1 rfl mnil).elem hx28
          cases ea28
          obtain ⟨rfl, q28_1, q28_2⟩ := open_Op (x0 := x28.1) (x1 := x28.2.1) (x2 := x28.2.2) hre28
          simp only [maxLen] at q28_1
          simp only [maxLen] at q28_2
          refine VO.y rfl (.ixI k rfl rfl tsl30 rfl bd) ?_
          refine VO.y rfl (.ldA 126 rfl tk35 rfl hce28) ?_
          refine VO.bsl (cs := [Value.bool x28.1, str (x28.2.1), str (x28.2.2)]) 130 rfl rfl tsl30 tz35 rfl rfl (fun g29 => ?_)
          obtain ⟨mo31, cs31, hM31, hA31, hC31⟩ := ho18
          refine VO.app 103 rfl rfl rfl tsl30 tz35 rfl rfl hM31 hA31 (.row 130 _ _ _ 1 1 _ _ Try.underlying30 rfl (cellsAt_one rfl rfl)) (by simp [Value.oneCell']) bdm bd (by decide) (fun v31 m31 hN31 => ?_)
          have ho31 : OwnL TOp m31 mnil v31 ((out ++ [d1]) ++ [x28]) := OwnL.one hC31 hN31 (Rd.flat rfl hre28 _)
          obtain ⟨A31, c31, rfl, l31, k31⟩ := ho31.slice
          simp only [maxLen] at k31
          refine VO.as ?_
          refine VO.clsP 132 [127, 126] rfl (fun hg32 => (show Ow (.ptr Tref07Table) _ _ (_, d0) from (mkP_ref07Table d0.1 d0.2 hg32 (OwnL.ow (Ow.ownl q25_1 rfl mnil) rfl)))) (fun mc32 ho32 => ?_)
          refine VO.k9 0 1 3 4 5 6 13 30 45 ?_
          refine outBN ?_
          refine outN ?_
          refine VC.reg ?_
          refine VO.mv ?_
          refine VO.y rfl (.add (c := ((k + 1 : Nat) : Int)) rfl rfl (by omega) ⟨bd, bd⟩) ?_
          refine VO.as ?_
          refine VO.k9 0 1 3 4 5 6 13 30 45 ?_
          exact outN ⟨⟨k + 1, (out ++ [d1]) ++ [x28], A31, c31, m31, true, mc32⟩, ⟨by omega, by first | exact one_a hg (by assumption) (by assumption) (by assumption) (by assumption) (by assumption) (by assumption) | exact one_b hg (by assumption) (by assumption) (by assumption) (by assumption) (by assumption) | exact one_c hg (by assumption) (by assumption) (by assumption) (by assumption) (by assumption) (by assumption) | exact one_d hg (by assumption) (by assumption) (by assumption) (by assumption) | exact one_e hg (by assumption) (by assumption) (by assumption) | exact (one_f (by assumption) (by assumption) (by assumption) (by assumption)).elim, by (simp only [List.length_append, List.length_cons, List.length_nil]; omega), ho31, ho32⟩, bd, ⟨⟨rfl, rfl, rfl, rfl, rfl, rfl, trivial⟩, fun _ h => Inv.sub (Inv.num h 132 1 rfl) [103, 102, 0, 1]⟩⟩
        · -- TTTF
          refine VC.skip ?_
          refine outBN ?_
          refine outN ?_
          refine VC.reg ?_
          refine VO.mv ?_
          refine VO.y rfl (.add (c := ((k + 1 : Nat) : Int)) rfl rfl (by omega) ⟨bd, bd⟩) ?_
          refine VO.as ?_
          refine VO.k9 0 1 3 4 5 6 13 30 45 ?_
          exact outN ⟨⟨k + 1, out ++ [d1], A18, c18, m18, true, mc23⟩, ⟨by omega, by first | exact one_a hg (by assumption) (by assumption) (by assumption) (by assumption) (by assumption) (by assumption) | exact one_b hg (by assumption) (by assumption) (by assumption) (by assumption) (by assumption) | exact one_c hg (by assumption) (by assumption) (by assumption) (by assumption) (by assumption) (by assumption) | exact one_d hg (by assumption) (by assumption) (by assumption) (by assumption) | exact one_e hg (by assumption) (by assumption) (by assumption) | exact (one_f (by assumption) (by assumption) (by assumption) (by assumption)).elim, by (simp only [List.length_append, List.length_cons, List.length_nil]; omega), ho18, ho23⟩, bd, ⟨⟨rfl, rfl, rfl, rfl, rfl, rfl, trivial⟩, fun _ h => Inv.sub (Inv.num h 123 1 rfl) [103, 102, 0, 1]⟩⟩
      · -- TTF
        refine VC.skip ?_
        refine outN ?_
        refine VC.seq ?_
        obtain ⟨q33_E, q33_A1, q33_c1, q33_n1, _, q33_S, q33_1⟩ := openP_ref07Table (x0 := d0.1) (x1 := d0.2) ho14
        have q33_r1 := q33_1.rm
        refine VC.inv _ (fun _ h => h.parts (i := 114) rfl q33_S [135, 134]) ?_
        refine VC.regD _ 10 [(0, true), (1, true), (2, true), (3, true), (4, true), (5, true), (6, true), (7, true), (8, true), (9, true)] follows (by kernel_rfl) (fun _ h => h.sub [135, 134, 103, 102, 0]) ?_
        refine VD.y rfl rfl (.inl rfl) (.mv rfl) ?_
        refine VD.y rfl rfl (.inl rfl) (.nilp rfl) ?_
        refine VD.y rfl rfl (.inl rfl) (.fa rfl tst127 rfl) ?_
        refine VD.y rfl rfl (.inl rfl) (.ld1 135 rfl tk30 rfl (cellsAt_one rfl rfl)) ?_
        refine VD.y rfl rfl (.inl rfl) (.mv rfl) ?_
        obtain ⟨x36, hx36⟩ : ∃ z_, (d0.2)[k]? = some z_ := ⟨_, List.getElem?_eq_getElem bd⟩
        obtain ⟨gg36, oo36, ec36, ea36, hce36, hre36⟩ := (Ow.ownl q33_1 rfl mnil).elem hx36
        cases ea36
        obtain ⟨rfl, q36_1, q36_2⟩ := open_Op (x0 := x36.1) (x1 := x36.2.1) (x2 := x36.2.2) hre36
        simp only [maxLen] at q36_1
        simp only [maxLen] at q36_2
        refine VD.y rfl rfl (.inl rfl) (.ixI k rfl rfl tsl30 rfl bd) ?_
        refine VD.y rfl rfl (.inl rfl) (.fa rfl tst35 rfl) ?_
        refine VD.y rfl rfl (.inl rfl) (.ld1 134 rfl tk9 rfl (hce36.at1 (j := 1) rfl)) ?_
        refine VD.y rfl rfl (.inl rfl) (.fa rfl tst35 rfl) ?_
        refine VD.y rfl rfl (.inl rfl) (.ld1 102 rfl tk9 rfl (cellsAt_one rfl rfl)) ?_
        refine VD.nil rfl ?_ rfl
        refine VO.y rfl (.sneq rfl rfl) ?_
        refine VO.clsP 137 [135, 134] rfl (fun hg37 => (show Ow (.ptr Tref07Table) _ _ (_, d0) from (mkP_ref07Table d0.1 d0.2 hg37 (OwnL.ow (Ow.ownl q33_1 rfl mnil) rfl)))) (fun mc37 ho37 => ?_)
        refine VO.k9 0 1 3 4 5 6 13 30 45 ?_
        refine outN ?_
        refine VC.cond rfl (fun hc38 => ?_) (fun hc38 => ?_)
        · -- TTFT
          refine VC.reg ?_
          refine VO.mv ?_
          refine VO.mv ?_
          refine VO.y rfl (.nilp rfl) ?_
          refine VO.y rfl (.fa rfl tst127 rfl) ?_
          obtain ⟨q39_E, q39_A1, q39_c1, q39_n1, _, q39_S, q39_1⟩ := openP_ref07Table (x0 := d0.1) (x1 := d0.2) ho37
          have q39_r1 := q39_1.rm
          refine VO.inv _ (fun _ h => h.parts (i := 137) rfl q39_S [141, 140]) ?_
          refine VO.y rfl (.ld1 141 rfl tk30 rfl (cellsAt_one rfl rfl)) ?_
          refine VO.mv ?_
          obtain ⟨x42, hx42⟩ : ∃ z_, (d0.2)[k]? = some z_ := ⟨_, List.getElem?_eq_getElem bd⟩
          obtain ⟨gg42, oo42, ec42, ea42, hce42, hre42⟩ := (Ow.ownl q39_1 rfl mnil).elem hx42
          cases ea42
          obtain ⟨rfl, q42_1, q42_2⟩ := open_Op (x0 := x42.1) (x1 := x42.2.1) (x2 := x42.2.2) hre42
          simp only [maxLen] at q42_1
          simp only [maxLen] at q42_2
          refine VO.y rfl (.ixI k rfl rfl tsl30 rfl bd) ?_
          refine VO.y rfl (.ldA 140 rfl tk35 rfl hce42) ?_
          refine VO.bsl (cs := [Value.bool x42.1, str (x42.2.1), str (x42.2.2)]) 144 rfl rfl tsl30 tz35 rfl rfl (fun g43 => ?_)
          obtain ⟨mo45, cs45, hM45, hA45, hC45⟩ := h_out
          refine VO.app 103 rfl rfl rfl tsl30 tz35 rfl rfl hM45 hA45 (.row 144 _ _ _ 1 1 _ _ Try.underlying30 rfl (cellsAt_one rfl rfl)) (by simp [Value.oneCell']) bdm bd (by decide) (fun v45 m45 hN45 => ?_)
          have ho45 : OwnL TOp m45 mnil v45 (out ++ [x42]) := OwnL.one hC45 hN45 (Rd.flat rfl hre42 _)
          obtain ⟨A45, c45, rfl, l45, k45⟩ := ho45.slice
          simp only [maxLen] at k45
          refine VO.as ?_
          refine VO.clsP 146 [141, 140] rfl (fun hg46 => (show Ow (.ptr Tref07Table) _ _ (_, d0) from (mkP_ref07Table d0.1 d0.2 hg46 (OwnL.ow (Ow.ownl q39_1 rfl mnil) rfl)))) (fun mc46 ho46 => ?_)
          refine VO.k9 0 1 3 4 5 6 13 30 45 ?_
          refine outBN ?_
          refine outN ?_
          refine VC.reg ?_
          refine VO.mv ?_
          refine VO.y rfl (.add (c := ((k + 1 : Nat) : Int)) rfl rfl (by omega) ⟨bd, bd⟩) ?_
          refine VO.as ?_
          refine VO.kp [146, 103, 102, 0] [(146, mc46), (103, m45), (102, mone g1 (.cells [Value.bool d1.1, str (d1.2.1), str (d1.2.2)].toArray 35 (0, 0))), (0, mout (wm W) (m0))] ?_
          refine VO.k9 0 1 3 4 5 6 13 30 45 ?_
          exact outN ⟨⟨k + 1, out ++ [x42], A45, c45, m45, put, mc46⟩, ⟨by omega, by first | exact one_a hg (by assumption) (by assumption) (by assumption) (by assumption) (by assumption) (by assumption) | exact one_b hg (by assumption) (by assumption) (by assumption) (by assumption) (by assumption) | exact one_c hg (by assumption) (by assumption) (by assumption) (by assumption) (by assumption) (by assumption) | exact one_d hg (by assumption) (by assumption) (by assumption) (by assumption) | exact one_e hg (by assumption) (by assumption) (by assumption) | exact (one_f (by assumption) (by assumption) (by assumption) (by assumption)).elim, by (simp only [List.length_append, List.length_cons, List.length_nil]; omega), ho45, ho46⟩, bd, ⟨⟨rfl, rfl, rfl, rfl, rfl, rfl, trivial⟩, fun _ h => Inv.sub (Inv.num h 146 1 rfl) [103, 102, 0, 1]⟩⟩
        · -- TTFF
          refine VC.skip ?_
          refine outBN ?_
          refine outN ?_
          refine VC.reg ?_
          refine VO.mv ?_
          refine VO.y rfl (.add (c := ((k + 1 : Nat) : Int)) rfl rfl (by omega) ⟨bd, bd⟩) ?_
          refine VO.as ?_
          refine VO.k9 0 1 3 4 5 6 13 30 45 ?_
          exact outN ⟨⟨k + 1, out, out_A, out_c, out_m, put, mc37⟩, ⟨by omega, by first | exact one_a hg (by assumption) (by assumption) (by assumption) (by assumption) (by assumption) (by assumption) | exact one_b hg (by assumption) (by assumption) (by assumption) (by assumption) (by assumption) | exact one_c hg (by assumption) (by assumption) (by assumption) (by assumption) (by assumption) (by assumption) | exact one_d hg (by assumption) (by assumption) (by assumption) (by assumption) | exact one_e hg (by assumption) (by assumption) (by assumption) | exact (one_f (by assumption) (by assumption) (by assumption) (by assumption)).elim, by (simp only [List.length_append, List.length_cons, List.length_nil]; omega), h_out, ho37⟩, bd, ⟨⟨rfl, rfl, rfl, rfl, rfl, rfl, trivial⟩, fun _ h => Inv.sub (Inv.num h 137 1 rfl) [103, 102, 0, 1]⟩⟩
    · -- TF
      refine VD.gn rfl rfl (.inl ⟨_, rfl, rfl⟩) ?_
      refine VD.gn rfl rfl (.inl ⟨_, rfl, rfl⟩) ?_
      refine VD.gn rfl rfl (.inl ⟨_, rfl, rfl⟩) ?_
      refine VD.gn rfl rfl (.inl ⟨_, rfl, rfl⟩) ?_
      refine VD.gn rfl rfl (.inl ⟨_, rfl, rfl⟩) ?_
      refine VD.gn rfl rfl (.inl ⟨_, rfl, rfl⟩) ?_
      refine VD.gn rfl rfl (.inl ⟨_, rfl, rfl⟩) ?_
      refine VD.gn rfl rfl (.inl ⟨_, rfl, rfl⟩) ?_
      refine VD.gn rfl rfl (.inl ⟨_, rfl, rfl⟩) ?_
      refine VD.gn rfl rfl (.inl ⟨_, rfl, rfl⟩) ?_
      refine VD.nil rfl ?_ rfl
      refine VO.gN ?_
      refine VO.y rfl (.pF rfl rfl) ?_
      refine VO.clsP 147 [111, 110] rfl (fun hg47 => (show Ow (.ptr Tref07Table) _ _ (_, d0) from (mkP_ref07Table d0.1 d0.2 hg47 (OwnL.ow (Ow.ownl q9_1 rfl mnil) rfl)))) (fun mc47 ho47 => ?_)
      refine VO.kp [147, 103, 102, 0] [(147, mc47), (103, out_m), (102, mone g1 (.cells [Value.bool d1.1, str (d1.2.1), str (d1.2.2)].toArray 35 (0, 0))), (0, mout (wm W) (m0))] ?_
      refine VO.k8 0 1 3 4 5 6 13 30 ?_
      refine outN ?_
      refine VC.condF rfl ?_
      refine VC.skip ?_
      refine outN ?_
      refine VC.seq ?_
      obtain ⟨q48_E, q48_A1, q48_c1, q48_n1, _, q48_S, q48_1⟩ := openP_ref07Table (x0 := d0.1) (x1 := d0.2) ho47
      have q48_r1 := q48_1.rm
      refine VC.inv _ (fun _ h => h.parts (i := 147) rfl q48_S [150, 149]) ?_
      refine VC.regD _ 10 [(0, true), (1, true), (2, true), (3, true), (4, true), (5, true), (6, true), (7, true), (8, true), (9, true)] follows (by kernel_rfl) (fun _ h => h.sub [150, 149, 103, 102, 0]) ?_
      refine VD.y rfl rfl (.inl rfl) (.mv rfl) ?_
      refine VD.y rfl rfl (.inl rfl) (.nilp rfl) ?_
      refine VD.y rfl rfl (.inl rfl) (.fa rfl tst127 rfl) ?_
      refine VD.y rfl rfl (.inl rfl) (.ld1 150 rfl tk30 rfl (cellsAt_one rfl rfl)) ?_
      refine VD.y rfl rfl (.inl rfl) (.mv rfl) ?_
      obtain ⟨x51, hx51⟩ : ∃ z_, (d0.2)[k]? = some z_ := ⟨_, List.getElem?_eq_getElem bd⟩
      obtain ⟨gg51, oo51, ec51, ea51, hce51, hre51⟩ := (Ow.ownl q48_1 rfl mnil).elem hx51
      cases ea51
      obtain ⟨rfl, q51_1, q51_2⟩ := open_Op (x0 := x51.1) (x1 := x51.2.1) (x2 := x51.2.2) hre51
      simp only [maxLen] at q51_1
      simp only [maxLen] at q51_2
      refine VD.y rfl rfl (.inl rfl) (.ixI k rfl rfl tsl30 rfl bd) ?_
      refine VD.y rfl rfl (.inl rfl) (.fa rfl tst35 rfl) ?_
      refine VD.y rfl rfl (.inl rfl) (.ld1 149 rfl tk9 rfl (hce51.at1 (j := 1) rfl)) ?_
      refine VD.y rfl rfl (.inl rfl) (.fa rfl tst35 rfl) ?_
      refine VD.y rfl rfl (.inl rfl) (.ld1 102 rfl tk9 rfl (cellsAt_one rfl rfl)) ?_
      refine VD.nil rfl ?_ rfl
      refine VO.y rfl (.sneq rfl rfl) ?_
      refine VO.clsP 152 [150, 149] rfl (fun hg52 => (show Ow (.ptr Tref07Table) _ _ (_, d0) from (mkP_ref07Table d0.1 d0.2 hg52 (OwnL.ow (Ow.ownl q48_1 rfl mnil) rfl)))) (fun mc52 ho52 => ?_)
      refine VO.k9 0 1 3 4 5 6 13 30 45 ?_
      refine outN ?_
      refine VC.cond rfl (fun hc53 => ?_) (fun hc53 => ?_)
      · -- TFT
        refine VC.reg ?_
        refine VO.mv ?_
        refine VO.mv ?_
        refine VO.y rfl (.nilp rfl) ?_
        refine VO.y rfl (.fa rfl tst127 rfl) ?_
        obtain ⟨q54_E, q54_A1, q54_c1, q54_n1, _, q54_S, q54_1⟩ := openP_ref07Table (x0 := d0.1) (x1 := d0.2) ho52
        have q54_r1 := q54_1.rm
        refine VO.inv _ (fun _ h => h.parts (i := 152) rfl q54_S [156, 155]) ?_
        refine VO.y rfl (.ld1 156 rfl tk30 rfl (cellsAt_one rfl rfl)) ?_
        refine VO.mv ?_
        obtain ⟨x57, hx57⟩ : ∃ z_, (d0.2)[k]? = some z_ := ⟨_, List.getElem?_eq_getElem bd⟩
        obtain ⟨gg57, oo57, ec57, ea57, hce57, hre57⟩ := (Ow.ownl q54_1 rfl mnil).elem hx57
        cases ea57
        obtain ⟨rfl, q57_1, q57_2⟩ := open_Op (x0 := x57.1) (x1 := x57.2.1) (x2 := x57.2.2) hre57
        simp only [maxLen] at q57_1
        simp only [maxLen] at q57_2
        refine VO.y rfl (.ixI k rfl rfl tsl30 rfl bd) ?_
        refine VO.y rfl (.ldA 155 rfl tk35 rfl hce57) ?_
        refine VO.bsl (cs := [Value.bool x57.1, str (x57.2.1), str (x57.2.2)]) 159 rfl rfl tsl30 tz35 rfl rfl (fun g58 => ?_)
        obtain ⟨mo60, cs60, hM60, hA60, hC60⟩ := h_out
        refine VO.app 103 rfl rfl rfl tsl30 tz35 rfl rfl hM60 hA60 (.row 159 _ _ _ 1 1 _ _ Try.underlying30 rfl (cellsAt_one rfl rfl)) (by simp [Value.oneCell']) bdm bd (by decide) (fun v60 m60 hN60 => ?_)
        have ho60 : OwnL TOp m60 mnil v60 (out ++ [x57]) := OwnL.one hC60 hN60 (Rd.flat rfl hre57 _)
        obtain ⟨A60, c60, rfl, l60, k60⟩ := ho60.slice
        simp only [maxLen] at k60
        refine VO.as ?_
        refine VO.clsP 161 [156, 155] rfl (fun hg61 => (show Ow (.ptr Tref07Table) _ _ (_, d0) from (mkP_ref07Table d0.1 d0.2 hg61 (OwnL.ow (Ow.ownl q54_1 rfl mnil) rfl)))) (fun mc61 ho61 => ?_)
        refine VO.k9 0 1 3 4 5 6 13 30 45 ?_
        refine outBN ?_
        refine outN ?_
        refine VC.reg ?_
        refine VO.mv ?_
        refine VO.y rfl (.add (c := ((k + 1 : Nat) : Int)) rfl rfl (by omega) ⟨bd, bd⟩) ?_
        refine VO.as ?_
        refine VO.kp [161, 103, 102, 0] [(161, mc61), (103, m60), (102, mone g1 (.cells [Value.bool d1.1, str (d1.2.1), str (d1.2.2)].toArray 35 (0, 0))), (0, mout (wm W) (m0))] ?_
        refine VO.k9 0 1 3 4 5 6 13 30 45 ?_
        exact outN ⟨⟨k + 1, out ++ [x57], A60, c60, m60, put, mc61⟩, ⟨by omega, by first | exact one_a hg (by assumption) (by assumption) (by assumption) (by assumption) (by assumption) (by assumption) | exact one_b hg (by assumption) (by assumption) (by assumption) (by assumption) (by assumption) | exact one_c hg (by assumption) (by assumption) (by assumption) (by assumption) (by assumption) (by assumption) | exact one_d hg (by assumption) (by assumption) (by assumption) (by assumption) | exact one_e hg (by assumption) (by assumption) (by assumption) | exact (one_f (by assumption) (by assumption) (by assumption) (by assumption)).elim, by (simp only [List.length_append, List.length_cons, List.length_nil]; omega), ho60, ho61⟩, bd, ⟨⟨rfl, rfl, rfl, rfl, rfl, rfl, trivial⟩, fun _ h => Inv.sub (Inv.num h 161 1 rfl) [103, 102, 0, 1]⟩⟩
      · -- TFF
        refine VC.skip ?_
        refine outBN ?_
        refine outN ?_
        refine VC.reg ?_
        refine VO.mv ?_
        refine VO.y rfl (.add (c := ((k + 1 : Nat) : Int)) rfl rfl (by omega) ⟨bd, bd⟩) ?_
        refine VO.as ?_
        refine VO.k9 0 1 3 4 5 6 13 30 45 ?_
        exact outN ⟨⟨k + 1, out, out_A, out_c, out_m, put, mc52⟩, ⟨by omega, by first | exact one_a hg (by assumption) (by assumption) (by assumption) (by assumption) (by assumption) (by assumption) | exact one_b hg (by assumption) (by assumption) (by assumption) (by assumption) (by assumption) | exact one_c hg (by assumption) (by assumption) (by assumption) (by assumption) (by assumption) (by assumption) | exact one_d hg (by assumption) (by assumption) (by assumption) (by assumption) | exact one_e hg (by assumption) (by assumption) (by assumption) | exact (one_f (by assumption) (by assumption) (by assumption) (by assumption)).elim, by (simp only [List.length_append, List.length_cons, List.length_nil]; omega), h_out, ho52⟩, bd, ⟨⟨rfl, rfl, rfl, rfl, rfl, rfl, trivial⟩, fun _ h => Inv.sub (Inv.num h 152 1 rfl) [103, 102, 0, 1]⟩⟩
  · -- F
    refine VC.exit ?_
    refine outE ?_
    refine outE ?_
    refine outBB ?_
    refine outN ?_
    refine VC.seq ?_
    refine VC.rs ?_
    refine VO.mv ?_
    refine VO.y rfl (.not rfl) ?_
    refine VO.kp [107, 103, 102, 0] [(107, mc7), (103, out_m), (102, mone g1 (.cells [Value.bool d1.1, str (d1.2.1), str (d1.2.2)].toArray 35 (0, 0))), (0, mout (wm W) (m0))] ?_
    refine VO.k8 0 1 3 4 5 6 13 57 ?_
    refine VC.condBN rfl (fun hc62 => ?_) (fun hc62 => ?_)
    · -- FT
      refine VC.reg ?_
      refine VO.mv ?_
      refine VO.y rfl (.ldA 102 rfl tk35 rfl (cellsAt_one rfl rfl)) ?_
      refine VO.bsl (cs := [Value.bool d1.1, str (d1.2.1), str (d1.2.2)]) 164 rfl rfl tsl30 tz35 rfl rfl (fun g63 => ?_)
      obtain ⟨mo65, cs65, hM65, hA65, hC65⟩ := h_out
      refine VO.app 103 rfl rfl rfl tsl30 tz35 rfl rfl hM65 hA65 (.row 164 _ _ _ 1 1 _ _ Try.underlying30 rfl (cellsAt_one rfl rfl)) (by simp [Value.oneCell']) bdm bd (by decide) (fun v65 m65 hN65 => ?_)
      have ho65 : OwnL TOp m65 mnil v65 (out ++ [d1]) := OwnL.one hC65 hN65 (Rd.flat rfl h1 _)
      obtain ⟨A65, c65, rfl, l65, k65⟩ := ho65.slice
      simp only [maxLen] at k65
      refine VO.as ?_
      refine VO.k8 0 1 3 4 5 6 13 57 ?_
      refine outN ?_
      refine VC.reg ?_
      refine VO.mv ?_
      refine VO.mv ?_
      refine VO.y rfl (.nilp rfl) ?_
      refine VO.y rfl (.fa rfl tst127 rfl) ?_
      obtain ⟨q66_E, q66_A1, q66_c1, q66_n1, _, q66_S, q66_1⟩ := openP_ref07Table (x0 := d0.1) (x1 := d0.2) ho7
      have q66_r1 := q66_1.rm
      refine VO.inv _ (fun _ h => h.parts (i := 107) rfl q66_S [168, 167]) ?_
      refine VO.store (k := 1) (c' := [Value.bool d0.1, Value.slice A65 ((out ++ [d1]).length) (c65)]) 168 rfl rfl (.inr ⟨tk30, rfl⟩) rfl rfl rfl rfl rfl ?_
      refine VO.k8 0 1 3 4 5 6 13 57 ?_
      refine ⟨_, _, res_run (rs := []) rfl .nil, fun W_ hI => out_of (l := [mone g0 (.cells [Value.bool d0.1, Value.slice A65 ((out ++ [d1]).length) (c65)].toArray q66_E (0, 0)), m65]) hI [168, 103] rfl rfl (mle_refl _) (fun hS_ => ?_)⟩
      dsimp only [packV]
      have hm0_ : ((d0.1, tOne d0.2 d1) : Dref07Table) = (d0.1, out ++ [d1]) := by first | rfl | ((rw [hg, List.drop_of_length_le (by omega)]; simp [goOne, *]; done))
      refine ⟨?_, ?_⟩
      rotate_left
      · rw [hm0_]; exact (mkP_ref07Table d0.1 (out ++ [d1]) hS_ (OwnL.ow ho65 rfl))
      all_goals (first | rfl | (simp [*]; done))
    · -- FF
      refine VC.skip ?_
      refine outN ?_
      refine VC.reg ?_
      refine VO.mv ?_
      refine VO.mv ?_
      refine VO.y rfl (.nilp rfl) ?_
      refine VO.y rfl (.fa rfl tst127 rfl) ?_
      obtain ⟨q69_E, q69_A1, q69_c1, q69_n1, _, q69_S, q69_1⟩ := openP_ref07Table (x0 := d0.1) (x1 := d0.2) ho7
      have q69_r1 := q69_1.rm
      refine VO.inv _ (fun _ h => h.parts (i := 107) rfl q69_S [171, 170]) ?_
      refine VO.store (k := 1) (c' := [Value.bool d0.1, Value.slice out_A (out.length) (out_c)]) 171 rfl rfl (.inr ⟨tk30, rfl⟩) rfl rfl rfl rfl rfl ?_
      refine VO.k8 0 1 3 4 5 6 13 57 ?_
      refine ⟨_, _, res_run (rs := []) rfl .nil, fun W_ hI => out_of (l := [mone g0 (.cells [Value.bool d0.1, Value.slice out_A (out.length) (out_c)].toArray q69_E (0, 0)), out_m]) hI [171, 103] rfl rfl (mle_refl _) (fun hS_ => ?_)⟩
      dsimp only [packV]
      have hm0_ : ((d0.1, tOne d0.2 d1) : Dref07Table) = (d0.1, out) := by first | rfl | ((rw [hg, List.drop_of_length_le (by omega)]; simp [goOne, *]; done))
      refine ⟨?_, ?_⟩
      rotate_left
      · rw [hm0_]; exact (mkP_ref07Table d0.1 out hS_ (OwnL.ow h_out rfl))
      all_goals (first | rfl | (simp [*]; done))
theorem t7Apply_ok (W : World) {m0 : Mem} (hm : mle (m0) (wm W)) {g0 : Nat} {d0 : Dref07Table} (h0 : Ow (.ptr Tref07Table) m0 [.pointer (some ⟨g0, 0, none⟩)] (g0, d0)) {v1 : Value} {d1 : List DOp} (h1 : Rd (.sl TOp) (mout (wm W) (m0)) [v1] d1) (e0 : d0.1 = true) (e1 : d0.2.length + d1.length ≤ 1700000000000) : CallR Try.prog 67 [.pointer (some ⟨g0, 0, none⟩), v1] W (m0) (fun v m' => v = .int .i64 ((tApply d0 d1).2) ∧ Ow (.ptr Tref07Table) m' [.pointer (some ⟨g0, 0, none⟩)] (g0, (tApply d0 d1).1)) := by
  obtain ⟨A1, c1, rfl, l1, k1⟩ := h1.slice
  simp only [maxLen] at k1
  refine CallR.ofB (n := 33) hm Try.func67 rfl rfl rfl ?_
  refine VC.rs ?_
  refine VO.as ?_
  refine VO.k3 0 1 4 ?_
  refine VC.seq ?_
  refine VC.rs ?_
  refine VO.mv ?_
  refine VO.call 1 rfl fnOk86 rfl rfl (fun W hW => t7None_ok W (hW.at (i := 1) rfl) h0) (fun v1 m1 hv1 => ?_)
  obtain ⟨rfl, w1_0⟩ := hv1
  refine VO.k4 0 1 4 8 ?_
  refine VC.cond rfl (fun hc2 => ?_) (fun hc2 => ?_)
  · -- T
    rw [e0] at hc2; cases hc2
  · -- F
    refine VC.skip ?_
    refine outN ?_
    refine VC.seq ?_
    refine VC.rs ?_
    refine VO.as ?_
    refine VO.kp [1, 0] [(1, m1), (0, mout (wm W) (m0))] ?_
    refine VO.k5 0 1 4 5 8 ?_
    refine VC.block ?_
    refine VC.loop (G := Nat) (fun k => [(5, Value.int .i64 (((k : Nat) : Int))), (0, Value.pointer (some ⟨g0, 0, none⟩)), (1, Value.slice A1 (d1.length) (c1)), (8, Value.bool (decide (d0.1 = false)))]) (fun k => [(1, m1), (0, mout (wm W) (m0))]) (fun k => (k ≤ d1.length) ∧ (∀ o ∈ d1.take k, opCheck o = 0)) (fun k => d1.length - k) 0 (⟨by omega, by simp⟩) ⟨⟨rfl, rfl, rfl, rfl, trivial⟩, fun _ h => h.sub [1, 0]⟩ ?_
    rintro k ⟨hk, ha⟩
    refine VC.seq ?_
    refine VC.rs ?_
    refine VO.mv ?_
    refine VO.mv ?_
    refine VO.y rfl (.lenS rfl tsl30) ?_
    refine VO.y rfl (.lss rfl rfl) ?_
    refine VO.k5 0 1 5 8 12 ?_
    refine VC.cond rfl (fun hc3 => ?_) (fun hc3 => ?_)
    · -- FT
      refine VC.skip ?_
      refine outN ?_
      refine VC.seq ?_
      refine VC.block ?_
      refine VC.rs ?_
      refine VO.mv ?_
      refine VO.mv ?_
      obtain ⟨x4, hx4⟩ : ∃ z_, (d1)[k]? = some z_ := ⟨_, List.getElem?_eq_getElem bd⟩
      obtain ⟨gg4, oo4, ec4, ea4, hce4, hre4⟩ := h1.elem hx4
      cases ea4
      obtain ⟨rfl, q4_1, q4_2⟩ := open_Op (x0 := x4.1) (x1 := x4.2.1) (x2 := x4.2.2) hre4
      simp only [maxLen] at q4_1
      simp only [maxLen] at q4_2
      refine VO.y rfl (.ixI k rfl rfl tsl30 rfl bd) ?_
      refine VO.y rfl (.ldA 0 rfl tk35 rfl hce4) ?_
      refine VO.callN 105 rfl fnOk61 rfl (fun W hW => refOpCheck_ok W (Rd.mono hre4 (hW.at (i := 0) rfl))) (fun v5 m5 hv5 => ?_)
      subst hv5
      refine VO.y rfl (.neq rfl rfl) ?_
      refine VO.k6 0 1 5 8 12 20 ?_
      refine VC.cond rfl (fun hc6 => ?_) (fun hc6 => ?_)
      · -- FTT
        refine VC.rs ?_
        refine VO.as ?_
        refine VO.kp [1, 0] [(1, m1), (0, mout (wm W) (m0))] ?_
        refine VO.k7 0 1 4 5 8 12 20 ?_
        refine VC.ret ?_
        refine outBR ?_
        refine outR ?_
        refine outR ?_
        refine outBR ?_
        refine outR ?_
        refine ⟨_, _, res_run (rs := [.tmp 4]) rfl (.tmp rfl .nil), fun W_ hI => out_of (l := [m1]) hI [1] rfl rfl (mle_refl _) (fun hS_ => ?_)⟩
        dsimp only [packV]
        have hm0_ : ((tApply d0 d1).1 : Dref07Table) = d0 := by first | rfl | (first | exact congrArg Prod.fst (tApply_bad e0 ‹d1[k]? = some _› (by assumption)) | (rw [tApply_good e0 (by have h_ := ha; rw [List.take_of_length_le (by omega)] at h_; exact h_), ht, List.take_of_length_le (by omega)]; done))
        refine ⟨?_, ?_⟩
        rotate_left
        · rw [hm0_]; exact (Ow.up w1_0 (hS_.1 _ (.head _)))
        all_goals (first | rfl | (first | exact congrArg (Value.int _) (congrArg Prod.snd (tApply_bad e0 ‹d1[k]? = some _› (by assumption))).symm | exact congrArg (Value.int _) (congrArg Prod.snd (tApply_good e0 (by have h_ := ha; rw [List.take_of_length_le (by omega)] at h_; exact h_))).symm))
      · -- FTF
        refine VC.skip ?_
        refine outBN ?_
        refine outN ?_
        refine VC.reg ?_
        refine VO.mv ?_
        refine VO.y rfl (.add (c := ((k + 1 : Nat) : Int)) rfl rfl (by omega) ⟨bd, bd⟩) ?_
        refine VO.as ?_
        refine VO.kp [1, 0] [(1, m1), (0, mout (wm W) (m0))] ?_
        refine VO.k6 0 1 5 8 12 20 ?_
        exact outN ⟨k + 1, ⟨by omega, by exact all_one ha ‹d1[k]? = some _› (by assumption)⟩, bd, ⟨⟨rfl, rfl, rfl, rfl, trivial⟩, fun _ h => Inv.sub h [1, 0]⟩⟩
    · -- FF
      refine VC.exit ?_
      refine outE ?_
      refine outE ?_
      refine outBB ?_
      refine outN ?_
      refine VC.seq ?_
      refine VC.rs ?_
      refine VO.as ?_
      refine VO.k6 0 1 5 6 8 12 ?_
      refine VC.block ?_
      refine VC.loop (G := Nat × Dref07Table × Mem) (fun g => [(6, Value.int .i64 ((((g.1) : Nat) : Int))), (0, Value.pointer (some ⟨g0, 0, none⟩)), (1, Value.slice A1 (d1.length) (c1)), (5, Value.int .i64 (((k : Nat) : Int))), (8, Value.bool (decide (d0.1 = false))), (12, Value.bool (decide (((k : Nat) : Int) < ((d1.length : Nat) : Int))))]) (fun g => [(1, (g.2.2)), (0, mout (wm W) (m0))]) (fun g => ((g.1) ≤ d1.length) ∧ ((g.2.1) = (true, (d1.take (g.1)).foldl tOne d0.2)) ∧ (Ow (.ptr Tref07Table) (g.2.2) [.pointer (some ⟨g0, 0, none⟩)] (g0, (g.2.1)))) (fun g => d1.length - (g.1)) (0, d0, m1) (⟨by omega, by (rw [← e0]; rfl), w1_0⟩) ⟨⟨rfl, rfl, rfl, rfl, rfl, rfl, trivial⟩, fun _ h => h.sub [1, 0]⟩ ?_
      rintro ⟨j, t, t_m⟩ ⟨hj, ht, h_t⟩
      replace hj : j ≤ d1.length := hj
      replace ht : t = (true, (d1.take j).foldl tOne d0.2) := ht
      replace h_t : Ow (.ptr Tref07Table) t_m [.pointer (some ⟨g0, 0, none⟩)] (g0, t) := h_t
      show VC _ _ _ _ _ [(6, Value.int .i64 (((j : Nat) : Int))), (0, Value.pointer (some ⟨g0, 0, none⟩)), (1, Value.slice A1 (d1.length) (c1)), (5, Value.int .i64 (((k : Nat) : Int))), (8, Value.bool (decide (d0.1 = false))), (12, Value.bool (decide (((k : Nat) : Int) < ((d1.length : Nat) : Int))))] [(1, t_m), (0, mout (wm W) (m0))]
      have hfl := tfold_len (d1.take j) d0.2
      have htl : t.2.length ≤ d0.2.length + j := by rw [ht]; simp only [List.length_take] at hfl; dsimp only; omega
      refine VC.seq ?_
      refine VC.rs ?_
      refine VO.mv ?_
      refine VO.mv ?_
      refine VO.y rfl (.lenS rfl tsl30) ?_
      refine VO.y rfl (.lss rfl rfl) ?_
      refine VO.kp [1, 0] [(1, t_m), (0, mout (wm W) (m0))] ?_
      refine VO.k7 0 1 5 6 8 12 24 ?_
      refine VC.cond rfl (fun hc7 => ?_) (fun hc7 => ?_)
      · -- FFT
        refine VC.skip ?_
        refine outN ?_
        refine VC.seq ?_
        refine VC.block ?_
        refine VC.reg ?_
        refine VO.mv ?_
        refine VO.mv ?_
        refine VO.mv ?_
        obtain ⟨x8, hx8⟩ : ∃ z_, (d1)[j]? = some z_ := ⟨_, List.getElem?_eq_getElem bd⟩
        obtain ⟨gg8, oo8, ec8, ea8, hce8, hre8⟩ := h1.elem hx8
        cases ea8
        obtain ⟨rfl, q8_1, q8_2⟩ := open_Op (x0 := x8.1) (x1 := x8.2.1) (x2 := x8.2.2) hre8
        simp only [maxLen] at q8_1
        simp only [maxLen] at q8_2
        refine VO.y rfl (.ixI j rfl rfl tsl30 rfl bd) ?_
        refine VO.y rfl (.ldA 0 rfl tk35 rfl hce8) ?_
        refine VO.call 1 rfl fnOk87 rfl rfl (fun W hW => t7One_ok W (hW.at (i := 1) rfl) h_t (Rd.mono hre8 (hW.out (i := 1) (j := 0) rfl rfl)) bd) (fun v9 m9 hv9 => ?_)
        obtain ⟨rfl, w9_0⟩ := hv9
        have hfa10 := tOne_len t.2 x8
        refine VO.k7 0 1 5 6 8 12 24 ?_
        refine outBN ?_
        refine outN ?_
        refine VC.reg ?_
        refine VO.mv ?_
        refine VO.y rfl (.add (c := ((j + 1 : Nat) : Int)) rfl rfl (by omega) ⟨bd, bd⟩) ?_
        refine VO.as ?_
        refine VO.k7 0 1 5 6 8 12 24 ?_
        exact outN ⟨⟨j + 1, (t.1, tOne t.2 x8), m9⟩, ⟨by omega, by (rw [ht, take_fold ‹d1[j]? = some _›]), w9_0⟩, bd, ⟨⟨rfl, rfl, rfl, rfl, rfl, rfl, trivial⟩, fun _ h => Inv.sub h [1, 0]⟩⟩
      · -- FFF
        refine VC.exit ?_
        refine outE ?_
        refine outE ?_
        refine outBB ?_
        refine outN ?_
        refine VC.rs ?_
        refine VO.as ?_
        refine VO.k8 0 1 4 5 6 8 12 24 ?_
        refine VC.ret ?_
        refine ⟨_, _, res_run (rs := [.tmp 4]) rfl (.tmp rfl .nil), fun W_ hI => out_of (l := [t_m]) hI [1] rfl rfl (mle_refl _) (fun hS_ => ?_)⟩
        dsimp only [packV]
        have hm0_ : ((tApply d0 d1).1 : Dref07Table) = t := by first | rfl | (first | exact congrArg Prod.fst (tApply_bad e0 ‹d1[k]? = some _› (by assumption)) | (rw [tApply_good e0 (by have h_ := ha; rw [List.take_of_length_le (by omega)] at h_; exact h_), ht, List.take_of_length_le (by omega)]; done))
        refine ⟨?_, ?_⟩
        rotate_left
        · rw [hm0_]; exact (Ow.up h_t (hS_.1 _ (.head _)))
        all_goals (first | rfl | (first | exact congrArg (Value.int _) (congrArg Prod.snd (tApply_bad e0 ‹d1[k]? = some _› (by assumption))).symm | exact congrArg (Value.int _) (congrArg Prod.snd (tApply_good e0 (by have h_ := ha; rw [List.take_of_length_le (by omega)] at h_; exact h_))).symm))
theorem t7All_ok (W : World) {m0 : Mem} (hm : mle (m0) (wm W)) {g0 : Nat} {d0 : Dref07Table} (h0 : Ow (.ptr Tref07Table) m0 [.pointer (some ⟨g0, 0, none⟩)] (g0, d0)) (e0 : d0.1 = true) (e1 : d0.2.length ≤ 1700000000000) : CallR Try.prog 68 [.pointer (some ⟨g0, 0, none⟩)] W (m0) (fun v m' => ∃ (s0 : Value), ∃ (p0 : Mem), ∃ (p1 : Mem), v = s0 ∧ Seps m' [p0, p1] ∧ Ow (.sl TOp) p0 [s0] (d0.2) ∧ Ow (.ptr Tref07Table) p1 [.pointer (some ⟨g0, 0, none⟩)] (g0, d0)) := by
  refine CallR.ofB (n := 13) hm Try.func68 rfl rfl rfl ?_
  refine VC.rs ?_
  refine VO.as ?_
  refine VO.k2 0 2 ?_
  refine VC.rs ?_
  refine VO.as ?_
  refine VO.k3 0 2 3 ?_
  refine VC.seq ?_
  refine VC.rs ?_
  refine VO.mv ?_
  refine VO.call 1 rfl fnOk86 rfl rfl (fun W hW => t7None_ok W (hW.at (i := 1) rfl) h0) (fun v1 m1 hv1 => ?_)
  obtain ⟨rfl, w1_0⟩ := hv1
  refine VO.kp [1, 0] [(1, m1), (0, mout (wm W) (m0))] ?_
  refine VO.k4 0 2 3 5 ?_
  refine VC.cond rfl (fun hc2 => ?_) (fun hc2 => ?_)
  · -- T
    rw [e0] at hc2; cases hc2
  · -- F
    refine VC.skip ?_
    refine outN ?_
    refine VC.rs ?_
    refine VO.mv ?_
    refine VO.mv ?_
    refine VO.y rfl (.nilp rfl) ?_
    refine VO.y rfl (.fa rfl tst127 rfl) ?_
    obtain ⟨q3_E, q3_A1, q3_c1, q3_n1, _, q3_S, q3_1⟩ := openP_ref07Table (x0 := d0.1) (x1 := d0.2) w1_0
    have q3_r1 := q3_1.rm
    refine VO.inv _ (fun _ h => h.parts (i := 1) rfl q3_S [105, 104]) ?_
    refine VO.y rfl (.ld1 105 rfl tk30 rfl (cellsAt_one rfl rfl)) ?_
    refine VO.inv _ (fun _ h => h.nilc 107) ?_
    obtain ⟨mo6, cs6, hM6, hA6, hC6⟩ := (OwnL.nil TOp mnil mnil)
    obtain ⟨all6, hS6, hR6⟩ := Rd.srcI (P := Try.prog) ((OwnL.rd (Ow.ownl q3_1 rfl mnil) (mle_refl _) (mle_nil _))) Try.underlying30
    refine VO.app 107 rfl rfl rfl tsl30 tz35 rfl rfl hM6 hA6 (hS6 _ 104 rfl) hR6.nice bdm bd (by decide) (fun v6 m6 hN6 => ?_)
    have ho6 : OwnL TOp m6 mnil v6 (d0.2) := OwnL.more hC6 hN6 (All2c.mono hR6 fun _ _ h => Rd.flat rfl h _)
    obtain ⟨A6, c6, rfl, l6, k6⟩ := ho6.slice
    simp only [maxLen] at k6
    refine VO.as ?_
    refine VO.clsP 108 [105, 104] rfl (fun hg8 => (show Ow (.ptr Tref07Table) _ _ (_, d0) from (mkP_ref07Table d0.1 d0.2 hg8 (OwnL.ow (Ow.ownl q3_1 rfl mnil) rfl)))) (fun mc8 ho8 => ?_)
    refine VO.k4 0 2 3 5 ?_
    refine VC.ret ?_
    refine ⟨_, _, res_run (rs := [.tmp 2]) rfl (.tmp rfl .nil), fun W_ hI => out_of (l := [m6, mc8]) hI [107, 108] rfl rfl (mle_refl _) (fun hS_ => ?_)⟩
    dsimp only [packV]
    have he0 : (d0.2 : Ty.Den (.sl TOp)) = d0.2 := by first | rfl | (simp [*]; done)
    have hm0_ : (d0 : Dref07Table) = d0 := by first | rfl | (simp [*]; done)
    refine ⟨Value.slice A6 ((d0.2).length) (c6), muns [m6], muns [mc8], ?_, ?_, ?_, ?_⟩
    rotate_left
    · exact Seps.grp (ls := [[m6], [mc8]]) hS_
    · rw [he0]; exact (Ow.up (OwnL.ow ho6 rfl) ((Seps.self hS_ (List.Sublist.cons_cons _ (List.Sublist.cons _ List.Sublist.slnil))).1 _ (.head _)))
    · rw [hm0_]; exact (Ow.up ho8 ((Seps.self hS_ (List.Sublist.cons _ (List.Sublist.cons_cons _ List.Sublist.slnil))).1 _ (.head _)))
    all_goals (first | rfl | (simp [*]; done))
theorem sorted13_ok (W : World) {v0 : Value} {d0 : List DOp} (h0 : Rd (.sl TOp) (wm W) [v0] d0) (e0 : d0.length ≤ 1000000) : CallR Try.prog 31 [v0] W (mnil) (fun v m' => ∃ (s0 : Value), v = s0 ∧ Ow (.sl TOp) m' [s0] (sortedOf d0)) := by
  obtain ⟨A0, c0, rfl, l0, k0⟩ := h0.slice
  simp only [maxLen] at k0
  refine CallR.ofA (n := 21) Try.func31 rfl rfl rfl ?_
  refine VC.rs ?_
  refine VO.as ?_
  refine VO.k2 0 2 ?_
  refine VC.rs ?_
  refine VO.callN 101 rfl fnOk66 rfl (fun W hW => t7New_ok W ) (fun v1 m1 hv1 => ?_)
  obtain ⟨s1_0, rfl, f1_0⟩ := hv1
  refine VO.as ?_
  refine VO.k3 0 2 3 ?_
  refine VC.seq ?_
  refine VC.rs ?_
  refine VO.as ?_
  refine VO.kp [101, 0] [(101, m1), (0, wm W)] ?_
  refine VO.k4 0 2 3 4 ?_
  refine VC.block ?_
  refine VC.loop (G := Nat × Dref07Table × Mem) (fun g => [(4, Value.int .i64 ((((g.1) : Nat) : Int))), (0, Value.slice A0 (d0.length) (c0)), (2, Value.slice none (0) (0)), (3, Value.pointer (some ⟨s1_0, 0, none⟩))]) (fun g => [(101, (g.2.2)), (0, wm W)]) (fun g => ((g.1) ≤ d0.length) ∧ ((g.2.1).1 = true) ∧ ((g.2.1).2 = sortedOf (d0.take (g.1))) ∧ (Ow (.ptr Tref07Table) (g.2.2) [.pointer (some ⟨s1_0, 0, none⟩)] (s1_0, (g.2.1)))) (fun g => d0.length - (g.1)) (0, (true, []), m1) (⟨by omega, by rfl, by rfl, f1_0⟩) ⟨⟨rfl, rfl, rfl, rfl, trivial⟩, fun _ h => h.sub [101, 0]⟩ ?_
  rintro ⟨k, t, t_m⟩ ⟨hk, ht, hs, h_t⟩
  replace hk : k ≤ d0.length := hk
  replace ht : t.1 = true := ht
  replace hs : t.2 = sortedOf (d0.take k) := hs
  replace h_t : Ow (.ptr Tref07Table) t_m [.pointer (some ⟨s1_0, 0, none⟩)] (s1_0, t) := h_t
  show VC _ _ _ _ _ [(4, Value.int .i64 (((k : Nat) : Int))), (0, Value.slice A0 (d0.length) (c0)), (2, Value.slice none (0) (0)), (3, Value.pointer (some ⟨s1_0, 0, none⟩))] [(101, t_m), (0, wm W)]
  have hsu := (sorted_up (d0.take k)).2; rw [← hs] at hsu; simp only [List.length_take] at hsu
  refine VC.seq ?_
  refine VC.rs ?_
  refine VO.mv ?_
  refine VO.mv ?_
  refine VO.y rfl (.lenS rfl tsl30) ?_
  refine VO.y rfl (.lss rfl rfl) ?_
  refine VO.k5 0 2 3 4 9 ?_
  refine VC.cond rfl (fun hc2 => ?_) (fun hc2 => ?_)
  · -- T
    refine VC.skip ?_
    refine outN ?_
    refine VC.seq ?_
    refine VC.block ?_
    refine VC.reg ?_
    refine VO.mv ?_
    refine VO.mv ?_
    refine VO.mv ?_
    refine VO.mv ?_
    refine VO.y rfl (.add (c := ((k + 1 : Nat) : Int)) rfl rfl (by omega) ⟨bd, bd⟩) ?_
    obtain ⟨A3, hA3, hs3⟩ := h0.sub' 3 k (k + 1) rfl bd bd
    refine VO.y rfl (.slI k (k + 1) A3 rfl rfl rfl tsl30 rfl rfl hA3 bd bd) ?_
    refine VO.call 101 rfl fnOk67 rfl rfl (fun W hW => t7Apply_ok W (hW.at (i := 101) rfl) h_t (Rd.mono hs3 (hW.out (i := 101) (j := 0) rfl rfl)) (by assumption) bd) (fun v4 m4 hv4 => ?_)
    obtain ⟨rfl, w4_0⟩ := hv4
    have hfa5 := tApply_len t ((d0.take (k + 1)).drop k)
    refine VO.k5 0 2 3 4 9 ?_
    refine outBN ?_
    refine outN ?_
    refine VC.reg ?_
    refine VO.mv ?_
    refine VO.y rfl (.add (c := ((k + 1 : Nat) : Int)) rfl rfl (by omega) ⟨bd, bd⟩) ?_
    refine VO.as ?_
    refine VO.kp [101, 0] [(101, m4), (0, wm W)] ?_
    refine VO.k5 0 2 3 4 9 ?_
    exact outN ⟨⟨k + 1, (tApply t ((d0.take (k + 1)).drop k)).1, m4⟩, ⟨by omega, by exact (sorted_step ht hs (by omega)).2, by exact (sorted_step ht hs (by omega)).1, w4_0⟩, bd, ⟨⟨rfl, rfl, rfl, rfl, trivial⟩, fun _ h => Inv.sub h [101, 0]⟩⟩
  · -- F
    refine VC.exit ?_
    refine outE ?_
    refine outE ?_
    refine outBB ?_
    refine outN ?_
    refine VC.rs ?_
    refine VO.mv ?_
    refine VO.call 101 rfl fnOk68 rfl rfl (fun W hW => t7All_ok W (hW.at (i := 101) rfl) h_t (by assumption) bd) (fun v6 m6 hv6 => ?_)
    obtain ⟨s6_0, p6_0, p6_1, rfl, hS6, f6_0, w6_0⟩ := hv6
    refine VO.inv _ (fun _ h => h.parts (i := 101) rfl hS6 [107, 108]) ?_
    obtain ⟨A6_0, c6_0, eq6_0, l6_0, k6_0⟩ := f6_0.slice
    subst eq6_0
    simp only [maxLen] at k6_0
    refine VO.as ?_
    refine VO.k5 0 2 3 4 9 ?_
    refine VC.ret ?_
    refine ⟨_, _, res_run (rs := [.tmp 2]) rfl (.tmp rfl .nil), fun W_ hI => out_of (l := [p6_0]) hI [107] rfl rfl (mle_refl _) (fun hS_ => ?_)⟩
    dsimp only [packV]
    have he0 : (sortedOf d0 : Ty.Den (.sl TOp)) = t.2 := by first | rfl | ((rw [hs, List.take_of_length_le (by omega)]; done))
    refine ⟨Value.slice A6_0 (t.2.length) (c6_0), ?_, ?_⟩
    rotate_left
    · rw [he0]; exact (Ow.up (OwnL.ow (Ow.ownl f6_0 rfl mnil) rfl) (hS_.1 _ (.head _)))
    all_goals (first | rfl | (simp [*]; done))
def exR : DRun := (1, 2, [(false, [97], []), (true, [98], [49])])
def exR2 : DRun := (3, 3, [(true, [97], [57])])
def exBy : Bytes := [1, 2, 2, 0, 1, 97, 1, 1, 98, 1, 49]
theorem venc_byte {x : Nat} (h : x < 128) : venc x = [UInt8.ofNat x] := by rw [venc_last h, ofNat_mod]
theorem exR_body : runBody exR = exBy := by
  simp only [runBody, exR, opEnc, List.map_cons, List.map_nil, List.flatten_cons, List.flatten_nil, List.length_cons, List.length_nil, Int.toNat_one, show Int.toNat 2 = 2 from rfl]
  rw [venc_byte (x := 1) (by decide), venc_byte (x := 2) (by decide)]; decide
theorem exR2_body : runBody exR2 = [3, 3, 1, 1, 1, 97, 1, 57] := by
  simp only [runBody, exR2, opEnc, List.map_cons, List.map_nil, List.flatten_cons, List.flatten_nil, List.length_cons, List.length_nil, show Int.toNat 3 = 3 from rfl]
  rw [venc_byte (x := 3) (by decide), venc_byte (x := 0 + 1) (by decide)]; decide
theorem exR_frame : rFrame exR = 11 :: exBy := by
  unfold rFrame fEnc; rw [exR_body, venc_byte (by decide)]; rfl
theorem exR2_frame : rFrame exR2 = [8, 3, 3, 1, 1, 1, 97, 1, 57] := by
  unfold rFrame fEnc; rw [exR2_body, venc_byte (by decide)]; rfl
def ruD1 : DDisk := (dSync (dWrite newD 2 (11 :: exBy)).1).1
def ruD2 : DDisk := (dSync (dWrite ruD1 2 [8, 3, 3, 1, 1, 1, 97, 1, 57]).1).1
theorem ruE : runEncode exR = (exBy, 0) := by unfold runEncode; rw [if_pos (by decide), exR_body]
theorem ru0 : uOpen newD = (newD, 0) := by decide +kernel
theorem ru0l : (runF (dRead newD 2).1).1 = [] := by decide +kernel
theorem ru1 : uFlush newD false [] exR = ((ruD1, false, [exR]), 0) := by
  unfold uFlush; rw [if_neg (by decide), if_neg (by decide), if_neg (by decide), exR_frame, if_neg (by decide +kernel), if_neg (by decide +kernel)]; rfl
theorem ru2 : uFlush ruD1 false [exR] (4, 4, []) = ((ruD1, false, [exR]), 15) := by
  unfold uFlush; rw [if_neg (by decide +kernel), if_neg (by decide), if_pos (by decide)]
theorem ru3 : uFlush ruD1 false [exR] (3, 3, [(true, [97], [57])]) = ((ruD2, false, [exR, exR2]), 0) := by
  show uFlush ruD1 false [exR] exR2 = _
  unfold uFlush; rw [if_neg (by decide +kernel), if_neg (by decide), if_neg (by decide), exR2_frame, if_neg (by decide +kernel), if_neg (by decide +kernel)]; rfl
theorem ruG1 : getR [exR] [98] = ([49], true, true) := by decide
theorem ruG2 : getR [exR, exR2] [97] = ([57], true, true) := by decide
theorem ruG3 : getR [exR, exR2] [98] = ([49], true, true) := by decide
theorem ruG4 : getR [exR, exR2] [99] = ([], false, false) := by decide
theorem ruN1 : endR [exR] = 2 := by decide
theorem ruC1 : runCheck (2, 1, []) = 2 := by decide
theorem ruC2 : runCheck (1, 1, [(true, [98], []), (true, [97], [])]) = 2 := by decide
theorem ruC3 (x : DOp) : runCheck (1, 1, List.replicate 1025 x) = 3 := if_pos (by rw [List.length_replicate]; decide)
theorem fnOk10 : fnOk Try.prog 10 = true := by kernel_rfl
theorem fnOk11 : fnOk Try.prog 11 = true := by kernel_rfl
theorem fnOk12 : fnOk Try.prog 12 = true := by kernel_rfl
theorem fnOk13 : fnOk Try.prog 13 = true := by kernel_rfl
theorem fnOk9 : fnOk Try.prog 9 = true := by kernel_rfl
theorem example13_ok (W : World) : CallR Try.prog 12 [] W (mnil) (fun v m' => ∃ (s0 : List Value), v = .agg s0.toArray ∧ Ow TRun m' s0 (exR)) := by
  refine CallR.ofA (n := 5) Try.func12 rfl rfl rfl ?_
  refine VC.rs ?_
  refine VO.alloc 102 rfl tz32 (fun g1 => ?_)
  refine VO.k1 0 ?_
  refine VC.rs ?_
  refine VO.y rfl (.bst (cs := [Value.bool false, str ([97]), str ([])]) rfl tst35 tz35 rfl) ?_
  refine VO.y rfl (.bst (cs := [Value.bool true, str ([98]), str ([49])]) rfl tst35 tz35 rfl) ?_
  refine VO.bsl (cs := [Value.bool false, str ([97]), str ([]), Value.bool true, str ([98]), str ([49])]) 104 rfl rfl tsl30 tz35 rfl rfl (fun g3 => ?_)
  refine VO.y rfl (.bst (cs := [Value.int .i64 (1), Value.int .i64 (2), Value.slice (some ⟨g3, 0, none⟩) (2) (2)]) rfl tst32 tz32 rfl) ?_
  refine VO.store (k := 3) (c' := [Value.int .i64 (1), Value.int .i64 (2), Value.slice (some ⟨g3, 0, none⟩) (2) (2)]) 102 rfl rfl (.inl tk32) rfl rfl rfl rfl rfl ?_
  refine VO.k1 0 ?_
  refine VC.ret ?_
  have ho5 : OwnL TOp (mone g3 (.cells [Value.bool false, str ([97]), str ([]), Value.bool true, str ([98]), str ([49])].toArray 35 (0, 0))) mnil (Value.slice (some ⟨g3, 0, none⟩) (2) (2)) [(false, [97], []), (true, [98], [49])] := OwnL.lit 2 (All2c.cons (c1 := [Value.bool false, str ([97]), str ([])]) (mk_Op (m := _) false ([97]) [] bdm bdm) (All2c.cons (c1 := [Value.bool true, str ([98]), str ([49])]) (mk_Op (m := _) true ([98]) ([49]) bdm bdm) All2c.nil)) rfl rfl
  refine ⟨_, _, res_run (rs := [.cell 0 32]) rfl (.agg 102 rfl tk32 rfl ⟨_, _, _, mone_self _ _, Nat.le_of_ble_eq_true rfl, rfl⟩ .nil), fun W_ hI => out_of (l := [mone g3 (.cells [Value.bool false, str ([97]), str ([]), Value.bool true, str ([98]), str ([49])].toArray 35 (0, 0))]) hI [104] rfl rfl (mle_refl _) (fun hS_ => ?_)⟩
  dsimp only [packV]
  have he0 : (exR : Ty.Den TRun) = (1, 2, [(false, [97], []), (true, [98], [49])]) := by first | rfl | (simp [*]; done)
  refine ⟨[Value.int .i64 (1), Value.int .i64 (2), Value.slice (some ⟨g3, 0, none⟩) (2) (2)], ?_, ?_⟩
  rotate_left
  · rw [he0]; exact (mkO_Run 1 2 ([(false, [97], []), (true, [98], [49])]) hS_ bdk bdk (OwnL.ow ho5 rfl))
  all_goals (first | rfl | (simp [*]; done))
set_option maxHeartbeats 4000000 in
theorem lives13_ok (W : World) : CallR Try.prog 8 [] W (mnil) (fun v m' => v = .bool true) := by
  refine CallR.ofA (n := 59) Try.func8 rfl rfl rfl ?_
  refine VC.rs ?_
  refine VO.as ?_
  refine VO.k1 0 ?_
  refine VC.rs ?_
  refine VO.callN 101 rfl fnOk12 rfl (fun W hW => example13_ok W ) (fun v1 m1 hv1 => ?_)
  obtain ⟨s1_0, rfl, f1_0⟩ := hv1
  obtain ⟨q1_0_A2, q1_0_c2, q1_0_n2, rfl, q1_0_S, q1_0_0, q1_0_1, q1_0_2⟩ := openO_Run (x0 := exR.1) (x1 := exR.2.1) (x2 := exR.2.2) f1_0
  simp only [inK] at q1_0_0
  simp only [inK] at q1_0_1
  have q1_0_r2 := q1_0_2.rm
  refine VO.inv _ (fun _ h => h.parts (i := 101) rfl q1_0_S [102]) ?_
  refine VO.callN 103 rfl fnOk17 rfl (fun W hW => runEncode_ok W (show Rd TRun _ _ exR from (mk_Run (m := wm W) exR.1 exR.2.1 exR.2.2 bdk bdk (OwnL.rd (Ow.ownl q1_0_2 rfl mnil) (hW.at (i := 102) rfl) (mle_nil _))))) (fun v3 m3 hv3 => ?_)
  obtain ⟨s3_0, rfl, f3_0⟩ := hv3
  have hfa4 := runEncode_len exR
  obtain ⟨A3_0, c3_0, eq3_0, l3_0, k3_0⟩ := f3_0.slice
  subst eq3_0
  simp only [maxLen] at k3_0
  refine VO.mv ?_
  refine VO.y rfl (.ext rfl rfl) ?_
  refine VO.y rfl (.ext rfl rfl) ?_
  refine VO.as ?_
  refine VO.as ?_
  refine VO.k3 0 1 2 ?_
  refine VC.rs ?_
  refine VO.callN 105 rfl fnOk10 rfl (fun W hW => dNew_ok W ) (fun v5 m5 hv5 => ?_)
  obtain ⟨s5_0, rfl, f5_0⟩ := hv5
  have hfa6 := okD_new
  have hfa7 := (show wD newD = 0 from rfl)
  by_cases hsp8 : (uOpen newD).2 = 0
  · -- T
    refine VO.call 105 rfl fnOk9 rfl rfl (fun W hW => uOpenY_ok W (hW.at (i := 105) rfl) f5_0 (by assumption) (by first | (simp only [ru0, ru0l, ru1, ru2, ru3, ruE, ruG1, ruG2, ruG3, ruG4, ruN1, ruC1, ruC2, ruC3]; decide +kernel) | decide +kernel) (by assumption)) (fun v9 m9 hv9 => ?_)
    obtain ⟨s9_0, rfl, f9_0⟩ := hv9
    have hfa10 := (uopen_ok (show okD newD by assumption))
    have hfa11 := (uopen_w (show okD newD by assumption))
    have hfa12 := (runF_ok (dRead newD 2).1).1
    refine VO.mv ?_
    refine VO.y rfl (.ext rfl rfl) ?_
    refine VO.y rfl (.ext rfl rfl) ?_
    refine VO.as ?_
    refine VO.as ?_
    refine VO.kp [105, 103, 0] [(105, m9), (103, m3), (0, wm W)] ?_
    refine VO.k5 0 1 2 3 4 ?_
    refine VC.seq ?_
    refine VC.rs ?_
    refine VO.mv ?_
    refine VO.y rfl (.neq rfl rfl) ?_
    refine VO.mv ?_
    refine VO.dec (t := 20) rfl (fun hc13 => ?_) (fun hc13 => ?_)
    · -- TT
      first | exact absurd rfl hc13 | exact absurd (by first | rfl | decide | (simp only [ru0, ru0l, ru1, ru2, ru3, ruE, ruG1, ruG2, ruG3, ruG4, ruN1, ruC1, ruC2, ruC3]; first | done | rfl | decide | omega)) hc13 | exact absurd hc13 (by first | decide | (simp only [ru0, ru0l, ru1, ru2, ru3, ruE, ruG1, ruG2, ruG3, ruG4, ruN1, ruC1, ruC2, ruC3]; first | done | rfl | decide | omega)) | (simp only [ru0, ru0l, ru1, ru2, ru3, ruE, ruG1, ruG2, ruG3, ruG4, ruN1, ruC1, ruC2, ruC3] at hc13; first | done | exact absurd hc13 (by decide) | exact absurd rfl hc13)
    · -- TF
      refine VO.gy rfl ⟨_, rfl, rfl⟩ (.mv rfl) ?_
      refine VO.gy rfl ⟨_, rfl, rfl⟩ (.neq rfl rfl) ?_
      refine VO.y rfl (.pF rfl rfl) ?_
      refine VO.mv ?_
      refine VO.dec (t := 24) rfl (fun hc14 => ?_) (fun hc14 => ?_)
      · -- TFT
        first | exact absurd rfl hc14 | exact absurd (by first | rfl | decide | (simp only [ru0, ru0l, ru1, ru2, ru3, ruE, ruG1, ruG2, ruG3, ruG4, ruN1, ruC1, ruC2, ruC3]; first | done | rfl | decide | omega)) hc14 | exact absurd hc14 (by first | decide | (simp only [ru0, ru0l, ru1, ru2, ru3, ruE, ruG1, ruG2, ruG3, ruG4, ruN1, ruC1, ruC2, ruC3]; first | done | rfl | decide | omega)) | (simp only [ru0, ru0l, ru1, ru2, ru3, ruE, ruG1, ruG2, ruG3, ruG4, ruN1, ruC1, ruC2, ruC3] at hc14; first | done | exact absurd hc14 (by decide) | exact absurd rfl hc14)
      · -- TFF
        refine VO.gy rfl ⟨_, rfl, rfl⟩ (.mv rfl) ?_
        refine VO.gy rfl ⟨_, rfl, rfl⟩ (.pnil rfl rfl Try.underlying23 rfl) ?_
        refine VO.y rfl (.pF rfl rfl) ?_
        refine VO.mv ?_
        refine VO.gy rfl ⟨_, rfl, rfl⟩ (.mv rfl) ?_
        refine VO.gbsl (cs := [Value.int .u8 (1), Value.int .u8 (2), Value.int .u8 (2), Value.int .u8 (0), Value.int .u8 (1), Value.int .u8 (97), Value.int .u8 (1), Value.int .u8 (1), Value.int .u8 (98), Value.int .u8 (1), Value.int .u8 (49)]) 116 rfl ⟨_, rfl, rfl⟩ rfl tsl38 tz5 rfl rfl (fun g15 => ?_)
        have ho18 : OwnL .byte (mone g15 (.cells [Value.int .u8 (1), Value.int .u8 (2), Value.int .u8 (2), Value.int .u8 (0), Value.int .u8 (1), Value.int .u8 (97), Value.int .u8 (1), Value.int .u8 (1), Value.int .u8 (98), Value.int .u8 (1), Value.int .u8 (49)].toArray 5 (0, 0))) mnil (Value.slice (some ⟨g15, 0, none⟩) (11) (11)) [UInt8.ofNat 1, UInt8.ofNat 2, UInt8.ofNat 2, UInt8.ofNat 0, UInt8.ofNat 1, UInt8.ofNat 97, UInt8.ofNat 1, UInt8.ofNat 1, UInt8.ofNat 98, UInt8.ofNat 1, UInt8.ofNat 49] := OwnL.lit 11 (All2c.cons (c1 := [Value.int .u8 (1)]) (rd_byteN bd) (All2c.cons (c1 := [Value.int .u8 (2)]) (rd_byteN bd) (All2c.cons (c1 := [Value.int .u8 (2)]) (rd_byteN bd) (All2c.cons (c1 := [Value.int .u8 (0)]) (rd_byteN bd) (All2c.cons (c1 := [Value.int .u8 (1)]) (rd_byteN bd) (All2c.cons (c1 := [Value.int .u8 (97)]) (rd_byteN bd) (All2c.cons (c1 := [Value.int .u8 (1)]) (rd_byteN bd) (All2c.cons (c1 := [Value.int .u8 (1)]) (rd_byteN bd) (All2c.cons (c1 := [Value.int .u8 (98)]) (rd_byteN bd) (All2c.cons (c1 := [Value.int .u8 (1)]) (rd_byteN bd) (All2c.cons (c1 := [Value.int .u8 (49)]) (rd_byteN bd) All2c.nil))))))))))) rfl rfl
        refine VO.gcallN 117 rfl ⟨_, rfl, rfl⟩ fnOk22 rfl (fun W hW => SameBytes_ok W (OwnL.rd (Ow.ownl f3_0 rfl mnil) (hW.at (i := 103) rfl) (mle_nil _)) (OwnL.rd ho18 (hW.at (i := 116) rfl) (mle_nil _))) (fun v17 m17 hv17 => ?_)
        subst hv17
        refine VO.gy rfl ⟨_, rfl, rfl⟩ (.notD rfl) ?_
        refine VO.y rfl (.pF rfl rfl) ?_
        refine VO.mv ?_
        refine VO.dec (t := 34) rfl (fun hc19 => ?_) (fun hc19 => ?_)
        · -- TFFT
          first | exact absurd rfl hc19 | exact absurd (by first | rfl | decide | (simp only [ru0, ru0l, ru1, ru2, ru3, ruE, ruG1, ruG2, ruG3, ruG4, ruN1, ruC1, ruC2, ruC3]; first | done | rfl | decide | omega)) hc19 | exact absurd hc19 (by first | decide | (simp only [ru0, ru0l, ru1, ru2, ru3, ruE, ruG1, ruG2, ruG3, ruG4, ruN1, ruC1, ruC2, ruC3]; first | done | rfl | decide | omega)) | (simp only [ru0, ru0l, ru1, ru2, ru3, ruE, ruG1, ruG2, ruG3, ruG4, ruN1, ruC1, ruC2, ruC3] at hc19; first | done | exact absurd hc19 (by decide) | exact absurd rfl hc19)
        · -- TFFF
          refine VO.gy rfl ⟨_, rfl, rfl⟩ (.mv rfl) ?_
          refine VO.gcallN 120 rfl ⟨_, rfl, rfl⟩ fnOk12 rfl (fun W hW => example13_ok W ) (fun v20 m20 hv20 => ?_)
          obtain ⟨s20_0, rfl, f20_0⟩ := hv20
          obtain ⟨q20_0_A2, q20_0_c2, q20_0_n2, rfl, q20_0_S, q20_0_0, q20_0_1, q20_0_2⟩ := openO_Run (x0 := exR.1) (x1 := exR.2.1) (x2 := exR.2.2) f20_0
          simp only [inK] at q20_0_0
          simp only [inK] at q20_0_1
          have q20_0_r2 := q20_0_2.rm
          refine VO.inv _ (fun _ h => h.parts (i := 120) rfl q20_0_S [121]) ?_
          refine VO.gcall 105 rfl ⟨_, rfl, rfl⟩ fnOk11 rfl rfl (fun W hW => uFlush_ok W (hW.at (i := 105) rfl) f9_0 (show Rd TRun _ _ exR from (mk_Run (m := mout (wm W) (m9)) exR.1 exR.2.1 exR.2.2 bdk bdk (OwnL.rd (Ow.ownl q20_0_2 rfl mnil) (hW.out (i := 105) (j := 121) rfl rfl) (mle_nil _)))) (by assumption) (by first | (simp only [ru0, ru0l, ru1, ru2, ru3, ruE, ruG1, ruG2, ruG3, ruG4, ruN1, ruC1, ruC2, ruC3]; decide +kernel) | decide +kernel) (by assumption)) (fun v22 m22 hv22 => ?_)
          try dsimp only at hv22
          obtain ⟨rfl, w22_0⟩ := hv22
          have hfa23 := (flush_ok (br := false) (l := ((runF (dRead newD 2).1).1)) (x := exR) (show okD ((uOpen newD).1) by assumption))
          have hfa24 := (flush_w (br := false) (l := ((runF (dRead newD 2).1).1)) (x := exR) (show okD ((uOpen newD).1) by assumption))
          have hfa25 := (flush_okU (d := ((uOpen newD).1)) (br := false) (x := exR) (show okU ((runF (dRead newD 2).1).1) by assumption))
          refine VO.gy rfl ⟨_, rfl, rfl⟩ (.neq rfl rfl) ?_
          refine VO.y rfl (.pF rfl rfl) ?_
          refine VO.k6 0 1 2 3 4 39 ?_
          refine VC.cond rfl (fun hc26 => ?_) (fun hc26 => ?_)
          · -- TFFFT
            first | exact absurd rfl hc26 | exact absurd (by first | rfl | decide | (simp only [ru0, ru0l, ru1, ru2, ru3, ruE, ruG1, ruG2, ruG3, ruG4, ruN1, ruC1, ruC2, ruC3]; first | done | rfl | decide | omega)) hc26 | exact absurd hc26 (by first | decide | (simp only [ru0, ru0l, ru1, ru2, ru3, ruE, ruG1, ruG2, ruG3, ruG4, ruN1, ruC1, ruC2, ruC3]; first | done | rfl | decide | omega)) | (simp only [ru0, ru0l, ru1, ru2, ru3, ruE, ruG1, ruG2, ruG3, ruG4, ruN1, ruC1, ruC2, ruC3] at hc26; first | done | exact absurd hc26 (by decide) | exact absurd rfl hc26)
          · -- TFFFF
            refine VC.skip ?_
            refine outN ?_
            refine VC.rs ?_
            refine VO.mv ?_
            obtain ⟨q28_E, q28_A2, q28_c2, q28_n0, q28_n2, _, q28_S, q28_0, q28_2⟩ := openP_runRuns (x0 := (s5_0, (uFlush ((uOpen newD).1) false ((runF (dRead newD 2).1).1) exR).1.1)) (x1 := (uFlush ((uOpen newD).1) false ((runF (dRead newD 2).1).1) exR).1.2.1) (x2 := (uFlush ((uOpen newD).1) false ((runF (dRead newD 2).1).1) exR).1.2.2) w22_0
            dsimp only at q28_0
            have q28_r2 := q28_2.rm
            refine VO.inv _ (fun _ h => h.parts (i := 105) rfl q28_S [131, 129, 130]) ?_
            refine VO.call 131 rfl fnOk13 rfl rfl (fun W hW => uGet_ok W (d0 := ((some s5_0), (uFlush ((uOpen newD).1) false ((runF (dRead newD 2).1).1) exR).1.2)) (hW.at (i := 131) rfl) (Ow.rd q28_2 (hW.out (i := 131) (j := 130) rfl rfl)) ([98]) bdm (by assumption) (by first | assumption | simp)) (fun v27 m27 hv27 => ?_)
            try dsimp only at hv27
            obtain ⟨rfl, rfl⟩ := hv27
            refine VO.mv ?_
            refine VO.y rfl (.ext rfl rfl) ?_
            refine VO.y rfl (.ext rfl rfl) ?_
            refine VO.y rfl (.ext rfl rfl) ?_
            refine VO.as ?_
            refine VO.as ?_
            refine VO.as ?_
            refine VO.clsP 132 [131, 129, 130] rfl (fun hg32 => (mkP_runRuns (s5_0, (uFlush ((uOpen newD).1) false ((runF (dRead newD 2).1).1) exR).1.1) ((uFlush ((uOpen newD).1) false ((runF (dRead newD 2).1).1) exR).1.2.1) ((uFlush ((uOpen newD).1) false ((runF (dRead newD 2).1).1) exR).1.2.2) hg32 q28_0 q28_2)) (fun mc32 ho32 => ?_)
            refine VO.k9 0 1 2 3 4 5 6 7 39 ?_
            refine VC.rs ?_
            refine VO.mv ?_
            refine VO.call 132 rfl fnOk28 rfl rfl (fun W hW => uEnd_ok W (hW.at (i := 132) rfl) ho32 (by assumption)) (fun v33 m33 hv33 => ?_)
            try dsimp only at hv33
            obtain ⟨rfl, w33_0⟩ := hv33
            refine VO.y rfl (.eql rfl rfl) ?_
            refine VO.mv ?_
            refine VO.dec (t := 49) rfl (fun hc34 => ?_) (fun hc34 => ?_)
            · -- TFFFFT
              refine VO.gy rfl ⟨_, rfl, rfl⟩ (.mv rfl) ?_
              refine VO.gy rfl ⟨_, rfl, rfl⟩ (.seql rfl rfl) ?_
              refine VO.y rfl (.pT rfl rfl) ?_
              refine VO.mv ?_
              refine VO.dec (t := 53) rfl (fun hc35 => ?_) (fun hc35 => ?_)
              · -- TFFFFTT
                refine VO.gy rfl ⟨_, rfl, rfl⟩ (.mv rfl) ?_
                refine VO.y rfl (.pT rfl rfl) ?_
                refine VO.mv ?_
                refine VO.decB (t := 56) rfl (fun hc36 => ?_) (fun hc36 => ?_)
                · -- TFFFFTTT
                  refine VO.gy rfl ⟨_, rfl, rfl⟩ (.mv rfl) ?_
                  refine VO.y rfl (.pT rfl rfl) ?_
                  refine VO.as ?_
                  refine VO.kp [132, 103, 0] [(132, m33), (103, m3), (0, wm W)] ?_
                  refine VO.k9 0 1 2 3 4 5 6 7 39 ?_
                  refine VC.ret ?_
                  refine ⟨_, _, res_run (rs := [.tmp 0]) rfl (.tmp rfl .nil), fun W_ hI => out_of (l := []) hI [] rfl rfl (mle_refl _) (fun hS_ => ?_)⟩
                  dsimp only [packV]
                  all_goals (first | rfl | (first | exact congrArg Value.bool (decide_eq_true (by (simp only [ru0, ru0l, ru1, ru2, ru3, ruE, ruG1, ruG2, ruG3, ruG4, ruN1, ruC1, ruC2, ruC3]; first | done | rfl | decide | omega))) | (show Value.bool _ = Value.bool true; simp only [ru0, ru0l, ru1, ru2, ru3, ruE, ruG1, ruG2, ruG3, ruG4, ruN1, ruC1, ruC2, ruC3]; done) | rfl))
                · -- TFFFFTTF
                  first | exact absurd rfl hc36 | exact absurd (by first | rfl | decide | (simp only [ru0, ru0l, ru1, ru2, ru3, ruE, ruG1, ruG2, ruG3, ruG4, ruN1, ruC1, ruC2, ruC3]; first | done | rfl | decide | omega)) hc36 | exact absurd hc36 (by first | decide | (simp only [ru0, ru0l, ru1, ru2, ru3, ruE, ruG1, ruG2, ruG3, ruG4, ruN1, ruC1, ruC2, ruC3]; first | done | rfl | decide | omega)) | (simp only [ru0, ru0l, ru1, ru2, ru3, ruE, ruG1, ruG2, ruG3, ruG4, ruN1, ruC1, ruC2, ruC3] at hc36; first | done | exact absurd hc36 (by decide) | exact absurd rfl hc36)
              · -- TFFFFTF
                first | exact absurd rfl hc35 | exact absurd (by first | rfl | decide | (simp only [ru0, ru0l, ru1, ru2, ru3, ruE, ruG1, ruG2, ruG3, ruG4, ruN1, ruC1, ruC2, ruC3]; first | done | rfl | decide | omega)) hc35 | exact absurd hc35 (by first | decide | (simp only [ru0, ru0l, ru1, ru2, ru3, ruE, ruG1, ruG2, ruG3, ruG4, ruN1, ruC1, ruC2, ruC3]; first | done | rfl | decide | omega)) | (simp only [ru0, ru0l, ru1, ru2, ru3, ruE, ruG1, ruG2, ruG3, ruG4, ruN1, ruC1, ruC2, ruC3] at hc35; first | done | exact absurd hc35 (by decide) | exact absurd rfl hc35)
            · -- TFFFFF
              first | exact absurd rfl hc34 | exact absurd (by first | rfl | decide | (simp only [ru0, ru0l, ru1, ru2, ru3, ruE, ruG1, ruG2, ruG3, ruG4, ruN1, ruC1, ruC2, ruC3]; first | done | rfl | decide | omega)) hc34 | exact absurd hc34 (by first | decide | (simp only [ru0, ru0l, ru1, ru2, ru3, ruE, ruG1, ruG2, ruG3, ruG4, ruN1, ruC1, ruC2, ruC3]; first | done | rfl | decide | omega)) | (simp only [ru0, ru0l, ru1, ru2, ru3, ruE, ruG1, ruG2, ruG3, ruG4, ruN1, ruC1, ruC2, ruC3] at hc34; first | done | exact absurd hc34 (by decide) | exact absurd rfl hc34)
  · -- F
    first | exact absurd rfl hsp8 | exact absurd (by first | rfl | decide | (simp only [ru0, ru0l, ru1, ru2, ru3, ruE, ruG1, ruG2, ruG3, ruG4, ruN1, ruC1, ruC2, ruC3]; first | done | rfl | decide | omega)) hsp8 | exact absurd hsp8 (by first | decide | (simp only [ru0, ru0l, ru1, ru2, ru3, ruE, ruG1, ruG2, ruG3, ruG4, ruN1, ruC1, ruC2, ruC3]; first | done | rfl | decide | omega)) | (simp only [ru0, ru0l, ru1, ru2, ru3, ruE, ruG1, ruG2, ruG3, ruG4, ruN1, ruC1, ruC2, ruC3] at hsp8; first | done | exact absurd hsp8 (by decide) | exact absurd rfl hsp8)
theorem run_ext {x y : DRun} (h1 : x.1 = y.1) (h2 : x.2.1 = y.2.1) (h3 : x.2.2 = y.2.2) : x = y := Prod.ext h1 (Prod.ext h2 h3)
theorem SameRuns_ok (W : World) {v0 : Value} {d0 : List DRun} (h0 : Rd (.sl TRun) (wm W) [v0] d0) {v1 : Value} {d1 : List DRun} (h1 : Rd (.sl TRun) (wm W) [v1] d1) : CallR Try.prog 23 [v0, v1] W (mnil) (fun v m' => v = .bool (decide (d0 = d1))) := by
  obtain ⟨A0, c0, rfl, l0, k0⟩ := h0.slice
  simp only [maxLen] at k0
  obtain ⟨A1, c1, rfl, l1, k1⟩ := h1.slice
  simp only [maxLen] at k1
  refine CallR.ofA (n := 55) Try.func23 rfl rfl rfl ?_
  refine VC.rs ?_
  refine VO.as ?_
  refine VO.k3 0 1 4 ?_
  refine VC.seq ?_
  refine VC.rs ?_
  refine VO.mv ?_
  refine VO.y rfl (.lenS rfl tsl47) ?_
  refine VO.mv ?_
  refine VO.y rfl (.lenS rfl tsl47) ?_
  refine VO.y rfl (.neq rfl rfl) ?_
  refine VO.k4 0 1 4 10 ?_
  refine VC.cond rfl (fun hc1 => ?_) (fun hc1 => ?_)
  · -- T
    refine VC.rs ?_
    refine VO.as ?_
    refine VO.kp [0] [(0, wm W)] ?_
    refine VO.k4 0 1 4 10 ?_
    refine VC.ret ?_
    refine outR ?_
    refine ⟨_, _, res_run (rs := [.tmp 4]) rfl (.tmp rfl .nil), fun W_ hI => out_of (l := []) hI [] rfl rfl (mle_refl _) (fun hS_ => ?_)⟩
    dsimp only [packV]
    all_goals (first | rfl | (simp [len_ne hc1]))
  · -- F
    refine VC.skip ?_
    refine outN ?_
    refine VC.seq ?_
    refine VC.rs ?_
    refine VO.as ?_
    refine VO.kp [0] [(0, wm W)] ?_
    refine VO.k5 0 1 4 5 10 ?_
    refine VC.block ?_
    refine VC.loop (G := Nat) (fun k => [(5, Value.int .i64 (((k : Nat) : Int))), (0, Value.slice A0 (d0.length) (c0)), (1, Value.slice A1 (d1.length) (c1)), (10, Value.bool (decide (¬ ((d0.length : Nat) : Int) = ((d1.length : Nat) : Int))))]) (fun k => [(0, wm W)]) (fun k => (k ≤ d0.length) ∧ (d0.take k = d1.take k)) (fun k => d0.length - k) 0 (⟨by omega, by rfl⟩) ⟨⟨rfl, rfl, rfl, rfl, trivial⟩, fun _ h => h.sub [0]⟩ ?_
    rintro k ⟨hk, ht⟩
    refine VC.seq ?_
    refine VC.rs ?_
    refine VO.mv ?_
    refine VO.mv ?_
    refine VO.y rfl (.lenS rfl tsl47) ?_
    refine VO.y rfl (.lss rfl rfl) ?_
    refine VO.k5 0 1 5 10 14 ?_
    refine VC.cond rfl (fun hc2 => ?_) (fun hc2 => ?_)
    · -- FT
      refine VC.skip ?_
      refine outN ?_
      refine VC.seq ?_
      refine VC.block ?_
      refine VC.seq ?_
      refine VC.regD _ 35 [(0, true), (1, true), (2, true), (3, true), (4, true), (5, true), (6, true), (7, true), (8, true), (9, true), (10, true), (11, true), (12, true), (13, true), (14, true), (15, true), (16, true), (17, true), (18, true), (19, true), (20, true), (21, true), (22, true), (23, true), (24, true), (25, true), (26, true), (27, true), (28, true), (29, true), (30, true), (31, true), (32, true), (33, true), (34, true)] follows (by kernel_rfl) (fun _ h => h.sub [0]) ?_
      refine VD.y rfl rfl (.inl rfl) (.mv rfl) ?_
      refine VD.y rfl rfl (.inl rfl) (.mv rfl) ?_
      obtain ⟨x3, hx3⟩ : ∃ z_, (d0)[k]? = some z_ := ⟨_, List.getElem?_eq_getElem bd⟩
      obtain ⟨gg3, oo3, ec3, ea3, hce3, hre3⟩ := h0.elem hx3
      cases ea3
      obtain ⟨q3_A2, q3_c2, rfl, q3_0, q3_1, q3_2⟩ := open_Run (x0 := x3.1) (x1 := x3.2.1) (x2 := x3.2.2) hre3
      simp only [inK] at q3_0
      simp only [inK] at q3_1
      have q3_r2 := Rd.room q3_2
      refine VD.y rfl rfl (.inl rfl) (.ixI k rfl rfl tsl47 rfl bd) ?_
      refine VD.y rfl rfl (.inl rfl) (.fa rfl tst32 rfl) ?_
      refine VD.y rfl rfl (.inl rfl) (.ld1 0 rfl tk3 rfl (hce3.at1 (j := 0) rfl)) ?_
      refine VD.y rfl rfl (.inl rfl) (.mv rfl) ?_
      refine VD.y rfl rfl (.inl rfl) (.mv rfl) ?_
      obtain ⟨x4, hx4⟩ : ∃ z_, (d1)[k]? = some z_ := ⟨_, List.getElem?_eq_getElem bd⟩
      obtain ⟨gg4, oo4, ec4, ea4, hce4, hre4⟩ := h1.elem hx4
      cases ea4
      obtain ⟨q4_A2, q4_c2, rfl, q4_0, q4_1, q4_2⟩ := open_Run (x0 := x4.1) (x1 := x4.2.1) (x2 := x4.2.2) hre4
      simp only [inK] at q4_0
      simp only [inK] at q4_1
      have q4_r2 := Rd.room q4_2
      refine VD.y rfl rfl (.inl rfl) (.ixI k rfl rfl tsl47 rfl bd) ?_
      refine VD.y rfl rfl (.inl rfl) (.fa rfl tst32 rfl) ?_
      refine VD.y rfl rfl (.inl rfl) (.ld1 0 rfl tk3 rfl (hce4.at1 (j := 0) rfl)) ?_
      refine VD.y rfl rfl (.inl rfl) (.neq rfl rfl) ?_
      refine VD.y rfl rfl (.inl rfl) (.mv rfl) ?_
      refine VD.dec (s := 28) rfl (fun hc5 => ?_) (fun hc5 => ?_)
      · -- FTT
        refine VD.gn rfl rfl (.inl ⟨_, rfl, rfl⟩) ?_
        refine VD.gn rfl rfl (.inl ⟨_, rfl, rfl⟩) ?_
        refine VD.gn rfl rfl (.inl ⟨_, rfl, rfl⟩) ?_
        refine VD.gn rfl rfl (.inl ⟨_, rfl, rfl⟩) ?_
        refine VD.gn rfl rfl (.inl ⟨_, rfl, rfl⟩) ?_
        refine VD.gn rfl rfl (.inl ⟨_, rfl, rfl⟩) ?_
        refine VD.gn rfl rfl (.inl ⟨_, rfl, rfl⟩) ?_
        refine VD.gn rfl rfl (.inl ⟨_, rfl, rfl⟩) ?_
        refine VD.gn rfl rfl (.inl ⟨_, rfl, rfl⟩) ?_
        refine VD.gn rfl rfl (.inl ⟨_, rfl, rfl⟩) ?_
        refine VD.gn rfl rfl (.inl ⟨_, rfl, rfl⟩) ?_
        refine VD.y rfl rfl (.inl rfl) (.pT rfl rfl) ?_
        refine VD.y rfl rfl (.inl rfl) (.mv rfl) ?_
        refine VD.gn rfl rfl (.inl ⟨_, rfl, rfl⟩) ?_
        refine VD.gn rfl rfl (.inl ⟨_, rfl, rfl⟩) ?_
        refine VD.gn rfl rfl (.inl ⟨_, rfl, rfl⟩) ?_
        refine VD.gn rfl rfl (.inl ⟨_, rfl, rfl⟩) ?_
        refine VD.gn rfl rfl (.inl ⟨_, rfl, rfl⟩) ?_
        refine VD.gn rfl rfl (.inl ⟨_, rfl, rfl⟩) ?_
        refine VD.gn rfl rfl (.inl ⟨_, rfl, rfl⟩) ?_
        refine VD.gn rfl rfl (.inl ⟨_, rfl, rfl⟩) ?_
        refine VD.gn rfl rfl (.inl ⟨_, rfl, rfl⟩) ?_
        refine VD.gn rfl rfl (.inl ⟨_, rfl, rfl⟩) ?_
        refine VD.nil rfl ?_ rfl
        refine VO.gN ?_
        refine VO.gN ?_
        refine VO.y rfl (.pT rfl rfl) ?_
        refine VO.k6 0 1 5 10 14 54 ?_
        refine outN ?_
        refine VC.condT rfl ?_
        refine VC.rs ?_
        refine VO.as ?_
        refine VO.kp [0] [(0, wm W)] ?_
        refine VO.k7 0 1 4 5 10 14 54 ?_
        refine VC.ret ?_
        refine outBR ?_
        refine outR ?_
        refine outR ?_
        refine outBR ?_
        refine outR ?_
        refine ⟨_, _, res_run (rs := [.tmp 4]) rfl (.tmp rfl .nil), fun W_ hI => out_of (l := []) hI [] rfl rfl (mle_refl _) (fun hS_ => ?_)⟩
        dsimp only [packV]
        all_goals (first | rfl | (simp [get_ne ‹d0[k]? = some _› ‹d1[k]? = some _› (fun e_ => by subst e_; first | exact absurd rfl (by assumption) | (have h_ : ¬ (_ : List DOp) = _ := by assumption; exact h_ rfl))]))
      · -- FTF
        refine VD.y rfl rfl (.inr ⟨_, _, rfl, _, rfl, rfl⟩) (.mv rfl) ?_
        refine VD.y rfl rfl (.inr ⟨_, _, rfl, _, rfl, rfl⟩) (.mv rfl) ?_
        refine VD.y rfl rfl (.inr ⟨_, _, rfl, _, rfl, rfl⟩) (.ixI k rfl rfl tsl47 rfl bd) ?_
        refine VD.y rfl rfl (.inr ⟨_, _, rfl, _, rfl, rfl⟩) (.fa rfl tst32 rfl) ?_
        refine VD.y rfl rfl (.inr ⟨_, _, rfl, _, rfl, rfl⟩) (.ld1 0 rfl tk3 rfl (hce3.at1 (j := 1) rfl)) ?_
        refine VD.y rfl rfl (.inr ⟨_, _, rfl, _, rfl, rfl⟩) (.mv rfl) ?_
        refine VD.y rfl rfl (.inr ⟨_, _, rfl, _, rfl, rfl⟩) (.mv rfl) ?_
        refine VD.y rfl rfl (.inr ⟨_, _, rfl, _, rfl, rfl⟩) (.ixI k rfl rfl tsl47 rfl bd) ?_
        refine VD.y rfl rfl (.inr ⟨_, _, rfl, _, rfl, rfl⟩) (.fa rfl tst32 rfl) ?_
        refine VD.y rfl rfl (.inr ⟨_, _, rfl, _, rfl, rfl⟩) (.ld1 0 rfl tk3 rfl (hce4.at1 (j := 1) rfl)) ?_
        refine VD.y rfl rfl (.inr ⟨_, _, rfl, _, rfl, rfl⟩) (.neq rfl rfl) ?_
        refine VD.y rfl rfl (.inl rfl) (.pF rfl rfl) ?_
        refine VD.y rfl rfl (.inl rfl) (.mv rfl) ?_
        refine VD.dec (s := 41) rfl (fun hc8 => ?_) (fun hc8 => ?_)
        · -- FTFT
          refine VD.gn rfl rfl (.inl ⟨_, rfl, rfl⟩) ?_
          refine VD.gn rfl rfl (.inl ⟨_, rfl, rfl⟩) ?_
          refine VD.gn rfl rfl (.inl ⟨_, rfl, rfl⟩) ?_
          refine VD.gn rfl rfl (.inl ⟨_, rfl, rfl⟩) ?_
          refine VD.gn rfl rfl (.inl ⟨_, rfl, rfl⟩) ?_
          refine VD.gn rfl rfl (.inl ⟨_, rfl, rfl⟩) ?_
          refine VD.gn rfl rfl (.inl ⟨_, rfl, rfl⟩) ?_
          refine VD.gn rfl rfl (.inl ⟨_, rfl, rfl⟩) ?_
          refine VD.gn rfl rfl (.inl ⟨_, rfl, rfl⟩) ?_
          refine VD.gn rfl rfl (.inl ⟨_, rfl, rfl⟩) ?_
          refine VD.nil rfl ?_ rfl
          refine VO.gN ?_
          refine VO.gN ?_
          refine VO.y rfl (.pT rfl rfl) ?_
          refine VO.k6 0 1 5 10 14 54 ?_
          refine outN ?_
          refine VC.condT rfl ?_
          refine VC.rs ?_
          refine VO.as ?_
          refine VO.kp [0] [(0, wm W)] ?_
          refine VO.k7 0 1 4 5 10 14 54 ?_
          refine VC.ret ?_
          refine outBR ?_
          refine outR ?_
          refine outR ?_
          refine outBR ?_
          refine outR ?_
          refine ⟨_, _, res_run (rs := [.tmp 4]) rfl (.tmp rfl .nil), fun W_ hI => out_of (l := []) hI [] rfl rfl (mle_refl _) (fun hS_ => ?_)⟩
          dsimp only [packV]
          all_goals (first | rfl | (simp [get_ne ‹d0[k]? = some _› ‹d1[k]? = some _› (fun e_ => by subst e_; first | exact absurd rfl (by assumption) | (have h_ : ¬ (_ : List DOp) = _ := by assumption; exact h_ rfl))]))
        · -- FTFF
          refine VD.y rfl rfl (.inr ⟨_, _, rfl, _, rfl, rfl⟩) (.mv rfl) ?_
          refine VD.y rfl rfl (.inr ⟨_, _, rfl, _, rfl, rfl⟩) (.mv rfl) ?_
          refine VD.y rfl rfl (.inr ⟨_, _, rfl, _, rfl, rfl⟩) (.ixI k rfl rfl tsl47 rfl bd) ?_
          refine VD.y rfl rfl (.inr ⟨_, _, rfl, _, rfl, rfl⟩) (.fa rfl tst32 rfl) ?_
          refine VD.y rfl rfl (.inr ⟨_, _, rfl, _, rfl, rfl⟩) (.ld1 0 rfl tk30 rfl (hce3.at1 (j := 2) rfl)) ?_
          refine VD.y rfl rfl (.inr ⟨_, _, rfl, _, rfl, rfl⟩) (.mv rfl) ?_
          refine VD.y rfl rfl (.inr ⟨_, _, rfl, _, rfl, rfl⟩) (.mv rfl) ?_
          refine VD.y rfl rfl (.inr ⟨_, _, rfl, _, rfl, rfl⟩) (.ixI k rfl rfl tsl47 rfl bd) ?_
          refine VD.y rfl rfl (.inr ⟨_, _, rfl, _, rfl, rfl⟩) (.fa rfl tst32 rfl) ?_
          refine VD.y rfl rfl (.inr ⟨_, _, rfl, _, rfl, rfl⟩) (.ld1 0 rfl tk30 rfl (hce4.at1 (j := 2) rfl)) ?_
          refine VD.nil rfl ?_ rfl
          refine VO.gcallN 111 rfl ⟨_, rfl, rfl⟩ fnOk62 rfl (fun W hW => SameOps_ok W (Rd.mono q3_2 (hW.at (i := 0) rfl)) (Rd.mono q4_2 (hW.at (i := 0) rfl))) (fun v11 m11 hv11 => ?_)
          subst hv11
          refine VO.gy rfl ⟨_, rfl, rfl⟩ (.notD rfl) ?_
          refine VO.y rfl (.pF rfl rfl) ?_
          refine VO.k6 0 1 5 10 14 54 ?_
          refine outN ?_
          refine VC.cond rfl (fun hc12 => ?_) (fun hc12 => ?_)
          · -- FTFFT
            refine VC.rs ?_
            refine VO.as ?_
            refine VO.kp [0] [(0, wm W)] ?_
            refine VO.k7 0 1 4 5 10 14 54 ?_
            refine VC.ret ?_
            refine outBR ?_
            refine outR ?_
            refine outR ?_
            refine outBR ?_
            refine outR ?_
            refine ⟨_, _, res_run (rs := [.tmp 4]) rfl (.tmp rfl .nil), fun W_ hI => out_of (l := []) hI [] rfl rfl (mle_refl _) (fun hS_ => ?_)⟩
            dsimp only [packV]
            all_goals (first | rfl | (simp [get_ne ‹d0[k]? = some _› ‹d1[k]? = some _› (fun e_ => by subst e_; first | exact absurd rfl (by assumption) | (have h_ : ¬ (_ : List DOp) = _ := by assumption; exact h_ rfl))]))
          · -- FTFFF
            refine VC.skip ?_
            refine outBN ?_
            refine outN ?_
            refine VC.reg ?_
            refine VO.mv ?_
            refine VO.y rfl (.add (c := ((k + 1 : Nat) : Int)) rfl rfl (by omega) ⟨bd, bd⟩) ?_
            refine VO.as ?_
            refine VO.kp [0] [(0, wm W)] ?_
            refine VO.k6 0 1 5 10 14 54 ?_
            exact outN ⟨k + 1, ⟨by omega, by exact take_next ht ‹d0[k]? = some _› ‹d1[k]? = some _› (run_ext (by omega) (by omega) (by first | assumption | exact Decidable.not_not.1 (by assumption)))⟩, bd, ⟨⟨rfl, rfl, rfl, rfl, trivial⟩, fun _ h => Inv.sub h [0]⟩⟩
    · -- FF
      refine VC.exit ?_
      refine outE ?_
      refine outE ?_
      refine outBB ?_
      refine outN ?_
      refine VC.rs ?_
      refine VO.as ?_
      refine VO.k6 0 1 4 5 10 14 ?_
      refine VC.ret ?_
      refine ⟨_, _, res_run (rs := [.tmp 4]) rfl (.tmp rfl .nil), fun W_ hI => out_of (l := []) hI [] rfl rfl (mle_refl _) (fun hS_ => ?_)⟩
      dsimp only [packV]
      all_goals (first | rfl | (simp [take_all ht (by omega) (by omega)]))
theorem fnOk30 : fnOk Try.prog 30 = true := by kernel_rfl
theorem fnOk31 : fnOk Try.prog 31 = true := by kernel_rfl
theorem fnOk33 : fnOk Try.prog 33 = true := by kernel_rfl
theorem fnOk34 : fnOk Try.prog 34 = true := by kernel_rfl
theorem fnOk23 : fnOk Try.prog 23 = true := by kernel_rfl
theorem fnOk29 : fnOk Try.prog 29 = true := by kernel_rfl
theorem fnOk8 : fnOk Try.prog 8 = true := by kernel_rfl
theorem fin1_runKeeps_ok {P : Prop} (h : P := by first | exact congrArg Value.bool (decide_eq_true (hk2.resolve_left (by assumption))) | rfl) : P := h
set_option maxHeartbeats 8000000 in
theorem runKeeps_ok (W : World) {v0 : Value} {d0 : List (List DOp)} (h0 : Rd (.sl (.sl TOp)) (wm W) [v0] d0) (d1 : Int) (h1 : inK .i64 d1) (d2 : Int) (h2 : inK .i64 d2) (d3 : Int) (h3 : inK .i64 d3) : CallR Try.prog 6 [v0, .int .i64 d1, .int .i64 d2, .int .i64 d3] W (mnil) (fun v m' => v = .bool true) := by
  obtain ⟨A0, c0, rfl, l0, k0⟩ := h0.slice
  simp only [maxLen] at k0
  have h1' := h1; simp only [inK] at h1'
  have h2' := h2; simp only [inK] at h2'
  have h3' := h3; simp only [inK] at h3'
  refine CallR.ofA (n := 130) Try.func6 rfl rfl rfl ?_
  refine VC.rs ?_
  refine VO.as ?_
  refine VO.k5 0 1 2 3 8 ?_
  refine VC.seq ?_
  refine VC.rs ?_
  refine VO.callN 101 rfl fnOk8 rfl (fun W hW => lives13_ok W ) (fun v1 m1 hv1 => ?_)
  subst hv1
  refine VO.y rfl (.not rfl) ?_
  refine VO.k6 0 1 2 3 8 18 ?_
  refine VC.condF rfl ?_
  refine VC.skip ?_
  refine outN ?_
  refine VC.seq ?_
  refine VC.rs ?_
  refine VO.mv ?_
  refine VO.y rfl (.lenS rfl tsl52) ?_
  refine VO.y rfl (.gtr rfl rfl) ?_
  refine VO.mv ?_
  refine VO.dec (t := 22) rfl (fun hc2 => ?_) (fun hc2 => ?_)
  · -- T
    refine VO.gN ?_
    refine VO.gN ?_
    refine VO.y rfl (.pT rfl rfl) ?_
    refine VO.mv ?_
    refine VO.gN ?_
    refine VO.gN ?_
    refine VO.y rfl (.pT rfl rfl) ?_
    refine VO.kp [0] [(0, wm W)] ?_
    refine VO.k7 0 1 2 3 8 18 29 ?_
    refine VC.condT rfl ?_
    refine VC.rs ?_
    refine VO.as ?_
    refine VO.k7 0 1 2 3 8 18 29 ?_
    refine VC.ret ?_
    refine outR ?_
    refine ⟨_, _, res_run (rs := [.tmp 8]) rfl (.tmp rfl .nil), fun W_ hI => out_of (l := []) hI [] rfl rfl (mle_refl _) (fun hS_ => ?_)⟩
    dsimp only [packV]
    all_goals (first | rfl | (exact fin1_runKeeps_ok))
  · -- F
    refine VO.gy rfl ⟨_, rfl, rfl⟩ (.mv rfl) ?_
    refine VO.gy rfl ⟨_, rfl, rfl⟩ (.lss rfl rfl) ?_
    refine VO.y rfl (.pF rfl rfl) ?_
    refine VO.mv ?_
    refine VO.dec (t := 26) rfl (fun hc3 => ?_) (fun hc3 => ?_)
    · -- FT
      refine VO.gN ?_
      refine VO.gN ?_
      refine VO.y rfl (.pT rfl rfl) ?_
      refine VO.kp [0] [(0, wm W)] ?_
      refine VO.k7 0 1 2 3 8 18 29 ?_
      refine VC.condT rfl ?_
      refine VC.rs ?_
      refine VO.as ?_
      refine VO.k7 0 1 2 3 8 18 29 ?_
      refine VC.ret ?_
      refine outR ?_
      refine ⟨_, _, res_run (rs := [.tmp 8]) rfl (.tmp rfl .nil), fun W_ hI => out_of (l := []) hI [] rfl rfl (mle_refl _) (fun hS_ => ?_)⟩
      dsimp only [packV]
      all_goals (first | rfl | (exact fin1_runKeeps_ok))
    · -- FF
      refine VO.gy rfl ⟨_, rfl, rfl⟩ (.mv rfl) ?_
      refine VO.gy rfl ⟨_, rfl, rfl⟩ (.lss rfl rfl) ?_
      refine VO.y rfl (.pF rfl rfl) ?_
      refine VO.kp [0] [(0, wm W)] ?_
      refine VO.k7 0 1 2 3 8 18 29 ?_
      refine VC.cond rfl (fun hc4 => ?_) (fun hc4 => ?_)
      · -- FFT
        refine VC.rs ?_
        refine VO.as ?_
        refine VO.k7 0 1 2 3 8 18 29 ?_
        refine VC.ret ?_
        refine outR ?_
        refine ⟨_, _, res_run (rs := [.tmp 8]) rfl (.tmp rfl .nil), fun W_ hI => out_of (l := []) hI [] rfl rfl (mle_refl _) (fun hS_ => ?_)⟩
        dsimp only [packV]
        all_goals (first | rfl | (exact fin1_runKeeps_ok))
      · -- FFF
        refine VC.skip ?_
        refine outN ?_
        refine VC.rs ?_
        refine VO.callN 105 rfl fnOk10 rfl (fun W hW => dNew_ok W ) (fun v5 m5 hv5 => ?_)
        obtain ⟨s5_0, rfl, f5_0⟩ := hv5
        have hfa6 := okD_new
        have hfa7 := (show wD newD = 0 from rfl)
        refine VO.as ?_
        refine VO.k8 0 1 2 3 8 9 18 29 ?_
        refine VC.rs ?_
        refine VO.mv ?_
        by_cases hsp8 : (uOpen newD).2 = 0
        · -- FFFT
          refine VO.call 105 rfl fnOk9 rfl rfl (fun W hW => uOpenY_ok W (hW.at (i := 105) rfl) f5_0 (by assumption) bd (by assumption)) (fun v9 m9 hv9 => ?_)
          obtain ⟨s9_0, rfl, f9_0⟩ := hv9
          have hfa10 := (uopen_ok (show okD newD by assumption))
          have hfa11 := (uopen_w (show okD newD by assumption))
          have hfa12 := (runF_ok (dRead newD 2).1).1
          refine VO.mv ?_
          refine VO.y rfl (.ext rfl rfl) ?_
          refine VO.y rfl (.ext rfl rfl) ?_
          refine VO.as ?_
          refine VO.as ?_
          refine VO.k10 0 1 2 3 8 9 10 11 18 29 ?_
          refine VC.seq ?_
          refine VC.rs ?_
          refine VO.mv ?_
          refine VO.y rfl (.neq rfl rfl) ?_
          refine VO.mv ?_
          refine VO.dec (t := 38) rfl (fun hc13 => ?_) (fun hc13 => ?_)
          · -- FFFTT
            first | exact absurd rfl hc13 | exact absurd (by decide) hc13 | (refine absurd ?_ hc13; rw [ru0]; done) | (refine absurd ?_ hc13; rw [ru0]; exact (ku_fuse ku_new (by omega)).1) | exact absurd (kq_pull hkq (by assumption)).1 hc13 | exact absurd (kq_start (kq_pull hkq (by assumption)).2.1 (kq_pull hkq (by assumption)).2.2 (by omega) (by omega)).1 hc13 | exact absurd (kq_start hkq (kq_off hkq (by assumption)) (by omega) (by omega)).1 hc13 | exact absurd hko.1 hc13 | exact absurd (hkr.2 (by assumption)).1 hc13 | exact absurd ((congrArg (fun q : Bool × List DRun => endR q.2) (hkr.2 (by assumption)).2.2).trans (hl.2.trans hl.1.symm)) hc13 | (exfalso; omega)
          · -- FFFTF
            refine VO.gy rfl ⟨_, rfl, rfl⟩ (.mv rfl) ?_
            refine VO.gy rfl ⟨_, rfl, rfl⟩ (.pnil rfl rfl Try.underlying23 rfl) ?_
            refine VO.y rfl (.pF rfl rfl) ?_
            refine VO.kp [105, 0] [(105, m9), (0, wm W)] ?_
            refine VO.k11 0 1 2 3 8 9 10 11 18 29 41 ?_
            refine VC.condF rfl ?_
            refine VC.skip ?_
            refine outN ?_
            refine VC.seqJ (G := DdiskDisk × Bool × (List DRun) × Mem) (fun g => [(0, Value.slice A0 (d0.length) (c0)), (2, Value.int .i64 (d2)), (3, Value.int .i64 (d3)), (8, Value.bool false), (9, Value.pointer (some ⟨s5_0, 0, none⟩)), (10, Value.pointer (some ⟨s9_0, 0, none⟩)), (11, Value.int .i64 (0))]) (fun g => [(122, (g.2.2.2)), (0, wm W)]) (fun g => (Ku (g.1) []) ∧ ((g.2.1) = false) ∧ ((g.2.2.1) = []) ∧ (wD (g.1) ≤ 10) ∧ (Ow (.ptr TrunRuns) (g.2.2.2) [.pointer (some ⟨s9_0, 0, none⟩)] (s9_0, ((s5_0, (g.1)), (g.2.1), (g.2.2.1))))) ?_ ?_
            · -- FFFTFTFJ
              rintro ⟨f_0, f_1, f_2, f_m⟩ ⟨hk0, hb0, hc0, hw0, h_f⟩
              replace hk0 : Ku f_0 [] := hk0
              replace hb0 : f_1 = false := hb0
              replace hc0 : f_2 = [] := hc0
              replace hw0 : wD f_0 ≤ 10 := hw0
              replace h_f : Ow (.ptr TrunRuns) f_m [.pointer (some ⟨s9_0, 0, none⟩)] (s9_0, ((s5_0, f_0), f_1, f_2)) := h_f
              show VC _ _ _ _ _ [(0, Value.slice A0 (d0.length) (c0)), (2, Value.int .i64 (d2)), (3, Value.int .i64 (d3)), (8, Value.bool false), (9, Value.pointer (some ⟨s5_0, 0, none⟩)), (10, Value.pointer (some ⟨s9_0, 0, none⟩)), (11, Value.int .i64 (0))] [(122, f_m), (0, wm W)]
              refine VC.rs ?_
              refine VO.as ?_
              refine VO.as ?_
              refine VO.k9 0 2 3 8 9 10 11 12 13 ?_
              refine VC.seq ?_
              refine VC.rs ?_
              refine VO.as ?_
              refine VO.kp [122, 0] [(122, f_m), (0, wm W)] ?_
              refine VO.k10 0 2 3 8 9 10 11 12 13 14 ?_
              refine VC.block ?_
              refine VC.inv _ (fun _ h => h.nilc 124) ?_
              have hp25_0 : Rd (.sl TRun) (mnil) [Value.slice none (0) (0)] [] := (Rd.nil _ _ none 0 (Nat.zero_le _))
              have hp25_1 : Rd (.sl TRun) (mnil) [Value.slice none (0) (0)] [] := (Rd.nil _ _ none 0 (Nat.zero_le _))
              refine VC.loop (G := Mem × Nat × DdiskDisk × Bool × (List DRun) × Mem × (List DRun) × (Option Addr) × Nat × (List DRun) × (Option Addr) × Nat) (fun g => [(12, Value.slice (g.2.2.2.2.2.2.2.1) ((g.2.2.2.2.2.2.1).length) ((g.2.2.2.2.2.2.2.2.1))), (13, Value.slice (g.2.2.2.2.2.2.2.2.2.2.1) ((g.2.2.2.2.2.2.2.2.2.1).length) ((g.2.2.2.2.2.2.2.2.2.2.2))), (14, Value.int .i64 ((((g.2.1) : Nat) : Int))), (0, Value.slice A0 (d0.length) (c0)), (2, Value.int .i64 (d2)), (3, Value.int .i64 (d3)), (9, Value.pointer (some ⟨s5_0, 0, none⟩)), (10, Value.pointer (some ⟨s9_0, 0, none⟩))]) (fun g => [(124, (g.1)), (122, (g.2.2.2.2.2.1)), (0, wm W)]) (fun g => ((g.2.1) ≤ d0.length) ∧ (Ku (g.2.2.1) (g.2.2.2.2.2.2.1)) ∧ ((g.2.2.2.1) = false) ∧ ((g.2.2.2.2.1) = (g.2.2.2.2.2.2.1)) ∧ ((g.2.2.2.2.2.2.2.2.2.1) = (g.2.2.2.2.2.2.1)) ∧ (((g.2.2.2.2.2.2.1).length : Int) = (g.2.1) ∧ endR (g.2.2.2.2.2.2.1) = (g.2.1)) ∧ (wD (g.2.2.1) ≤ 200000 * (g.2.1) + 10) ∧ (Rd (.sl TRun) ((g.1)) [.slice (g.2.2.2.2.2.2.2.1) (g.2.2.2.2.2.2.1).length (g.2.2.2.2.2.2.2.2.1)] (g.2.2.2.2.2.2.1)) ∧ (Rd (.sl TRun) ((g.1)) [.slice (g.2.2.2.2.2.2.2.2.2.2.1) (g.2.2.2.2.2.2.2.2.2.1).length (g.2.2.2.2.2.2.2.2.2.2.2)] (g.2.2.2.2.2.2.2.2.2.1)) ∧ (Ow (.ptr TrunRuns) (g.2.2.2.2.2.1) [.pointer (some ⟨s9_0, 0, none⟩)] (s9_0, ((s5_0, (g.2.2.1)), (g.2.2.2.1), (g.2.2.2.2.1))))) (fun g => d0.length - (g.2.1)) (mnil, 0, f_0, f_1, f_2, f_m, [], none, 0, [], none, 0) (⟨by (dsimp only; omega), by exact hk0, by exact hb0, by exact hc0, by rfl, by exact ⟨rfl, rfl⟩, by (dsimp only; omega), hp25_0, hp25_1, h_f⟩) ⟨⟨rfl, rfl, rfl, rfl, rfl, rfl, rfl, rfl, trivial⟩, fun _ h => h.sub [124, 122, 0]⟩ ?_
              rintro ⟨pm, i, w_0, w_1, w_2, w_m, sure, sure_A, sure_c, perh, perh_A, perh_c⟩ ⟨hi, hk, hb, hc, hp, hl, hw, h_sure, h_perh, h_w⟩
              replace hi : i ≤ d0.length := hi
              replace hk : Ku w_0 sure := hk
              replace hb : w_1 = false := hb
              replace hc : w_2 = sure := hc
              replace hp : perh = sure := hp
              replace hl : (sure.length : Int) = i ∧ endR sure = i := hl
              replace hw : wD w_0 ≤ 200000 * i + 10 := hw
              replace h_sure : Rd (.sl TRun) (pm) [.slice sure_A sure.length sure_c] sure := h_sure
              replace h_perh : Rd (.sl TRun) (pm) [.slice perh_A perh.length perh_c] perh := h_perh
              replace h_w : Ow (.ptr TrunRuns) w_m [.pointer (some ⟨s9_0, 0, none⟩)] (s9_0, ((s5_0, w_0), w_1, w_2)) := h_w
              show VC _ _ _ _ _ [(12, Value.slice sure_A (sure.length) (sure_c)), (13, Value.slice perh_A (perh.length) (perh_c)), (14, Value.int .i64 (((i : Nat) : Int))), (0, Value.slice A0 (d0.length) (c0)), (2, Value.int .i64 (d2)), (3, Value.int .i64 (d3)), (9, Value.pointer (some ⟨s5_0, 0, none⟩)), (10, Value.pointer (some ⟨s9_0, 0, none⟩))] [(124, pm), (122, w_m), (0, wm W)]
              have l_sure : sure.length ≤ sure_c := by obtain ⟨_, _, he, hl, _⟩ := h_sure.slice; simp only [Value.slice.injEq] at he; omega
              have k_sure : sure_c ≤ 9223372036854775807 := by obtain ⟨_, _, he, _, hl⟩ := h_sure.slice; simp only [Value.slice.injEq, maxLen] at he hl; omega
              have l_perh : perh.length ≤ perh_c := by obtain ⟨_, _, he, hl, _⟩ := h_perh.slice; simp only [Value.slice.injEq] at he; omega
              have k_perh : perh_c ≤ 9223372036854775807 := by obtain ⟨_, _, he, _, hl⟩ := h_perh.slice; simp only [Value.slice.injEq, maxLen] at he hl; omega
              have hok := ku_ok hk
              have hku := hk.2.1
              have hkw : okU w_2 := by rw [hc]; exact hku
              refine VC.seq ?_
              refine VC.rs ?_
              refine VO.mv ?_
              refine VO.mv ?_
              refine VO.y rfl (.lenS rfl tsl52) ?_
              refine VO.y rfl (.lss rfl rfl) ?_
              refine VO.k9 0 2 3 9 10 12 13 14 53 ?_
              refine VC.cond rfl (fun hc26 => ?_) (fun hc26 => ?_)
              · -- FFFTFTFJT
                refine VC.skip ?_
                refine outN ?_
                refine VC.seq ?_
                refine VC.block ?_
                refine VC.seq ?_
                refine VC.rs ?_
                refine VO.mv ?_
                refine VO.mv ?_
                obtain ⟨x27, hx27⟩ : ∃ z_, (d0)[i]? = some z_ := ⟨_, List.getElem?_eq_getElem bd⟩
                obtain ⟨gg27, oo27, ec27, ea27, hce27, hre27⟩ := h0.elem hx27
                cases ea27
                have hr27 := hre27
                obtain ⟨A27_, c27_, rfl, _⟩ := hre27
                have rr27 := Rd.room hr27
                refine VO.y rfl (.ixI i rfl rfl tsl52 rfl bd) ?_
                refine VO.y rfl (.ld1 0 rfl tk30 rfl hce27) ?_
                refine VO.y rfl (.lenS rfl tsl30) ?_
                refine VO.y rfl (.gtr rfl rfl) ?_
                refine VO.k10 0 2 3 9 10 12 13 14 53 61 ?_
                refine VC.cond rfl (fun hc28 => ?_) (fun hc28 => ?_)
                · -- FFFTFTFJTT
                  refine VC.rs ?_
                  refine VO.as ?_
                  refine VO.kp [124, 122, 0] [(124, pm), (122, w_m), (0, wm W)] ?_
                  refine VO.k11 0 2 3 8 9 10 12 13 14 53 61 ?_
                  refine VC.ret ?_
                  refine outR ?_
                  refine outBR ?_
                  refine outR ?_
                  refine outR ?_
                  refine outBR ?_
                  refine outR ?_
                  refine ⟨_, _, res_run (rs := [.tmp 8]) rfl (.tmp rfl .nil), fun W_ hI => out_of (l := []) hI [] rfl rfl (mle_refl _) (fun hS_ => ?_)⟩
                  dsimp only [packV]
                  all_goals (first | rfl | (exact fin1_runKeeps_ok))
                · -- FFFTFTFJTF
                  refine VC.skip ?_
                  refine outN ?_
                  refine VC.rs ?_
                  refine VO.mv ?_
                  refine VO.y rfl (.lenS rfl tsl47) ?_
                  refine VO.y rfl (.add (c := ((sure.length + 1 : Nat) : Int)) rfl rfl (by omega) ⟨bd, bd⟩) ?_
                  refine VO.mv ?_
                  refine VO.y rfl (.lenS rfl tsl47) ?_
                  refine VO.y rfl (.add (c := ((sure.length + 1 : Nat) : Int)) rfl rfl (by omega) ⟨bd, bd⟩) ?_
                  refine VO.mv ?_
                  refine VO.mv ?_
                  refine VO.y rfl (.ixI i rfl rfl tsl52 rfl bd) ?_
                  refine VO.y rfl (.ld1 0 rfl tk30 rfl hce27) ?_
                  refine VO.callN 130 rfl fnOk31 rfl (fun W hW => sorted13_ok W (Rd.mono hr27 (hW.at (i := 0) rfl)) bd) (fun v30 m30 hv30 => ?_)
                  obtain ⟨s30_0, rfl, f30_0⟩ := hv30
                  have hfa31 := sorted_up x27
                  obtain ⟨A30_0, c30_0, eq30_0, l30_0, k30_0⟩ := f30_0.slice
                  subst eq30_0
                  simp only [maxLen] at k30_0
                  refine VO.y rfl (.bst (cs := [Value.int .i64 (((sure.length + 1 : Nat) : Int)), Value.int .i64 (((sure.length + 1 : Nat) : Int)), Value.slice A30_0 ((sortedOf x27).length) (c30_0)]) rfl tst32 tz32 rfl) ?_
                  refine VO.alloc 133 rfl tz32 (fun g32 => ?_)
                  refine VO.store (k := 3) (c' := [Value.int .i64 (((sure.length + 1 : Nat) : Int)), Value.int .i64 (((sure.length + 1 : Nat) : Int)), Value.slice A30_0 ((sortedOf x27).length) (c30_0)]) 133 rfl rfl (.inl tk32) rfl rfl rfl rfl rfl ?_
                  refine VO.kp [133, 130, 124, 122, 0] [(133, mone g32 (.cells [Value.int .i64 (((sure.length + 1 : Nat) : Int)), Value.int .i64 (((sure.length + 1 : Nat) : Int)), Value.slice A30_0 ((sortedOf x27).length) (c30_0)].toArray 32 (0, 0))), (130, m30), (124, pm), (122, w_m), (0, wm W)] ?_
                  refine VO.k11 0 2 3 9 10 12 13 14 15 53 61 ?_
                  refine VC.rs ?_
                  refine VO.mv ?_
                  refine VO.y rfl (.ldA 133 rfl tk32 rfl (cellsAt_one rfl rfl)) ?_
                  refine VO.call 122 rfl fnOk11 rfl rfl (fun W hW => uFlush_ok W (hW.at (i := 122) rfl) h_w (mk_Run (m := mout (wm W) (w_m)) ((sure.length + 1 : Nat) : Int) ((sure.length + 1 : Nat) : Int) (sortedOf x27) bdk bdk (OwnL.rd (Ow.ownl f30_0 rfl mnil) (hW.out (i := 122) (j := 130) rfl rfl) (mle_nil _))) (by assumption) bd (by assumption)) (fun v34 m34 hv34 => ?_)
                  try dsimp only at hv34
                  obtain ⟨rfl, w34_0⟩ := hv34
                  have hfa35 := (flush_ok (br := w_1) (l := w_2) (x := (((sure.length + 1 : Nat) : Int), ((sure.length + 1 : Nat) : Int), sortedOf x27)) (show okD w_0 by assumption))
                  have hfa36 := (flush_w (br := w_1) (l := w_2) (x := (((sure.length + 1 : Nat) : Int), ((sure.length + 1 : Nat) : Int), sortedOf x27)) (show okD w_0 by assumption))
                  have hfa37 := (flush_okU (d := w_0) (br := w_1) (x := (((sure.length + 1 : Nat) : Int), ((sure.length + 1 : Nat) : Int), sortedOf x27)) (show okU w_2 by assumption))
                  refine VO.as ?_
                  have hkr := keeps_round (y := x27) hk hb hc hl (by omega) (by omega)
                  refine VO.gather (l := [pm, m30]) 140 [124, 130] rfl (fun hg39 => ?_)
                  have hp39_0 : Rd (.sl TRun) (muns [pm, m30]) [Value.slice sure_A (sure.length) (sure_c)] sure := (Rd.mono h_sure (hg39.1 _ (.head _)))
                  have hp39_1 : Rd (.sl TOp) (muns [pm, m30]) [Value.slice A30_0 ((sortedOf x27).length) (c30_0)] (sortedOf x27) := (OwnL.rd (Ow.ownl f30_0 rfl mnil) (hg39.1 _ (.tail _ (.head _))) (mle_nil _))
                  refine VO.k12 0 2 3 9 10 11 12 13 14 15 53 61 ?_
                  refine VC.seq ?_
                  refine VC.regE [(140, muns [pm, m30]), (122, m34), (133, mone g32 (.cells [Value.int .i64 (((sure.length + 1 : Nat) : Int)), Value.int .i64 (((sure.length + 1 : Nat) : Int)), Value.slice A30_0 ((sortedOf x27).length) (c30_0)].toArray 32 (0, 0))), (0, wm W)] 5 follows (by kernel_rfl) (fun _ h => h.sub [140, 122, 133, 0]) ?_
                  refine VE.y 1 rfl rfl (.inl rfl) (by kernel_rfl) (.mv rfl) ?_
                  refine VE.y 3 rfl rfl (.inl rfl) (by kernel_rfl) (.ldA 133 rfl tk32 rfl (cellsAt_one rfl rfl)) ?_
                  refine VE.tree [0, 4] (by kernel_rfl) ⟨?_, ?_, trivial⟩
                  · -- FFFTFTFJTF0
                    refine VI.bsl (cs := []) 142 rfl rfl rfl tsl47 tz32 rfl rfl (fun _ h => Inv.sbK [140, 122, 133, 0] h) (fun g41 => ?_)
                    refine VE.tree [2, 4] (by kernel_rfl) ⟨?_, ?_, trivial⟩
                    · -- FFFTFTFJTF00
                      have hoz43 : OwnL TRun (mone g41 (.cells [].toArray 32 (0, 0))) (muns [pm, m30]) (Value.slice (some ⟨g41, 0, none⟩) (0) (0)) [] := OwnL.lit 0 All2c.nil rfl rfl
                      obtain ⟨mo43, cs43, hM43, hA43, hC43⟩ := hoz43
                      obtain ⟨all43, hS43, hR43⟩ := Rd.srcI (P := Try.prog) (hp39_0) Try.underlying47
                      refine VI.app 142 rfl rfl rfl rfl tsl47 tz32 rfl rfl hM43 hA43 (hS43 _ 140 rfl) hR43.nice bdm bd (by decide) (fun _ _ h => Inv.sbK [140, 122, 133, 0] h) (fun v43 m43 hN43 => ?_)
                      have ho43 : OwnL TRun m43 (muns [pm, m30]) v43 (sure) := OwnL.more hC43 hN43 hR43
                      obtain ⟨A43, c43, rfl, l43, k43⟩ := ho43.slice
                      simp only [maxLen] at k43
                      refine VE.tree [4] (by kernel_rfl) ⟨?_, trivial⟩
                      refine VI.bsl (cs := [Value.int .i64 (((sure.length + 1 : Nat) : Int)), Value.int .i64 (((sure.length + 1 : Nat) : Int)), Value.slice A30_0 ((sortedOf x27).length) (c30_0)]) 145 rfl rfl rfl tsl47 tz32 rfl rfl (fun _ h => Inv.sbK [140, 122, 133, 0] h) (fun g44 => ?_)
                      refine VE.nil (by kernel_rfl) rfl ?_ rfl
                      obtain ⟨mo46, cs46, hM46, hA46, hC46⟩ := ho43
                      refine VO.app 142 rfl rfl rfl tsl47 tz32 rfl rfl hM46 hA46 (.row 145 _ _ _ 1 1 _ _ Try.underlying47 rfl (cellsAt_one rfl rfl)) (by simp [Value.oneCell']) bdm bd (by decide) (fun v46 m46 hN46 => ?_)
                      have ho46 : OwnL TRun m46 (muns [pm, m30]) v46 (sure ++ [(((sure.length + 1 : Nat) : Int), ((sure.length + 1 : Nat) : Int), sortedOf x27)]) := OwnL.one hC46 hN46 (mk_Run (m := (muns [pm, m30])) ((sure.length + 1 : Nat) : Int) ((sure.length + 1 : Nat) : Int) (sortedOf x27) bdk bdk (Rd.mono hp39_1 (mle_refl _)))
                      obtain ⟨A46, c46, rfl, l46, k46⟩ := ho46.slice
                      simp only [maxLen] at k46
                      refine VO.as ?_
                      refine VO.k12 0 2 3 9 10 11 12 13 14 15 53 61 ?_
                      refine outN ?_
                      refine VC.seq ?_
                      refine VC.rs ?_
                      refine VO.mv ?_
                      refine VO.y rfl (.neq rfl rfl) ?_
                      refine VO.kp [142, 140, 122, 133, 0] [(142, m46), (140, muns [pm, m30]), (122, m34), (133, mone g32 (.cells [Value.int .i64 (((sure.length + 1 : Nat) : Int)), Value.int .i64 (((sure.length + 1 : Nat) : Int)), Value.slice A30_0 ((sortedOf x27).length) (c30_0)].toArray 32 (0, 0))), (0, wm W)] ?_
                      refine VO.k13 0 2 3 9 10 11 12 13 14 15 53 61 84 ?_
                      refine VC.cond rfl (fun hc47 => ?_) (fun hc47 => ?_)
                      · -- FFFTFTFJTF00T
                        refine VC.seq ?_
                        refine VC.rs ?_
                        refine VO.mv ?_
                        refine VO.y rfl (.neq rfl rfl) ?_
                        refine VO.mv ?_
                        refine VO.dec (t := 87) rfl (fun hc48 => ?_) (fun hc48 => ?_)
                        · -- FFFTFTFJTF00TT
                          first | exact absurd rfl hc48 | exact absurd (by decide) hc48 | (refine absurd ?_ hc48; rw [ru0]; done) | (refine absurd ?_ hc48; rw [ru0]; exact (ku_fuse ku_new (by omega)).1) | exact absurd (kq_pull hkq (by assumption)).1 hc48 | exact absurd (kq_start (kq_pull hkq (by assumption)).2.1 (kq_pull hkq (by assumption)).2.2 (by omega) (by omega)).1 hc48 | exact absurd (kq_start hkq (kq_off hkq (by assumption)) (by omega) (by omega)).1 hc48 | exact absurd hko.1 hc48 | exact absurd (hkr.2 (by assumption)).1 hc48 | exact absurd ((congrArg (fun q : Bool × List DRun => endR q.2) (hkr.2 (by assumption)).2.2).trans (hl.2.trans hl.1.symm)) hc48 | (exfalso; omega)
                        · -- FFFTFTFJTF00TF
                          refine VO.gy rfl ⟨_, rfl, rfl⟩ (.mv rfl) ?_
                          refine VO.gcall 122 rfl ⟨_, rfl, rfl⟩ fnOk28 rfl rfl (fun W hW => uEnd_ok W (hW.at (i := 122) rfl) w34_0 (by assumption)) (fun v49 m49 hv49 => ?_)
                          try dsimp only at hv49
                          obtain ⟨rfl, w49_0⟩ := hv49
                          refine VO.gy rfl ⟨_, rfl, rfl⟩ (.mv rfl) ?_
                          refine VO.gy rfl ⟨_, rfl, rfl⟩ (.lenS rfl tsl47) ?_
                          refine VO.gy rfl ⟨_, rfl, rfl⟩ (.neq rfl rfl) ?_
                          refine VO.y rfl (.pF rfl rfl) ?_
                          refine VO.k14 0 2 3 9 10 11 12 13 14 15 53 61 84 93 ?_
                          refine VC.cond rfl (fun hc50 => ?_) (fun hc50 => ?_)
                          · -- FFFTFTFJTF00TFT
                            first | exact absurd rfl hc50 | exact absurd (by decide) hc50 | (refine absurd ?_ hc50; rw [ru0]; done) | (refine absurd ?_ hc50; rw [ru0]; exact (ku_fuse ku_new (by omega)).1) | exact absurd (kq_pull hkq (by assumption)).1 hc50 | exact absurd (kq_start (kq_pull hkq (by assumption)).2.1 (kq_pull hkq (by assumption)).2.2 (by omega) (by omega)).1 hc50 | exact absurd (kq_start hkq (kq_off hkq (by assumption)) (by omega) (by omega)).1 hc50 | exact absurd hko.1 hc50 | exact absurd (hkr.2 (by assumption)).1 hc50 | exact absurd ((congrArg (fun q : Bool × List DRun => endR q.2) (hkr.2 (by assumption)).2.2).trans (hl.2.trans hl.1.symm)) hc50 | (exfalso; omega)
                          · -- FFFTFTFJTF00TFF
                            refine VC.skip ?_
                            refine outN ?_
                            refine VC.exit ?_
                            refine outE ?_
                            refine outBE rfl ?_
                            refine outE ?_
                            refine outE ?_
                            refine outBB ?_
                            refine outN ?_
                            refine VC.seq ?_
                            refine VC.rs ?_
                            obtain ⟨q51_E, q51_A2, q51_c2, q51_n0, q51_n2, _, q51_S, q51_0, q51_2⟩ := openP_runRuns (x0 := (s5_0, ((uFlush w_0 w_1 w_2 (((sure.length + 1 : Nat) : Int), ((sure.length + 1 : Nat) : Int), sortedOf x27)).1.1))) (x1 := ((uFlush w_0 w_1 w_2 (((sure.length + 1 : Nat) : Int), ((sure.length + 1 : Nat) : Int), sortedOf x27)).1.2.1)) (x2 := ((uFlush w_0 w_1 w_2 (((sure.length + 1 : Nat) : Int), ((sure.length + 1 : Nat) : Int), sortedOf x27)).1.2.2)) w49_0
                            dsimp only at q51_0
                            have q51_r2 := q51_2.rm
                            refine VO.inv _ (fun _ h => h.parts (i := 122) rfl q51_S [154, 152, 153]) ?_
                            have hkq : Kq (((uFlush w_0 w_1 w_2 (((sure.length + 1 : Nat) : Int), ((sure.length + 1 : Nat) : Int), sortedOf x27)).1.1)) (sure ++ [(((sure.length + 1 : Nat) : Int), ((sure.length + 1 : Nat) : Int), sortedOf x27)]) (sure) := by first | exact (hkr.2 (by assumption)).2.1 | (rw [hp]; exact ku_kq hk)
                            have hqo := kq_ok hkq
                            refine VO.mv ?_
                            refine VO.call 152 rfl fnOk32 rfl rfl (fun W hW => dOn_ok W (hW.at (i := 152) rfl) q51_0) (fun v55 m55 hv55 => ?_)
                            obtain ⟨rfl, w55_0⟩ := hv55
                            refine VO.mv ?_
                            refine VO.dec (t := 97) rfl (fun hc56 => ?_) (fun hc56 => ?_)
                            · -- FFFTFTFJTF00TFFT
                              refine VO.gy rfl ⟨_, rfl, rfl⟩ (.mv rfl) ?_
                              refine VO.gcall 152 rfl ⟨_, rfl, rfl⟩ fnOk33 rfl rfl (fun W hW => dPull_ok W (hW.at (i := 152) rfl) w55_0 (by assumption)) (fun v57 m57 hv57 => ?_)
                              obtain ⟨rfl, w57_0⟩ := hv57
                              have hfa58 := (pull_ok (show okD ((uFlush w_0 w_1 w_2 (((sure.length + 1 : Nat) : Int), ((sure.length + 1 : Nat) : Int), sortedOf x27)).1.1) by assumption))
                              have hfa59 := (pull_w ((uFlush w_0 w_1 w_2 (((sure.length + 1 : Nat) : Int), ((sure.length + 1 : Nat) : Int), sortedOf x27)).1.1))
                              refine VO.gy rfl ⟨_, rfl, rfl⟩ (.neq rfl rfl) ?_
                              refine VO.y rfl (.pT rfl rfl) ?_
                              refine VO.mv ?_
                              refine VO.dec (t := 102) rfl (fun hc60 => ?_) (fun hc60 => ?_)
                              · -- FFFTFTFJTF00TFFTT
                                first | exact absurd rfl hc60 | exact absurd (by decide) hc60 | (refine absurd ?_ hc60; rw [ru0]; done) | (refine absurd ?_ hc60; rw [ru0]; exact (ku_fuse ku_new (by omega)).1) | exact absurd (kq_pull hkq (by assumption)).1 hc60 | exact absurd (kq_start (kq_pull hkq (by assumption)).2.1 (kq_pull hkq (by assumption)).2.2 (by omega) (by omega)).1 hc60 | exact absurd (kq_start hkq (kq_off hkq (by assumption)) (by omega) (by omega)).1 hc60 | exact absurd hko.1 hc60 | exact absurd (hkr.2 (by assumption)).1 hc60 | exact absurd ((congrArg (fun q : Bool × List DRun => endR q.2) (hkr.2 (by assumption)).2.2).trans (hl.2.trans hl.1.symm)) hc60 | (exfalso; omega)
                              · -- FFFTFTFJTF00TFFTF
                                refine VO.gy rfl ⟨_, rfl, rfl⟩ (.mv rfl) ?_
                                refine VO.gy rfl ⟨_, rfl, rfl⟩ (.mv rfl) ?_
                                refine VO.gy rfl ⟨_, rfl, rfl⟩ (.mv rfl) ?_
                                refine VO.gcall 152 rfl ⟨_, rfl, rfl⟩ fnOk34 rfl rfl (fun W hW => dStart_ok W (hW.at (i := 152) rfl) w57_0 d2 bdk d3 bdk (by assumption) bd) (fun v61 m61 hv61 => ?_)
                                obtain ⟨rfl, w61_0⟩ := hv61
                                have hfa62 := (start_ok (k := d2) (t := d3) (show okD ((dPull ((uFlush w_0 w_1 w_2 (((sure.length + 1 : Nat) : Int), ((sure.length + 1 : Nat) : Int), sortedOf x27)).1.1)).1) by assumption))
                                have hfa63 := (start_w ((dPull ((uFlush w_0 w_1 w_2 (((sure.length + 1 : Nat) : Int), ((sure.length + 1 : Nat) : Int), sortedOf x27)).1.1)).1) d2 d3)
                                refine VO.gy rfl ⟨_, rfl, rfl⟩ (.neq rfl rfl) ?_
                                refine VO.y rfl (.pF rfl rfl) ?_
                                refine VO.clsP 164 [154, 152, 153] rfl (fun hg64 => (mkP_runRuns (s5_0, (dStart ((dPull ((uFlush w_0 w_1 w_2 (((sure.length + 1 : Nat) : Int), ((sure.length + 1 : Nat) : Int), sortedOf x27)).1.1)).1) d2 d3).1) ((uFlush w_0 w_1 w_2 (((sure.length + 1 : Nat) : Int), ((sure.length + 1 : Nat) : Int), sortedOf x27)).1.2.1) ((uFlush w_0 w_1 w_2 (((sure.length + 1 : Nat) : Int), ((sure.length + 1 : Nat) : Int), sortedOf x27)).1.2.2) hg64 w61_0 q51_2)) (fun mc64 ho64 => ?_)
                                refine VO.k15 0 2 3 9 10 11 12 13 14 15 53 61 84 93 108 ?_
                                refine VC.cond rfl (fun hc65 => ?_) (fun hc65 => ?_)
                                · -- FFFTFTFJTF00TFFTFT
                                  first | exact absurd rfl hc65 | exact absurd (by decide) hc65 | (refine absurd ?_ hc65; rw [ru0]; done) | (refine absurd ?_ hc65; rw [ru0]; exact (ku_fuse ku_new (by omega)).1) | exact absurd (kq_pull hkq (by assumption)).1 hc65 | exact absurd (kq_start (kq_pull hkq (by assumption)).2.1 (kq_pull hkq (by assumption)).2.2 (by omega) (by omega)).1 hc65 | exact absurd (kq_start hkq (kq_off hkq (by assumption)) (by omega) (by omega)).1 hc65 | exact absurd hko.1 hc65 | exact absurd (hkr.2 (by assumption)).1 hc65 | exact absurd ((congrArg (fun q : Bool × List DRun => endR q.2) (hkr.2 (by assumption)).2.2).trans (hl.2.trans hl.1.symm)) hc65 | (exfalso; omega)
                                · -- FFFTFTFJTF00TFFTFF
                                  refine VC.skip ?_
                                  refine outN ?_
                                  refine VC.rs ?_
                                  obtain ⟨q66_E, q66_A2, q66_c2, q66_n0, q66_n2, _, q66_S, q66_0, q66_2⟩ := openP_runRuns (x0 := (s5_0, (dStart ((dPull ((uFlush w_0 w_1 w_2 (((sure.length + 1 : Nat) : Int), ((sure.length + 1 : Nat) : Int), sortedOf x27)).1.1)).1) d2 d3).1)) (x1 := ((uFlush w_0 w_1 w_2 (((sure.length + 1 : Nat) : Int), ((sure.length + 1 : Nat) : Int), sortedOf x27)).1.2.1)) (x2 := ((uFlush w_0 w_1 w_2 (((sure.length + 1 : Nat) : Int), ((sure.length + 1 : Nat) : Int), sortedOf x27)).1.2.2)) ho64
                                  dsimp only at q66_0
                                  have q66_r2 := q66_2.rm
                                  refine VO.inv _ (fun _ h => h.parts (i := 164) rfl q66_S [169, 167, 168]) ?_
                                  have hkrr : Kr ((dStart ((dPull ((uFlush w_0 w_1 w_2 (((sure.length + 1 : Nat) : Int), ((sure.length + 1 : Nat) : Int), sortedOf x27)).1.1)).1) d2 d3).1) (sure ++ [(((sure.length + 1 : Nat) : Int), ((sure.length + 1 : Nat) : Int), sortedOf x27)]) (sure) := by first | exact (kq_start (kq_pull hkq (by assumption)).2.1 (kq_pull hkq (by assumption)).2.2 (by omega) (by omega)).2 | exact (kq_start hkq (kq_off hkq (by assumption)) (by omega) (by omega)).2
                                  have hko := kr_open hkrr; have hk2 := kr_two hkrr (by first | (rw [hp]; omega) | (simp; done))
                                  refine VO.mv ?_
                                  by_cases hsp70 : (uOpen ((dStart ((dPull ((uFlush w_0 w_1 w_2 (((sure.length + 1 : Nat) : Int), ((sure.length + 1 : Nat) : Int), sortedOf x27)).1.1)).1) d2 d3).1)).2 = 0
                                  · -- FFFTFTFJTF00TFFTFFT
                                    refine VO.call 167 rfl fnOk9 rfl rfl (fun W hW => uOpenY_ok W (hW.at (i := 167) rfl) q66_0 (by assumption) bd (by assumption)) (fun v71 m71 hv71 => ?_)
                                    obtain ⟨s71_0, rfl, f71_0⟩ := hv71
                                    have hfa72 := (uopen_ok (show okD ((dStart ((dPull ((uFlush w_0 w_1 w_2 (((sure.length + 1 : Nat) : Int), ((sure.length + 1 : Nat) : Int), sortedOf x27)).1.1)).1) d2 d3).1) by assumption))
                                    have hfa73 := (uopen_w (show okD ((dStart ((dPull ((uFlush w_0 w_1 w_2 (((sure.length + 1 : Nat) : Int), ((sure.length + 1 : Nat) : Int), sortedOf x27)).1.1)).1) d2 d3).1) by assumption))
                                    have hfa74 := (runF_ok (dRead ((dStart ((dPull ((uFlush w_0 w_1 w_2 (((sure.length + 1 : Nat) : Int), ((sure.length + 1 : Nat) : Int), sortedOf x27)).1.1)).1) d2 d3).1) 2).1).1
                                    refine VO.mv ?_
                                    refine VO.y rfl (.ext rfl rfl) ?_
                                    refine VO.y rfl (.ext rfl rfl) ?_
                                    refine VO.as ?_
                                    refine VO.as ?_
                                    refine VO.kp [167, 169, 168, 142, 140, 133, 0] [(167, m71), (169, mone s9_0 (.cells [Value.pointer (some ⟨s5_0, 0, none⟩), Value.bool ((uFlush w_0 w_1 w_2 (((sure.length + 1 : Nat) : Int), ((sure.length + 1 : Nat) : Int), sortedOf x27)).1.2.1), Value.slice q66_A2 (((uFlush w_0 w_1 w_2 (((sure.length + 1 : Nat) : Int), ((sure.length + 1 : Nat) : Int), sortedOf x27)).1.2.2).length) (q66_c2)].toArray q66_E (0, 0))), (168, q66_n2), (142, m46), (140, muns [pm, m30]), (133, mone g32 (.cells [Value.int .i64 (((sure.length + 1 : Nat) : Int)), Value.int .i64 (((sure.length + 1 : Nat) : Int)), Value.slice A30_0 ((sortedOf x27).length) (c30_0)].toArray 32 (0, 0))), (0, wm W)] ?_
                                    refine VO.k16 0 2 3 9 10 11 12 13 14 15 16 53 61 84 93 108 ?_
                                    refine VC.seq ?_
                                    refine VC.rs ?_
                                    refine VO.mv ?_
                                    refine VO.y rfl (.neq rfl rfl) ?_
                                    refine VO.mv ?_
                                    refine VO.known (t := 116) false rfl (decide_eq_false hc13) ?_
                                    refine VO.gy rfl ⟨_, rfl, rfl⟩ (.mv rfl) ?_
                                    refine VO.gy rfl ⟨_, rfl, rfl⟩ (.pnil rfl rfl Try.underlying23 rfl) ?_
                                    refine VO.y rfl (.pF rfl rfl) ?_
                                    refine VO.k17 0 2 3 9 10 11 12 13 14 15 16 53 61 84 93 108 119 ?_
                                    refine VC.condF rfl ?_
                                    refine VC.skip ?_
                                    refine outN ?_
                                    refine VC.rs ?_
                                    refine VO.mv ?_
                                    refine VO.call 167 rfl fnOk29 rfl rfl (fun W hW => uList_ok W (hW.at (i := 167) rfl) f71_0 (by assumption)) (fun v75 m75 hv75 => ?_)
                                    try dsimp only at hv75
                                    obtain ⟨s75_0, p75_0, p75_1, rfl, hS75, f75_0, w75_0⟩ := hv75
                                    refine VO.inv _ (fun _ h => h.parts (i := 167) rfl hS75 [176, 177]) ?_
                                    obtain ⟨A75_0, c75_0, eq75_0, l75_0, k75_0⟩ := f75_0.slice
                                    subst eq75_0
                                    simp only [maxLen] at k75_0
                                    refine VO.mv ?_
                                    refine VO.callN 178 rfl fnOk23 rfl (fun W hW => SameRuns_ok W (Ow.rd f75_0 (hW.at (i := 176) rfl)) (Rd.mono hp39_0 (hW.at (i := 140) rfl))) (fun v78 m78 hv78 => ?_)
                                    subst hv78
                                    refine VO.mv ?_
                                    refine VO.dec (t := 124) rfl (fun hc79 => ?_) (fun hc79 => ?_)
                                    · -- FFFTFTFJTF00TFFTFFTT
                                      refine VO.gN ?_
                                      refine VO.gN ?_
                                      refine VO.gN ?_
                                      refine VO.gN ?_
                                      refine VO.y rfl (.pT rfl rfl) ?_
                                      refine VO.as ?_
                                      refine VO.k18 0 2 3 8 9 10 11 12 13 14 15 16 53 61 84 93 108 119 ?_
                                      refine VC.ret ?_
                                      refine ⟨_, _, res_run (rs := [.tmp 8]) rfl (.tmp rfl .nil), fun W_ hI => out_of (l := []) hI [] rfl rfl (mle_refl _) (fun hS_ => ?_)⟩
                                      dsimp only [packV]
                                      all_goals (first | rfl | (exact fin1_runKeeps_ok))
                                    · -- FFFTFTFJTF00TFFTFFTF
                                      refine VO.gy rfl ⟨_, rfl, rfl⟩ (.mv rfl) ?_
                                      refine VO.gcall 177 rfl ⟨_, rfl, rfl⟩ fnOk29 rfl rfl (fun W hW => uList_ok W (hW.at (i := 177) rfl) w75_0 (by assumption)) (fun v80 m80 hv80 => ?_)
                                      try dsimp only at hv80
                                      obtain ⟨s80_0, p80_0, p80_1, rfl, hS80, f80_0, w80_0⟩ := hv80
                                      refine VO.inv _ (fun _ h => h.parts (i := 177) rfl hS80 [181, 182]) ?_
                                      obtain ⟨A80_0, c80_0, eq80_0, l80_0, k80_0⟩ := f80_0.slice
                                      subst eq80_0
                                      simp only [maxLen] at k80_0
                                      refine VO.gy rfl ⟨_, rfl, rfl⟩ (.mv rfl) ?_
                                      refine VO.gcallN 183 rfl ⟨_, rfl, rfl⟩ fnOk23 rfl (fun W hW => SameRuns_ok W (Ow.rd f80_0 (hW.at (i := 181) rfl)) (OwnL.rd ho46 (hW.at (i := 142) rfl) (hW.at (i := 140) rfl))) (fun v83 m83 hv83 => ?_)
                                      subst hv83
                                      refine VO.y rfl (.pF rfl rfl) ?_
                                      refine VO.as ?_
                                      refine VO.k18 0 2 3 8 9 10 11 12 13 14 15 16 53 61 84 93 108 119 ?_
                                      refine VC.ret ?_
                                      refine ⟨_, _, res_run (rs := [.tmp 8]) rfl (.tmp rfl .nil), fun W_ hI => out_of (l := []) hI [] rfl rfl (mle_refl _) (fun hS_ => ?_)⟩
                                      dsimp only [packV]
                                      all_goals (first | rfl | (exact fin1_runKeeps_ok))
                                  · -- FFFTFTFJTF00TFFTFFF
                                    first | exact absurd rfl hsp70 | exact absurd (by decide) hsp70 | (refine absurd ?_ hsp70; rw [ru0]; done) | (refine absurd ?_ hsp70; rw [ru0]; exact (ku_fuse ku_new (by omega)).1) | exact absurd (kq_pull hkq (by assumption)).1 hsp70 | exact absurd (kq_start (kq_pull hkq (by assumption)).2.1 (kq_pull hkq (by assumption)).2.2 (by omega) (by omega)).1 hsp70 | exact absurd (kq_start hkq (kq_off hkq (by assumption)) (by omega) (by omega)).1 hsp70 | exact absurd hko.1 hsp70 | exact absurd (hkr.2 (by assumption)).1 hsp70 | exact absurd ((congrArg (fun q : Bool × List DRun => endR q.2) (hkr.2 (by assumption)).2.2).trans (hl.2.trans hl.1.symm)) hsp70 | (exfalso; omega)
                            · -- FFFTFTFJTF00TFFF
                              refine VO.gN ?_
                              refine VO.gN ?_
                              refine VO.gN ?_
                              refine VO.y rfl (.pF rfl rfl) ?_
                              refine VO.mv ?_
                              refine VO.gy rfl ⟨_, rfl, rfl⟩ (.mv rfl) ?_
                              refine VO.gy rfl ⟨_, rfl, rfl⟩ (.mv rfl) ?_
                              refine VO.gy rfl ⟨_, rfl, rfl⟩ (.mv rfl) ?_
                              refine VO.gcall 152 rfl ⟨_, rfl, rfl⟩ fnOk34 rfl rfl (fun W hW => dStart_ok W (hW.at (i := 152) rfl) w55_0 d2 bdk d3 bdk (by assumption) bd) (fun v84 m84 hv84 => ?_)
                              obtain ⟨rfl, w84_0⟩ := hv84
                              have hfa85 := (start_ok (k := d2) (t := d3) (show okD ((uFlush w_0 w_1 w_2 (((sure.length + 1 : Nat) : Int), ((sure.length + 1 : Nat) : Int), sortedOf x27)).1.1) by assumption))
                              have hfa86 := (start_w ((uFlush w_0 w_1 w_2 (((sure.length + 1 : Nat) : Int), ((sure.length + 1 : Nat) : Int), sortedOf x27)).1.1) d2 d3)
                              refine VO.gy rfl ⟨_, rfl, rfl⟩ (.neq rfl rfl) ?_
                              refine VO.y rfl (.pF rfl rfl) ?_
                              refine VO.clsP 187 [154, 152, 153] rfl (fun hg87 => (mkP_runRuns (s5_0, (dStart ((uFlush w_0 w_1 w_2 (((sure.length + 1 : Nat) : Int), ((sure.length + 1 : Nat) : Int), sortedOf x27)).1.1) d2 d3).1) ((uFlush w_0 w_1 w_2 (((sure.length + 1 : Nat) : Int), ((sure.length + 1 : Nat) : Int), sortedOf x27)).1.2.1) ((uFlush w_0 w_1 w_2 (((sure.length + 1 : Nat) : Int), ((sure.length + 1 : Nat) : Int), sortedOf x27)).1.2.2) hg87 w84_0 q51_2)) (fun mc87 ho87 => ?_)
                              refine VO.k15 0 2 3 9 10 11 12 13 14 15 53 61 84 93 108 ?_
                              refine VC.cond rfl (fun hc88 => ?_) (fun hc88 => ?_)
                              · -- FFFTFTFJTF00TFFFT
                                first | exact absurd rfl hc88 | exact absurd (by decide) hc88 | (refine absurd ?_ hc88; rw [ru0]; done) | (refine absurd ?_ hc88; rw [ru0]; exact (ku_fuse ku_new (by omega)).1) | exact absurd (kq_pull hkq (by assumption)).1 hc88 | exact absurd (kq_start (kq_pull hkq (by assumption)).2.1 (kq_pull hkq (by assumption)).2.2 (by omega) (by omega)).1 hc88 | exact absurd (kq_start hkq (kq_off hkq (by assumption)) (by omega) (by omega)).1 hc88 | exact absurd hko.1 hc88 | exact absurd (hkr.2 (by assumption)).1 hc88 | exact absurd ((congrArg (fun q : Bool × List DRun => endR q.2) (hkr.2 (by assumption)).2.2).trans (hl.2.trans hl.1.symm)) hc88 | (exfalso; omega)
                              · -- FFFTFTFJTF00TFFFF
                                refine VC.skip ?_
                                refine outN ?_
                                refine VC.rs ?_
                                obtain ⟨q89_E, q89_A2, q89_c2, q89_n0, q89_n2, _, q89_S, q89_0, q89_2⟩ := openP_runRuns (x0 := (s5_0, (dStart ((uFlush w_0 w_1 w_2 (((sure.length + 1 : Nat) : Int), ((sure.length + 1 : Nat) : Int), sortedOf x27)).1.1) d2 d3).1)) (x1 := ((uFlush w_0 w_1 w_2 (((sure.length + 1 : Nat) : Int), ((sure.length + 1 : Nat) : Int), sortedOf x27)).1.2.1)) (x2 := ((uFlush w_0 w_1 w_2 (((sure.length + 1 : Nat) : Int), ((sure.length + 1 : Nat) : Int), sortedOf x27)).1.2.2)) ho87
                                dsimp only at q89_0
                                have q89_r2 := q89_2.rm
                                refine VO.inv _ (fun _ h => h.parts (i := 187) rfl q89_S [192, 190, 191]) ?_
                                have hkrr : Kr ((dStart ((uFlush w_0 w_1 w_2 (((sure.length + 1 : Nat) : Int), ((sure.length + 1 : Nat) : Int), sortedOf x27)).1.1) d2 d3).1) (sure ++ [(((sure.length + 1 : Nat) : Int), ((sure.length + 1 : Nat) : Int), sortedOf x27)]) (sure) := by first | exact (kq_start (kq_pull hkq (by assumption)).2.1 (kq_pull hkq (by assumption)).2.2 (by omega) (by omega)).2 | exact (kq_start hkq (kq_off hkq (by assumption)) (by omega) (by omega)).2
                                have hko := kr_open hkrr; have hk2 := kr_two hkrr (by first | (rw [hp]; omega) | (simp; done))
                                refine VO.mv ?_
                                by_cases hsp93 : (uOpen ((dStart ((uFlush w_0 w_1 w_2 (((sure.length + 1 : Nat) : Int), ((sure.length + 1 : Nat) : Int), sortedOf x27)).1.1) d2 d3).1)).2 = 0
                                · -- FFFTFTFJTF00TFFFFT
                                  refine VO.call 190 rfl fnOk9 rfl rfl (fun W hW => uOpenY_ok W (hW.at (i := 190) rfl) q89_0 (by assumption) bd (by assumption)) (fun v94 m94 hv94 => ?_)
                                  obtain ⟨s94_0, rfl, f94_0⟩ := hv94
                                  have hfa95 := (uopen_ok (show okD ((dStart ((uFlush w_0 w_1 w_2 (((sure.length + 1 : Nat) : Int), ((sure.length + 1 : Nat) : Int), sortedOf x27)).1.1) d2 d3).1) by assumption))
                                  have hfa96 := (uopen_w (show okD ((dStart ((uFlush w_0 w_1 w_2 (((sure.length + 1 : Nat) : Int), ((sure.length + 1 : Nat) : Int), sortedOf x27)).1.1) d2 d3).1) by assumption))
                                  have hfa97 := (runF_ok (dRead ((dStart ((uFlush w_0 w_1 w_2 (((sure.length + 1 : Nat) : Int), ((sure.length + 1 : Nat) : Int), sortedOf x27)).1.1) d2 d3).1) 2).1).1
                                  refine VO.mv ?_
                                  refine VO.y rfl (.ext rfl rfl) ?_
                                  refine VO.y rfl (.ext rfl rfl) ?_
                                  refine VO.as ?_
                                  refine VO.as ?_
                                  refine VO.kp [190, 192, 191, 142, 140, 133, 0] [(190, m94), (192, mone s9_0 (.cells [Value.pointer (some ⟨s5_0, 0, none⟩), Value.bool ((uFlush w_0 w_1 w_2 (((sure.length + 1 : Nat) : Int), ((sure.length + 1 : Nat) : Int), sortedOf x27)).1.2.1), Value.slice q89_A2 (((uFlush w_0 w_1 w_2 (((sure.length + 1 : Nat) : Int), ((sure.length + 1 : Nat) : Int), sortedOf x27)).1.2.2).length) (q89_c2)].toArray q89_E (0, 0))), (191, q89_n2), (142, m46), (140, muns [pm, m30]), (133, mone g32 (.cells [Value.int .i64 (((sure.length + 1 : Nat) : Int)), Value.int .i64 (((sure.length + 1 : Nat) : Int)), Value.slice A30_0 ((sortedOf x27).length) (c30_0)].toArray 32 (0, 0))), (0, wm W)] ?_
                                  refine VO.k16 0 2 3 9 10 11 12 13 14 15 16 53 61 84 93 108 ?_
                                  refine VC.seq ?_
                                  refine VC.rs ?_
                                  refine VO.mv ?_
                                  refine VO.y rfl (.neq rfl rfl) ?_
                                  refine VO.mv ?_
                                  refine VO.known (t := 116) false rfl (decide_eq_false hc13) ?_
                                  refine VO.gy rfl ⟨_, rfl, rfl⟩ (.mv rfl) ?_
                                  refine VO.gy rfl ⟨_, rfl, rfl⟩ (.pnil rfl rfl Try.underlying23 rfl) ?_
                                  refine VO.y rfl (.pF rfl rfl) ?_
                                  refine VO.k17 0 2 3 9 10 11 12 13 14 15 16 53 61 84 93 108 119 ?_
                                  refine VC.condF rfl ?_
                                  refine VC.skip ?_
                                  refine outN ?_
                                  refine VC.rs ?_
                                  refine VO.mv ?_
                                  refine VO.call 190 rfl fnOk29 rfl rfl (fun W hW => uList_ok W (hW.at (i := 190) rfl) f94_0 (by assumption)) (fun v98 m98 hv98 => ?_)
                                  try dsimp only at hv98
                                  obtain ⟨s98_0, p98_0, p98_1, rfl, hS98, f98_0, w98_0⟩ := hv98
                                  refine VO.inv _ (fun _ h => h.parts (i := 190) rfl hS98 [199, 200]) ?_
                                  obtain ⟨A98_0, c98_0, eq98_0, l98_0, k98_0⟩ := f98_0.slice
                                  subst eq98_0
                                  simp only [maxLen] at k98_0
                                  refine VO.mv ?_
                                  refine VO.callN 201 rfl fnOk23 rfl (fun W hW => SameRuns_ok W (Ow.rd f98_0 (hW.at (i := 199) rfl)) (Rd.mono hp39_0 (hW.at (i := 140) rfl))) (fun v101 m101 hv101 => ?_)
                                  subst hv101
                                  refine VO.mv ?_
                                  refine VO.dec (t := 124) rfl (fun hc102 => ?_) (fun hc102 => ?_)
                                  · -- FFFTFTFJTF00TFFFFTT
                                    refine VO.gN ?_
                                    refine VO.gN ?_
                                    refine VO.gN ?_
                                    refine VO.gN ?_
                                    refine VO.y rfl (.pT rfl rfl) ?_
                                    refine VO.as ?_
                                    refine VO.k18 0 2 3 8 9 10 11 12 13 14 15 16 53 61 84 93 108 119 ?_
                                    refine VC.ret ?_
                                    refine ⟨_, _, res_run (rs := [.tmp 8]) rfl (.tmp rfl .nil), fun W_ hI => out_of (l := []) hI [] rfl rfl (mle_refl _) (fun hS_ => ?_)⟩
                                    dsimp only [packV]
                                    all_goals (first | rfl | (exact fin1_runKeeps_ok))
                                  · -- FFFTFTFJTF00TFFFFTF
                                    refine VO.gy rfl ⟨_, rfl, rfl⟩ (.mv rfl) ?_
                                    refine VO.gcall 200 rfl ⟨_, rfl, rfl⟩ fnOk29 rfl rfl (fun W hW => uList_ok W (hW.at (i := 200) rfl) w98_0 (by assumption)) (fun v103 m103 hv103 => ?_)
                                    try dsimp only at hv103
                                    obtain ⟨s103_0, p103_0, p103_1, rfl, hS103, f103_0, w103_0⟩ := hv103
                                    refine VO.inv _ (fun _ h => h.parts (i := 200) rfl hS103 [204, 205]) ?_
                                    obtain ⟨A103_0, c103_0, eq103_0, l103_0, k103_0⟩ := f103_0.slice
                                    subst eq103_0
                                    simp only [maxLen] at k103_0
                                    refine VO.gy rfl ⟨_, rfl, rfl⟩ (.mv rfl) ?_
                                    refine VO.gcallN 206 rfl ⟨_, rfl, rfl⟩ fnOk23 rfl (fun W hW => SameRuns_ok W (Ow.rd f103_0 (hW.at (i := 204) rfl)) (OwnL.rd ho46 (hW.at (i := 142) rfl) (hW.at (i := 140) rfl))) (fun v106 m106 hv106 => ?_)
                                    subst hv106
                                    refine VO.y rfl (.pF rfl rfl) ?_
                                    refine VO.as ?_
                                    refine VO.k18 0 2 3 8 9 10 11 12 13 14 15 16 53 61 84 93 108 119 ?_
                                    refine VC.ret ?_
                                    refine ⟨_, _, res_run (rs := [.tmp 8]) rfl (.tmp rfl .nil), fun W_ hI => out_of (l := []) hI [] rfl rfl (mle_refl _) (fun hS_ => ?_)⟩
                                    dsimp only [packV]
                                    all_goals (first | rfl | (exact fin1_runKeeps_ok))
                                · -- FFFTFTFJTF00TFFFFF
                                  first | exact absurd rfl hsp93 | exact absurd (by decide) hsp93 | (refine absurd ?_ hsp93; rw [ru0]; done) | (refine absurd ?_ hsp93; rw [ru0]; exact (ku_fuse ku_new (by omega)).1) | exact absurd (kq_pull hkq (by assumption)).1 hsp93 | exact absurd (kq_start (kq_pull hkq (by assumption)).2.1 (kq_pull hkq (by assumption)).2.2 (by omega) (by omega)).1 hsp93 | exact absurd (kq_start hkq (kq_off hkq (by assumption)) (by omega) (by omega)).1 hsp93 | exact absurd hko.1 hsp93 | exact absurd (hkr.2 (by assumption)).1 hsp93 | exact absurd ((congrArg (fun q : Bool × List DRun => endR q.2) (hkr.2 (by assumption)).2.2).trans (hl.2.trans hl.1.symm)) hsp93 | (exfalso; omega)
                      · -- FFFTFTFJTF00F
                        refine VC.skip ?_
                        refine outN ?_
                        refine VC.reg ?_
                        refine VO.mv ?_
                        refine VO.as ?_
                        refine VO.gather (l := [muns [pm, m30], m46]) 208 [140, 142] rfl (fun hg107 => ?_)
                        have hp107_0 : Rd (.sl TRun) (muns [muns [pm, m30], m46]) [Value.slice A46 ((sure ++ [(((sure.length + 1 : Nat) : Int), ((sure.length + 1 : Nat) : Int), sortedOf x27)]).length) (c46)] (sure ++ [(((sure.length + 1 : Nat) : Int), ((sure.length + 1 : Nat) : Int), sortedOf x27)]) := (OwnL.rd ho46 (hg107.1 _ (.tail _ (.head _))) (hg107.1 _ (.head _)))
                        have hp107_1 : Rd (.sl TRun) (muns [muns [pm, m30], m46]) [Value.slice A46 ((sure ++ [(((sure.length + 1 : Nat) : Int), ((sure.length + 1 : Nat) : Int), sortedOf x27)]).length) (c46)] (sure ++ [(((sure.length + 1 : Nat) : Int), ((sure.length + 1 : Nat) : Int), sortedOf x27)]) := (OwnL.rd ho46 (hg107.1 _ (.tail _ (.head _))) (hg107.1 _ (.head _)))
                        refine VO.k13 0 2 3 9 10 11 12 13 14 15 53 61 84 ?_
                        refine outBN ?_
                        refine outN ?_
                        refine VC.reg ?_
                        refine VO.mv ?_
                        refine VO.y rfl (.add (c := ((i + 1 : Nat) : Int)) rfl rfl (by omega) ⟨bd, bd⟩) ?_
                        refine VO.as ?_
                        refine VO.k13 0 2 3 9 10 11 12 13 14 15 53 61 84 ?_
                        exact outN ⟨⟨muns [muns [pm, m30], m46], i + 1, (uFlush w_0 w_1 w_2 (((sure.length + 1 : Nat) : Int), ((sure.length + 1 : Nat) : Int), sortedOf x27)).1.1, (uFlush w_0 w_1 w_2 (((sure.length + 1 : Nat) : Int), ((sure.length + 1 : Nat) : Int), sortedOf x27)).1.2.1, (uFlush w_0 w_1 w_2 (((sure.length + 1 : Nat) : Int), ((sure.length + 1 : Nat) : Int), sortedOf x27)).1.2.2, m34, sure ++ [(((sure.length + 1 : Nat) : Int), ((sure.length + 1 : Nat) : Int), sortedOf x27)], A46, c46, sure ++ [(((sure.length + 1 : Nat) : Int), ((sure.length + 1 : Nat) : Int), sortedOf x27)], A46, c46⟩, ⟨by (dsimp only; omega), by exact (hkr.1 (Decidable.not_not.1 (by assumption))).1, by (rw [(hkr.1 (Decidable.not_not.1 (by assumption))).2]; done), by (rw [(hkr.1 (Decidable.not_not.1 (by assumption))).2]; done), by rfl, by exact keeps_l hl rfl, by (dsimp only; omega), hp107_0, hp107_1, w34_0⟩, by (dsimp only; omega), ⟨⟨rfl, rfl, rfl, rfl, rfl, rfl, rfl, rfl, trivial⟩, fun _ h => Inv.sub (Inv.num h 208 124 rfl) [124, 122, 0]⟩⟩
                    · -- FFFTFTFJTF01
                      refine VI.bsl (cs := [Value.int .i64 (((sure.length + 1 : Nat) : Int)), Value.int .i64 (((sure.length + 1 : Nat) : Int)), Value.slice A30_0 ((sortedOf x27).length) (c30_0)]) 210 rfl rfl rfl tsl47 tz32 rfl rfl (fun _ h => Inv.sbK [140, 122, 133, 0] h) (fun g109 => ?_)
                      refine VE.tree [2] (by kernel_rfl) ⟨?_, trivial⟩
                      have hoz111 : OwnL TRun (mone g41 (.cells [].toArray 32 (0, 0))) (muns [pm, m30]) (Value.slice (some ⟨g41, 0, none⟩) (0) (0)) [] := OwnL.lit 0 All2c.nil rfl rfl
                      obtain ⟨mo111, cs111, hM111, hA111, hC111⟩ := hoz111
                      obtain ⟨all111, hS111, hR111⟩ := Rd.srcI (P := Try.prog) (hp39_0) Try.underlying47
                      refine VI.app 142 rfl rfl rfl rfl tsl47 tz32 rfl rfl hM111 hA111 (hS111 _ 140 rfl) hR111.nice bdm bd (by decide) (fun _ _ h => Inv.sbK [140, 122, 133, 0] h) (fun v111 m111 hN111 => ?_)
                      have ho111 : OwnL TRun m111 (muns [pm, m30]) v111 (sure) := OwnL.more hC111 hN111 hR111
                      obtain ⟨A111, c111, rfl, l111, k111⟩ := ho111.slice
                      simp only [maxLen] at k111
                      refine VE.nil (by kernel_rfl) rfl ?_ rfl
                      obtain ⟨mo112, cs112, hM112, hA112, hC112⟩ := ho111
                      refine VO.app 142 rfl rfl rfl tsl47 tz32 rfl rfl hM112 hA112 (.row 210 _ _ _ 1 1 _ _ Try.underlying47 rfl (cellsAt_one rfl rfl)) (by simp [Value.oneCell']) bdm bd (by decide) (fun v112 m112 hN112 => ?_)
                      have ho112 : OwnL TRun m112 (muns [pm, m30]) v112 (sure ++ [(((sure.length + 1 : Nat) : Int), ((sure.length + 1 : Nat) : Int), sortedOf x27)]) := OwnL.one hC112 hN112 (mk_Run (m := (muns [pm, m30])) ((sure.length + 1 : Nat) : Int) ((sure.length + 1 : Nat) : Int) (sortedOf x27) bdk bdk (Rd.mono hp39_1 (mle_refl _)))
                      obtain ⟨A112, c112, rfl, l112, k112⟩ := ho112.slice
                      simp only [maxLen] at k112
                      refine VO.as ?_
                      refine VO.k12 0 2 3 9 10 11 12 13 14 15 53 61 ?_
                      refine outN ?_
                      refine VC.seq ?_
                      refine VC.rs ?_
                      refine VO.mv ?_
                      refine VO.y rfl (.neq rfl rfl) ?_
                      refine VO.kp [142, 140, 122, 133, 0] [(142, m112), (140, muns [pm, m30]), (122, m34), (133, mone g32 (.cells [Value.int .i64 (((sure.length + 1 : Nat) : Int)), Value.int .i64 (((sure.length + 1 : Nat) : Int)), Value.slice A30_0 ((sortedOf x27).length) (c30_0)].toArray 32 (0, 0))), (0, wm W)] ?_
                      refine VO.k13 0 2 3 9 10 11 12 13 14 15 53 61 84 ?_
                      refine VC.cond rfl (fun hc113 => ?_) (fun hc113 => ?_)
                      · -- FFFTFTFJTF01T
                        refine VC.seq ?_
                        refine VC.rs ?_
                        refine VO.mv ?_
                        refine VO.y rfl (.neq rfl rfl) ?_
                        refine VO.mv ?_
                        refine VO.dec (t := 87) rfl (fun hc114 => ?_) (fun hc114 => ?_)
                        · -- FFFTFTFJTF01TT
                          first | exact absurd rfl hc114 | exact absurd (by decide) hc114 | (refine absurd ?_ hc114; rw [ru0]; done) | (refine absurd ?_ hc114; rw [ru0]; exact (ku_fuse ku_new (by omega)).1) | exact absurd (kq_pull hkq (by assumption)).1 hc114 | exact absurd (kq_start (kq_pull hkq (by assumption)).2.1 (kq_pull hkq (by assumption)).2.2 (by omega) (by omega)).1 hc114 | exact absurd (kq_start hkq (kq_off hkq (by assumption)) (by omega) (by omega)).1 hc114 | exact absurd hko.1 hc114 | exact absurd (hkr.2 (by assumption)).1 hc114 | exact absurd ((congrArg (fun q : Bool × List DRun => endR q.2) (hkr.2 (by assumption)).2.2).trans (hl.2.trans hl.1.symm)) hc114 | (exfalso; omega)
                        · -- FFFTFTFJTF01TF
                          refine VO.gy rfl ⟨_, rfl, rfl⟩ (.mv rfl) ?_
                          refine VO.gcall 122 rfl ⟨_, rfl, rfl⟩ fnOk28 rfl rfl (fun W hW => uEnd_ok W (hW.at (i := 122) rfl) w34_0 (by assumption)) (fun v115 m115 hv115 => ?_)
                          try dsimp only at hv115
                          obtain ⟨rfl, w115_0⟩ := hv115
                          refine VO.gy rfl ⟨_, rfl, rfl⟩ (.mv rfl) ?_
                          refine VO.gy rfl ⟨_, rfl, rfl⟩ (.lenS rfl tsl47) ?_
                          refine VO.gy rfl ⟨_, rfl, rfl⟩ (.neq rfl rfl) ?_
                          refine VO.y rfl (.pF rfl rfl) ?_
                          refine VO.k14 0 2 3 9 10 11 12 13 14 15 53 61 84 93 ?_
                          refine VC.cond rfl (fun hc116 => ?_) (fun hc116 => ?_)
                          · -- FFFTFTFJTF01TFT
                            first | exact absurd rfl hc116 | exact absurd (by decide) hc116 | (refine absurd ?_ hc116; rw [ru0]; done) | (refine absurd ?_ hc116; rw [ru0]; exact (ku_fuse ku_new (by omega)).1) | exact absurd (kq_pull hkq (by assumption)).1 hc116 | exact absurd (kq_start (kq_pull hkq (by assumption)).2.1 (kq_pull hkq (by assumption)).2.2 (by omega) (by omega)).1 hc116 | exact absurd (kq_start hkq (kq_off hkq (by assumption)) (by omega) (by omega)).1 hc116 | exact absurd hko.1 hc116 | exact absurd (hkr.2 (by assumption)).1 hc116 | exact absurd ((congrArg (fun q : Bool × List DRun => endR q.2) (hkr.2 (by assumption)).2.2).trans (hl.2.trans hl.1.symm)) hc116 | (exfalso; omega)
                          · -- FFFTFTFJTF01TFF
                            refine VC.skip ?_
                            refine outN ?_
                            refine VC.exit ?_
                            refine outE ?_
                            refine outBE rfl ?_
                            refine outE ?_
                            refine outE ?_
                            refine outBB ?_
                            refine outN ?_
                            refine VC.seq ?_
                            refine VC.rs ?_
                            obtain ⟨q117_E, q117_A2, q117_c2, q117_n0, q117_n2, _, q117_S, q117_0, q117_2⟩ := openP_runRuns (x0 := (s5_0, ((uFlush w_0 w_1 w_2 (((sure.length + 1 : Nat) : Int), ((sure.length + 1 : Nat) : Int), sortedOf x27)).1.1))) (x1 := ((uFlush w_0 w_1 w_2 (((sure.length + 1 : Nat) : Int), ((sure.length + 1 : Nat) : Int), sortedOf x27)).1.2.1)) (x2 := ((uFlush w_0 w_1 w_2 (((sure.length + 1 : Nat) : Int), ((sure.length + 1 : Nat) : Int), sortedOf x27)).1.2.2)) w115_0
                            dsimp only at q117_0
                            have q117_r2 := q117_2.rm
                            refine VO.inv _ (fun _ h => h.parts (i := 122) rfl q117_S [220, 218, 219]) ?_
                            have hkq : Kq (((uFlush w_0 w_1 w_2 (((sure.length + 1 : Nat) : Int), ((sure.length + 1 : Nat) : Int), sortedOf x27)).1.1)) (sure ++ [(((sure.length + 1 : Nat) : Int), ((sure.length + 1 : Nat) : Int), sortedOf x27)]) (sure) := by first | exact (hkr.2 (by assumption)).2.1 | (rw [hp]; exact ku_kq hk)
                            have hqo := kq_ok hkq
                            refine VO.mv ?_
                            refine VO.call 218 rfl fnOk32 rfl rfl (fun W hW => dOn_ok W (hW.at (i := 218) rfl) q117_0) (fun v121 m121 hv121 => ?_)
                            obtain ⟨rfl, w121_0⟩ := hv121
                            refine VO.mv ?_
                            refine VO.dec (t := 97) rfl (fun hc122 => ?_) (fun hc122 => ?_)
                            · -- FFFTFTFJTF01TFFT
                              refine VO.gy rfl ⟨_, rfl, rfl⟩ (.mv rfl) ?_
                              refine VO.gcall 218 rfl ⟨_, rfl, rfl⟩ fnOk33 rfl rfl (fun W hW => dPull_ok W (hW.at (i := 218) rfl) w121_0 (by assumption)) (fun v123 m123 hv123 => ?_)
                              obtain ⟨rfl, w123_0⟩ := hv123
                              have hfa124 := (pull_ok (show okD ((uFlush w_0 w_1 w_2 (((sure.length + 1 : Nat) : Int), ((sure.length + 1 : Nat) : Int), sortedOf x27)).1.1) by assumption))
                              have hfa125 := (pull_w ((uFlush w_0 w_1 w_2 (((sure.length + 1 : Nat) : Int), ((sure.length + 1 : Nat) : Int), sortedOf x27)).1.1))
                              refine VO.gy rfl ⟨_, rfl, rfl⟩ (.neq rfl rfl) ?_
                              refine VO.y rfl (.pT rfl rfl) ?_
                              refine VO.mv ?_
                              refine VO.dec (t := 102) rfl (fun hc126 => ?_) (fun hc126 => ?_)
                              · -- FFFTFTFJTF01TFFTT
                                first | exact absurd rfl hc126 | exact absurd (by decide) hc126 | (refine absurd ?_ hc126; rw [ru0]; done) | (refine absurd ?_ hc126; rw [ru0]; exact (ku_fuse ku_new (by omega)).1) | exact absurd (kq_pull hkq (by assumption)).1 hc126 | exact absurd (kq_start (kq_pull hkq (by assumption)).2.1 (kq_pull hkq (by assumption)).2.2 (by omega) (by omega)).1 hc126 | exact absurd (kq_start hkq (kq_off hkq (by assumption)) (by omega) (by omega)).1 hc126 | exact absurd hko.1 hc126 | exact absurd (hkr.2 (by assumption)).1 hc126 | exact absurd ((congrArg (fun q : Bool × List DRun => endR q.2) (hkr.2 (by assumption)).2.2).trans (hl.2.trans hl.1.symm)) hc126 | (exfalso; omega)
                              · -- FFFTFTFJTF01TFFTF
                                refine VO.gy rfl ⟨_, rfl, rfl⟩ (.mv rfl) ?_
                                refine VO.gy rfl ⟨_, rfl, rfl⟩ (.mv rfl) ?_
                                refine VO.gy rfl ⟨_, rfl, rfl⟩ (.mv rfl) ?_
                                refine VO.gcall 218 rfl ⟨_, rfl, rfl⟩ fnOk34 rfl rfl (fun W hW => dStart_ok W (hW.at (i := 218) rfl) w123_0 d2 bdk d3 bdk (by assumption) bd) (fun v127 m127 hv127 => ?_)
                                obtain ⟨rfl, w127_0⟩ := hv127
                                have hfa128 := (start_ok (k := d2) (t := d3) (show okD ((dPull ((uFlush w_0 w_1 w_2 (((sure.length + 1 : Nat) : Int), ((sure.length + 1 : Nat) : Int), sortedOf x27)).1.1)).1) by assumption))
                                have hfa129 := (start_w ((dPull ((uFlush w_0 w_1 w_2 (((sure.length + 1 : Nat) : Int), ((sure.length + 1 : Nat) : Int), sortedOf x27)).1.1)).1) d2 d3)
                                refine VO.gy rfl ⟨_, rfl, rfl⟩ (.neq rfl rfl) ?_
                                refine VO.y rfl (.pF rfl rfl) ?_
                                refine VO.clsP 230 [220, 218, 219] rfl (fun hg130 => (mkP_runRuns (s5_0, (dStart ((dPull ((uFlush w_0 w_1 w_2 (((sure.length + 1 : Nat) : Int), ((sure.length + 1 : Nat) : Int), sortedOf x27)).1.1)).1) d2 d3).1) ((uFlush w_0 w_1 w_2 (((sure.length + 1 : Nat) : Int), ((sure.length + 1 : Nat) : Int), sortedOf x27)).1.2.1) ((uFlush w_0 w_1 w_2 (((sure.length + 1 : Nat) : Int), ((sure.length + 1 : Nat) : Int), sortedOf x27)).1.2.2) hg130 w127_0 q117_2)) (fun mc130 ho130 => ?_)
                                refine VO.k15 0 2 3 9 10 11 12 13 14 15 53 61 84 93 108 ?_
                                refine VC.cond rfl (fun hc131 => ?_) (fun hc131 => ?_)
                                · -- FFFTFTFJTF01TFFTFT
                                  first | exact absurd rfl hc131 | exact absurd (by decide) hc131 | (refine absurd ?_ hc131; rw [ru0]; done) | (refine absurd ?_ hc131; rw [ru0]; exact (ku_fuse ku_new (by omega)).1) | exact absurd (kq_pull hkq (by assumption)).1 hc131 | exact absurd (kq_start (kq_pull hkq (by assumption)).2.1 (kq_pull hkq (by assumption)).2.2 (by omega) (by omega)).1 hc131 | exact absurd (kq_start hkq (kq_off hkq (by assumption)) (by omega) (by omega)).1 hc131 | exact absurd hko.1 hc131 | exact absurd (hkr.2 (by assumption)).1 hc131 | exact absurd ((congrArg (fun q : Bool × List DRun => endR q.2) (hkr.2 (by assumption)).2.2).trans (hl.2.trans hl.1.symm)) hc131 | (exfalso; omega)
                                · -- FFFTFTFJTF01TFFTFF
                                  refine VC.skip ?_
                                  refine outN ?_
                                  refine VC.rs ?_
                                  obtain ⟨q132_E, q132_A2, q132_c2, q132_n0, q132_n2, _, q132_S, q132_0, q132_2⟩ := openP_runRuns (x0 := (s5_0, (dStart ((dPull ((uFlush w_0 w_1 w_2 (((sure.length + 1 : Nat) : Int), ((sure.length + 1 : Nat) : Int), sortedOf x27)).1.1)).1) d2 d3).1)) (x1 := ((uFlush w_0 w_1 w_2 (((sure.length + 1 : Nat) : Int), ((sure.length + 1 : Nat) : Int), sortedOf x27)).1.2.1)) (x2 := ((uFlush w_0 w_1 w_2 (((sure.length + 1 : Nat) : Int), ((sure.length + 1 : Nat) : Int), sortedOf x27)).1.2.2)) ho130
                                  dsimp only at q132_0
                                  have q132_r2 := q132_2.rm
                                  refine VO.inv _ (fun _ h => h.parts (i := 230) rfl q132_S [235, 233, 234]) ?_
                                  have hkrr : Kr ((dStart ((dPull ((uFlush w_0 w_1 w_2 (((sure.length + 1 : Nat) : Int), ((sure.length + 1 : Nat) : Int), sortedOf x27)).1.1)).1) d2 d3).1) (sure ++ [(((sure.length + 1 : Nat) : Int), ((sure.length + 1 : Nat) : Int), sortedOf x27)]) (sure) := by first | exact (kq_start (kq_pull hkq (by assumption)).2.1 (kq_pull hkq (by assumption)).2.2 (by omega) (by omega)).2 | exact (kq_start hkq (kq_off hkq (by assumption)) (by omega) (by omega)).2
                                  have hko := kr_open hkrr; have hk2 := kr_two hkrr (by first | (rw [hp]; omega) | (simp; done))
                                  refine VO.mv ?_
                                  by_cases hsp136 : (uOpen ((dStart ((dPull ((uFlush w_0 w_1 w_2 (((sure.length + 1 : Nat) : Int), ((sure.length + 1 : Nat) : Int), sortedOf x27)).1.1)).1) d2 d3).1)).2 = 0
                                  · -- FFFTFTFJTF01TFFTFFT
                                    refine VO.call 233 rfl fnOk9 rfl rfl (fun W hW => uOpenY_ok W (hW.at (i := 233) rfl) q132_0 (by assumption) bd (by assumption)) (fun v137 m137 hv137 => ?_)
                                    obtain ⟨s137_0, rfl, f137_0⟩ := hv137
                                    have hfa138 := (uopen_ok (show okD ((dStart ((dPull ((uFlush w_0 w_1 w_2 (((sure.length + 1 : Nat) : Int), ((sure.length + 1 : Nat) : Int), sortedOf x27)).1.1)).1) d2 d3).1) by assumption))
                                    have hfa139 := (uopen_w (show okD ((dStart ((dPull ((uFlush w_0 w_1 w_2 (((sure.length + 1 : Nat) : Int), ((sure.length + 1 : Nat) : Int), sortedOf x27)).1.1)).1) d2 d3).1) by assumption))
                                    have hfa140 := (runF_ok (dRead ((dStart ((dPull ((uFlush w_0 w_1 w_2 (((sure.length + 1 : Nat) : Int), ((sure.length + 1 : Nat) : Int), sortedOf x27)).1.1)).1) d2 d3).1) 2).1).1
                                    refine VO.mv ?_
                                    refine VO.y rfl (.ext rfl rfl) ?_
                                    refine VO.y rfl (.ext rfl rfl) ?_
                                    refine VO.as ?_
                                    refine VO.as ?_
                                    refine VO.kp [233, 235, 234, 142, 140, 133, 0] [(233, m137), (235, mone s9_0 (.cells [Value.pointer (some ⟨s5_0, 0, none⟩), Value.bool ((uFlush w_0 w_1 w_2 (((sure.length + 1 : Nat) : Int), ((sure.length + 1 : Nat) : Int), sortedOf x27)).1.2.1), Value.slice q132_A2 (((uFlush w_0 w_1 w_2 (((sure.length + 1 : Nat) : Int), ((sure.length + 1 : Nat) : Int), sortedOf x27)).1.2.2).length) (q132_c2)].toArray q132_E (0, 0))), (234, q132_n2), (142, m112), (140, muns [pm, m30]), (133, mone g32 (.cells [Value.int .i64 (((sure.length + 1 : Nat) : Int)), Value.int .i64 (((sure.length + 1 : Nat) : Int)), Value.slice A30_0 ((sortedOf x27).length) (c30_0)].toArray 32 (0, 0))), (0, wm W)] ?_
                                    refine VO.k16 0 2 3 9 10 11 12 13 14 15 16 53 61 84 93 108 ?_
                                    refine VC.seq ?_
                                    refine VC.rs ?_
                                    refine VO.mv ?_
                                    refine VO.y rfl (.neq rfl rfl) ?_
                                    refine VO.mv ?_
                                    refine VO.known (t := 116) false rfl (decide_eq_false hc13) ?_
                                    refine VO.gy rfl ⟨_, rfl, rfl⟩ (.mv rfl) ?_
                                    refine VO.gy rfl ⟨_, rfl, rfl⟩ (.pnil rfl rfl Try.underlying23 rfl) ?_
                                    refine VO.y rfl (.pF rfl rfl) ?_
                                    refine VO.k17 0 2 3 9 10 11 12 13 14 15 16 53 61 84 93 108 119 ?_
                                    refine VC.condF rfl ?_
                                    refine VC.skip ?_
                                    refine outN ?_
                                    refine VC.rs ?_
                                    refine VO.mv ?_
                                    refine VO.call 233 rfl fnOk29 rfl rfl (fun W hW => uList_ok W (hW.at (i := 233) rfl) f137_0 (by assumption)) (fun v141 m141 hv141 => ?_)
                                    try dsimp only at hv141
                                    obtain ⟨s141_0, p141_0, p141_1, rfl, hS141, f141_0, w141_0⟩ := hv141
                                    refine VO.inv _ (fun _ h => h.parts (i := 233) rfl hS141 [242, 243]) ?_
                                    obtain ⟨A141_0, c141_0, eq141_0, l141_0, k141_0⟩ := f141_0.slice
                                    subst eq141_0
                                    simp only [maxLen] at k141_0
                                    refine VO.mv ?_
                                    refine VO.callN 244 rfl fnOk23 rfl (fun W hW => SameRuns_ok W (Ow.rd f141_0 (hW.at (i := 242) rfl)) (Rd.mono hp39_0 (hW.at (i := 140) rfl))) (fun v144 m144 hv144 => ?_)
                                    subst hv144
                                    refine VO.mv ?_
                                    refine VO.dec (t := 124) rfl (fun hc145 => ?_) (fun hc145 => ?_)
                                    · -- FFFTFTFJTF01TFFTFFTT
                                      refine VO.gN ?_
                                      refine VO.gN ?_
                                      refine VO.gN ?_
                                      refine VO.gN ?_
                                      refine VO.y rfl (.pT rfl rfl) ?_
                                      refine VO.as ?_
                                      refine VO.k18 0 2 3 8 9 10 11 12 13 14 15 16 53 61 84 93 108 119 ?_
                                      refine VC.ret ?_
                                      refine ⟨_, _, res_run (rs := [.tmp 8]) rfl (.tmp rfl .nil), fun W_ hI => out_of (l := []) hI [] rfl rfl (mle_refl _) (fun hS_ => ?_)⟩
                                      dsimp only [packV]
                                      all_goals (first | rfl | (exact fin1_runKeeps_ok))
                                    · -- FFFTFTFJTF01TFFTFFTF
                                      refine VO.gy rfl ⟨_, rfl, rfl⟩ (.mv rfl) ?_
                                      refine VO.gcall 243 rfl ⟨_, rfl, rfl⟩ fnOk29 rfl rfl (fun W hW => uList_ok W (hW.at (i := 243) rfl) w141_0 (by assumption)) (fun v146 m146 hv146 => ?_)
                                      try dsimp only at hv146
                                      obtain ⟨s146_0, p146_0, p146_1, rfl, hS146, f146_0, w146_0⟩ := hv146
                                      refine VO.inv _ (fun _ h => h.parts (i := 243) rfl hS146 [247, 248]) ?_
                                      obtain ⟨A146_0, c146_0, eq146_0, l146_0, k146_0⟩ := f146_0.slice
                                      subst eq146_0
                                      simp only [maxLen] at k146_0
                                      refine VO.gy rfl ⟨_, rfl, rfl⟩ (.mv rfl) ?_
                                      refine VO.gcallN 249 rfl ⟨_, rfl, rfl⟩ fnOk23 rfl (fun W hW => SameRuns_ok W (Ow.rd f146_0 (hW.at (i := 247) rfl)) (OwnL.rd ho112 (hW.at (i := 142) rfl) (hW.at (i := 140) rfl))) (fun v149 m149 hv149 => ?_)
                                      subst hv149
                                      refine VO.y rfl (.pF rfl rfl) ?_
                                      refine VO.as ?_
                                      refine VO.k18 0 2 3 8 9 10 11 12 13 14 15 16 53 61 84 93 108 119 ?_
                                      refine VC.ret ?_
                                      refine ⟨_, _, res_run (rs := [.tmp 8]) rfl (.tmp rfl .nil), fun W_ hI => out_of (l := []) hI [] rfl rfl (mle_refl _) (fun hS_ => ?_)⟩
                                      dsimp only [packV]
                                      all_goals (first | rfl | (exact fin1_runKeeps_ok))
                                  · -- FFFTFTFJTF01TFFTFFF
                                    first | exact absurd rfl hsp136 | exact absurd (by decide) hsp136 | (refine absurd ?_ hsp136; rw [ru0]; done) | (refine absurd ?_ hsp136; rw [ru0]; exact (ku_fuse ku_new (by omega)).1) | exact absurd (kq_pull hkq (by assumption)).1 hsp136 | exact absurd (kq_start (kq_pull hkq (by assumption)).2.1 (kq_pull hkq (by assumption)).2.2 (by omega) (by omega)).1 hsp136 | exact absurd (kq_start hkq (kq_off hkq (by assumption)) (by omega) (by omega)).1 hsp136 | exact absurd hko.1 hsp136 | exact absurd (hkr.2 (by assumption)).1 hsp136 | exact absurd ((congrArg (fun q : Bool × List DRun => endR q.2) (hkr.2 (by assumption)).2.2).trans (hl.2.trans hl.1.symm)) hsp136 | (exfalso; omega)
                            · -- FFFTFTFJTF01TFFF
                              refine VO.gN ?_
                              refine VO.gN ?_
                              refine VO.gN ?_
                              refine VO.y rfl (.pF rfl rfl) ?_
                              refine VO.mv ?_
                              refine VO.gy rfl ⟨_, rfl, rfl⟩ (.mv rfl) ?_
                              refine VO.gy rfl ⟨_, rfl, rfl⟩ (.mv rfl) ?_
                              refine VO.gy rfl ⟨_, rfl, rfl⟩ (.mv rfl) ?_
                              refine VO.gcall 218 rfl ⟨_, rfl, rfl⟩ fnOk34 rfl rfl (fun W hW => dStart_ok W (hW.at (i := 218) rfl) w121_0 d2 bdk d3 bdk (by assumption) bd) (fun v150 m150 hv150 => ?_)
                              obtain ⟨rfl, w150_0⟩ := hv150
                              have hfa151 := (start_ok (k := d2) (t := d3) (show okD ((uFlush w_0 w_1 w_2 (((sure.length + 1 : Nat) : Int), ((sure.length + 1 : Nat) : Int), sortedOf x27)).1.1) by assumption))
                              have hfa152 := (start_w ((uFlush w_0 w_1 w_2 (((sure.length + 1 : Nat) : Int), ((sure.length + 1 : Nat) : Int), sortedOf x27)).1.1) d2 d3)
                              refine VO.gy rfl ⟨_, rfl, rfl⟩ (.neq rfl rfl) ?_
                              refine VO.y rfl (.pF rfl rfl) ?_
                              refine VO.clsP 253 [220, 218, 219] rfl (fun hg153 => (mkP_runRuns (s5_0, (dStart ((uFlush w_0 w_1 w_2 (((sure.length + 1 : Nat) : Int), ((sure.length + 1 : Nat) : Int), sortedOf x27)).1.1) d2 d3).1) ((uFlush w_0 w_1 w_2 (((sure.length + 1 : Nat) : Int), ((sure.length + 1 : Nat) : Int), sortedOf x27)).1.2.1) ((uFlush w_0 w_1 w_2 (((sure.length + 1 : Nat) : Int), ((sure.length + 1 : Nat) : Int), sortedOf x27)).1.2.2) hg153 w150_0 q117_2)) (fun mc153 ho153 => ?_)
                              refine VO.k15 0 2 3 9 10 11 12 13 14 15 53 61 84 93 108 ?_
                              refine VC.cond rfl (fun hc154 => ?_) (fun hc154 => ?_)
                              · -- FFFTFTFJTF01TFFFT
                                first | exact absurd rfl hc154 | exact absurd (by decide) hc154 | (refine absurd ?_ hc154; rw [ru0]; done) | (refine absurd ?_ hc154; rw [ru0]; exact (ku_fuse ku_new (by omega)).1) | exact absurd (kq_pull hkq (by assumption)).1 hc154 | exact absurd (kq_start (kq_pull hkq (by assumption)).2.1 (kq_pull hkq (by assumption)).2.2 (by omega) (by omega)).1 hc154 | exact absurd (kq_start hkq (kq_off hkq (by assumption)) (by omega) (by omega)).1 hc154 | exact absurd hko.1 hc154 | exact absurd (hkr.2 (by assumption)).1 hc154 | exact absurd ((congrArg (fun q : Bool × List DRun => endR q.2) (hkr.2 (by assumption)).2.2).trans (hl.2.trans hl.1.symm)) hc154 | (exfalso; omega)
                              · -- FFFTFTFJTF01TFFFF
                                refine VC.skip ?_
                                refine outN ?_
                                refine VC.rs ?_
                                obtain ⟨q155_E, q155_A2, q155_c2, q155_n0, q155_n2, _, q155_S, q155_0, q155_2⟩ := openP_runRuns (x0 := (s5_0, (dStart ((uFlush w_0 w_1 w_2 (((sure.length + 1 : Nat) : Int), ((sure.length + 1 : Nat) : Int), sortedOf x27)).1.1) d2 d3).1)) (x1 := ((uFlush w_0 w_1 w_2 (((sure.length + 1 : Nat) : Int), ((sure.length + 1 : Nat) : Int), sortedOf x27)).1.2.1)) (x2 := ((uFlush w_0 w_1 w_2 (((sure.length + 1 : Nat) : Int), ((sure.length + 1 : Nat) : Int), sortedOf x27)).1.2.2)) ho153
                                dsimp only at q155_0
                                have q155_r2 := q155_2.rm
                                refine VO.inv _ (fun _ h => h.parts (i := 253) rfl q155_S [258, 256, 257]) ?_
                                have hkrr : Kr ((dStart ((uFlush w_0 w_1 w_2 (((sure.length + 1 : Nat) : Int), ((sure.length + 1 : Nat) : Int), sortedOf x27)).1.1) d2 d3).1) (sure ++ [(((sure.length + 1 : Nat) : Int), ((sure.length + 1 : Nat) : Int), sortedOf x27)]) (sure) := by first | exact (kq_start (kq_pull hkq (by assumption)).2.1 (kq_pull hkq (by assumption)).2.2 (by omega) (by omega)).2 | exact (kq_start hkq (kq_off hkq (by assumption)) (by omega) (by omega)).2
                                have hko := kr_open hkrr; have hk2 := kr_two hkrr (by first | (rw [hp]; omega) | (simp; done))
                                refine VO.mv ?_
                                by_cases hsp159 : (uOpen ((dStart ((uFlush w_0 w_1 w_2 (((sure.length + 1 : Nat) : Int), ((sure.length + 1 : Nat) : Int), sortedOf x27)).1.1) d2 d3).1)).2 = 0
                                · -- FFFTFTFJTF01TFFFFT
                                  refine VO.call 256 rfl fnOk9 rfl rfl (fun W hW => uOpenY_ok W (hW.at (i := 256) rfl) q155_0 (by assumption) bd (by assumption)) (fun v160 m160 hv160 => ?_)
                                  obtain ⟨s160_0, rfl, f160_0⟩ := hv160
                                  have hfa161 := (uopen_ok (show okD ((dStart ((uFlush w_0 w_1 w_2 (((sure.length + 1 : Nat) : Int), ((sure.length + 1 : Nat) : Int), sortedOf x27)).1.1) d2 d3).1) by assumption))
                                  have hfa162 := (uopen_w (show okD ((dStart ((uFlush w_0 w_1 w_2 (((sure.length + 1 : Nat) : Int), ((sure.length + 1 : Nat) : Int), sortedOf x27)).1.1) d2 d3).1) by assumption))
                                  have hfa163 := (runF_ok (dRead ((dStart ((uFlush w_0 w_1 w_2 (((sure.length + 1 : Nat) : Int), ((sure.length + 1 : Nat) : Int), sortedOf x27)).1.1) d2 d3).1) 2).1).1
                                  refine VO.mv ?_
                                  refine VO.y rfl (.ext rfl rfl) ?_
                                  refine VO.y rfl (.ext rfl rfl) ?_
                                  refine VO.as ?_
                                  refine VO.as ?_
                                  refine VO.kp [256, 258, 257, 142, 140, 133, 0] [(256, m160), (258, mone s9_0 (.cells [Value.pointer (some ⟨s5_0, 0, none⟩), Value.bool ((uFlush w_0 w_1 w_2 (((sure.length + 1 : Nat) : Int), ((sure.length + 1 : Nat) : Int), sortedOf x27)).1.2.1), Value.slice q155_A2 (((uFlush w_0 w_1 w_2 (((sure.length + 1 : Nat) : Int), ((sure.length + 1 : Nat) : Int), sortedOf x27)).1.2.2).length) (q155_c2)].toArray q155_E (0, 0))), (257, q155_n2), (142, m112), (140, muns [pm, m30]), (133, mone g32 (.cells [Value.int .i64 (((sure.length + 1 : Nat) : Int)), Value.int .i64 (((sure.length + 1 : Nat) : Int)), Value.slice A30_0 ((sortedOf x27).length) (c30_0)].toArray 32 (0, 0))), (0, wm W)] ?_
                                  refine VO.k16 0 2 3 9 10 11 12 13 14 15 16 53 61 84 93 108 ?_
                                  refine VC.seq ?_
                                  refine VC.rs ?_
                                  refine VO.mv ?_
                                  refine VO.y rfl (.neq rfl rfl) ?_
                                  refine VO.mv ?_
                                  refine VO.known (t := 116) false rfl (decide_eq_false hc13) ?_
                                  refine VO.gy rfl ⟨_, rfl, rfl⟩ (.mv rfl) ?_
                                  refine VO.gy rfl ⟨_, rfl, rfl⟩ (.pnil rfl rfl Try.underlying23 rfl) ?_
                                  refine VO.y rfl (.pF rfl rfl) ?_
                                  refine VO.k17 0 2 3 9 10 11 12 13 14 15 16 53 61 84 93 108 119 ?_
                                  refine VC.condF rfl ?_
                                  refine VC.skip ?_
                                  refine outN ?_
                                  refine VC.rs ?_
                                  refine VO.mv ?_
                                  refine VO.call 256 rfl fnOk29 rfl rfl (fun W hW => uList_ok W (hW.at (i := 256) rfl) f160_0 (by assumption)) (fun v164 m164 hv164 => ?_)
                                  try dsimp only at hv164
                                  obtain ⟨s164_0, p164_0, p164_1, rfl, hS164, f164_0, w164_0⟩ := hv164
                                  refine VO.inv _ (fun _ h => h.parts (i := 256) rfl hS164 [265, 266]) ?_
                                  obtain ⟨A164_0, c164_0, eq164_0, l164_0, k164_0⟩ := f164_0.slice
                                  subst eq164_0
                                  simp only [maxLen] at k164_0
                                  refine VO.mv ?_
                                  refine VO.callN 267 rfl fnOk23 rfl (fun W hW => SameRuns_ok W (Ow.rd f164_0 (hW.at (i := 265) rfl)) (Rd.mono hp39_0 (hW.at (i := 140) rfl))) (fun v167 m167 hv167 => ?_)
                                  subst hv167
                                  refine VO.mv ?_
                                  refine VO.dec (t := 124) rfl (fun hc168 => ?_) (fun hc168 => ?_)
                                  · -- FFFTFTFJTF01TFFFFTT
                                    refine VO.gN ?_
                                    refine VO.gN ?_
                                    refine VO.gN ?_
                                    refine VO.gN ?_
                                    refine VO.y rfl (.pT rfl rfl) ?_
                                    refine VO.as ?_
                                    refine VO.k18 0 2 3 8 9 10 11 12 13 14 15 16 53 61 84 93 108 119 ?_
                                    refine VC.ret ?_
                                    refine ⟨_, _, res_run (rs := [.tmp 8]) rfl (.tmp rfl .nil), fun W_ hI => out_of (l := []) hI [] rfl rfl (mle_refl _) (fun hS_ => ?_)⟩
                                    dsimp only [packV]
                                    all_goals (first | rfl | (exact fin1_runKeeps_ok))
                                  · -- FFFTFTFJTF01TFFFFTF
                                    refine VO.gy rfl ⟨_, rfl, rfl⟩ (.mv rfl) ?_
                                    refine VO.gcall 266 rfl ⟨_, rfl, rfl⟩ fnOk29 rfl rfl (fun W hW => uList_ok W (hW.at (i := 266) rfl) w164_0 (by assumption)) (fun v169 m169 hv169 => ?_)
                                    try dsimp only at hv169
                                    obtain ⟨s169_0, p169_0, p169_1, rfl, hS169, f169_0, w169_0⟩ := hv169
                                    refine VO.inv _ (fun _ h => h.parts (i := 266) rfl hS169 [270, 271]) ?_
                                    obtain ⟨A169_0, c169_0, eq169_0, l169_0, k169_0⟩ := f169_0.slice
                                    subst eq169_0
                                    simp only [maxLen] at k169_0
                                    refine VO.gy rfl ⟨_, rfl, rfl⟩ (.mv rfl) ?_
                                    refine VO.gcallN 272 rfl ⟨_, rfl, rfl⟩ fnOk23 rfl (fun W hW => SameRuns_ok W (Ow.rd f169_0 (hW.at (i := 270) rfl)) (OwnL.rd ho112 (hW.at (i := 142) rfl) (hW.at (i := 140) rfl))) (fun v172 m172 hv172 => ?_)
                                    subst hv172
                                    refine VO.y rfl (.pF rfl rfl) ?_
                                    refine VO.as ?_
                                    refine VO.k18 0 2 3 8 9 10 11 12 13 14 15 16 53 61 84 93 108 119 ?_
                                    refine VC.ret ?_
                                    refine ⟨_, _, res_run (rs := [.tmp 8]) rfl (.tmp rfl .nil), fun W_ hI => out_of (l := []) hI [] rfl rfl (mle_refl _) (fun hS_ => ?_)⟩
                                    dsimp only [packV]
                                    all_goals (first | rfl | (exact fin1_runKeeps_ok))
                                · -- FFFTFTFJTF01TFFFFF
                                  first | exact absurd rfl hsp159 | exact absurd (by decide) hsp159 | (refine absurd ?_ hsp159; rw [ru0]; done) | (refine absurd ?_ hsp159; rw [ru0]; exact (ku_fuse ku_new (by omega)).1) | exact absurd (kq_pull hkq (by assumption)).1 hsp159 | exact absurd (kq_start (kq_pull hkq (by assumption)).2.1 (kq_pull hkq (by assumption)).2.2 (by omega) (by omega)).1 hsp159 | exact absurd (kq_start hkq (kq_off hkq (by assumption)) (by omega) (by omega)).1 hsp159 | exact absurd hko.1 hsp159 | exact absurd (hkr.2 (by assumption)).1 hsp159 | exact absurd ((congrArg (fun q : Bool × List DRun => endR q.2) (hkr.2 (by assumption)).2.2).trans (hl.2.trans hl.1.symm)) hsp159 | (exfalso; omega)
                      · -- FFFTFTFJTF01F
                        refine VC.skip ?_
                        refine outN ?_
                        refine VC.reg ?_
                        refine VO.mv ?_
                        refine VO.as ?_
                        refine VO.gather (l := [muns [pm, m30], m112]) 274 [140, 142] rfl (fun hg173 => ?_)
                        have hp173_0 : Rd (.sl TRun) (muns [muns [pm, m30], m112]) [Value.slice A112 ((sure ++ [(((sure.length + 1 : Nat) : Int), ((sure.length + 1 : Nat) : Int), sortedOf x27)]).length) (c112)] (sure ++ [(((sure.length + 1 : Nat) : Int), ((sure.length + 1 : Nat) : Int), sortedOf x27)]) := (OwnL.rd ho112 (hg173.1 _ (.tail _ (.head _))) (hg173.1 _ (.head _)))
                        have hp173_1 : Rd (.sl TRun) (muns [muns [pm, m30], m112]) [Value.slice A112 ((sure ++ [(((sure.length + 1 : Nat) : Int), ((sure.length + 1 : Nat) : Int), sortedOf x27)]).length) (c112)] (sure ++ [(((sure.length + 1 : Nat) : Int), ((sure.length + 1 : Nat) : Int), sortedOf x27)]) := (OwnL.rd ho112 (hg173.1 _ (.tail _ (.head _))) (hg173.1 _ (.head _)))
                        refine VO.k13 0 2 3 9 10 11 12 13 14 15 53 61 84 ?_
                        refine outBN ?_
                        refine outN ?_
                        refine VC.reg ?_
                        refine VO.mv ?_
                        refine VO.y rfl (.add (c := ((i + 1 : Nat) : Int)) rfl rfl (by omega) ⟨bd, bd⟩) ?_
                        refine VO.as ?_
                        refine VO.k13 0 2 3 9 10 11 12 13 14 15 53 61 84 ?_
                        exact outN ⟨⟨muns [muns [pm, m30], m112], i + 1, (uFlush w_0 w_1 w_2 (((sure.length + 1 : Nat) : Int), ((sure.length + 1 : Nat) : Int), sortedOf x27)).1.1, (uFlush w_0 w_1 w_2 (((sure.length + 1 : Nat) : Int), ((sure.length + 1 : Nat) : Int), sortedOf x27)).1.2.1, (uFlush w_0 w_1 w_2 (((sure.length + 1 : Nat) : Int), ((sure.length + 1 : Nat) : Int), sortedOf x27)).1.2.2, m34, sure ++ [(((sure.length + 1 : Nat) : Int), ((sure.length + 1 : Nat) : Int), sortedOf x27)], A112, c112, sure ++ [(((sure.length + 1 : Nat) : Int), ((sure.length + 1 : Nat) : Int), sortedOf x27)], A112, c112⟩, ⟨by (dsimp only; omega), by exact (hkr.1 (Decidable.not_not.1 (by assumption))).1, by (rw [(hkr.1 (Decidable.not_not.1 (by assumption))).2]; done), by (rw [(hkr.1 (Decidable.not_not.1 (by assumption))).2]; done), by rfl, by exact keeps_l hl rfl, by (dsimp only; omega), hp173_0, hp173_1, w34_0⟩, by (dsimp only; omega), ⟨⟨rfl, rfl, rfl, rfl, rfl, rfl, rfl, rfl, trivial⟩, fun _ h => Inv.sub (Inv.num h 274 124 rfl) [124, 122, 0]⟩⟩
                  · -- FFFTFTFJTF1
                    refine VI.bsl (cs := [Value.int .i64 (((sure.length + 1 : Nat) : Int)), Value.int .i64 (((sure.length + 1 : Nat) : Int)), Value.slice A30_0 ((sortedOf x27).length) (c30_0)]) 276 rfl rfl rfl tsl47 tz32 rfl rfl (fun _ h => Inv.sbK [140, 122, 133, 0] h) (fun g175 => ?_)
                    refine VE.tree [0] (by kernel_rfl) ⟨?_, trivial⟩
                    refine VI.bsl (cs := []) 278 rfl rfl rfl tsl47 tz32 rfl rfl (fun _ h => Inv.sbK [140, 122, 133, 0] h) (fun g177 => ?_)
                    refine VE.tree [2] (by kernel_rfl) ⟨?_, trivial⟩
                    have hoz179 : OwnL TRun (mone g177 (.cells [].toArray 32 (0, 0))) (muns [pm, m30]) (Value.slice (some ⟨g177, 0, none⟩) (0) (0)) [] := OwnL.lit 0 All2c.nil rfl rfl
                    obtain ⟨mo179, cs179, hM179, hA179, hC179⟩ := hoz179
                    obtain ⟨all179, hS179, hR179⟩ := Rd.srcI (P := Try.prog) (hp39_0) Try.underlying47
                    refine VI.app 278 rfl rfl rfl rfl tsl47 tz32 rfl rfl hM179 hA179 (hS179 _ 140 rfl) hR179.nice bdm bd (by decide) (fun _ _ h => Inv.sbK [140, 122, 133, 0] h) (fun v179 m179 hN179 => ?_)
                    have ho179 : OwnL TRun m179 (muns [pm, m30]) v179 (sure) := OwnL.more hC179 hN179 hR179
                    obtain ⟨A179, c179, rfl, l179, k179⟩ := ho179.slice
                    simp only [maxLen] at k179
                    refine VE.nil (by kernel_rfl) rfl ?_ rfl
                    obtain ⟨mo180, cs180, hM180, hA180, hC180⟩ := ho179
                    refine VO.app 278 rfl rfl rfl tsl47 tz32 rfl rfl hM180 hA180 (.row 276 _ _ _ 1 1 _ _ Try.underlying47 rfl (cellsAt_one rfl rfl)) (by simp [Value.oneCell']) bdm bd (by decide) (fun v180 m180 hN180 => ?_)
                    have ho180 : OwnL TRun m180 (muns [pm, m30]) v180 (sure ++ [(((sure.length + 1 : Nat) : Int), ((sure.length + 1 : Nat) : Int), sortedOf x27)]) := OwnL.one hC180 hN180 (mk_Run (m := (muns [pm, m30])) ((sure.length + 1 : Nat) : Int) ((sure.length + 1 : Nat) : Int) (sortedOf x27) bdk bdk (Rd.mono hp39_1 (mle_refl _)))
                    obtain ⟨A180, c180, rfl, l180, k180⟩ := ho180.slice
                    simp only [maxLen] at k180
                    refine VO.as ?_
                    refine VO.k12 0 2 3 9 10 11 12 13 14 15 53 61 ?_
                    refine outN ?_
                    refine VC.seq ?_
                    refine VC.rs ?_
                    refine VO.mv ?_
                    refine VO.y rfl (.neq rfl rfl) ?_
                    refine VO.kp [278, 140, 122, 133, 0] [(278, m180), (140, muns [pm, m30]), (122, m34), (133, mone g32 (.cells [Value.int .i64 (((sure.length + 1 : Nat) : Int)), Value.int .i64 (((sure.length + 1 : Nat) : Int)), Value.slice A30_0 ((sortedOf x27).length) (c30_0)].toArray 32 (0, 0))), (0, wm W)] ?_
                    refine VO.k13 0 2 3 9 10 11 12 13 14 15 53 61 84 ?_
                    refine VC.cond rfl (fun hc181 => ?_) (fun hc181 => ?_)
                    · -- FFFTFTFJTF1T
                      refine VC.seq ?_
                      refine VC.rs ?_
                      refine VO.mv ?_
                      refine VO.y rfl (.neq rfl rfl) ?_
                      refine VO.mv ?_
                      refine VO.dec (t := 87) rfl (fun hc182 => ?_) (fun hc182 => ?_)
                      · -- FFFTFTFJTF1TT
                        first | exact absurd rfl hc182 | exact absurd (by decide) hc182 | (refine absurd ?_ hc182; rw [ru0]; done) | (refine absurd ?_ hc182; rw [ru0]; exact (ku_fuse ku_new (by omega)).1) | exact absurd (kq_pull hkq (by assumption)).1 hc182 | exact absurd (kq_start (kq_pull hkq (by assumption)).2.1 (kq_pull hkq (by assumption)).2.2 (by omega) (by omega)).1 hc182 | exact absurd (kq_start hkq (kq_off hkq (by assumption)) (by omega) (by omega)).1 hc182 | exact absurd hko.1 hc182 | exact absurd (hkr.2 (by assumption)).1 hc182 | exact absurd ((congrArg (fun q : Bool × List DRun => endR q.2) (hkr.2 (by assumption)).2.2).trans (hl.2.trans hl.1.symm)) hc182 | (exfalso; omega)
                      · -- FFFTFTFJTF1TF
                        refine VO.gy rfl ⟨_, rfl, rfl⟩ (.mv rfl) ?_
                        refine VO.gcall 122 rfl ⟨_, rfl, rfl⟩ fnOk28 rfl rfl (fun W hW => uEnd_ok W (hW.at (i := 122) rfl) w34_0 (by assumption)) (fun v183 m183 hv183 => ?_)
                        try dsimp only at hv183
                        obtain ⟨rfl, w183_0⟩ := hv183
                        refine VO.gy rfl ⟨_, rfl, rfl⟩ (.mv rfl) ?_
                        refine VO.gy rfl ⟨_, rfl, rfl⟩ (.lenS rfl tsl47) ?_
                        refine VO.gy rfl ⟨_, rfl, rfl⟩ (.neq rfl rfl) ?_
                        refine VO.y rfl (.pF rfl rfl) ?_
                        refine VO.k14 0 2 3 9 10 11 12 13 14 15 53 61 84 93 ?_
                        refine VC.cond rfl (fun hc184 => ?_) (fun hc184 => ?_)
                        · -- FFFTFTFJTF1TFT
                          first | exact absurd rfl hc184 | exact absurd (by decide) hc184 | (refine absurd ?_ hc184; rw [ru0]; done) | (refine absurd ?_ hc184; rw [ru0]; exact (ku_fuse ku_new (by omega)).1) | exact absurd (kq_pull hkq (by assumption)).1 hc184 | exact absurd (kq_start (kq_pull hkq (by assumption)).2.1 (kq_pull hkq (by assumption)).2.2 (by omega) (by omega)).1 hc184 | exact absurd (kq_start hkq (kq_off hkq (by assumption)) (by omega) (by omega)).1 hc184 | exact absurd hko.1 hc184 | exact absurd (hkr.2 (by assumption)).1 hc184 | exact absurd ((congrArg (fun q : Bool × List DRun => endR q.2) (hkr.2 (by assumption)).2.2).trans (hl.2.trans hl.1.symm)) hc184 | (exfalso; omega)
                        · -- FFFTFTFJTF1TFF
                          refine VC.skip ?_
                          refine outN ?_
                          refine VC.exit ?_
                          refine outE ?_
                          refine outBE rfl ?_
                          refine outE ?_
                          refine outE ?_
                          refine outBB ?_
                          refine outN ?_
                          refine VC.seq ?_
                          refine VC.rs ?_
                          obtain ⟨q185_E, q185_A2, q185_c2, q185_n0, q185_n2, _, q185_S, q185_0, q185_2⟩ := openP_runRuns (x0 := (s5_0, ((uFlush w_0 w_1 w_2 (((sure.length + 1 : Nat) : Int), ((sure.length + 1 : Nat) : Int), sortedOf x27)).1.1))) (x1 := ((uFlush w_0 w_1 w_2 (((sure.length + 1 : Nat) : Int), ((sure.length + 1 : Nat) : Int), sortedOf x27)).1.2.1)) (x2 := ((uFlush w_0 w_1 w_2 (((sure.length + 1 : Nat) : Int), ((sure.length + 1 : Nat) : Int), sortedOf x27)).1.2.2)) w183_0
                          dsimp only at q185_0
                          have q185_r2 := q185_2.rm
                          refine VO.inv _ (fun _ h => h.parts (i := 122) rfl q185_S [288, 286, 287]) ?_
                          have hkq : Kq (((uFlush w_0 w_1 w_2 (((sure.length + 1 : Nat) : Int), ((sure.length + 1 : Nat) : Int), sortedOf x27)).1.1)) (sure ++ [(((sure.length + 1 : Nat) : Int), ((sure.length + 1 : Nat) : Int), sortedOf x27)]) (sure) := by first | exact (hkr.2 (by assumption)).2.1 | (rw [hp]; exact ku_kq hk)
                          have hqo := kq_ok hkq
                          refine VO.mv ?_
                          refine VO.call 286 rfl fnOk32 rfl rfl (fun W hW => dOn_ok W (hW.at (i := 286) rfl) q185_0) (fun v189 m189 hv189 => ?_)
                          obtain ⟨rfl, w189_0⟩ := hv189
                          refine VO.mv ?_
                          refine VO.dec (t := 97) rfl (fun hc190 => ?_) (fun hc190 => ?_)
                          · -- FFFTFTFJTF1TFFT
                            refine VO.gy rfl ⟨_, rfl, rfl⟩ (.mv rfl) ?_
                            refine VO.gcall 286 rfl ⟨_, rfl, rfl⟩ fnOk33 rfl rfl (fun W hW => dPull_ok W (hW.at (i := 286) rfl) w189_0 (by assumption)) (fun v191 m191 hv191 => ?_)
                            obtain ⟨rfl, w191_0⟩ := hv191
                            have hfa192 := (pull_ok (show okD ((uFlush w_0 w_1 w_2 (((sure.length + 1 : Nat) : Int), ((sure.length + 1 : Nat) : Int), sortedOf x27)).1.1) by assumption))
                            have hfa193 := (pull_w ((uFlush w_0 w_1 w_2 (((sure.length + 1 : Nat) : Int), ((sure.length + 1 : Nat) : Int), sortedOf x27)).1.1))
                            refine VO.gy rfl ⟨_, rfl, rfl⟩ (.neq rfl rfl) ?_
                            refine VO.y rfl (.pT rfl rfl) ?_
                            refine VO.mv ?_
                            refine VO.dec (t := 102) rfl (fun hc194 => ?_) (fun hc194 => ?_)
                            · -- FFFTFTFJTF1TFFTT
                              first | exact absurd rfl hc194 | exact absurd (by decide) hc194 | (refine absurd ?_ hc194; rw [ru0]; done) | (refine absurd ?_ hc194; rw [ru0]; exact (ku_fuse ku_new (by omega)).1) | exact absurd (kq_pull hkq (by assumption)).1 hc194 | exact absurd (kq_start (kq_pull hkq (by assumption)).2.1 (kq_pull hkq (by assumption)).2.2 (by omega) (by omega)).1 hc194 | exact absurd (kq_start hkq (kq_off hkq (by assumption)) (by omega) (by omega)).1 hc194 | exact absurd hko.1 hc194 | exact absurd (hkr.2 (by assumption)).1 hc194 | exact absurd ((congrArg (fun q : Bool × List DRun => endR q.2) (hkr.2 (by assumption)).2.2).trans (hl.2.trans hl.1.symm)) hc194 | (exfalso; omega)
                            · -- FFFTFTFJTF1TFFTF
                              refine VO.gy rfl ⟨_, rfl, rfl⟩ (.mv rfl) ?_
                              refine VO.gy rfl ⟨_, rfl, rfl⟩ (.mv rfl) ?_
                              refine VO.gy rfl ⟨_, rfl, rfl⟩ (.mv rfl) ?_
                              refine VO.gcall 286 rfl ⟨_, rfl, rfl⟩ fnOk34 rfl rfl (fun W hW => dStart_ok W (hW.at (i := 286) rfl) w191_0 d2 bdk d3 bdk (by assumption) bd) (fun v195 m195 hv195 => ?_)
                              obtain ⟨rfl, w195_0⟩ := hv195
                              have hfa196 := (start_ok (k := d2) (t := d3) (show okD ((dPull ((uFlush w_0 w_1 w_2 (((sure.length + 1 : Nat) : Int), ((sure.length + 1 : Nat) : Int), sortedOf x27)).1.1)).1) by assumption))
                              have hfa197 := (start_w ((dPull ((uFlush w_0 w_1 w_2 (((sure.length + 1 : Nat) : Int), ((sure.length + 1 : Nat) : Int), sortedOf x27)).1.1)).1) d2 d3)
                              refine VO.gy rfl ⟨_, rfl, rfl⟩ (.neq rfl rfl) ?_
                              refine VO.y rfl (.pF rfl rfl) ?_
                              refine VO.clsP 298 [288, 286, 287] rfl (fun hg198 => (mkP_runRuns (s5_0, (dStart ((dPull ((uFlush w_0 w_1 w_2 (((sure.length + 1 : Nat) : Int), ((sure.length + 1 : Nat) : Int), sortedOf x27)).1.1)).1) d2 d3).1) ((uFlush w_0 w_1 w_2 (((sure.length + 1 : Nat) : Int), ((sure.length + 1 : Nat) : Int), sortedOf x27)).1.2.1) ((uFlush w_0 w_1 w_2 (((sure.length + 1 : Nat) : Int), ((sure.length + 1 : Nat) : Int), sortedOf x27)).1.2.2) hg198 w195_0 q185_2)) (fun mc198 ho198 => ?_)
                              refine VO.k15 0 2 3 9 10 11 12 13 14 15 53 61 84 93 108 ?_
                              refine VC.cond rfl (fun hc199 => ?_) (fun hc199 => ?_)
                              · -- FFFTFTFJTF1TFFTFT
                                first | exact absurd rfl hc199 | exact absurd (by decide) hc199 | (refine absurd ?_ hc199; rw [ru0]; done) | (refine absurd ?_ hc199; rw [ru0]; exact (ku_fuse ku_new (by omega)).1) | exact absurd (kq_pull hkq (by assumption)).1 hc199 | exact absurd (kq_start (kq_pull hkq (by assumption)).2.1 (kq_pull hkq (by assumption)).2.2 (by omega) (by omega)).1 hc199 | exact absurd (kq_start hkq (kq_off hkq (by assumption)) (by omega) (by omega)).1 hc199 | exact absurd hko.1 hc199 | exact absurd (hkr.2 (by assumption)).1 hc199 | exact absurd ((congrArg (fun q : Bool × List DRun => endR q.2) (hkr.2 (by assumption)).2.2).trans (hl.2.trans hl.1.symm)) hc199 | (exfalso; omega)
                              · -- FFFTFTFJTF1TFFTFF
                                refine VC.skip ?_
                                refine outN ?_
                                refine VC.rs ?_
                                obtain ⟨q200_E, q200_A2, q200_c2, q200_n0, q200_n2, _, q200_S, q200_0, q200_2⟩ := openP_runRuns (x0 := (s5_0, (dStart ((dPull ((uFlush w_0 w_1 w_2 (((sure.length + 1 : Nat) : Int), ((sure.length + 1 : Nat) : Int), sortedOf x27)).1.1)).1) d2 d3).1)) (x1 := ((uFlush w_0 w_1 w_2 (((sure.length + 1 : Nat) : Int), ((sure.length + 1 : Nat) : Int), sortedOf x27)).1.2.1)) (x2 := ((uFlush w_0 w_1 w_2 (((sure.length + 1 : Nat) : Int), ((sure.length + 1 : Nat) : Int), sortedOf x27)).1.2.2)) ho198
                                dsimp only at q200_0
                                have q200_r2 := q200_2.rm
                                refine VO.inv _ (fun _ h => h.parts (i := 298) rfl q200_S [303, 301, 302]) ?_
                                have hkrr : Kr ((dStart ((dPull ((uFlush w_0 w_1 w_2 (((sure.length + 1 : Nat) : Int), ((sure.length + 1 : Nat) : Int), sortedOf x27)).1.1)).1) d2 d3).1) (sure ++ [(((sure.length + 1 : Nat) : Int), ((sure.length + 1 : Nat) : Int), sortedOf x27)]) (sure) := by first | exact (kq_start (kq_pull hkq (by assumption)).2.1 (kq_pull hkq (by assumption)).2.2 (by omega) (by omega)).2 | exact (kq_start hkq (kq_off hkq (by assumption)) (by omega) (by omega)).2
                                have hko := kr_open hkrr; have hk2 := kr_two hkrr (by first | (rw [hp]; omega) | (simp; done))
                                refine VO.mv ?_
                                by_cases hsp204 : (uOpen ((dStart ((dPull ((uFlush w_0 w_1 w_2 (((sure.length + 1 : Nat) : Int), ((sure.length + 1 : Nat) : Int), sortedOf x27)).1.1)).1) d2 d3).1)).2 = 0
                                · -- FFFTFTFJTF1TFFTFFT
                                  refine VO.call 301 rfl fnOk9 rfl rfl (fun W hW => uOpenY_ok W (hW.at (i := 301) rfl) q200_0 (by assumption) bd (by assumption)) (fun v205 m205 hv205 => ?_)
                                  obtain ⟨s205_0, rfl, f205_0⟩ := hv205
                                  have hfa206 := (uopen_ok (show okD ((dStart ((dPull ((uFlush w_0 w_1 w_2 (((sure.length + 1 : Nat) : Int), ((sure.length + 1 : Nat) : Int), sortedOf x27)).1.1)).1) d2 d3).1) by assumption))
                                  have hfa207 := (uopen_w (show okD ((dStart ((dPull ((uFlush w_0 w_1 w_2 (((sure.length + 1 : Nat) : Int), ((sure.length + 1 : Nat) : Int), sortedOf x27)).1.1)).1) d2 d3).1) by assumption))
                                  have hfa208 := (runF_ok (dRead ((dStart ((dPull ((uFlush w_0 w_1 w_2 (((sure.length + 1 : Nat) : Int), ((sure.length + 1 : Nat) : Int), sortedOf x27)).1.1)).1) d2 d3).1) 2).1).1
                                  refine VO.mv ?_
                                  refine VO.y rfl (.ext rfl rfl) ?_
                                  refine VO.y rfl (.ext rfl rfl) ?_
                                  refine VO.as ?_
                                  refine VO.as ?_
                                  refine VO.kp [301, 303, 302, 278, 140, 133, 0] [(301, m205), (303, mone s9_0 (.cells [Value.pointer (some ⟨s5_0, 0, none⟩), Value.bool ((uFlush w_0 w_1 w_2 (((sure.length + 1 : Nat) : Int), ((sure.length + 1 : Nat) : Int), sortedOf x27)).1.2.1), Value.slice q200_A2 (((uFlush w_0 w_1 w_2 (((sure.length + 1 : Nat) : Int), ((sure.length + 1 : Nat) : Int), sortedOf x27)).1.2.2).length) (q200_c2)].toArray q200_E (0, 0))), (302, q200_n2), (278, m180), (140, muns [pm, m30]), (133, mone g32 (.cells [Value.int .i64 (((sure.length + 1 : Nat) : Int)), Value.int .i64 (((sure.length + 1 : Nat) : Int)), Value.slice A30_0 ((sortedOf x27).length) (c30_0)].toArray 32 (0, 0))), (0, wm W)] ?_
                                  refine VO.k16 0 2 3 9 10 11 12 13 14 15 16 53 61 84 93 108 ?_
                                  refine VC.seq ?_
                                  refine VC.rs ?_
                                  refine VO.mv ?_
                                  refine VO.y rfl (.neq rfl rfl) ?_
                                  refine VO.mv ?_
                                  refine VO.known (t := 116) false rfl (decide_eq_false hc13) ?_
                                  refine VO.gy rfl ⟨_, rfl, rfl⟩ (.mv rfl) ?_
                                  refine VO.gy rfl ⟨_, rfl, rfl⟩ (.pnil rfl rfl Try.underlying23 rfl) ?_
                                  refine VO.y rfl (.pF rfl rfl) ?_
                                  refine VO.k17 0 2 3 9 10 11 12 13 14 15 16 53 61 84 93 108 119 ?_
                                  refine VC.condF rfl ?_
                                  refine VC.skip ?_
                                  refine outN ?_
                                  refine VC.rs ?_
                                  refine VO.mv ?_
                                  refine VO.call 301 rfl fnOk29 rfl rfl (fun W hW => uList_ok W (hW.at (i := 301) rfl) f205_0 (by assumption)) (fun v209 m209 hv209 => ?_)
                                  try dsimp only at hv209
                                  obtain ⟨s209_0, p209_0, p209_1, rfl, hS209, f209_0, w209_0⟩ := hv209
                                  refine VO.inv _ (fun _ h => h.parts (i := 301) rfl hS209 [310, 311]) ?_
                                  obtain ⟨A209_0, c209_0, eq209_0, l209_0, k209_0⟩ := f209_0.slice
                                  subst eq209_0
                                  simp only [maxLen] at k209_0
                                  refine VO.mv ?_
                                  refine VO.callN 312 rfl fnOk23 rfl (fun W hW => SameRuns_ok W (Ow.rd f209_0 (hW.at (i := 310) rfl)) (Rd.mono hp39_0 (hW.at (i := 140) rfl))) (fun v212 m212 hv212 => ?_)
                                  subst hv212
                                  refine VO.mv ?_
                                  refine VO.dec (t := 124) rfl (fun hc213 => ?_) (fun hc213 => ?_)
                                  · -- FFFTFTFJTF1TFFTFFTT
                                    refine VO.gN ?_
                                    refine VO.gN ?_
                                    refine VO.gN ?_
                                    refine VO.gN ?_
                                    refine VO.y rfl (.pT rfl rfl) ?_
                                    refine VO.as ?_
                                    refine VO.k18 0 2 3 8 9 10 11 12 13 14 15 16 53 61 84 93 108 119 ?_
                                    refine VC.ret ?_
                                    refine ⟨_, _, res_run (rs := [.tmp 8]) rfl (.tmp rfl .nil), fun W_ hI => out_of (l := []) hI [] rfl rfl (mle_refl _) (fun hS_ => ?_)⟩
                                    dsimp only [packV]
                                    all_goals (first | rfl | (exact fin1_runKeeps_ok))
                                  · -- FFFTFTFJTF1TFFTFFTF
                                    refine VO.gy rfl ⟨_, rfl, rfl⟩ (.mv rfl) ?_
                                    refine VO.gcall 311 rfl ⟨_, rfl, rfl⟩ fnOk29 rfl rfl (fun W hW => uList_ok W (hW.at (i := 311) rfl) w209_0 (by assumption)) (fun v214 m214 hv214 => ?_)
                                    try dsimp only at hv214
                                    obtain ⟨s214_0, p214_0, p214_1, rfl, hS214, f214_0, w214_0⟩ := hv214
                                    refine VO.inv _ (fun _ h => h.parts (i := 311) rfl hS214 [315, 316]) ?_
                                    obtain ⟨A214_0, c214_0, eq214_0, l214_0, k214_0⟩ := f214_0.slice
                                    subst eq214_0
                                    simp only [maxLen] at k214_0
                                    refine VO.gy rfl ⟨_, rfl, rfl⟩ (.mv rfl) ?_
                                    refine VO.gcallN 317 rfl ⟨_, rfl, rfl⟩ fnOk23 rfl (fun W hW => SameRuns_ok W (Ow.rd f214_0 (hW.at (i := 315) rfl)) (OwnL.rd ho180 (hW.at (i := 278) rfl) (hW.at (i := 140) rfl))) (fun v217 m217 hv217 => ?_)
                                    subst hv217
                                    refine VO.y rfl (.pF rfl rfl) ?_
                                    refine VO.as ?_
                                    refine VO.k18 0 2 3 8 9 10 11 12 13 14 15 16 53 61 84 93 108 119 ?_
                                    refine VC.ret ?_
                                    refine ⟨_, _, res_run (rs := [.tmp 8]) rfl (.tmp rfl .nil), fun W_ hI => out_of (l := []) hI [] rfl rfl (mle_refl _) (fun hS_ => ?_)⟩
                                    dsimp only [packV]
                                    all_goals (first | rfl | (exact fin1_runKeeps_ok))
                                · -- FFFTFTFJTF1TFFTFFF
                                  first | exact absurd rfl hsp204 | exact absurd (by decide) hsp204 | (refine absurd ?_ hsp204; rw [ru0]; done) | (refine absurd ?_ hsp204; rw [ru0]; exact (ku_fuse ku_new (by omega)).1) | exact absurd (kq_pull hkq (by assumption)).1 hsp204 | exact absurd (kq_start (kq_pull hkq (by assumption)).2.1 (kq_pull hkq (by assumption)).2.2 (by omega) (by omega)).1 hsp204 | exact absurd (kq_start hkq (kq_off hkq (by assumption)) (by omega) (by omega)).1 hsp204 | exact absurd hko.1 hsp204 | exact absurd (hkr.2 (by assumption)).1 hsp204 | exact absurd ((congrArg (fun q : Bool × List DRun => endR q.2) (hkr.2 (by assumption)).2.2).trans (hl.2.trans hl.1.symm)) hsp204 | (exfalso; omega)
                          · -- FFFTFTFJTF1TFFF
                            refine VO.gN ?_
                            refine VO.gN ?_
                            refine VO.gN ?_
                            refine VO.y rfl (.pF rfl rfl) ?_
                            refine VO.mv ?_
                            refine VO.gy rfl ⟨_, rfl, rfl⟩ (.mv rfl) ?_
                            refine VO.gy rfl ⟨_, rfl, rfl⟩ (.mv rfl) ?_
                            refine VO.gy rfl ⟨_, rfl, rfl⟩ (.mv rfl) ?_
                            refine VO.gcall 286 rfl ⟨_, rfl, rfl⟩ fnOk34 rfl rfl (fun W hW => dStart_ok W (hW.at (i := 286) rfl) w189_0 d2 bdk d3 bdk (by assumption) bd) (fun v218 m218 hv218 => ?_)
                            obtain ⟨rfl, w218_0⟩ := hv218
                            have hfa219 := (start_ok (k := d2) (t := d3) (show okD ((uFlush w_0 w_1 w_2 (((sure.length + 1 : Nat) : Int), ((sure.length + 1 : Nat) : Int), sortedOf x27)).1.1) by assumption))
                            have hfa220 := (start_w ((uFlush w_0 w_1 w_2 (((sure.length + 1 : Nat) : Int), ((sure.length + 1 : Nat) : Int), sortedOf x27)).1.1) d2 d3)
                            refine VO.gy rfl ⟨_, rfl, rfl⟩ (.neq rfl rfl) ?_
                            refine VO.y rfl (.pF rfl rfl) ?_
                            refine VO.clsP 321 [288, 286, 287] rfl (fun hg221 => (mkP_runRuns (s5_0, (dStart ((uFlush w_0 w_1 w_2 (((sure.length + 1 : Nat) : Int), ((sure.length + 1 : Nat) : Int), sortedOf x27)).1.1) d2 d3).1) ((uFlush w_0 w_1 w_2 (((sure.length + 1 : Nat) : Int), ((sure.length + 1 : Nat) : Int), sortedOf x27)).1.2.1) ((uFlush w_0 w_1 w_2 (((sure.length + 1 : Nat) : Int), ((sure.length + 1 : Nat) : Int), sortedOf x27)).1.2.2) hg221 w218_0 q185_2)) (fun mc221 ho221 => ?_)
                            refine VO.k15 0 2 3 9 10 11 12 13 14 15 53 61 84 93 108 ?_
                            refine VC.cond rfl (fun hc222 => ?_) (fun hc222 => ?_)
                            · -- FFFTFTFJTF1TFFFT
                              first | exact absurd rfl hc222 | exact absurd (by decide) hc222 | (refine absurd ?_ hc222; rw [ru0]; done) | (refine absurd ?_ hc222; rw [ru0]; exact (ku_fuse ku_new (by omega)).1) | exact absurd (kq_pull hkq (by assumption)).1 hc222 | exact absurd (kq_start (kq_pull hkq (by assumption)).2.1 (kq_pull hkq (by assumption)).2.2 (by omega) (by omega)).1 hc222 | exact absurd (kq_start hkq (kq_off hkq (by assumption)) (by omega) (by omega)).1 hc222 | exact absurd hko.1 hc222 | exact absurd (hkr.2 (by assumption)).1 hc222 | exact absurd ((congrArg (fun q : Bool × List DRun => endR q.2) (hkr.2 (by assumption)).2.2).trans (hl.2.trans hl.1.symm)) hc222 | (exfalso; omega)
                            · -- FFFTFTFJTF1TFFFF
                              refine VC.skip ?_
                              refine outN ?_
                              refine VC.rs ?_
                              obtain ⟨q223_E, q223_A2, q223_c2, q223_n0, q223_n2, _, q223_S, q223_0, q223_2⟩ := openP_runRuns (x0 := (s5_0, (dStart ((uFlush w_0 w_1 w_2 (((sure.length + 1 : Nat) : Int), ((sure.length + 1 : Nat) : Int), sortedOf x27)).1.1) d2 d3).1)) (x1 := ((uFlush w_0 w_1 w_2 (((sure.length + 1 : Nat) : Int), ((sure.length + 1 : Nat) : Int), sortedOf x27)).1.2.1)) (x2 := ((uFlush w_0 w_1 w_2 (((sure.length + 1 : Nat) : Int), ((sure.length + 1 : Nat) : Int), sortedOf x27)).1.2.2)) ho221
                              dsimp only at q223_0
                              have q223_r2 := q223_2.rm
                              refine VO.inv _ (fun _ h => h.parts (i := 321) rfl q223_S [326, 324, 325]) ?_
                              have hkrr : Kr ((dStart ((uFlush w_0 w_1 w_2 (((sure.length + 1 : Nat) : Int), ((sure.length + 1 : Nat) : Int), sortedOf x27)).1.1) d2 d3).1) (sure ++ [(((sure.length + 1 : Nat) : Int), ((sure.length + 1 : Nat) : Int), sortedOf x27)]) (sure) := by first | exact (kq_start (kq_pull hkq (by assumption)).2.1 (kq_pull hkq (by assumption)).2.2 (by omega) (by omega)).2 | exact (kq_start hkq (kq_off hkq (by assumption)) (by omega) (by omega)).2
                              have hko := kr_open hkrr; have hk2 := kr_two hkrr (by first | (rw [hp]; omega) | (simp; done))
                              refine VO.mv ?_
                              by_cases hsp227 : (uOpen ((dStart ((uFlush w_0 w_1 w_2 (((sure.length + 1 : Nat) : Int), ((sure.length + 1 : Nat) : Int), sortedOf x27)).1.1) d2 d3).1)).2 = 0
                              · -- FFFTFTFJTF1TFFFFT
                                refine VO.call 324 rfl fnOk9 rfl rfl (fun W hW => uOpenY_ok W (hW.at (i := 324) rfl) q223_0 (by assumption) bd (by assumption)) (fun v228 m228 hv228 => ?_)
                                obtain ⟨s228_0, rfl, f228_0⟩ := hv228
                                have hfa229 := (uopen_ok (show okD ((dStart ((uFlush w_0 w_1 w_2 (((sure.length + 1 : Nat) : Int), ((sure.length + 1 : Nat) : Int), sortedOf x27)).1.1) d2 d3).1) by assumption))
                                have hfa230 := (uopen_w (show okD ((dStart ((uFlush w_0 w_1 w_2 (((sure.length + 1 : Nat) : Int), ((sure.length + 1 : Nat) : Int), sortedOf x27)).1.1) d2 d3).1) by assumption))
                                have hfa231 := (runF_ok (dRead ((dStart ((uFlush w_0 w_1 w_2 (((sure.length + 1 : Nat) : Int), ((sure.length + 1 : Nat) : Int), sortedOf x27)).1.1) d2 d3).1) 2).1).1
                                refine VO.mv ?_
                                refine VO.y rfl (.ext rfl rfl) ?_
                                refine VO.y rfl (.ext rfl rfl) ?_
                                refine VO.as ?_
                                refine VO.as ?_
                                refine VO.kp [324, 326, 325, 278, 140, 133, 0] [(324, m228), (326, mone s9_0 (.cells [Value.pointer (some ⟨s5_0, 0, none⟩), Value.bool ((uFlush w_0 w_1 w_2 (((sure.length + 1 : Nat) : Int), ((sure.length + 1 : Nat) : Int), sortedOf x27)).1.2.1), Value.slice q223_A2 (((uFlush w_0 w_1 w_2 (((sure.length + 1 : Nat) : Int), ((sure.length + 1 : Nat) : Int), sortedOf x27)).1.2.2).length) (q223_c2)].toArray q223_E (0, 0))), (325, q223_n2), (278, m180), (140, muns [pm, m30]), (133, mone g32 (.cells [Value.int .i64 (((sure.length + 1 : Nat) : Int)), Value.int .i64 (((sure.length + 1 : Nat) : Int)), Value.slice A30_0 ((sortedOf x27).length) (c30_0)].toArray 32 (0, 0))), (0, wm W)] ?_
                                refine VO.k16 0 2 3 9 10 11 12 13 14 15 16 53 61 84 93 108 ?_
                                refine VC.seq ?_
                                refine VC.rs ?_
                                refine VO.mv ?_
                                refine VO.y rfl (.neq rfl rfl) ?_
                                refine VO.mv ?_
                                refine VO.known (t := 116) false rfl (decide_eq_false hc13) ?_
                                refine VO.gy rfl ⟨_, rfl, rfl⟩ (.mv rfl) ?_
                                refine VO.gy rfl ⟨_, rfl, rfl⟩ (.pnil rfl rfl Try.underlying23 rfl) ?_
                                refine VO.y rfl (.pF rfl rfl) ?_
                                refine VO.k17 0 2 3 9 10 11 12 13 14 15 16 53 61 84 93 108 119 ?_
                                refine VC.condF rfl ?_
                                refine VC.skip ?_
                                refine outN ?_
                                refine VC.rs ?_
                                refine VO.mv ?_
                                refine VO.call 324 rfl fnOk29 rfl rfl (fun W hW => uList_ok W (hW.at (i := 324) rfl) f228_0 (by assumption)) (fun v232 m232 hv232 => ?_)
                                try dsimp only at hv232
                                obtain ⟨s232_0, p232_0, p232_1, rfl, hS232, f232_0, w232_0⟩ := hv232
                                refine VO.inv _ (fun _ h => h.parts (i := 324) rfl hS232 [333, 334]) ?_
                                obtain ⟨A232_0, c232_0, eq232_0, l232_0, k232_0⟩ := f232_0.slice
                                subst eq232_0
                                simp only [maxLen] at k232_0
                                refine VO.mv ?_
                                refine VO.callN 335 rfl fnOk23 rfl (fun W hW => SameRuns_ok W (Ow.rd f232_0 (hW.at (i := 333) rfl)) (Rd.mono hp39_0 (hW.at (i := 140) rfl))) (fun v235 m235 hv235 => ?_)
                                subst hv235
                                refine VO.mv ?_
                                refine VO.dec (t := 124) rfl (fun hc236 => ?_) (fun hc236 => ?_)
                                · -- FFFTFTFJTF1TFFFFTT
                                  refine VO.gN ?_
                                  refine VO.gN ?_
                                  refine VO.gN ?_
                                  refine VO.gN ?_
                                  refine VO.y rfl (.pT rfl rfl) ?_
                                  refine VO.as ?_
                                  refine VO.k18 0 2 3 8 9 10 11 12 13 14 15 16 53 61 84 93 108 119 ?_
                                  refine VC.ret ?_
                                  refine ⟨_, _, res_run (rs := [.tmp 8]) rfl (.tmp rfl .nil), fun W_ hI => out_of (l := []) hI [] rfl rfl (mle_refl _) (fun hS_ => ?_)⟩
                                  dsimp only [packV]
                                  all_goals (first | rfl | (exact fin1_runKeeps_ok))
                                · -- FFFTFTFJTF1TFFFFTF
                                  refine VO.gy rfl ⟨_, rfl, rfl⟩ (.mv rfl) ?_
                                  refine VO.gcall 334 rfl ⟨_, rfl, rfl⟩ fnOk29 rfl rfl (fun W hW => uList_ok W (hW.at (i := 334) rfl) w232_0 (by assumption)) (fun v237 m237 hv237 => ?_)
                                  try dsimp only at hv237
                                  obtain ⟨s237_0, p237_0, p237_1, rfl, hS237, f237_0, w237_0⟩ := hv237
                                  refine VO.inv _ (fun _ h => h.parts (i := 334) rfl hS237 [338, 339]) ?_
                                  obtain ⟨A237_0, c237_0, eq237_0, l237_0, k237_0⟩ := f237_0.slice
                                  subst eq237_0
                                  simp only [maxLen] at k237_0
                                  refine VO.gy rfl ⟨_, rfl, rfl⟩ (.mv rfl) ?_
                                  refine VO.gcallN 340 rfl ⟨_, rfl, rfl⟩ fnOk23 rfl (fun W hW => SameRuns_ok W (Ow.rd f237_0 (hW.at (i := 338) rfl)) (OwnL.rd ho180 (hW.at (i := 278) rfl) (hW.at (i := 140) rfl))) (fun v240 m240 hv240 => ?_)
                                  subst hv240
                                  refine VO.y rfl (.pF rfl rfl) ?_
                                  refine VO.as ?_
                                  refine VO.k18 0 2 3 8 9 10 11 12 13 14 15 16 53 61 84 93 108 119 ?_
                                  refine VC.ret ?_
                                  refine ⟨_, _, res_run (rs := [.tmp 8]) rfl (.tmp rfl .nil), fun W_ hI => out_of (l := []) hI [] rfl rfl (mle_refl _) (fun hS_ => ?_)⟩
                                  dsimp only [packV]
                                  all_goals (first | rfl | (exact fin1_runKeeps_ok))
                              · -- FFFTFTFJTF1TFFFFF
                                first | exact absurd rfl hsp227 | exact absurd (by decide) hsp227 | (refine absurd ?_ hsp227; rw [ru0]; done) | (refine absurd ?_ hsp227; rw [ru0]; exact (ku_fuse ku_new (by omega)).1) | exact absurd (kq_pull hkq (by assumption)).1 hsp227 | exact absurd (kq_start (kq_pull hkq (by assumption)).2.1 (kq_pull hkq (by assumption)).2.2 (by omega) (by omega)).1 hsp227 | exact absurd (kq_start hkq (kq_off hkq (by assumption)) (by omega) (by omega)).1 hsp227 | exact absurd hko.1 hsp227 | exact absurd (hkr.2 (by assumption)).1 hsp227 | exact absurd ((congrArg (fun q : Bool × List DRun => endR q.2) (hkr.2 (by assumption)).2.2).trans (hl.2.trans hl.1.symm)) hsp227 | (exfalso; omega)
                    · -- FFFTFTFJTF1F
                      refine VC.skip ?_
                      refine outN ?_
                      refine VC.reg ?_
                      refine VO.mv ?_
                      refine VO.as ?_
                      refine VO.gather (l := [muns [pm, m30], m180]) 342 [140, 278] rfl (fun hg241 => ?_)
                      have hp241_0 : Rd (.sl TRun) (muns [muns [pm, m30], m180]) [Value.slice A180 ((sure ++ [(((sure.length + 1 : Nat) : Int), ((sure.length + 1 : Nat) : Int), sortedOf x27)]).length) (c180)] (sure ++ [(((sure.length + 1 : Nat) : Int), ((sure.length + 1 : Nat) : Int), sortedOf x27)]) := (OwnL.rd ho180 (hg241.1 _ (.tail _ (.head _))) (hg241.1 _ (.head _)))
                      have hp241_1 : Rd (.sl TRun) (muns [muns [pm, m30], m180]) [Value.slice A180 ((sure ++ [(((sure.length + 1 : Nat) : Int), ((sure.length + 1 : Nat) : Int), sortedOf x27)]).length) (c180)] (sure ++ [(((sure.length + 1 : Nat) : Int), ((sure.length + 1 : Nat) : Int), sortedOf x27)]) := (OwnL.rd ho180 (hg241.1 _ (.tail _ (.head _))) (hg241.1 _ (.head _)))
                      refine VO.k13 0 2 3 9 10 11 12 13 14 15 53 61 84 ?_
                      refine outBN ?_
                      refine outN ?_
                      refine VC.reg ?_
                      refine VO.mv ?_
                      refine VO.y rfl (.add (c := ((i + 1 : Nat) : Int)) rfl rfl (by omega) ⟨bd, bd⟩) ?_
                      refine VO.as ?_
                      refine VO.k13 0 2 3 9 10 11 12 13 14 15 53 61 84 ?_
                      exact outN ⟨⟨muns [muns [pm, m30], m180], i + 1, (uFlush w_0 w_1 w_2 (((sure.length + 1 : Nat) : Int), ((sure.length + 1 : Nat) : Int), sortedOf x27)).1.1, (uFlush w_0 w_1 w_2 (((sure.length + 1 : Nat) : Int), ((sure.length + 1 : Nat) : Int), sortedOf x27)).1.2.1, (uFlush w_0 w_1 w_2 (((sure.length + 1 : Nat) : Int), ((sure.length + 1 : Nat) : Int), sortedOf x27)).1.2.2, m34, sure ++ [(((sure.length + 1 : Nat) : Int), ((sure.length + 1 : Nat) : Int), sortedOf x27)], A180, c180, sure ++ [(((sure.length + 1 : Nat) : Int), ((sure.length + 1 : Nat) : Int), sortedOf x27)], A180, c180⟩, ⟨by (dsimp only; omega), by exact (hkr.1 (Decidable.not_not.1 (by assumption))).1, by (rw [(hkr.1 (Decidable.not_not.1 (by assumption))).2]; done), by (rw [(hkr.1 (Decidable.not_not.1 (by assumption))).2]; done), by rfl, by exact keeps_l hl rfl, by (dsimp only; omega), hp241_0, hp241_1, w34_0⟩, by (dsimp only; omega), ⟨⟨rfl, rfl, rfl, rfl, rfl, rfl, rfl, rfl, trivial⟩, fun _ h => Inv.sub (Inv.num h 342 124 rfl) [124, 122, 0]⟩⟩
              · -- FFFTFTFJF
                refine VC.exit ?_
                refine outE ?_
                refine outE ?_
                refine outBB ?_
                refine outN ?_
                refine VC.seq ?_
                refine VC.rs ?_
                obtain ⟨q243_E, q243_A2, q243_c2, q243_n0, q243_n2, _, q243_S, q243_0, q243_2⟩ := openP_runRuns (x0 := (s5_0, w_0)) (x1 := w_1) (x2 := w_2) h_w
                dsimp only at q243_0
                have q243_r2 := q243_2.rm
                refine VO.inv _ (fun _ h => h.parts (i := 122) rfl q243_S [346, 344, 345]) ?_
                have hkq : Kq (w_0) (perh) (sure) := by first | exact (hkr.2 (by assumption)).2.1 | (rw [hp]; exact ku_kq hk)
                have hqo := kq_ok hkq
                refine VO.mv ?_
                refine VO.call 344 rfl fnOk32 rfl rfl (fun W hW => dOn_ok W (hW.at (i := 344) rfl) q243_0) (fun v247 m247 hv247 => ?_)
                obtain ⟨rfl, w247_0⟩ := hv247
                refine VO.mv ?_
                refine VO.dec (t := 97) rfl (fun hc248 => ?_) (fun hc248 => ?_)
                · -- FFFTFTFJFT
                  refine VO.gy rfl ⟨_, rfl, rfl⟩ (.mv rfl) ?_
                  refine VO.gcall 344 rfl ⟨_, rfl, rfl⟩ fnOk33 rfl rfl (fun W hW => dPull_ok W (hW.at (i := 344) rfl) w247_0 (by assumption)) (fun v249 m249 hv249 => ?_)
                  obtain ⟨rfl, w249_0⟩ := hv249
                  have hfa250 := (pull_ok (show okD w_0 by assumption))
                  have hfa251 := (pull_w w_0)
                  refine VO.gy rfl ⟨_, rfl, rfl⟩ (.neq rfl rfl) ?_
                  refine VO.y rfl (.pT rfl rfl) ?_
                  refine VO.mv ?_
                  refine VO.dec (t := 102) rfl (fun hc252 => ?_) (fun hc252 => ?_)
                  · -- FFFTFTFJFTT
                    first | exact absurd rfl hc252 | exact absurd (by decide) hc252 | (refine absurd ?_ hc252; rw [ru0]; done) | (refine absurd ?_ hc252; rw [ru0]; exact (ku_fuse ku_new (by omega)).1) | exact absurd (kq_pull hkq (by assumption)).1 hc252 | exact absurd (kq_start (kq_pull hkq (by assumption)).2.1 (kq_pull hkq (by assumption)).2.2 (by omega) (by omega)).1 hc252 | exact absurd (kq_start hkq (kq_off hkq (by assumption)) (by omega) (by omega)).1 hc252 | exact absurd hko.1 hc252 | exact absurd (hkr.2 (by assumption)).1 hc252 | exact absurd ((congrArg (fun q : Bool × List DRun => endR q.2) (hkr.2 (by assumption)).2.2).trans (hl.2.trans hl.1.symm)) hc252 | (exfalso; omega)
                  · -- FFFTFTFJFTF
                    refine VO.gy rfl ⟨_, rfl, rfl⟩ (.mv rfl) ?_
                    refine VO.gy rfl ⟨_, rfl, rfl⟩ (.mv rfl) ?_
                    refine VO.gy rfl ⟨_, rfl, rfl⟩ (.mv rfl) ?_
                    refine VO.gcall 344 rfl ⟨_, rfl, rfl⟩ fnOk34 rfl rfl (fun W hW => dStart_ok W (hW.at (i := 344) rfl) w249_0 d2 bdk d3 bdk (by assumption) bd) (fun v253 m253 hv253 => ?_)
                    obtain ⟨rfl, w253_0⟩ := hv253
                    have hfa254 := (start_ok (k := d2) (t := d3) (show okD ((dPull w_0).1) by assumption))
                    have hfa255 := (start_w ((dPull w_0).1) d2 d3)
                    refine VO.gy rfl ⟨_, rfl, rfl⟩ (.neq rfl rfl) ?_
                    refine VO.y rfl (.pF rfl rfl) ?_
                    refine VO.clsP 356 [346, 344, 345] rfl (fun hg256 => (mkP_runRuns (s5_0, (dStart ((dPull w_0).1) d2 d3).1) w_1 w_2 hg256 w253_0 q243_2)) (fun mc256 ho256 => ?_)
                    refine VO.k10 0 2 3 9 10 12 13 14 53 108 ?_
                    refine VC.cond rfl (fun hc257 => ?_) (fun hc257 => ?_)
                    · -- FFFTFTFJFTFT
                      first | exact absurd rfl hc257 | exact absurd (by decide) hc257 | (refine absurd ?_ hc257; rw [ru0]; done) | (refine absurd ?_ hc257; rw [ru0]; exact (ku_fuse ku_new (by omega)).1) | exact absurd (kq_pull hkq (by assumption)).1 hc257 | exact absurd (kq_start (kq_pull hkq (by assumption)).2.1 (kq_pull hkq (by assumption)).2.2 (by omega) (by omega)).1 hc257 | exact absurd (kq_start hkq (kq_off hkq (by assumption)) (by omega) (by omega)).1 hc257 | exact absurd hko.1 hc257 | exact absurd (hkr.2 (by assumption)).1 hc257 | exact absurd ((congrArg (fun q : Bool × List DRun => endR q.2) (hkr.2 (by assumption)).2.2).trans (hl.2.trans hl.1.symm)) hc257 | (exfalso; omega)
                    · -- FFFTFTFJFTFF
                      refine VC.skip ?_
                      refine outN ?_
                      refine VC.rs ?_
                      obtain ⟨q258_E, q258_A2, q258_c2, q258_n0, q258_n2, _, q258_S, q258_0, q258_2⟩ := openP_runRuns (x0 := (s5_0, (dStart ((dPull w_0).1) d2 d3).1)) (x1 := w_1) (x2 := w_2) ho256
                      dsimp only at q258_0
                      have q258_r2 := q258_2.rm
                      refine VO.inv _ (fun _ h => h.parts (i := 356) rfl q258_S [361, 359, 360]) ?_
                      have hkrr : Kr ((dStart ((dPull w_0).1) d2 d3).1) (perh) (sure) := by first | exact (kq_start (kq_pull hkq (by assumption)).2.1 (kq_pull hkq (by assumption)).2.2 (by omega) (by omega)).2 | exact (kq_start hkq (kq_off hkq (by assumption)) (by omega) (by omega)).2
                      have hko := kr_open hkrr; have hk2 := kr_two hkrr (by first | (rw [hp]; omega) | (simp; done))
                      refine VO.mv ?_
                      by_cases hsp262 : (uOpen ((dStart ((dPull w_0).1) d2 d3).1)).2 = 0
                      · -- FFFTFTFJFTFFT
                        refine VO.call 359 rfl fnOk9 rfl rfl (fun W hW => uOpenY_ok W (hW.at (i := 359) rfl) q258_0 (by assumption) bd (by assumption)) (fun v263 m263 hv263 => ?_)
                        obtain ⟨s263_0, rfl, f263_0⟩ := hv263
                        have hfa264 := (uopen_ok (show okD ((dStart ((dPull w_0).1) d2 d3).1) by assumption))
                        have hfa265 := (uopen_w (show okD ((dStart ((dPull w_0).1) d2 d3).1) by assumption))
                        have hfa266 := (runF_ok (dRead ((dStart ((dPull w_0).1) d2 d3).1) 2).1).1
                        refine VO.mv ?_
                        refine VO.y rfl (.ext rfl rfl) ?_
                        refine VO.y rfl (.ext rfl rfl) ?_
                        refine VO.as ?_
                        refine VO.as ?_
                        refine VO.kp [359, 361, 360, 124, 0] [(359, m263), (361, mone s9_0 (.cells [Value.pointer (some ⟨s5_0, 0, none⟩), Value.bool w_1, Value.slice q258_A2 (w_2.length) (q258_c2)].toArray q258_E (0, 0))), (360, q258_n2), (124, pm), (0, wm W)] ?_
                        refine VO.k12 0 2 3 9 10 11 12 13 14 16 53 108 ?_
                        refine VC.seq ?_
                        refine VC.rs ?_
                        refine VO.mv ?_
                        refine VO.y rfl (.neq rfl rfl) ?_
                        refine VO.mv ?_
                        refine VO.known (t := 116) false rfl (decide_eq_false hc13) ?_
                        refine VO.gy rfl ⟨_, rfl, rfl⟩ (.mv rfl) ?_
                        refine VO.gy rfl ⟨_, rfl, rfl⟩ (.pnil rfl rfl Try.underlying23 rfl) ?_
                        refine VO.y rfl (.pF rfl rfl) ?_
                        refine VO.k13 0 2 3 9 10 11 12 13 14 16 53 108 119 ?_
                        refine VC.condF rfl ?_
                        refine VC.skip ?_
                        refine outN ?_
                        refine VC.rs ?_
                        refine VO.mv ?_
                        refine VO.call 359 rfl fnOk29 rfl rfl (fun W hW => uList_ok W (hW.at (i := 359) rfl) f263_0 (by assumption)) (fun v267 m267 hv267 => ?_)
                        try dsimp only at hv267
                        obtain ⟨s267_0, p267_0, p267_1, rfl, hS267, f267_0, w267_0⟩ := hv267
                        refine VO.inv _ (fun _ h => h.parts (i := 359) rfl hS267 [368, 369]) ?_
                        obtain ⟨A267_0, c267_0, eq267_0, l267_0, k267_0⟩ := f267_0.slice
                        subst eq267_0
                        simp only [maxLen] at k267_0
                        refine VO.mv ?_
                        refine VO.callN 370 rfl fnOk23 rfl (fun W hW => SameRuns_ok W (Ow.rd f267_0 (hW.at (i := 368) rfl)) (Rd.mono h_sure (hW.at (i := 124) rfl))) (fun v270 m270 hv270 => ?_)
                        subst hv270
                        refine VO.mv ?_
                        refine VO.dec (t := 124) rfl (fun hc271 => ?_) (fun hc271 => ?_)
                        · -- FFFTFTFJFTFFTT
                          refine VO.gN ?_
                          refine VO.gN ?_
                          refine VO.gN ?_
                          refine VO.gN ?_
                          refine VO.y rfl (.pT rfl rfl) ?_
                          refine VO.as ?_
                          refine VO.k14 0 2 3 8 9 10 11 12 13 14 16 53 108 119 ?_
                          refine VC.ret ?_
                          refine ⟨_, _, res_run (rs := [.tmp 8]) rfl (.tmp rfl .nil), fun W_ hI => out_of (l := []) hI [] rfl rfl (mle_refl _) (fun hS_ => ?_)⟩
                          dsimp only [packV]
                          all_goals (first | rfl | (exact fin1_runKeeps_ok))
                        · -- FFFTFTFJFTFFTF
                          refine VO.gy rfl ⟨_, rfl, rfl⟩ (.mv rfl) ?_
                          refine VO.gcall 369 rfl ⟨_, rfl, rfl⟩ fnOk29 rfl rfl (fun W hW => uList_ok W (hW.at (i := 369) rfl) w267_0 (by assumption)) (fun v272 m272 hv272 => ?_)
                          try dsimp only at hv272
                          obtain ⟨s272_0, p272_0, p272_1, rfl, hS272, f272_0, w272_0⟩ := hv272
                          refine VO.inv _ (fun _ h => h.parts (i := 369) rfl hS272 [373, 374]) ?_
                          obtain ⟨A272_0, c272_0, eq272_0, l272_0, k272_0⟩ := f272_0.slice
                          subst eq272_0
                          simp only [maxLen] at k272_0
                          refine VO.gy rfl ⟨_, rfl, rfl⟩ (.mv rfl) ?_
                          refine VO.gcallN 375 rfl ⟨_, rfl, rfl⟩ fnOk23 rfl (fun W hW => SameRuns_ok W (Ow.rd f272_0 (hW.at (i := 373) rfl)) (Rd.mono h_perh (hW.at (i := 124) rfl))) (fun v275 m275 hv275 => ?_)
                          subst hv275
                          refine VO.y rfl (.pF rfl rfl) ?_
                          refine VO.as ?_
                          refine VO.k14 0 2 3 8 9 10 11 12 13 14 16 53 108 119 ?_
                          refine VC.ret ?_
                          refine ⟨_, _, res_run (rs := [.tmp 8]) rfl (.tmp rfl .nil), fun W_ hI => out_of (l := []) hI [] rfl rfl (mle_refl _) (fun hS_ => ?_)⟩
                          dsimp only [packV]
                          all_goals (first | rfl | (exact fin1_runKeeps_ok))
                      · -- FFFTFTFJFTFFF
                        first | exact absurd rfl hsp262 | exact absurd (by decide) hsp262 | (refine absurd ?_ hsp262; rw [ru0]; done) | (refine absurd ?_ hsp262; rw [ru0]; exact (ku_fuse ku_new (by omega)).1) | exact absurd (kq_pull hkq (by assumption)).1 hsp262 | exact absurd (kq_start (kq_pull hkq (by assumption)).2.1 (kq_pull hkq (by assumption)).2.2 (by omega) (by omega)).1 hsp262 | exact absurd (kq_start hkq (kq_off hkq (by assumption)) (by omega) (by omega)).1 hsp262 | exact absurd hko.1 hsp262 | exact absurd (hkr.2 (by assumption)).1 hsp262 | exact absurd ((congrArg (fun q : Bool × List DRun => endR q.2) (hkr.2 (by assumption)).2.2).trans (hl.2.trans hl.1.symm)) hsp262 | (exfalso; omega)
                · -- FFFTFTFJFF
                  refine VO.gN ?_
                  refine VO.gN ?_
                  refine VO.gN ?_
                  refine VO.y rfl (.pF rfl rfl) ?_
                  refine VO.mv ?_
                  refine VO.gy rfl ⟨_, rfl, rfl⟩ (.mv rfl) ?_
                  refine VO.gy rfl ⟨_, rfl, rfl⟩ (.mv rfl) ?_
                  refine VO.gy rfl ⟨_, rfl, rfl⟩ (.mv rfl) ?_
                  refine VO.gcall 344 rfl ⟨_, rfl, rfl⟩ fnOk34 rfl rfl (fun W hW => dStart_ok W (hW.at (i := 344) rfl) w247_0 d2 bdk d3 bdk (by assumption) bd) (fun v276 m276 hv276 => ?_)
                  obtain ⟨rfl, w276_0⟩ := hv276
                  have hfa277 := (start_ok (k := d2) (t := d3) (show okD w_0 by assumption))
                  have hfa278 := (start_w w_0 d2 d3)
                  refine VO.gy rfl ⟨_, rfl, rfl⟩ (.neq rfl rfl) ?_
                  refine VO.y rfl (.pF rfl rfl) ?_
                  refine VO.clsP 379 [346, 344, 345] rfl (fun hg279 => (mkP_runRuns (s5_0, (dStart w_0 d2 d3).1) w_1 w_2 hg279 w276_0 q243_2)) (fun mc279 ho279 => ?_)
                  refine VO.k10 0 2 3 9 10 12 13 14 53 108 ?_
                  refine VC.cond rfl (fun hc280 => ?_) (fun hc280 => ?_)
                  · -- FFFTFTFJFFT
                    first | exact absurd rfl hc280 | exact absurd (by decide) hc280 | (refine absurd ?_ hc280; rw [ru0]; done) | (refine absurd ?_ hc280; rw [ru0]; exact (ku_fuse ku_new (by omega)).1) | exact absurd (kq_pull hkq (by assumption)).1 hc280 | exact absurd (kq_start (kq_pull hkq (by assumption)).2.1 (kq_pull hkq (by assumption)).2.2 (by omega) (by omega)).1 hc280 | exact absurd (kq_start hkq (kq_off hkq (by assumption)) (by omega) (by omega)).1 hc280 | exact absurd hko.1 hc280 | exact absurd (hkr.2 (by assumption)).1 hc280 | exact absurd ((congrArg (fun q : Bool × List DRun => endR q.2) (hkr.2 (by assumption)).2.2).trans (hl.2.trans hl.1.symm)) hc280 | (exfalso; omega)
                  · -- FFFTFTFJFFF
                    refine VC.skip ?_
                    refine outN ?_
                    refine VC.rs ?_
                    obtain ⟨q281_E, q281_A2, q281_c2, q281_n0, q281_n2, _, q281_S, q281_0, q281_2⟩ := openP_runRuns (x0 := (s5_0, (dStart w_0 d2 d3).1)) (x1 := w_1) (x2 := w_2) ho279
                    dsimp only at q281_0
                    have q281_r2 := q281_2.rm
                    refine VO.inv _ (fun _ h => h.parts (i := 379) rfl q281_S [384, 382, 383]) ?_
                    have hkrr : Kr ((dStart w_0 d2 d3).1) (perh) (sure) := by first | exact (kq_start (kq_pull hkq (by assumption)).2.1 (kq_pull hkq (by assumption)).2.2 (by omega) (by omega)).2 | exact (kq_start hkq (kq_off hkq (by assumption)) (by omega) (by omega)).2
                    have hko := kr_open hkrr; have hk2 := kr_two hkrr (by first | (rw [hp]; omega) | (simp; done))
                    refine VO.mv ?_
                    by_cases hsp285 : (uOpen ((dStart w_0 d2 d3).1)).2 = 0
                    · -- FFFTFTFJFFFT
                      refine VO.call 382 rfl fnOk9 rfl rfl (fun W hW => uOpenY_ok W (hW.at (i := 382) rfl) q281_0 (by assumption) bd (by assumption)) (fun v286 m286 hv286 => ?_)
                      obtain ⟨s286_0, rfl, f286_0⟩ := hv286
                      have hfa287 := (uopen_ok (show okD ((dStart w_0 d2 d3).1) by assumption))
                      have hfa288 := (uopen_w (show okD ((dStart w_0 d2 d3).1) by assumption))
                      have hfa289 := (runF_ok (dRead ((dStart w_0 d2 d3).1) 2).1).1
                      refine VO.mv ?_
                      refine VO.y rfl (.ext rfl rfl) ?_
                      refine VO.y rfl (.ext rfl rfl) ?_
                      refine VO.as ?_
                      refine VO.as ?_
                      refine VO.kp [382, 384, 383, 124, 0] [(382, m286), (384, mone s9_0 (.cells [Value.pointer (some ⟨s5_0, 0, none⟩), Value.bool w_1, Value.slice q281_A2 (w_2.length) (q281_c2)].toArray q281_E (0, 0))), (383, q281_n2), (124, pm), (0, wm W)] ?_
                      refine VO.k12 0 2 3 9 10 11 12 13 14 16 53 108 ?_
                      refine VC.seq ?_
                      refine VC.rs ?_
                      refine VO.mv ?_
                      refine VO.y rfl (.neq rfl rfl) ?_
                      refine VO.mv ?_
                      refine VO.known (t := 116) false rfl (decide_eq_false hc13) ?_
                      refine VO.gy rfl ⟨_, rfl, rfl⟩ (.mv rfl) ?_
                      refine VO.gy rfl ⟨_, rfl, rfl⟩ (.pnil rfl rfl Try.underlying23 rfl) ?_
                      refine VO.y rfl (.pF rfl rfl) ?_
                      refine VO.k13 0 2 3 9 10 11 12 13 14 16 53 108 119 ?_
                      refine VC.condF rfl ?_
                      refine VC.skip ?_
                      refine outN ?_
                      refine VC.rs ?_
                      refine VO.mv ?_
                      refine VO.call 382 rfl fnOk29 rfl rfl (fun W hW => uList_ok W (hW.at (i := 382) rfl) f286_0 (by assumption)) (fun v290 m290 hv290 => ?_)
                      try dsimp only at hv290
                      obtain ⟨s290_0, p290_0, p290_1, rfl, hS290, f290_0, w290_0⟩ := hv290
                      refine VO.inv _ (fun _ h => h.parts (i := 382) rfl hS290 [391, 392]) ?_
                      obtain ⟨A290_0, c290_0, eq290_0, l290_0, k290_0⟩ := f290_0.slice
                      subst eq290_0
                      simp only [maxLen] at k290_0
                      refine VO.mv ?_
                      refine VO.callN 393 rfl fnOk23 rfl (fun W hW => SameRuns_ok W (Ow.rd f290_0 (hW.at (i := 391) rfl)) (Rd.mono h_sure (hW.at (i := 124) rfl))) (fun v293 m293 hv293 => ?_)
                      subst hv293
                      refine VO.mv ?_
                      refine VO.dec (t := 124) rfl (fun hc294 => ?_) (fun hc294 => ?_)
                      · -- FFFTFTFJFFFTT
                        refine VO.gN ?_
                        refine VO.gN ?_
                        refine VO.gN ?_
                        refine VO.gN ?_
                        refine VO.y rfl (.pT rfl rfl) ?_
                        refine VO.as ?_
                        refine VO.k14 0 2 3 8 9 10 11 12 13 14 16 53 108 119 ?_
                        refine VC.ret ?_
                        refine ⟨_, _, res_run (rs := [.tmp 8]) rfl (.tmp rfl .nil), fun W_ hI => out_of (l := []) hI [] rfl rfl (mle_refl _) (fun hS_ => ?_)⟩
                        dsimp only [packV]
                        all_goals (first | rfl | (exact fin1_runKeeps_ok))
                      · -- FFFTFTFJFFFTF
                        refine VO.gy rfl ⟨_, rfl, rfl⟩ (.mv rfl) ?_
                        refine VO.gcall 392 rfl ⟨_, rfl, rfl⟩ fnOk29 rfl rfl (fun W hW => uList_ok W (hW.at (i := 392) rfl) w290_0 (by assumption)) (fun v295 m295 hv295 => ?_)
                        try dsimp only at hv295
                        obtain ⟨s295_0, p295_0, p295_1, rfl, hS295, f295_0, w295_0⟩ := hv295
                        refine VO.inv _ (fun _ h => h.parts (i := 392) rfl hS295 [396, 397]) ?_
                        obtain ⟨A295_0, c295_0, eq295_0, l295_0, k295_0⟩ := f295_0.slice
                        subst eq295_0
                        simp only [maxLen] at k295_0
                        refine VO.gy rfl ⟨_, rfl, rfl⟩ (.mv rfl) ?_
                        refine VO.gcallN 398 rfl ⟨_, rfl, rfl⟩ fnOk23 rfl (fun W hW => SameRuns_ok W (Ow.rd f295_0 (hW.at (i := 396) rfl)) (Rd.mono h_perh (hW.at (i := 124) rfl))) (fun v298 m298 hv298 => ?_)
                        subst hv298
                        refine VO.y rfl (.pF rfl rfl) ?_
                        refine VO.as ?_
                        refine VO.k14 0 2 3 8 9 10 11 12 13 14 16 53 108 119 ?_
                        refine VC.ret ?_
                        refine ⟨_, _, res_run (rs := [.tmp 8]) rfl (.tmp rfl .nil), fun W_ hI => out_of (l := []) hI [] rfl rfl (mle_refl _) (fun hS_ => ?_)⟩
                        dsimp only [packV]
                        all_goals (first | rfl | (exact fin1_runKeeps_ok))
                    · -- FFFTFTFJFFFF
                      first | exact absurd rfl hsp285 | exact absurd (by decide) hsp285 | (refine absurd ?_ hsp285; rw [ru0]; done) | (refine absurd ?_ hsp285; rw [ru0]; exact (ku_fuse ku_new (by omega)).1) | exact absurd (kq_pull hkq (by assumption)).1 hsp285 | exact absurd (kq_start (kq_pull hkq (by assumption)).2.1 (kq_pull hkq (by assumption)).2.2 (by omega) (by omega)).1 hsp285 | exact absurd (kq_start hkq (kq_off hkq (by assumption)) (by omega) (by omega)).1 hsp285 | exact absurd hko.1 hsp285 | exact absurd (hkr.2 (by assumption)).1 hsp285 | exact absurd ((congrArg (fun q : Bool × List DRun => endR q.2) (hkr.2 (by assumption)).2.2).trans (hl.2.trans hl.1.symm)) hsp285 | (exfalso; omega)
            · -- FFFTFA
              intro hJ1
              refine VC.rs ?_
              refine VO.mv ?_
              refine VO.y rfl (.geq rfl rfl) ?_
              refine VO.mv ?_
              refine VO.dec (t := 44) rfl (fun hc299 => ?_) (fun hc299 => ?_)
              · -- FFFTFAT
                refine VO.gy rfl ⟨_, rfl, rfl⟩ (.mv rfl) ?_
                refine VO.gy rfl ⟨_, rfl, rfl⟩ (.mv rfl) ?_
                obtain ⟨q301_E, q301_A2, q301_c2, q301_n0, q301_n2, _, q301_S, q301_0, q301_2⟩ := openP_runRuns (x0 := (s5_0, (uOpen newD).1)) (x1 := false) (x2 := (runF (dRead newD 2).1).1) f9_0
                dsimp only at q301_0
                have q301_r2 := q301_2.rm
                refine VO.inv _ (fun _ h => h.parts (i := 105) rfl q301_S [404, 402, 403]) ?_
                refine VO.gcall 402 rfl ⟨_, rfl, rfl⟩ fnOk30 rfl rfl (fun W hW => dFuse_ok W (hW.at (i := 402) rfl) q301_0 d1 bdk (by assumption)) (fun v300 m300 hv300 => ?_)
                obtain ⟨rfl, w300_0⟩ := hv300
                have hfa305 := (fuse_ok (n := d1) (show okD ((uOpen newD).1) by assumption))
                have hfa306 := (fuse_w ((uOpen newD).1) d1)
                refine VO.gy rfl ⟨_, rfl, rfl⟩ (.neq rfl rfl) ?_
                refine VO.y rfl (.pT rfl rfl) ?_
                refine VO.clsP 407 [404, 402, 403] rfl (fun hg307 => (mkP_runRuns (s5_0, (dFuse ((uOpen newD).1) d1).1) false ((runF (dRead newD 2).1).1) hg307 w300_0 q301_2)) (fun mc307 ho307 => ?_)
                refine VO.k12 0 1 2 3 8 9 10 11 18 29 41 49 ?_
                refine VC.cond rfl (fun hc308 => ?_) (fun hc308 => ?_)
                · -- FFFTFATT
                  first | exact absurd rfl hc308 | exact absurd (by decide) hc308 | (refine absurd ?_ hc308; rw [ru0]; done) | (refine absurd ?_ hc308; rw [ru0]; exact (ku_fuse ku_new (by omega)).1) | exact absurd (kq_pull hkq (by assumption)).1 hc308 | exact absurd (kq_start (kq_pull hkq (by assumption)).2.1 (kq_pull hkq (by assumption)).2.2 (by omega) (by omega)).1 hc308 | exact absurd (kq_start hkq (kq_off hkq (by assumption)) (by omega) (by omega)).1 hc308 | exact absurd hko.1 hc308 | exact absurd (hkr.2 (by assumption)).1 hc308 | exact absurd ((congrArg (fun q : Bool × List DRun => endR q.2) (hkr.2 (by assumption)).2.2).trans (hl.2.trans hl.1.symm)) hc308 | (exfalso; omega)
                · -- FFFTFATF
                  refine VC.skip ?_
                  exact outN (hJ1 ⟨(dFuse ((uOpen newD).1) d1).1, false, (runF (dRead newD 2).1).1, mc307⟩ _ _ ⟨by (rw [ru0]; first | exact ku_new | exact (ku_fuse ku_new (by omega)).2), by rfl, by exact ru0l, by (first | (rw [ru0]; dsimp only; omega) | (dsimp only; omega)), ho307⟩ ⟨⟨rfl, rfl, rfl, rfl, rfl, rfl, rfl, trivial⟩, fun _ h => Inv.sub (Inv.num h 407 122 rfl) [122, 0]⟩)
              · -- FFFTFAF
                refine VO.gN ?_
                refine VO.gN ?_
                refine VO.gN ?_
                refine VO.gN ?_
                refine VO.y rfl (.pF rfl rfl) ?_
                refine VO.k12 0 1 2 3 8 9 10 11 18 29 41 49 ?_
                refine VC.condF rfl ?_
                refine VC.skip ?_
                exact outN (hJ1 ⟨(uOpen newD).1, false, (runF (dRead newD 2).1).1, m9⟩ _ _ ⟨by (rw [ru0]; first | exact ku_new | exact (ku_fuse ku_new (by omega)).2), by rfl, by exact ru0l, by (first | (rw [ru0]; dsimp only; omega) | (dsimp only; omega)), f9_0⟩ ⟨⟨rfl, rfl, rfl, rfl, rfl, rfl, rfl, trivial⟩, fun _ h => Inv.sub (Inv.num h 105 122 rfl) [122, 0]⟩)
        · -- FFFF
          first | exact absurd rfl hsp8 | exact absurd (by decide) hsp8 | (refine absurd ?_ hsp8; rw [ru0]; done) | (refine absurd ?_ hsp8; rw [ru0]; exact (ku_fuse ku_new (by omega)).1) | exact absurd (kq_pull hkq (by assumption)).1 hsp8 | exact absurd (kq_start (kq_pull hkq (by assumption)).2.1 (kq_pull hkq (by assumption)).2.2 (by omega) (by omega)).1 hsp8 | exact absurd (kq_start hkq (kq_off hkq (by assumption)) (by omega) (by omega)).1 hsp8 | exact absurd hko.1 hsp8 | exact absurd (hkr.2 (by assumption)).1 hsp8 | exact absurd ((congrArg (fun q : Bool × List DRun => endR q.2) (hkr.2 (by assumption)).2.2).trans (hl.2.trans hl.1.symm)) hsp8 | (exfalso; omega)
section
open Go.ChangeShapes Go.WideShapes Go.ChangeAt Go.RowKit
theorem runKeeps_ok0 : tyOk Try.prog 60 (.sl (.sl TOp)) (.inl 52) = true := by kernel_rfl
set_option maxRecDepth 100000 in
theorem runKeeps_lifted (os : Os) (started : os.Started) (H : Type) (enc : TypeId × Value → H) :
    ReturnsInHanded {} Try.checked os 6 .any (Rows.runKeepsSpec.pre6 enc Try.prog Try.f6 Rows.runKeepsRow.domain false) (Rows.runKeepsSpec.post enc Try.prog Try.f6 false true false false) := by
  refine returnsInHanded_of_change (C := Try.checked) (by kernel_rfl) started (by kernel_rfl) Try.func6
    (ChangeSpec.witness6 (enc := enc) (C := Try.checked) false ⟨#[], #[.slice none 0 0, .int .i64 0, .int .i64 0, .int .i64 0], []⟩ 8 (by kernel_rfl) (by kernel_rfl) (by kernel_rfl) (by kernel_rfl)) ?_
  intro W base args ds gs before hval0 hW hcnd _
  have hval : ∀ (j : Nat) t v, Try.f6.params[j]? = some t → args[j]? = some v → Value.okWide Try.prog W .any base t v := hval0
  have hW' := hW
  obtain ⟨p, q, hA0, hV, rfl, hfz, hnd⟩ := hW
  have hA : DataW.TrodAll enc Try.prog W 0 (fun _ => true) true Try.f6.params.toList args.toList ds p := hA0
  rw [Try.params6] at hA hval
  clear hA0 hval0
  obtain ⟨args⟩ := args
  obtain ⟨v0, r0, d0, e0, p0, q0, ha0, rfl, rfl, h0, hA0⟩ := trodAll_cons hA
  simp only at ha0; subst ha0
  obtain ⟨v1, r1, d1, e1, p1, q1, ha1, rfl, rfl, h1, hA1⟩ := trodAll_cons hA0
  subst ha1
  obtain ⟨v2, r2, d2, e2, p2, q2, ha2, rfl, rfl, h2, hA2⟩ := trodAll_cons hA1
  subst ha2
  obtain ⟨v3, r3, d3, e3, p3, q3, ha3, rfl, rfl, h3, hA3⟩ := trodAll_cons hA2
  subst ha3
  obtain ⟨rfl, rfl, rfl⟩ := trodAll_nil hA3
  obtain ⟨x0, hx0⟩ := arg_sl 60 runKeeps_ok0 Try.underlying52 (hval 0 52 v0 rfl rfl) h0
  obtain ⟨x1, rfl, hx1⟩ := arg_int Try.underlying3 (hval 1 3 v1 rfl rfl) h1
  obtain ⟨x2, rfl, hx2⟩ := arg_int Try.underlying3 (hval 2 3 v2 rfl rfl) h2
  obtain ⟨x3, rfl, hx3⟩ := arg_int Try.underlying3 (hval 3 3 v3 rfl rfl) h3
  refine (calls_of (runKeeps_ok W hx0 x1 hx1 x2 hx2 x3 hx3)).mono fun e W' ⟨he, hg⟩ => ?_
  subst he
  exact ⟨_, rfl, law_post hW' hg laidOut_ok (by kernel_rfl) rfl Try.underlying4 rfl rfl rfl rfl⟩
theorem runKeeps_joined : joinedFacts Try.prog 6 Try.f6 Rows.runKeepsSpec Rows.runKeepsRow = true := by
  unfold joinedFacts
  rw [laidOut_ok, mapsRowed_ok, stopsHeard_ok, mayEnter_ok, lifts_ok, make_ok]
  kernel_rfl
theorem runKeeps_proved : Rows.RunKeepsSaid :=
  OpenClaim.holds_of_wide 6 Try.f6 rfl rfl rfl rfl rfl rfl rfl ⟨rfl, rfl, rfl, rfl, rfl⟩ rfl rfl rfl rfl rfl (by kernel_rfl) Try.func6 runKeeps_joined
    (of_decide_eq_true (by kernel_rfl)) (by unfold Func.isWrapper; first | (rw [if_pos (by decide +kernel)]; kernel_rfl) | (rw [if_neg (by decide +kernel)]; exact ⟨rfl, rfl⟩))
    (fun os started H enc _ => runKeeps_lifted os started H enc)
#print axioms runKeeps_proved
end
end Go.Proofs.Ytgmdjhdgaddigaa
