/- Part 6 of the proof of LWalCuts: what it needs of the library, the walks and the plain laws. Conditions: those named in each theorem. -/
import Derived.Test.YtdoamgdanlnlfaaLWalCutsM5
namespace Go.Proofs.Ytdoamgdanlnlfaa
section
set_option linter.unusedVariables false
set_option linter.unusedSimpArgs false
set_option maxRecDepth 4000
theorem fnOk37 : fnOk Try.prog 37 = true := by kernel_rfl
theorem fnOk38 : fnOk Try.prog 38 = true := by kernel_rfl
theorem fnOk21 : fnOk Try.prog 21 = true := by kernel_rfl
theorem fnOk23 : fnOk Try.prog 23 = true := by kernel_rfl
theorem tk50 : tk Try.prog 50 = some (some 6) := by kernel_rfl
theorem fin1_walCuts_ok {P : Prop} (h : P := by first | omega | (simp only [List.length_append, List.length_nil, List.length_cons, List.length_take, List.length_drop] at *; omega) | (have h_ := all_rng hkl ‹all[_]? = some _›; omega) | (have h_ := hsm.1 _ (List.mem_of_getElem? ‹d0[_]? = some _›); omega)) : P := h
set_option maxHeartbeats 8000000 in
theorem walCuts_ok (W : World) {v0 : Value} {d0 : List Dlaw12Act} (h0 : Rd (.sl Tlaw12Act) (wm W) [v0] d0) : CallR Try.prog 7 [v0] W (mnil) (fun v m' => v = .bool true) := by
  obtain ⟨A0, c0, rfl, l0, k0⟩ := h0.slice
  simp only [maxLen] at k0
  refine CallR.ofA (n := 182) Try.func7 rfl rfl rfl ?_
  refine VC.rs ?_
  refine VO.as ?_
  refine VO.k2 0 2 ?_
  refine VC.seq ?_
  refine VC.rs ?_
  refine VO.callN 101 rfl fnOk8 rfl (fun W hW => lives12_ok W ) (fun v1 m1 hv1 => ?_)
  subst hv1
  refine VO.y rfl (.not rfl) ?_
  refine VO.k3 0 2 19 ?_
  refine VC.condF rfl ?_
  refine VC.skip ?_
  refine outN ?_
  refine VC.seq ?_
  refine VC.rs ?_
  refine VO.mv ?_
  refine VO.callN 102 rfl fnOk21 rfl (fun W hW => small12_ok W (Rd.mono h0 (hW.at (i := 0) rfl))) (fun v2 m2 hv2 => ?_)
  subst hv2
  refine VO.y rfl (.notD rfl) ?_
  refine VO.kp [0] [(0, wm W)] ?_
  refine VO.k4 0 2 19 22 ?_
  refine VC.cond rfl (fun hc3 => ?_) (fun hc3 => ?_)
  · -- T
    refine VC.rs ?_
    refine VO.as ?_
    refine VO.k4 0 2 19 22 ?_
    refine VC.ret ?_
    refine outR ?_
    refine ⟨_, _, res_run (rs := [.tmp 2]) rfl (.tmp rfl .nil), fun W_ hI => out_of (l := []) hI [] rfl rfl (mle_refl _) (fun hS_ => ?_)⟩
    dsimp only [packV]
    all_goals (first | rfl | (first | (refine congrArg Value.bool (decide_eq_true ?_); rw [how.2.2, hcs.2.2.2]; done) | rfl))
  · -- F
    refine VC.skip ?_
    refine outN ?_
    refine VC.rs ?_
    refine VO.callN 104 rfl fnOk16 rfl (fun W hW => dNew_ok W ) (fun v4 m4 hv4 => ?_)
    obtain ⟨s4_0, rfl, f4_0⟩ := hv4
    have hfa5 := okD_new
    have hfa6 := (show wD newD = 0 from rfl)
    refine VO.as ?_
    refine VO.k5 0 2 3 19 22 ?_
    refine VC.rs ?_
    refine VO.mv ?_
    by_cases hsp7 : (wOpen newD).2 = 0
    · -- FT
      refine VO.call 104 rfl fnOk15 rfl rfl (fun W hW => wOpenY_ok W (hW.at (i := 104) rfl) f4_0 (by assumption) (by exact fin1_walCuts_ok) (by assumption)) (fun v8 m8 hv8 => ?_)
      obtain ⟨s8_0, rfl, f8_0⟩ := hv8
      have hfa9 := (open_ok (show okD newD by assumption))
      have hfa10 := (open_w (show okD newD by assumption))
      have hfa11 := (log_bounds (dRead newD 0).1)
      have hfa12 := (okL_log newD)
      refine VO.mv ?_
      refine VO.y rfl (.ext rfl rfl) ?_
      refine VO.y rfl (.ext rfl rfl) ?_
      refine VO.as ?_
      refine VO.as ?_
      refine VO.k7 0 2 3 4 5 19 22 ?_
      refine VC.seq ?_
      refine VC.rs ?_
      refine VO.mv ?_
      refine VO.y rfl (.neq rfl rfl) ?_
      refine VO.mv ?_
      refine VO.dec (t := 31) rfl (fun hc13 => ?_) (fun hc13 => ?_)
      · -- FTT
        first | exact absurd rfl hc13 | exact absurd (by rw [lv0]; rfl) hc13 | exact hc13 (by (rw [lv0]; done)) | exact absurd (sOf_two hkl) hc13 | (refine absurd ?_ hc13; rw [hrd]; done) | (refine absurd ?_ hc13; rw [hc]; done) | (refine absurd ?_ hc13; rw [he, lenW_ends, hrd]; done) | (refine absurd ?_ hc13; rw [hc, from_whole (by omega)]; done) | exact absurd hcs.1 hc13 | exact absurd how.1 hc13 | (refine absurd ?_ hc13; rw [hcs.2.2.1, hlw, hrd]; done) | (refine absurd ?_ hc13; rw [hcs.2.2.1, hlw]; done) | (refine absurd ?_ hc13; rw [how.2.2, from_whole (by omega)]; done) | exact absurd (hc_cut hk hkl hb hc (by omega) (by omega)).1 hc13
      · -- FTF
        refine VO.gy rfl ⟨_, rfl, rfl⟩ (.mv rfl) ?_
        refine VO.gy rfl ⟨_, rfl, rfl⟩ (.pnil rfl rfl Try.underlying33 rfl) ?_
        refine VO.y rfl (.pF rfl rfl) ?_
        refine VO.kp [104, 0] [(104, m8), (0, wm W)] ?_
        refine VO.k8 0 2 3 4 5 19 22 34 ?_
        refine VC.condF rfl ?_
        refine VC.skip ?_
        refine outN ?_
        refine VC.rs ?_
        refine VO.as ?_
        refine VO.k9 0 2 3 4 5 6 19 22 34 ?_
        refine VC.seq ?_
        refine VC.rs ?_
        refine VO.as ?_
        refine VO.k10 0 2 3 4 5 6 7 19 22 34 ?_
        refine VC.block ?_
        refine VC.inv ((115, mnil) :: (114, mnil) :: _) (fun _ h => (h.nilc 114).nilc 115) ?_
        refine VC.loop (G := Nat × DdiskDisk × Bool × (List DCommit) × (List Int) × Mem × (List DCommit) × (Option Addr) × Nat × Mem × Mem) (fun g => [(6, Value.slice (g.2.2.2.2.2.2.2.1) ((g.2.2.2.2.2.2.1).length) ((g.2.2.2.2.2.2.2.2.1))), (7, Value.int .i64 ((((g.1) : Nat) : Int))), (0, Value.slice A0 (d0.length) (c0)), (3, Value.pointer (some ⟨s4_0, 0, none⟩)), (4, Value.pointer (some ⟨s8_0, 0, none⟩)), (5, Value.int .i64 (0)), (19, Value.bool false), (22, Value.bool (decide (¬ (smallW d0)))), (34, Value.bool false)]) (fun g => [(115, (g.2.2.2.2.2.2.2.2.2.1)), (114, (g.2.2.2.2.2.2.2.2.2.2)), (104, (g.2.2.2.2.2.1)), (0, wm W)]) (fun g => ((g.1) ≤ d0.length) ∧ (HdD (g.2.1) (cFrames (g.2.2.2.2.2.2.1))) ∧ (okL (g.2.2.2.2.2.2.1)) ∧ ((g.2.2.1) = false) ∧ ((g.2.2.2.1) = (g.2.2.2.2.2.2.1)) ∧ ((g.2.2.2.2.1) = endsC (g.2.2.2.2.2.2.1)) ∧ (wD (g.2.1) ≤ 2200 * (g.1) + 10) ∧ ((g.2.2.2.2.2.2.1).length ≤ (g.1)) ∧ (OwnL TCommit (g.2.2.2.2.2.2.2.2.2.1) (mun (g.2.2.2.2.2.2.2.2.2.2) (wm W)) (.slice (g.2.2.2.2.2.2.2.1) (g.2.2.2.2.2.2.1).length (g.2.2.2.2.2.2.2.2.1)) (g.2.2.2.2.2.2.1)) ∧ (Ow (.ptr TwalWal) (g.2.2.2.2.2.1) [.pointer (some ⟨s8_0, 0, none⟩)] (s8_0, ((s4_0, (g.2.1)), (g.2.2.1), (g.2.2.2.1), (g.2.2.2.2.1))))) (fun g => d0.length - (g.1)) (0, (wOpen newD).1, false, (wLog newD).1, endsC (wLog newD).1, m8, [], none, 0, mnil, mnil) (⟨by (dsimp only; omega), by (rw [lv0]; exact hd_new), by exact okL_nil, by rfl, by exact lv0l, by (rw [lv0l]), by (dsimp only; omega), by simp, (OwnL.nil TCommit mnil (mun mnil (wm W))), f8_0⟩) ⟨⟨rfl, rfl, rfl, rfl, rfl, rfl, rfl, rfl, rfl, trivial⟩, fun _ h => h.sub [115, 114, 104, 0]⟩ ?_
        rintro ⟨i, w_0, w_1, w_2, w_3, w_m, all, all_A, all_c, all_m, all_i⟩ ⟨hi, hk, hkl, hb, hc, he, hw, hal, h_all, h_w⟩
        replace hi : i ≤ d0.length := hi
        replace hk : HdD w_0 (cFrames all) := hk
        replace hkl : okL all := hkl
        replace hb : w_1 = false := hb
        replace hc : w_2 = all := hc
        replace he : w_3 = endsC all := he
        replace hw : wD w_0 ≤ 2200 * i + 10 := hw
        replace hal : all.length ≤ i := hal
        replace h_all : OwnL TCommit all_m (mun all_i (wm W)) (.slice all_A all.length all_c) all := h_all
        replace h_w : Ow (.ptr TwalWal) w_m [.pointer (some ⟨s8_0, 0, none⟩)] (s8_0, ((s4_0, w_0), w_1, w_2, w_3)) := h_w
        show VC _ _ _ _ _ [(6, Value.slice all_A (all.length) (all_c)), (7, Value.int .i64 (((i : Nat) : Int))), (0, Value.slice A0 (d0.length) (c0)), (3, Value.pointer (some ⟨s4_0, 0, none⟩)), (4, Value.pointer (some ⟨s8_0, 0, none⟩)), (5, Value.int .i64 (0)), (19, Value.bool false), (22, Value.bool (decide (¬ (smallW d0)))), (34, Value.bool false)] [(115, all_m), (114, all_i), (104, w_m), (0, wm W)]
        have l_all : all.length ≤ all_c := by obtain ⟨_, _, he, hl, _⟩ := h_all.slice; simp only [Value.slice.injEq] at he; omega
        have k_all : all_c ≤ 9223372036854775807 := by obtain ⟨_, _, he, _, hl⟩ := h_all.slice; simp only [Value.slice.injEq, maxLen] at he hl; omega
        have hsm := Decidable.not_not.1 ‹¬ ¬ smallW d0›
        have hsm2 := hsm.2
        have hok := hk.on.ok
        have hokl : okL w_2 := by rw [hc]; exact hkl
        have hew : w_3 = endsC w_2 := by rw [hc]; exact he
        refine VC.seq ?_
        refine VC.rs ?_
        refine VO.mv ?_
        refine VO.mv ?_
        refine VO.y rfl (.lenS rfl tsl46) ?_
        refine VO.y rfl (.lss rfl rfl) ?_
        refine VO.kp [115, 114, 104, 0] [(115, all_m), (114, all_i), (104, w_m), (0, wm W)] ?_
        refine VO.k10 0 3 4 5 6 7 19 22 34 38 ?_
        refine VC.cond rfl (fun hc16 => ?_) (fun hc16 => ?_)
        · -- FTFT
          refine VC.skip ?_
          refine outN ?_
          refine VC.seq ?_
          refine VC.block ?_
          refine VC.seq ?_
          refine VC.rs ?_
          refine VO.mv ?_
          refine VO.mv ?_
          obtain ⟨x17, hx17⟩ : ∃ z_, (d0)[i]? = some z_ := ⟨_, List.getElem?_eq_getElem (by exact fin1_walCuts_ok)⟩
          obtain ⟨gg17, oo17, ec17, ea17, hce17, hre17⟩ := h0.elem hx17
          cases ea17
          obtain ⟨q17_A5, q17_c5, rfl, q17_0, q17_1, q17_2, q17_3, q17_4, q17_5⟩ := open_law12Act (x0 := x17.1) (x1 := x17.2.1) (x2 := x17.2.2.1) (x3 := x17.2.2.2.1) (x4 := x17.2.2.2.2.1) (x5 := x17.2.2.2.2.2) hre17
          simp only [inK] at q17_0
          simp only [inK] at q17_1
          simp only [inK] at q17_2
          simp only [inK] at q17_3
          simp only [inK] at q17_4
          have q17_r5 := Rd.room q17_5
          refine VO.y rfl (.ixI i rfl rfl tsl46 rfl (by exact fin1_walCuts_ok)) ?_
          refine VO.y rfl (.fa rfl tst50 rfl) ?_
          refine VO.y rfl (.ld1 0 rfl tk3 rfl (hce17.at1 (j := 0) rfl)) ?_
          refine VO.callN 118 rfl fnOk34 rfl (fun W hW => pick_ok W x17.1 (by simp only [inK]; (exact fin1_walCuts_ok)) 2 (by simp only [inK]; (exact fin1_walCuts_ok)) (by exact fin1_walCuts_ok)) (fun v18 m18 hv18 => ?_)
          subst hv18
          have hfa19 := pickI_bounds x17.1 2 (by omega)
          refine VO.y rfl (.eql rfl rfl) ?_
          refine VO.k11 0 3 4 5 6 7 19 22 34 38 47 ?_
          refine VC.cond rfl (fun hc20 => ?_) (fun hc20 => ?_)
          · -- FTFTT
            refine VC.rs ?_
            refine VO.mv ?_
            refine VO.mv ?_
            refine VO.y rfl (.ixI i rfl rfl tsl46 rfl (by exact fin1_walCuts_ok)) ?_
            refine VO.y rfl (.fa rfl tst50 rfl) ?_
            refine VO.y rfl (.ld1 0 rfl tk3 rfl (hce17.at1 (j := 1) rfl)) ?_
            refine VO.mv ?_
            refine VO.y rfl (.lenS rfl tsl25) ?_
            refine VO.y rfl (.add (c := ((all.length + 1 : Nat) : Int)) rfl rfl (by omega) ⟨by exact fin1_walCuts_ok, by exact fin1_walCuts_ok⟩) ?_
            refine VO.callN 122 rfl fnOk34 rfl (fun W hW => pick_ok W x17.2.1 (by simp only [inK]; (exact fin1_walCuts_ok)) ((all.length + 1 : Nat) : Int) (by simp only [inK]; (exact fin1_walCuts_ok)) (by exact fin1_walCuts_ok)) (fun v22 m22 hv22 => ?_)
            subst hv22
            have hfa23 := pickI_bounds x17.2.1 ((all.length + 1 : Nat) : Int) (by omega)
            refine VO.as ?_
            refine VO.k12 0 3 4 5 6 7 8 19 22 34 38 47 ?_
            refine VC.seq ?_
            refine VC.rs ?_
            refine VO.mv ?_
            refine VO.mv ?_
            refine VO.call 104 rfl fnOk19 rfl rfl (fun W hW => wCut_ok W (hW.at (i := 104) rfl) h_w (pickI x17.2.1 ((all.length + 1 : Nat) : Int)) (by simp only [inK]; (exact fin1_walCuts_ok)) (by assumption) (by exact fin1_walCuts_ok) (by assumption) (by first | assumption | rfl)) (fun v24 m24 hv24 => ?_)
            try dsimp only at hv24
            obtain ⟨rfl, w24_0⟩ := hv24
            have hfa25 := (wcut_ok (br := w_1) (l := w_2) (to := (pickI x17.2.1 ((all.length + 1 : Nat) : Int))) (show okD w_0 by assumption))
            have hfa26 := (wcut_w (br := w_1) (l := w_2) (to := (pickI x17.2.1 ((all.length + 1 : Nat) : Int))) (show okD w_0 by assumption))
            have hfa27 := (wcut_l (d := w_0) (br := w_1) (to := (pickI x17.2.1 ((all.length + 1 : Nat) : Int))) (show okL w_2 by assumption))
            refine VO.y rfl (.neq rfl rfl) ?_
            refine VO.kp [104, 115, 114, 0] [(104, m24), (115, all_m), (114, all_i), (0, wm W)] ?_
            refine VO.k13 0 3 4 5 6 7 8 19 22 34 38 47 60 ?_
            refine VC.cond rfl (fun hc28 => ?_) (fun hc28 => ?_)
            · -- FTFTTT
              first | exact absurd rfl hc28 | exact absurd (by rw [lv0]; rfl) hc28 | exact hc28 (by (rw [lv0]; done)) | exact absurd (sOf_two hkl) hc28 | (refine absurd ?_ hc28; rw [hrd]; done) | (refine absurd ?_ hc28; rw [hc]; done) | (refine absurd ?_ hc28; rw [he, lenW_ends, hrd]; done) | (refine absurd ?_ hc28; rw [hc, from_whole (by omega)]; done) | exact absurd hcs.1 hc28 | exact absurd how.1 hc28 | (refine absurd ?_ hc28; rw [hcs.2.2.1, hlw, hrd]; done) | (refine absurd ?_ hc28; rw [hcs.2.2.1, hlw]; done) | (refine absurd ?_ hc28; rw [how.2.2, from_whole (by omega)]; done) | exact absurd (hc_cut hk hkl hb hc (by omega) (by omega)).1 hc28
            · -- FTFTTF
              refine VC.skip ?_
              refine outN ?_
              refine VC.rs ?_
              refine VO.mv ?_
              refine VO.mv ?_
              refine VO.y rfl (.slHI ((pickI x17.2.1 ((all.length + 1 : Nat) : Int)).toNat) rfl rfl tsl25 (by exact fin1_walCuts_ok) (by exact fin1_walCuts_ok)) ?_
              refine VO.callN 130 rfl fnOk25 rfl (fun W hW => CopyCommits_ok W (OwnL.rd (h_all.pre (j := ((pickI x17.2.1 ((all.length + 1 : Nat) : Int)).toNat)) (by exact fin1_walCuts_ok)) (hW.at (i := 115) rfl) (mun_le (hW.at (i := 114) rfl) (hW.at (i := 0) rfl))) (by exact fin1_walCuts_ok) (by exact fun c hc => (okL_rooms hkl c (List.mem_of_mem_take hc)).1)) (fun v30 m30 hv30 => ?_)
              obtain ⟨s30_0, rfl, f30_0⟩ := hv30
              obtain ⟨A30_0, c30_0, eq30_0, l30_0, k30_0⟩ := f30_0.slice
              subst eq30_0
              simp only [maxLen] at k30_0
              refine VO.as ?_
              refine VO.k13 0 3 4 5 6 7 8 19 22 34 38 47 60 ?_
              refine VC.exit ?_
              refine outE ?_
              refine outBB ?_
              refine outN ?_
              refine VC.reg ?_
              refine VO.mv ?_
              refine VO.y rfl (.add (c := ((i + 1 : Nat) : Int)) rfl rfl (by omega) ⟨by exact fin1_walCuts_ok, by exact fin1_walCuts_ok⟩) ?_
              refine VO.as ?_
              refine VO.k13 0 3 4 5 6 7 8 19 22 34 38 47 60 ?_
              obtain ⟨oa31, oi31, oS31, oL31⟩ := Ow.opnL f30_0
              exact outN ⟨⟨i + 1, (wCut w_0 w_1 w_2 (pickI x17.2.1 ((all.length + 1 : Nat) : Int))).1.1, (wCut w_0 w_1 w_2 (pickI x17.2.1 ((all.length + 1 : Nat) : Int))).1.2.1, (wCut w_0 w_1 w_2 (pickI x17.2.1 ((all.length + 1 : Nat) : Int))).1.2.2, endsC (wCut w_0 w_1 w_2 (pickI x17.2.1 ((all.length + 1 : Nat) : Int))).1.2.2, m24, ((all).take ((pickI x17.2.1 ((all.length + 1 : Nat) : Int)).toNat)), A30_0, c30_0, oa31, oi31⟩, ⟨by (dsimp only; omega), by first | exact (hc_app hk hkl hb hc (by assumption)).1 | exact (hc_appN hk hb hc (by assumption)).1 | exact (hc_cut hk hkl hb hc (by omega) (by omega)).2.1, by first | exact (hc_app hk hkl hb hc (by assumption)).2.1 | exact hkl | exact (hc_cut hk hkl hb hc (by omega) (by omega)).2.2.1, by first | exact (hc_app hk hkl hb hc (by assumption)).2.2.1 | exact (hc_appN hk hb hc (by assumption)).2.1 | exact (hc_cut hk hkl hb hc (by omega) (by omega)).2.2.2.1, by first | exact (hc_app hk hkl hb hc (by assumption)).2.2.2 | exact (hc_appN hk hb hc (by assumption)).2.2 | exact (hc_cut hk hkl hb hc (by omega) (by omega)).2.2.2.2, by first | (rw [(hc_app hk hkl hb hc (by assumption)).2.2.2]; done) | (rw [(hc_appN hk hb hc (by assumption)).2.2]; done) | (rw [(hc_cut hk hkl hb hc (by omega) (by omega)).2.2.2.2]; done), by (dsimp only; omega), by (simp only [List.length_append, List.length_cons, List.length_nil, List.length_take]; omega), (OwnL.inner oL31 (mle_un_left _ (wm W))), w24_0⟩, by (dsimp only; omega), ⟨⟨rfl, rfl, rfl, rfl, rfl, rfl, rfl, rfl, rfl, trivial⟩, fun _ h => Inv.sub (Inv.num (Inv.num (Inv.parts h (i := 130) rfl oS31 [130, 131]) 130 115 rfl) 131 114 rfl) [115, 114, 104, 0]⟩⟩
          · -- FTFTF
            refine VC.skip ?_
            refine outN ?_
            refine VC.rs ?_
            refine VO.as ?_
            refine VO.k12 0 3 4 5 6 7 9 19 22 34 38 47 ?_
            refine VC.seq ?_
            refine VC.rs ?_
            refine VO.mv ?_
            refine VO.y rfl (.lenS rfl tsl25) ?_
            refine VO.y rfl (.gtr rfl rfl) ?_
            refine VO.kp [115, 114, 104, 0] [(115, all_m), (114, all_i), (104, w_m), (0, wm W)] ?_
            refine VO.k13 0 3 4 5 6 7 9 19 22 34 38 47 67 ?_
            refine VC.cond rfl (fun hc32 => ?_) (fun hc32 => ?_)
            · -- FTFTFT
              refine VC.reg ?_
              refine VO.mv ?_
              refine VO.mv ?_
              refine VO.y rfl (.lenS rfl tsl25) ?_
              refine VO.y rfl (.sub rfl rfl rfl ⟨by exact fin1_walCuts_ok, by exact fin1_walCuts_ok⟩) ?_
              obtain ⟨x33, hx33⟩ : ∃ z_, (all)[(((all.length : Nat) : Int) - 1).toNat]? = some z_ := ⟨_, List.getElem?_eq_getElem (by exact fin1_walCuts_ok)⟩
              obtain ⟨gg33, oo33, ec33, ea33, hce33, hre33⟩ := h_all.elem hx33
              cases ea33
              obtain ⟨q33_A2, q33_c2, rfl, q33_0, q33_1, q33_2⟩ := open_Commit (x0 := x33.1) (x1 := x33.2.1) (x2 := x33.2.2) hre33
              simp only [inK] at q33_0
              simp only [inK] at q33_1
              have q33_r2 := Rd.room q33_2
              refine VO.y rfl (.ixI ((((all.length : Nat) : Int) - 1).toNat) rfl rfl tsl25 (by exact fin1_walCuts_ok) (by exact fin1_walCuts_ok)) ?_
              refine VO.y rfl (.fa rfl tst42 rfl) ?_
              refine VO.y rfl (.ld1 115 rfl tk3 rfl (hce33.at1 (j := 0) rfl)) ?_
              refine VO.as ?_
              refine VO.k13 0 3 4 5 6 7 9 19 22 34 38 47 67 ?_
              refine outN ?_
              refine VC.rs ?_
              refine VO.mv ?_
              refine VO.mv ?_
              refine VO.y rfl (.ixI i rfl rfl tsl46 rfl (by exact fin1_walCuts_ok)) ?_
              refine VO.y rfl (.ldA 0 rfl tk50 rfl hce17) ?_
              refine VO.mv ?_
              refine VO.mv ?_
              refine VO.y rfl (.lenS rfl tsl25) ?_
              refine VO.callN 135 rfl fnOk23 rfl (fun W hW => next12_ok W (Rd.mono hre17 (hW.at (i := 0) rfl)) x33.1 (by simp only [inK]; (exact fin1_walCuts_ok)) ((all.length : Nat) : Int) (by simp only [inK]; (exact fin1_walCuts_ok)) (by exact fin1_walCuts_ok)) (fun v35 m35 hv35 => ?_)
              try simp only [List.getD_cons_succ, List.getD_cons_zero] at hv35
              subst hv35
              have hfa36 := pickI_bounds x17.2.1 3 (by omega)
              refine VO.alloc 138 rfl tz42 (fun g37 => ?_)
              refine VO.store (k := 3) (c' := [Value.int .i64 (max 1 x33.1 + pickI x17.2.1 3), Value.int .i64 (((all.length : Nat) : Int) + 1), Value.slice q17_A5 (x17.2.2.2.2.2.length) (q17_c5)]) 138 rfl rfl (.inl tk42) rfl rfl rfl rfl rfl ?_
              refine VO.k14 0 3 4 5 6 7 9 10 19 22 34 38 47 67 ?_
              refine VC.rs ?_
              refine VO.mv ?_
              refine VO.y rfl (.ldA 138 rfl tk42 rfl (cellsAt_one rfl rfl)) ?_
              refine VO.call 104 rfl fnOk17 rfl rfl (fun W hW => wApp_ok W (hW.at (i := 104) rfl) h_w (mk_Commit (m := mout (wm W) (w_m)) (max 1 x33.1 + pickI x17.2.1 3) (((all.length : Nat) : Int) + 1) x17.2.2.2.2.2 (by simp only [inK]; (exact fin1_walCuts_ok)) (by simp only [inK]; (exact fin1_walCuts_ok)) (Rd.mono q17_5 (hW.out (i := 104) (j := 0) rfl rfl))) (by assumption) (by exact fin1_walCuts_ok) (by assumption) (by first | assumption | rfl)) (fun v39 m39 hv39 => ?_)
              try dsimp only at hv39
              obtain ⟨rfl, w39_0⟩ := hv39
              have hfa40 := (app_ok (br := w_1) (l := w_2) (c := (max 1 x33.1 + pickI x17.2.1 3, ((all.length : Nat) : Int) + 1, x17.2.2.2.2.2)) (show okD w_0 by assumption))
              have hfa41 := (app_w (br := w_1) (l := w_2) (c := (max 1 x33.1 + pickI x17.2.1 3, ((all.length : Nat) : Int) + 1, x17.2.2.2.2.2)) (show okD w_0 by assumption))
              have hfa42 := (app_l (d := w_0) (br := w_1) (c := (max 1 x33.1 + pickI x17.2.1 3, ((all.length : Nat) : Int) + 1, x17.2.2.2.2.2)) (show okL w_2 by assumption))
              refine VO.y rfl (.eql rfl rfl) ?_
              refine VO.kp [104, 138, 115, 114, 0] [(104, m39), (138, mone g37 (.cells [Value.int .i64 (max 1 x33.1 + pickI x17.2.1 3), Value.int .i64 (((all.length : Nat) : Int) + 1), Value.slice q17_A5 (x17.2.2.2.2.2.length) (q17_c5)].toArray 42 (0, 0))), (115, all_m), (114, all_i), (0, wm W)] ?_
              refine VO.k15 0 3 4 5 6 7 9 10 19 22 34 38 47 67 86 ?_
              refine VC.cond rfl (fun hc43 => ?_) (fun hc43 => ?_)
              · -- FTFTFTT
                refine VC.reg ?_
                refine VO.mv ?_
                refine VO.y rfl (.ldA 138 rfl tk42 rfl (cellsAt_one rfl rfl)) ?_
                refine VO.bsl (cs := [Value.int .i64 (max 1 x33.1 + pickI x17.2.1 3), Value.int .i64 (((all.length : Nat) : Int) + 1), Value.slice q17_A5 (x17.2.2.2.2.2.length) (q17_c5)]) 145 rfl rfl tsl25 tz42 rfl rfl (fun g44 => ?_)
                refine VO.apart [114, 0] rfl (fun od46 => ?_)
                have oj46 := (List.pairwise_cons.1 od46).1 _ (.head _)
                obtain ⟨mo46, cs46, hM46, hA46, hC46⟩ := h_all
                refine VO.app 115 rfl rfl rfl tsl25 tz42 rfl rfl hM46 hA46 (.row 145 _ _ _ 1 1 _ _ Try.underlying25 rfl (cellsAt_one rfl rfl)) (by simp [Value.oneCell']) (by simp only [maxLen]; (exact fin1_walCuts_ok)) (by exact fin1_walCuts_ok) (by decide) (fun v46 m46 hN46 => ?_)
                have ho46 : OwnL TCommit m46 (mun (all_i) (wm W)) v46 (all ++ [(max 1 x33.1 + pickI x17.2.1 3, ((all.length : Nat) : Int) + 1, x17.2.2.2.2.2)]) := OwnL.one hC46 hN46 (mk_Commit (m := (mun (all_i) (wm W))) (max 1 x33.1 + pickI x17.2.1 3) (((all.length : Nat) : Int) + 1) x17.2.2.2.2.2 (by simp only [inK]; (exact fin1_walCuts_ok)) (by simp only [inK]; (exact fin1_walCuts_ok)) (Rd.mono q17_5 (mle_un_right oj46)))
                obtain ⟨A46, c46, rfl, l46, k46⟩ := ho46.slice
                simp only [maxLen] at k46
                refine VO.as ?_
                refine VO.k15 0 3 4 5 6 7 9 10 19 22 34 38 47 67 86 ?_
                refine outBN ?_
                refine outN ?_
                refine VC.reg ?_
                refine VO.mv ?_
                refine VO.y rfl (.add (c := ((i + 1 : Nat) : Int)) rfl rfl (by omega) ⟨by exact fin1_walCuts_ok, by exact fin1_walCuts_ok⟩) ?_
                refine VO.as ?_
                refine VO.k15 0 3 4 5 6 7 9 10 19 22 34 38 47 67 86 ?_
                exact outN ⟨⟨i + 1, (wApp w_0 w_1 w_2 (max 1 x33.1 + pickI x17.2.1 3, ((all.length : Nat) : Int) + 1, x17.2.2.2.2.2)).1.1, (wApp w_0 w_1 w_2 (max 1 x33.1 + pickI x17.2.1 3, ((all.length : Nat) : Int) + 1, x17.2.2.2.2.2)).1.2.1, (wApp w_0 w_1 w_2 (max 1 x33.1 + pickI x17.2.1 3, ((all.length : Nat) : Int) + 1, x17.2.2.2.2.2)).1.2.2, endsC (wApp w_0 w_1 w_2 (max 1 x33.1 + pickI x17.2.1 3, ((all.length : Nat) : Int) + 1, x17.2.2.2.2.2)).1.2.2, m39, all ++ [(max 1 x33.1 + pickI x17.2.1 3, ((all.length : Nat) : Int) + 1, x17.2.2.2.2.2)], A46, c46, m46, all_i⟩, ⟨by (dsimp only; omega), by first | exact (hc_app hk hkl hb hc (by assumption)).1 | exact (hc_appN hk hb hc (by assumption)).1 | exact (hc_cut hk hkl hb hc (by omega) (by omega)).2.1, by first | exact (hc_app hk hkl hb hc (by assumption)).2.1 | exact hkl | exact (hc_cut hk hkl hb hc (by omega) (by omega)).2.2.1, by first | exact (hc_app hk hkl hb hc (by assumption)).2.2.1 | exact (hc_appN hk hb hc (by assumption)).2.1 | exact (hc_cut hk hkl hb hc (by omega) (by omega)).2.2.2.1, by first | exact (hc_app hk hkl hb hc (by assumption)).2.2.2 | exact (hc_appN hk hb hc (by assumption)).2.2 | exact (hc_cut hk hkl hb hc (by omega) (by omega)).2.2.2.2, by first | (rw [(hc_app hk hkl hb hc (by assumption)).2.2.2]; done) | (rw [(hc_appN hk hb hc (by assumption)).2.2]; done) | (rw [(hc_cut hk hkl hb hc (by omega) (by omega)).2.2.2.2]; done), by (dsimp only; omega), by (simp only [List.length_append, List.length_cons, List.length_nil, List.length_take]; omega), ho46, w39_0⟩, by (dsimp only; omega), ⟨⟨rfl, rfl, rfl, rfl, rfl, rfl, rfl, rfl, rfl, trivial⟩, fun _ h => Inv.sub h [115, 114, 104, 0]⟩⟩
              · -- FTFTFTF
                refine VC.skip ?_
                refine outBN ?_
                refine outN ?_
                refine VC.reg ?_
                refine VO.mv ?_
                refine VO.y rfl (.add (c := ((i + 1 : Nat) : Int)) rfl rfl (by omega) ⟨by exact fin1_walCuts_ok, by exact fin1_walCuts_ok⟩) ?_
                refine VO.as ?_
                refine VO.k15 0 3 4 5 6 7 9 10 19 22 34 38 47 67 86 ?_
                exact outN ⟨⟨i + 1, (wApp w_0 w_1 w_2 (max 1 x33.1 + pickI x17.2.1 3, ((all.length : Nat) : Int) + 1, x17.2.2.2.2.2)).1.1, (wApp w_0 w_1 w_2 (max 1 x33.1 + pickI x17.2.1 3, ((all.length : Nat) : Int) + 1, x17.2.2.2.2.2)).1.2.1, (wApp w_0 w_1 w_2 (max 1 x33.1 + pickI x17.2.1 3, ((all.length : Nat) : Int) + 1, x17.2.2.2.2.2)).1.2.2, endsC (wApp w_0 w_1 w_2 (max 1 x33.1 + pickI x17.2.1 3, ((all.length : Nat) : Int) + 1, x17.2.2.2.2.2)).1.2.2, m39, all, (some ⟨gg33, oo33, none⟩), all_c, all_m, all_i⟩, ⟨by (dsimp only; omega), by first | exact (hc_app hk hkl hb hc (by assumption)).1 | exact (hc_appN hk hb hc (by assumption)).1 | exact (hc_cut hk hkl hb hc (by omega) (by omega)).2.1, by first | exact (hc_app hk hkl hb hc (by assumption)).2.1 | exact hkl | exact (hc_cut hk hkl hb hc (by omega) (by omega)).2.2.1, by first | exact (hc_app hk hkl hb hc (by assumption)).2.2.1 | exact (hc_appN hk hb hc (by assumption)).2.1 | exact (hc_cut hk hkl hb hc (by omega) (by omega)).2.2.2.1, by first | exact (hc_app hk hkl hb hc (by assumption)).2.2.2 | exact (hc_appN hk hb hc (by assumption)).2.2 | exact (hc_cut hk hkl hb hc (by omega) (by omega)).2.2.2.2, by first | (rw [(hc_app hk hkl hb hc (by assumption)).2.2.2]; done) | (rw [(hc_appN hk hb hc (by assumption)).2.2]; done) | (rw [(hc_cut hk hkl hb hc (by omega) (by omega)).2.2.2.2]; done), by (dsimp only; omega), by (simp only [List.length_append, List.length_cons, List.length_nil, List.length_take]; omega), h_all, w39_0⟩, by (dsimp only; omega), ⟨⟨rfl, rfl, rfl, rfl, rfl, rfl, rfl, rfl, rfl, trivial⟩, fun _ h => Inv.sub h [115, 114, 104, 0]⟩⟩
            · -- FTFTFF
              refine VC.skip ?_
              refine outN ?_
              refine VC.rs ?_
              refine VO.mv ?_
              refine VO.mv ?_
              refine VO.y rfl (.ixI i rfl rfl tsl46 rfl (by exact fin1_walCuts_ok)) ?_
              refine VO.y rfl (.ldA 0 rfl tk50 rfl hce17) ?_
              refine VO.mv ?_
              refine VO.mv ?_
              refine VO.y rfl (.lenS rfl tsl25) ?_
              refine VO.callN 148 rfl fnOk23 rfl (fun W hW => next12_ok W (Rd.mono hre17 (hW.at (i := 0) rfl)) 0 (by simp only [inK]; (exact fin1_walCuts_ok)) ((all.length : Nat) : Int) (by simp only [inK]; (exact fin1_walCuts_ok)) (by exact fin1_walCuts_ok)) (fun v48 m48 hv48 => ?_)
              try simp only [List.getD_cons_succ, List.getD_cons_zero] at hv48
              subst hv48
              have hfa49 := pickI_bounds x17.2.1 3 (by omega)
              refine VO.alloc 151 rfl tz42 (fun g50 => ?_)
              refine VO.store (k := 3) (c' := [Value.int .i64 (max 1 0 + pickI x17.2.1 3), Value.int .i64 (((all.length : Nat) : Int) + 1), Value.slice q17_A5 (x17.2.2.2.2.2.length) (q17_c5)]) 151 rfl rfl (.inl tk42) rfl rfl rfl rfl rfl ?_
              refine VO.k14 0 3 4 5 6 7 9 10 19 22 34 38 47 67 ?_
              refine VC.rs ?_
              refine VO.mv ?_
              refine VO.y rfl (.ldA 151 rfl tk42 rfl (cellsAt_one rfl rfl)) ?_
              refine VO.call 104 rfl fnOk17 rfl rfl (fun W hW => wApp_ok W (hW.at (i := 104) rfl) h_w (mk_Commit (m := mout (wm W) (w_m)) (max 1 0 + pickI x17.2.1 3) (((all.length : Nat) : Int) + 1) x17.2.2.2.2.2 (by simp only [inK]; (exact fin1_walCuts_ok)) (by simp only [inK]; (exact fin1_walCuts_ok)) (Rd.mono q17_5 (hW.out (i := 104) (j := 0) rfl rfl))) (by assumption) (by exact fin1_walCuts_ok) (by assumption) (by first | assumption | rfl)) (fun v52 m52 hv52 => ?_)
              try dsimp only at hv52
              obtain ⟨rfl, w52_0⟩ := hv52
              have hfa53 := (app_ok (br := w_1) (l := w_2) (c := (max 1 0 + pickI x17.2.1 3, ((all.length : Nat) : Int) + 1, x17.2.2.2.2.2)) (show okD w_0 by assumption))
              have hfa54 := (app_w (br := w_1) (l := w_2) (c := (max 1 0 + pickI x17.2.1 3, ((all.length : Nat) : Int) + 1, x17.2.2.2.2.2)) (show okD w_0 by assumption))
              have hfa55 := (app_l (d := w_0) (br := w_1) (c := (max 1 0 + pickI x17.2.1 3, ((all.length : Nat) : Int) + 1, x17.2.2.2.2.2)) (show okL w_2 by assumption))
              refine VO.y rfl (.eql rfl rfl) ?_
              refine VO.k15 0 3 4 5 6 7 9 10 19 22 34 38 47 67 86 ?_
              refine VC.cond rfl (fun hc56 => ?_) (fun hc56 => ?_)
              · -- FTFTFFT
                refine VC.reg ?_
                refine VO.mv ?_
                refine VO.y rfl (.ldA 151 rfl tk42 rfl (cellsAt_one rfl rfl)) ?_
                refine VO.bsl (cs := [Value.int .i64 (max 1 0 + pickI x17.2.1 3), Value.int .i64 (((all.length : Nat) : Int) + 1), Value.slice q17_A5 (x17.2.2.2.2.2.length) (q17_c5)]) 158 rfl rfl tsl25 tz42 rfl rfl (fun g57 => ?_)
                refine VO.apart [114, 0] rfl (fun od59 => ?_)
                have oj59 := (List.pairwise_cons.1 od59).1 _ (.head _)
                obtain ⟨mo59, cs59, hM59, hA59, hC59⟩ := h_all
                refine VO.app 115 rfl rfl rfl tsl25 tz42 rfl rfl hM59 hA59 (.row 158 _ _ _ 1 1 _ _ Try.underlying25 rfl (cellsAt_one rfl rfl)) (by simp [Value.oneCell']) (by simp only [maxLen]; (exact fin1_walCuts_ok)) (by exact fin1_walCuts_ok) (by decide) (fun v59 m59 hN59 => ?_)
                have ho59 : OwnL TCommit m59 (mun (all_i) (wm W)) v59 (all ++ [(max 1 0 + pickI x17.2.1 3, ((all.length : Nat) : Int) + 1, x17.2.2.2.2.2)]) := OwnL.one hC59 hN59 (mk_Commit (m := (mun (all_i) (wm W))) (max 1 0 + pickI x17.2.1 3) (((all.length : Nat) : Int) + 1) x17.2.2.2.2.2 (by simp only [inK]; (exact fin1_walCuts_ok)) (by simp only [inK]; (exact fin1_walCuts_ok)) (Rd.mono q17_5 (mle_un_right oj59)))
                obtain ⟨A59, c59, rfl, l59, k59⟩ := ho59.slice
                simp only [maxLen] at k59
                refine VO.as ?_
                refine VO.kp [104, 151, 115, 114, 0] [(104, m52), (151, mone g50 (.cells [Value.int .i64 (max 1 0 + pickI x17.2.1 3), Value.int .i64 (((all.length : Nat) : Int) + 1), Value.slice q17_A5 (x17.2.2.2.2.2.length) (q17_c5)].toArray 42 (0, 0))), (115, m59), (114, all_i), (0, wm W)] ?_
                refine VO.k15 0 3 4 5 6 7 9 10 19 22 34 38 47 67 86 ?_
                refine outBN ?_
                refine outN ?_
                refine VC.reg ?_
                refine VO.mv ?_
                refine VO.y rfl (.add (c := ((i + 1 : Nat) : Int)) rfl rfl (by omega) ⟨by exact fin1_walCuts_ok, by exact fin1_walCuts_ok⟩) ?_
                refine VO.as ?_
                refine VO.k15 0 3 4 5 6 7 9 10 19 22 34 38 47 67 86 ?_
                exact outN ⟨⟨i + 1, (wApp w_0 w_1 w_2 (max 1 0 + pickI x17.2.1 3, ((all.length : Nat) : Int) + 1, x17.2.2.2.2.2)).1.1, (wApp w_0 w_1 w_2 (max 1 0 + pickI x17.2.1 3, ((all.length : Nat) : Int) + 1, x17.2.2.2.2.2)).1.2.1, (wApp w_0 w_1 w_2 (max 1 0 + pickI x17.2.1 3, ((all.length : Nat) : Int) + 1, x17.2.2.2.2.2)).1.2.2, endsC (wApp w_0 w_1 w_2 (max 1 0 + pickI x17.2.1 3, ((all.length : Nat) : Int) + 1, x17.2.2.2.2.2)).1.2.2, m52, all ++ [(max 1 0 + pickI x17.2.1 3, ((all.length : Nat) : Int) + 1, x17.2.2.2.2.2)], A59, c59, m59, all_i⟩, ⟨by (dsimp only; omega), by first | exact (hc_app hk hkl hb hc (by assumption)).1 | exact (hc_appN hk hb hc (by assumption)).1 | exact (hc_cut hk hkl hb hc (by omega) (by omega)).2.1, by first | exact (hc_app hk hkl hb hc (by assumption)).2.1 | exact hkl | exact (hc_cut hk hkl hb hc (by omega) (by omega)).2.2.1, by first | exact (hc_app hk hkl hb hc (by assumption)).2.2.1 | exact (hc_appN hk hb hc (by assumption)).2.1 | exact (hc_cut hk hkl hb hc (by omega) (by omega)).2.2.2.1, by first | exact (hc_app hk hkl hb hc (by assumption)).2.2.2 | exact (hc_appN hk hb hc (by assumption)).2.2 | exact (hc_cut hk hkl hb hc (by omega) (by omega)).2.2.2.2, by first | (rw [(hc_app hk hkl hb hc (by assumption)).2.2.2]; done) | (rw [(hc_appN hk hb hc (by assumption)).2.2]; done) | (rw [(hc_cut hk hkl hb hc (by omega) (by omega)).2.2.2.2]; done), by (dsimp only; omega), by (simp only [List.length_append, List.length_cons, List.length_nil, List.length_take]; omega), ho59, w52_0⟩, by (dsimp only; omega), ⟨⟨rfl, rfl, rfl, rfl, rfl, rfl, rfl, rfl, rfl, trivial⟩, fun _ h => Inv.sub h [115, 114, 104, 0]⟩⟩
              · -- FTFTFFF
                refine VC.skip ?_
                refine outBN ?_
                refine outN ?_
                refine VC.reg ?_
                refine VO.mv ?_
                refine VO.y rfl (.add (c := ((i + 1 : Nat) : Int)) rfl rfl (by omega) ⟨by exact fin1_walCuts_ok, by exact fin1_walCuts_ok⟩) ?_
                refine VO.as ?_
                refine VO.kp [104, 151, 115, 114, 0] [(104, m52), (151, mone g50 (.cells [Value.int .i64 (max 1 0 + pickI x17.2.1 3), Value.int .i64 (((all.length : Nat) : Int) + 1), Value.slice q17_A5 (x17.2.2.2.2.2.length) (q17_c5)].toArray 42 (0, 0))), (115, all_m), (114, all_i), (0, wm W)] ?_
                refine VO.k15 0 3 4 5 6 7 9 10 19 22 34 38 47 67 86 ?_
                exact outN ⟨⟨i + 1, (wApp w_0 w_1 w_2 (max 1 0 + pickI x17.2.1 3, ((all.length : Nat) : Int) + 1, x17.2.2.2.2.2)).1.1, (wApp w_0 w_1 w_2 (max 1 0 + pickI x17.2.1 3, ((all.length : Nat) : Int) + 1, x17.2.2.2.2.2)).1.2.1, (wApp w_0 w_1 w_2 (max 1 0 + pickI x17.2.1 3, ((all.length : Nat) : Int) + 1, x17.2.2.2.2.2)).1.2.2, endsC (wApp w_0 w_1 w_2 (max 1 0 + pickI x17.2.1 3, ((all.length : Nat) : Int) + 1, x17.2.2.2.2.2)).1.2.2, m52, all, all_A, all_c, all_m, all_i⟩, ⟨by (dsimp only; omega), by first | exact (hc_app hk hkl hb hc (by assumption)).1 | exact (hc_appN hk hb hc (by assumption)).1 | exact (hc_cut hk hkl hb hc (by omega) (by omega)).2.1, by first | exact (hc_app hk hkl hb hc (by assumption)).2.1 | exact hkl | exact (hc_cut hk hkl hb hc (by omega) (by omega)).2.2.1, by first | exact (hc_app hk hkl hb hc (by assumption)).2.2.1 | exact (hc_appN hk hb hc (by assumption)).2.1 | exact (hc_cut hk hkl hb hc (by omega) (by omega)).2.2.2.1, by first | exact (hc_app hk hkl hb hc (by assumption)).2.2.2 | exact (hc_appN hk hb hc (by assumption)).2.2 | exact (hc_cut hk hkl hb hc (by omega) (by omega)).2.2.2.2, by first | (rw [(hc_app hk hkl hb hc (by assumption)).2.2.2]; done) | (rw [(hc_appN hk hb hc (by assumption)).2.2]; done) | (rw [(hc_cut hk hkl hb hc (by omega) (by omega)).2.2.2.2]; done), by (dsimp only; omega), by (simp only [List.length_append, List.length_cons, List.length_nil, List.length_take]; omega), h_all, w52_0⟩, by (dsimp only; omega), ⟨⟨rfl, rfl, rfl, rfl, rfl, rfl, rfl, rfl, rfl, trivial⟩, fun _ h => Inv.sub h [115, 114, 104, 0]⟩⟩
        · -- FTFF
          refine VC.exit ?_
          refine outE ?_
          refine outE ?_
          refine outBB ?_
          refine outN ?_
          refine VC.rs ?_
          have hcs := hc_sync hk hb hc
          have hrd := hd_read hk
          have how := hd_open_whole hcs.2.1 hkl
          have hlw := log_whole hkl
          have hal2 : all.length ≤ 60 := by omega
          have hrd1 := congrArg (fun x => x.1.length) hrd; dsimp only at hrd1
          refine VO.mv ?_
          refine VO.callN 160 rfl fnOk35 rfl (fun W hW => of_ok W (OwnL.rd h_all (hW.at (i := 115) rfl) (mun_le (hW.at (i := 114) rfl) (hW.at (i := 0) rfl))) (by exact fin1_walCuts_ok)) (fun v60 m60 hv60 => ?_)
          obtain ⟨s60_0, s60_1, rfl, f60_0, f60_1⟩ := hv60
          obtain ⟨A60_0, c60_0, eq60_0, l60_0, k60_0⟩ := f60_0.slice
          subst eq60_0
          simp only [maxLen] at k60_0
          obtain ⟨rfl, q60_1_0, q60_1_1⟩ := open_Fault (x0 := ((sOf all).2).1) (x1 := ((sOf all).2).2) (f60_1.rd (mle_refl _))
          simp only [inK] at q60_1_0
          simp only [inK] at q60_1_1
          refine VO.mv ?_
          refine VO.y rfl (.ext rfl rfl) ?_
          refine VO.y rfl (.ext rfl rfl) ?_
          refine VO.alloc 162 rfl tz69 (fun g61 => ?_)
          refine VO.as ?_
          refine VO.store (k := 2) (c' := [Value.int .i64 (((sOf all).2).1), Value.int .i64 (((sOf all).2).2)]) 162 rfl rfl (.inl tk69) rfl rfl rfl rfl rfl ?_
          refine VO.k12 0 3 4 5 6 7 11 12 19 22 34 38 ?_
          refine VC.rs ?_
          refine VO.mv ?_
          obtain ⟨q64_E, q64_A2, q64_c2, q64_A3, q64_c3, q64_n0, q64_n2, q64_n3, _, q64_S, q64_0, q64_2, q64_3⟩ := openP_walWal (x0 := (s4_0, w_0)) (x1 := w_1) (x2 := w_2) (x3 := w_3) h_w
          dsimp only at q64_0
          have q64_r2 := q64_2.rm
          have q64_r3 := q64_3.rm
          refine VO.inv _ (fun _ h => h.parts (i := 104) rfl q64_S [168, 165, 166, 167]) ?_
          refine VO.call 165 rfl fnOk36 rfl rfl (fun W hW => dRead_ok W (hW.at (i := 165) rfl) q64_0 0 (by simp only [inK]; (exact fin1_walCuts_ok)) (by assumption) (by exact fin1_walCuts_ok)) (fun v63 m63 hv63 => ?_)
          obtain ⟨s63_0, p63_0, p63_1, rfl, hS63, f63_0, w63_0⟩ := hv63
          refine VO.inv _ (fun _ h => h.parts (i := 165) rfl hS63 [169, 170]) ?_
          have hfa71 := (read_size w_0 0)
          obtain ⟨A63_0, c63_0, eq63_0, l63_0, k63_0⟩ := f63_0.slice
          subst eq63_0
          simp only [maxLen] at k63_0
          refine VO.mv ?_
          refine VO.y rfl (.ext rfl rfl) ?_
          refine VO.y rfl (.ext rfl rfl) ?_
          refine VO.as ?_
          refine VO.as ?_
          refine VO.clsP 172 [168, 170, 166, 167] rfl (fun hg72 => (mkP_walWal (s4_0, w_0) w_1 w_2 w_3 hg72 w63_0 q64_2 (OwnL.ow (Ow.ownl q64_3 rfl mnil) rfl))) (fun mc72 ho72 => ?_)
          refine VO.k14 0 3 4 5 6 7 11 12 13 14 19 22 34 38 ?_
          refine VC.seq ?_
          refine VC.rs ?_
          refine VO.y rfl (.ldA 162 rfl tk69 rfl (cellsAt_one rfl rfl)) ?_
          refine VO.y rfl (.bst (cs := [Value.int .i64 (0), Value.int .i64 (0)]) rfl tst69 tz69 rfl) ?_
          refine VO.y rfl (.stneq (p := (((sOf all).2).1) = 0 ∧ (((sOf all).2).2) = 0) rfl rfl (teq69 (((sOf all).2).1) (((sOf all).2).2)) (teq69 0 0) (by simp [ceq, ba_toList])) ?_
          refine VO.mv ?_
          refine VO.dec (t := 104) rfl (fun hc73 => ?_) (fun hc73 => ?_)
          · -- FTFFT
            first | exact absurd rfl hc73 | exact absurd (by rw [lv0]; rfl) hc73 | exact hc73 (by (rw [lv0]; done)) | exact absurd (sOf_two hkl) hc73 | (refine absurd ?_ hc73; rw [hrd]; done) | (refine absurd ?_ hc73; rw [hc]; done) | (refine absurd ?_ hc73; rw [he, lenW_ends, hrd]; done) | (refine absurd ?_ hc73; rw [hc, from_whole (by omega)]; done) | exact absurd hcs.1 hc73 | exact absurd how.1 hc73 | (refine absurd ?_ hc73; rw [hcs.2.2.1, hlw, hrd]; done) | (refine absurd ?_ hc73; rw [hcs.2.2.1, hlw]; done) | (refine absurd ?_ hc73; rw [how.2.2, from_whole (by omega)]; done) | exact absurd (hc_cut hk hkl hb hc (by omega) (by omega)).1 hc73
          · -- FTFFF
            refine VO.gy rfl ⟨_, rfl, rfl⟩ (.mv rfl) ?_
            refine VO.gy rfl ⟨_, rfl, rfl⟩ (.neq rfl rfl) ?_
            refine VO.y rfl (.pF rfl rfl) ?_
            refine VO.mv ?_
            refine VO.dec (t := 108) rfl (fun hc74 => ?_) (fun hc74 => ?_)
            · -- FTFFFT
              first | exact absurd rfl hc74 | exact absurd (by rw [lv0]; rfl) hc74 | exact hc74 (by (rw [lv0]; done)) | exact absurd (sOf_two hkl) hc74 | (refine absurd ?_ hc74; rw [hrd]; done) | (refine absurd ?_ hc74; rw [hc]; done) | (refine absurd ?_ hc74; rw [he, lenW_ends, hrd]; done) | (refine absurd ?_ hc74; rw [hc, from_whole (by omega)]; done) | exact absurd hcs.1 hc74 | exact absurd how.1 hc74 | (refine absurd ?_ hc74; rw [hcs.2.2.1, hlw, hrd]; done) | (refine absurd ?_ hc74; rw [hcs.2.2.1, hlw]; done) | (refine absurd ?_ hc74; rw [how.2.2, from_whole (by omega)]; done) | exact absurd (hc_cut hk hkl hb hc (by omega) (by omega)).1 hc74
            · -- FTFFFF
              refine VO.gy rfl ⟨_, rfl, rfl⟩ (.mv rfl) ?_
              refine VO.gcall 172 rfl ⟨_, rfl, rfl⟩ fnOk31 rfl rfl (fun W hW => wEnd_ok W (hW.at (i := 172) rfl) ho72) (fun v75 m75 hv75 => ?_)
              try dsimp only at hv75
              obtain ⟨rfl, w75_0⟩ := hv75
              refine VO.gy rfl ⟨_, rfl, rfl⟩ (.mv rfl) ?_
              refine VO.gy rfl ⟨_, rfl, rfl⟩ (.lenS rfl tsl25) ?_
              refine VO.gy rfl ⟨_, rfl, rfl⟩ (.neq rfl rfl) ?_
              refine VO.y rfl (.pF rfl rfl) ?_
              refine VO.mv ?_
              refine VO.dec (t := 115) rfl (fun hc76 => ?_) (fun hc76 => ?_)
              · -- FTFFFFT
                first | exact absurd rfl hc76 | exact absurd (by rw [lv0]; rfl) hc76 | exact hc76 (by (rw [lv0]; done)) | exact absurd (sOf_two hkl) hc76 | (refine absurd ?_ hc76; rw [hrd]; done) | (refine absurd ?_ hc76; rw [hc]; done) | (refine absurd ?_ hc76; rw [he, lenW_ends, hrd]; done) | (refine absurd ?_ hc76; rw [hc, from_whole (by omega)]; done) | exact absurd hcs.1 hc76 | exact absurd how.1 hc76 | (refine absurd ?_ hc76; rw [hcs.2.2.1, hlw, hrd]; done) | (refine absurd ?_ hc76; rw [hcs.2.2.1, hlw]; done) | (refine absurd ?_ hc76; rw [how.2.2, from_whole (by omega)]; done) | exact absurd (hc_cut hk hkl hb hc (by omega) (by omega)).1 hc76
              · -- FTFFFFF
                refine VO.gy rfl ⟨_, rfl, rfl⟩ (.mv rfl) ?_
                refine VO.gcall 172 rfl ⟨_, rfl, rfl⟩ fnOk33 rfl rfl (fun W hW => wLen_ok W (hW.at (i := 172) rfl) w75_0) (fun v77 m77 hv77 => ?_)
                try dsimp only at hv77
                obtain ⟨rfl, w77_0⟩ := hv77
                refine VO.gy rfl ⟨_, rfl, rfl⟩ (.mv rfl) ?_
                refine VO.gy rfl ⟨_, rfl, rfl⟩ (.lenS rfl tsl22) ?_
                refine VO.gy rfl ⟨_, rfl, rfl⟩ (.neq rfl rfl) ?_
                refine VO.y rfl (.pF rfl rfl) ?_
                refine VO.mv ?_
                refine VO.dec (t := 122) rfl (fun hc78 => ?_) (fun hc78 => ?_)
                · -- FTFFFFFT
                  first | exact absurd rfl hc78 | exact absurd (by rw [lv0]; rfl) hc78 | exact hc78 (by (rw [lv0]; done)) | exact absurd (sOf_two hkl) hc78 | (refine absurd ?_ hc78; rw [hrd]; done) | (refine absurd ?_ hc78; rw [hc]; done) | (refine absurd ?_ hc78; rw [he, lenW_ends, hrd]; done) | (refine absurd ?_ hc78; rw [hc, from_whole (by omega)]; done) | exact absurd hcs.1 hc78 | exact absurd how.1 hc78 | (refine absurd ?_ hc78; rw [hcs.2.2.1, hlw, hrd]; done) | (refine absurd ?_ hc78; rw [hcs.2.2.1, hlw]; done) | (refine absurd ?_ hc78; rw [how.2.2, from_whole (by omega)]; done) | exact absurd (hc_cut hk hkl hb hc (by omega) (by omega)).1 hc78
                · -- FTFFFFFF
                  refine VO.gy rfl ⟨_, rfl, rfl⟩ (.mv rfl) ?_
                  refine VO.gcall 172 rfl ⟨_, rfl, rfl⟩ fnOk32 rfl rfl (fun W hW => wStarts_ok W (hW.at (i := 172) rfl) w77_0 (by assumption)) (fun v79 m79 hv79 => ?_)
                  try dsimp only at hv79
                  obtain ⟨s79_0, p79_0, p79_1, rfl, hS79, f79_0, w79_0⟩ := hv79
                  refine VO.inv _ (fun _ h => h.parts (i := 172) rfl hS79 [180, 181]) ?_
                  obtain ⟨A79_0, c79_0, eq79_0, l79_0, k79_0⟩ := f79_0.slice
                  subst eq79_0
                  simp only [maxLen] at k79_0
                  refine VO.gy rfl ⟨_, rfl, rfl⟩ (.mv rfl) ?_
                  refine VO.gcallN 182 rfl ⟨_, rfl, rfl⟩ fnOk37 rfl (fun W hW => SameStarts_ok W (OwnL.rd (Ow.ownl f79_0 rfl mnil) (hW.at (i := 180) rfl) (mle_nil _)) (OwnL.rd (Ow.ownl f60_0 rfl mnil) (hW.at (i := 160) rfl) (mle_nil _))) (fun v82 m82 hv82 => ?_)
                  subst hv82
                  refine VO.gy rfl ⟨_, rfl, rfl⟩ (.notD rfl) ?_
                  refine VO.y rfl (.pF rfl rfl) ?_
                  refine VO.mv ?_
                  refine VO.dec (t := 129) rfl (fun hc83 => ?_) (fun hc83 => ?_)
                  · -- FTFFFFFFT
                    first | exact absurd rfl hc83 | exact absurd (by rw [lv0]; rfl) hc83 | exact hc83 (by (rw [lv0]; done)) | exact absurd (sOf_two hkl) hc83 | (refine absurd ?_ hc83; rw [hrd]; done) | (refine absurd ?_ hc83; rw [hc]; done) | (refine absurd ?_ hc83; rw [he, lenW_ends, hrd]; done) | (refine absurd ?_ hc83; rw [hc, from_whole (by omega)]; done) | exact absurd hcs.1 hc83 | exact absurd how.1 hc83 | (refine absurd ?_ hc83; rw [hcs.2.2.1, hlw, hrd]; done) | (refine absurd ?_ hc83; rw [hcs.2.2.1, hlw]; done) | (refine absurd ?_ hc83; rw [how.2.2, from_whole (by omega)]; done) | exact absurd (hc_cut hk hkl hb hc (by omega) (by omega)).1 hc83
                  · -- FTFFFFFFF
                    refine VO.gy rfl ⟨_, rfl, rfl⟩ (.mv rfl) ?_
                    refine VO.gcall 181 rfl ⟨_, rfl, rfl⟩ fnOk29 rfl rfl (fun W hW => wFrom_ok W (hW.at (i := 181) rfl) w79_0 1 (by simp only [inK]; (exact fin1_walCuts_ok)) 61 (by simp only [inK]; (exact fin1_walCuts_ok)) (by assumption)) (fun v84 m84 hv84 => ?_)
                    try dsimp only at hv84
                    obtain ⟨s84_0, p84_0, p84_1, rfl, hS84, f84_0, w84_0⟩ := hv84
                    refine VO.inv _ (fun _ h => h.parts (i := 181) rfl hS84 [185, 186]) ?_
                    obtain ⟨A84_0, c84_0, eq84_0, l84_0, k84_0⟩ := f84_0.slice
                    subst eq84_0
                    simp only [maxLen] at k84_0
                    refine VO.gy rfl ⟨_, rfl, rfl⟩ (.mv rfl) ?_
                    refine VO.gcallN 187 rfl ⟨_, rfl, rfl⟩ fnOk12 rfl (fun W hW => SameCommits_ok W (Ow.rd f84_0 (hW.at (i := 185) rfl)) (OwnL.rd h_all (hW.at (i := 115) rfl) (mun_le (hW.at (i := 114) rfl) (hW.at (i := 0) rfl)))) (fun v87 m87 hv87 => ?_)
                    subst hv87
                    refine VO.gy rfl ⟨_, rfl, rfl⟩ (.notD rfl) ?_
                    refine VO.y rfl (.pF rfl rfl) ?_
                    refine VO.mv ?_
                    refine VO.dec (t := 136) rfl (fun hc88 => ?_) (fun hc88 => ?_)
                    · -- FTFFFFFFFT
                      first | exact absurd rfl hc88 | exact absurd (by rw [lv0]; rfl) hc88 | exact hc88 (by (rw [lv0]; done)) | exact absurd (sOf_two hkl) hc88 | (refine absurd ?_ hc88; rw [hrd]; done) | (refine absurd ?_ hc88; rw [hc]; done) | (refine absurd ?_ hc88; rw [he, lenW_ends, hrd]; done) | (refine absurd ?_ hc88; rw [hc, from_whole (by omega)]; done) | exact absurd hcs.1 hc88 | exact absurd how.1 hc88 | (refine absurd ?_ hc88; rw [hcs.2.2.1, hlw, hrd]; done) | (refine absurd ?_ hc88; rw [hcs.2.2.1, hlw]; done) | (refine absurd ?_ hc88; rw [how.2.2, from_whole (by omega)]; done) | exact absurd (hc_cut hk hkl hb hc (by omega) (by omega)).1 hc88
                    · -- FTFFFFFFFF
                      refine VO.gy rfl ⟨_, rfl, rfl⟩ (.mv rfl) ?_
                      refine VO.gcall 186 rfl ⟨_, rfl, rfl⟩ fnOk24 rfl rfl (fun W hW => wSync_ok W (hW.at (i := 186) rfl) w84_0 (by assumption) (by exact fin1_walCuts_ok) (by assumption) (by first | assumption | rfl)) (fun v89 m89 hv89 => ?_)
                      try dsimp only at hv89
                      obtain ⟨rfl, w89_0⟩ := hv89
                      have hfa90 := (wsync_ok (br := w_1) (l := w_2) (show okD w_0 by assumption))
                      have hfa91 := (wsync_w (br := w_1) (l := w_2) (show okD w_0 by assumption))
                      have hfa92 := (wsync_l (d := w_0) (br := w_1) (l := w_2))
                      refine VO.gy rfl ⟨_, rfl, rfl⟩ (.neq rfl rfl) ?_
                      refine VO.y rfl (.pF rfl rfl) ?_
                      refine VO.kp [186, 169, 162, 160, 115, 114, 0] [(186, m89), (169, p63_0), (162, mone g61 (.cells [Value.int .i64 (((sOf all).2).1), Value.int .i64 (((sOf all).2).2)].toArray 69 (0, 0))), (160, m60), (115, all_m), (114, all_i), (0, wm W)] ?_
                      refine VO.k15 0 3 4 5 6 7 11 12 13 14 19 22 34 38 140 ?_
                      refine VC.cond rfl (fun hc93 => ?_) (fun hc93 => ?_)
                      · -- FTFFFFFFFFT
                        first | exact absurd rfl hc93 | exact absurd (by rw [lv0]; rfl) hc93 | exact hc93 (by (rw [lv0]; done)) | exact absurd (sOf_two hkl) hc93 | (refine absurd ?_ hc93; rw [hrd]; done) | (refine absurd ?_ hc93; rw [hc]; done) | (refine absurd ?_ hc93; rw [he, lenW_ends, hrd]; done) | (refine absurd ?_ hc93; rw [hc, from_whole (by omega)]; done) | exact absurd hcs.1 hc93 | exact absurd how.1 hc93 | (refine absurd ?_ hc93; rw [hcs.2.2.1, hlw, hrd]; done) | (refine absurd ?_ hc93; rw [hcs.2.2.1, hlw]; done) | (refine absurd ?_ hc93; rw [how.2.2, from_whole (by omega)]; done) | exact absurd (hc_cut hk hkl hb hc (by omega) (by omega)).1 hc93
                      · -- FTFFFFFFFFF
                        refine VC.skip ?_
                        refine outN ?_
                        refine VC.rs ?_
                        refine VO.mv ?_
                        obtain ⟨q95_E, q95_A2, q95_c2, q95_A3, q95_c3, q95_n0, q95_n2, q95_n3, _, q95_S, q95_0, q95_2, q95_3⟩ := openP_walWal (x0 := (s4_0, (wSync w_0 w_1 w_2).1.1)) (x1 := (wSync w_0 w_1 w_2).1.2.1) (x2 := (wSync w_0 w_1 w_2).1.2.2) (x3 := endsC (wSync w_0 w_1 w_2).1.2.2) w89_0
                        dsimp only at q95_0
                        have q95_r2 := q95_2.rm
                        have q95_r3 := q95_3.rm
                        refine VO.inv _ (fun _ h => h.parts (i := 186) rfl q95_S [199, 196, 197, 198]) ?_
                        refine VO.call 196 rfl fnOk38 rfl rfl (fun W hW => dDurable_ok W (hW.at (i := 196) rfl) q95_0 0 (by simp only [inK]; (exact fin1_walCuts_ok)) (by exact fin1_walCuts_ok)) (fun v94 m94 hv94 => ?_)
                        obtain ⟨s94_0, p94_0, p94_1, rfl, hS94, f94_0, w94_0⟩ := hv94
                        refine VO.inv _ (fun _ h => h.parts (i := 196) rfl hS94 [200, 201]) ?_
                        have hfa102 := (durable_size ((wSync w_0 w_1 w_2).1.1) 0)
                        obtain ⟨A94_0, c94_0, eq94_0, l94_0, k94_0⟩ := f94_0.slice
                        subst eq94_0
                        simp only [maxLen] at k94_0
                        refine VO.callN 203 rfl fnOk10 rfl (fun W hW => wScan_ok W (OwnL.rd (Ow.ownl f94_0 rfl mnil) (hW.at (i := 200) rfl) (mle_nil _)) (by exact fin1_walCuts_ok)) (fun v103 m103 hv103 => ?_)
                        obtain ⟨s103_0, rfl, f103_0⟩ := hv103
                        have hfa104 := log_bounds (dDurable ((wSync w_0 w_1 w_2).1.1) 0)
                        obtain ⟨A103_0, c103_0, eq103_0, l103_0, k103_0⟩ := f103_0.slice
                        subst eq103_0
                        simp only [maxLen] at k103_0
                        refine VO.mv ?_
                        refine VO.y rfl (.ext rfl rfl) ?_
                        refine VO.y rfl (.ext rfl rfl) ?_
                        refine VO.as ?_
                        refine VO.as ?_
                        refine VO.clsP 205 [199, 201, 197, 198] rfl (fun hg105 => (mkP_walWal (s4_0, ((wSync w_0 w_1 w_2).1.1)) ((wSync w_0 w_1 w_2).1.2.1) ((wSync w_0 w_1 w_2).1.2.2) (endsC (wSync w_0 w_1 w_2).1.2.2) hg105 w94_0 q95_2 (OwnL.ow (Ow.ownl q95_3 rfl mnil) rfl))) (fun mc105 ho105 => ?_)
                        refine VO.k17 0 3 4 5 6 7 11 12 13 14 15 16 19 22 34 38 140 ?_
                        refine VC.rs ?_
                        refine VO.mv ?_
                        obtain ⟨q106_E, q106_A2, q106_c2, q106_A3, q106_c3, q106_n0, q106_n2, q106_n3, _, q106_S, q106_0, q106_2, q106_3⟩ := openP_walWal (x0 := (s4_0, ((wSync w_0 w_1 w_2).1.1))) (x1 := (wSync w_0 w_1 w_2).1.2.1) (x2 := (wSync w_0 w_1 w_2).1.2.2) (x3 := endsC (wSync w_0 w_1 w_2).1.2.2) ho105
                        dsimp only at q106_0
                        have q106_r2 := q106_2.rm
                        have q106_r3 := q106_3.rm
                        refine VO.inv _ (fun _ h => h.parts (i := 205) rfl q106_S [210, 207, 208, 209]) ?_
                        by_cases hsp111 : (wOpen ((wSync w_0 w_1 w_2).1.1)).2 = 0
                        · -- FTFFFFFFFFFT
                          refine VO.call 207 rfl fnOk15 rfl rfl (fun W hW => wOpenY_ok W (hW.at (i := 207) rfl) q106_0 (by assumption) (by exact fin1_walCuts_ok) (by assumption)) (fun v112 m112 hv112 => ?_)
                          obtain ⟨s112_0, rfl, f112_0⟩ := hv112
                          have hfa113 := (open_ok (show okD ((wSync w_0 w_1 w_2).1.1) by assumption))
                          have hfa114 := (open_w (show okD ((wSync w_0 w_1 w_2).1.1) by assumption))
                          have hfa115 := (log_bounds (dRead ((wSync w_0 w_1 w_2).1.1) 0).1)
                          have hfa116 := (okL_log ((wSync w_0 w_1 w_2).1.1))
                          refine VO.mv ?_
                          refine VO.y rfl (.ext rfl rfl) ?_
                          refine VO.y rfl (.ext rfl rfl) ?_
                          refine VO.as ?_
                          refine VO.as ?_
                          refine VO.k18 0 3 4 5 6 7 11 12 13 14 15 16 17 19 22 34 38 140 ?_
                          refine VC.rs ?_
                          refine VO.mv ?_
                          refine VO.y rfl (.eql rfl rfl) ?_
                          refine VO.mv ?_
                          refine VO.dec (t := 154) rfl (fun hc117 => ?_) (fun hc117 => ?_)
                          · -- FTFFFFFFFFFTT
                            refine VO.gy rfl ⟨_, rfl, rfl⟩ (.mv rfl) ?_
                            refine VO.gy rfl ⟨_, rfl, rfl⟩ (.pnilN rfl rfl Try.underlying33 rfl) ?_
                            refine VO.y rfl (.pT rfl rfl) ?_
                            refine VO.mv ?_
                            refine VO.gy rfl ⟨_, rfl, rfl⟩ (.mv rfl) ?_
                            refine VO.gy rfl ⟨_, rfl, rfl⟩ (.mv rfl) ?_
                            refine VO.gy rfl ⟨_, rfl, rfl⟩ (.lenS rfl tsl22) ?_
                            refine VO.gy rfl ⟨_, rfl, rfl⟩ (.eql rfl rfl) ?_
                            refine VO.y rfl (.pT rfl rfl) ?_
                            refine VO.mv ?_
                            refine VO.dec (t := 164) rfl (fun hc118 => ?_) (fun hc118 => ?_)
                            · -- FTFFFFFFFFFTTT
                              refine VO.gy rfl ⟨_, rfl, rfl⟩ (.mv rfl) ?_
                              refine VO.gy rfl ⟨_, rfl, rfl⟩ (.mv rfl) ?_
                              refine VO.gcallN 219 rfl ⟨_, rfl, rfl⟩ fnOk12 rfl (fun W hW => SameCommits_ok W (Ow.rd f103_0 (hW.at (i := 203) rfl)) (OwnL.rd h_all (hW.at (i := 115) rfl) (mun_le (hW.at (i := 114) rfl) (hW.at (i := 0) rfl)))) (fun v119 m119 hv119 => ?_)
                              subst hv119
                              refine VO.y rfl (.pT rfl rfl) ?_
                              refine VO.mv ?_
                              refine VO.dec (t := 169) rfl (fun hc120 => ?_) (fun hc120 => ?_)
                              · -- FTFFFFFFFFFTTTT
                                refine VO.gy rfl ⟨_, rfl, rfl⟩ (.mv rfl) ?_
                                refine VO.gcall 207 rfl ⟨_, rfl, rfl⟩ fnOk29 rfl rfl (fun W hW => wFrom_ok W (hW.at (i := 207) rfl) f112_0 1 (by simp only [inK]; (exact fin1_walCuts_ok)) 61 (by simp only [inK]; (exact fin1_walCuts_ok)) (by assumption)) (fun v121 m121 hv121 => ?_)
                                try dsimp only at hv121
                                obtain ⟨s121_0, p121_0, p121_1, rfl, hS121, f121_0, w121_0⟩ := hv121
                                refine VO.inv _ (fun _ h => h.parts (i := 207) rfl hS121 [222, 223]) ?_
                                obtain ⟨A121_0, c121_0, eq121_0, l121_0, k121_0⟩ := f121_0.slice
                                subst eq121_0
                                simp only [maxLen] at k121_0
                                refine VO.gy rfl ⟨_, rfl, rfl⟩ (.mv rfl) ?_
                                refine VO.gcallN 224 rfl ⟨_, rfl, rfl⟩ fnOk12 rfl (fun W hW => SameCommits_ok W (Ow.rd f121_0 (hW.at (i := 222) rfl)) (OwnL.rd h_all (hW.at (i := 115) rfl) (mun_le (hW.at (i := 114) rfl) (hW.at (i := 0) rfl)))) (fun v124 m124 hv124 => ?_)
                                subst hv124
                                refine VO.y rfl (.pT rfl rfl) ?_
                                refine VO.mv ?_
                                refine VO.dec (t := 175) rfl (fun hc125 => ?_) (fun hc125 => ?_)
                                · -- FTFFFFFFFFFTTTTT
                                  refine VO.gy rfl ⟨_, rfl, rfl⟩ (.mv rfl) ?_
                                  refine VO.gcall 223 rfl ⟨_, rfl, rfl⟩ fnOk20 rfl rfl (fun W hW => wEpoch_ok W (hW.at (i := 223) rfl) w121_0) (fun v126 m126 hv126 => ?_)
                                  try dsimp only at hv126
                                  obtain ⟨rfl, w126_0⟩ := hv126
                                  refine VO.gy rfl ⟨_, rfl, rfl⟩ (.mv rfl) ?_
                                  obtain ⟨q128_E, q128_A2, q128_c2, q128_A3, q128_c3, q128_n0, q128_n2, q128_n3, _, q128_S, q128_0, q128_2, q128_3⟩ := openP_walWal (x0 := (s4_0, ((wOpen ((wSync w_0 w_1 w_2).1.1)).1))) (x1 := false) (x2 := ((wLog ((wSync w_0 w_1 w_2).1.1)).1)) (x3 := (endsC (wLog ((wSync w_0 w_1 w_2).1.1)).1)) w126_0
                                  dsimp only at q128_0
                                  have q128_r2 := q128_2.rm
                                  have q128_r3 := q128_3.rm
                                  refine VO.inv _ (fun _ h => h.parts (i := 223) rfl q128_S [232, 229, 230, 231]) ?_
                                  refine VO.clsP 233 [210, 229, 208, 209] rfl (fun hg133 => (mkP_walWal (s4_0, ((wOpen ((wSync w_0 w_1 w_2).1.1)).1)) ((wSync w_0 w_1 w_2).1.2.1) ((wSync w_0 w_1 w_2).1.2.2) (endsC (wSync w_0 w_1 w_2).1.2.2) hg133 q128_0 q106_2 (OwnL.ow (Ow.ownl q106_3 rfl mnil) rfl))) (fun mc133 ho133 => ?_)
                                  refine VO.gcall 233 rfl ⟨_, rfl, rfl⟩ fnOk20 rfl rfl (fun W hW => wEpoch_ok W (hW.at (i := 233) rfl) ho133) (fun v127 m127 hv127 => ?_)
                                  try dsimp only at hv127
                                  obtain ⟨rfl, w127_0⟩ := hv127
                                  refine VO.gy rfl ⟨_, rfl, rfl⟩ (.eql rfl rfl) ?_
                                  refine VO.y rfl (.pT rfl rfl) ?_
                                  refine VO.as ?_
                                  refine VO.kp [233, 232, 230, 231, 203, 169, 162, 160, 115, 114, 0] [(233, m127), (232, mone s112_0 (.cells [Value.pointer (some ⟨s4_0, 0, none⟩), Value.bool false, Value.slice q128_A2 (((wLog ((wSync w_0 w_1 w_2).1.1)).1).length) (q128_c2), Value.slice q128_A3 ((endsC (wLog ((wSync w_0 w_1 w_2).1.1)).1).length) (q128_c3)].toArray q128_E (0, 0))), (230, q128_n2), (231, q128_n3), (203, m103), (169, p63_0), (162, mone g61 (.cells [Value.int .i64 (((sOf all).2).1), Value.int .i64 (((sOf all).2).2)].toArray 69 (0, 0))), (160, m60), (115, all_m), (114, all_i), (0, wm W)] ?_
                                  refine VO.k19 0 2 3 4 5 6 7 11 12 13 14 15 16 17 19 22 34 38 140 ?_
                                  refine VC.ret ?_
                                  refine ⟨_, _, res_run (rs := [.tmp 2]) rfl (.tmp rfl .nil), fun W_ hI => out_of (l := []) hI [] rfl rfl (mle_refl _) (fun hS_ => ?_)⟩
                                  dsimp only [packV]
                                  all_goals (first | rfl | (first | (refine congrArg Value.bool (decide_eq_true ?_); rw [how.2.2, hcs.2.2.2]; done) | rfl))
                                · -- FTFFFFFFFFFTTTTF
                                  first | exact absurd rfl hc125 | exact absurd (by rw [lv0]; rfl) hc125 | exact hc125 (by (rw [lv0]; done)) | exact absurd (sOf_two hkl) hc125 | (refine absurd ?_ hc125; rw [hrd]; done) | (refine absurd ?_ hc125; rw [hc]; done) | (refine absurd ?_ hc125; rw [he, lenW_ends, hrd]; done) | (refine absurd ?_ hc125; rw [hc, from_whole (by omega)]; done) | exact absurd hcs.1 hc125 | exact absurd how.1 hc125 | (refine absurd ?_ hc125; rw [hcs.2.2.1, hlw, hrd]; done) | (refine absurd ?_ hc125; rw [hcs.2.2.1, hlw]; done) | (refine absurd ?_ hc125; rw [how.2.2, from_whole (by omega)]; done) | exact absurd (hc_cut hk hkl hb hc (by omega) (by omega)).1 hc125
                              · -- FTFFFFFFFFFTTTF
                                first | exact absurd rfl hc120 | exact absurd (by rw [lv0]; rfl) hc120 | exact hc120 (by (rw [lv0]; done)) | exact absurd (sOf_two hkl) hc120 | (refine absurd ?_ hc120; rw [hrd]; done) | (refine absurd ?_ hc120; rw [hc]; done) | (refine absurd ?_ hc120; rw [he, lenW_ends, hrd]; done) | (refine absurd ?_ hc120; rw [hc, from_whole (by omega)]; done) | exact absurd hcs.1 hc120 | exact absurd how.1 hc120 | (refine absurd ?_ hc120; rw [hcs.2.2.1, hlw, hrd]; done) | (refine absurd ?_ hc120; rw [hcs.2.2.1, hlw]; done) | (refine absurd ?_ hc120; rw [how.2.2, from_whole (by omega)]; done) | exact absurd (hc_cut hk hkl hb hc (by omega) (by omega)).1 hc120
                            · -- FTFFFFFFFFFTTF
                              first | exact absurd rfl hc118 | exact absurd (by rw [lv0]; rfl) hc118 | exact hc118 (by (rw [lv0]; done)) | exact absurd (sOf_two hkl) hc118 | (refine absurd ?_ hc118; rw [hrd]; done) | (refine absurd ?_ hc118; rw [hc]; done) | (refine absurd ?_ hc118; rw [he, lenW_ends, hrd]; done) | (refine absurd ?_ hc118; rw [hc, from_whole (by omega)]; done) | exact absurd hcs.1 hc118 | exact absurd how.1 hc118 | (refine absurd ?_ hc118; rw [hcs.2.2.1, hlw, hrd]; done) | (refine absurd ?_ hc118; rw [hcs.2.2.1, hlw]; done) | (refine absurd ?_ hc118; rw [how.2.2, from_whole (by omega)]; done) | exact absurd (hc_cut hk hkl hb hc (by omega) (by omega)).1 hc118
                          · -- FTFFFFFFFFFTF
                            first | exact absurd rfl hc117 | exact absurd (by rw [lv0]; rfl) hc117 | exact hc117 (by (rw [lv0]; done)) | exact absurd (sOf_two hkl) hc117 | (refine absurd ?_ hc117; rw [hrd]; done) | (refine absurd ?_ hc117; rw [hc]; done) | (refine absurd ?_ hc117; rw [he, lenW_ends, hrd]; done) | (refine absurd ?_ hc117; rw [hc, from_whole (by omega)]; done) | exact absurd hcs.1 hc117 | exact absurd how.1 hc117 | (refine absurd ?_ hc117; rw [hcs.2.2.1, hlw, hrd]; done) | (refine absurd ?_ hc117; rw [hcs.2.2.1, hlw]; done) | (refine absurd ?_ hc117; rw [how.2.2, from_whole (by omega)]; done) | exact absurd (hc_cut hk hkl hb hc (by omega) (by omega)).1 hc117
                        · -- FTFFFFFFFFFF
                          first | exact absurd rfl hsp111 | exact absurd (by rw [lv0]; rfl) hsp111 | exact hsp111 (by (rw [lv0]; done)) | exact absurd (sOf_two hkl) hsp111 | (refine absurd ?_ hsp111; rw [hrd]; done) | (refine absurd ?_ hsp111; rw [hc]; done) | (refine absurd ?_ hsp111; rw [he, lenW_ends, hrd]; done) | (refine absurd ?_ hsp111; rw [hc, from_whole (by omega)]; done) | exact absurd hcs.1 hsp111 | exact absurd how.1 hsp111 | (refine absurd ?_ hsp111; rw [hcs.2.2.1, hlw, hrd]; done) | (refine absurd ?_ hsp111; rw [hcs.2.2.1, hlw]; done) | (refine absurd ?_ hsp111; rw [how.2.2, from_whole (by omega)]; done) | exact absurd (hc_cut hk hkl hb hc (by omega) (by omega)).1 hsp111
    · -- FF
      first | exact absurd rfl hsp7 | exact absurd (by rw [lv0]; rfl) hsp7 | exact hsp7 (by (rw [lv0]; done)) | exact absurd (sOf_two hkl) hsp7 | (refine absurd ?_ hsp7; rw [hrd]; done) | (refine absurd ?_ hsp7; rw [hc]; done) | (refine absurd ?_ hsp7; rw [he, lenW_ends, hrd]; done) | (refine absurd ?_ hsp7; rw [hc, from_whole (by omega)]; done) | exact absurd hcs.1 hsp7 | exact absurd how.1 hsp7 | (refine absurd ?_ hsp7; rw [hcs.2.2.1, hlw, hrd]; done) | (refine absurd ?_ hsp7; rw [hcs.2.2.1, hlw]; done) | (refine absurd ?_ hsp7; rw [how.2.2, from_whole (by omega)]; done) | exact absurd (hc_cut hk hkl hb hc (by omega) (by omega)).1 hsp7
end
section
set_option linter.unusedVariables false
set_option maxRecDepth 4000
open Go.ChangeShapes Go.WideShapes Go.ChangeAt Go.RowKit
theorem walCuts_ok0 : tyOk Try.prog 60 (.sl Tlaw12Act) (.inl 46) = true := by kernel_rfl
set_option maxRecDepth 100000 in
theorem walCuts_lifted (os : Os) (started : os.Started) (H : Type) (enc : TypeId × Value → H) :
    ReturnsInHanded {} Try.checked os 7 .any (Rows.walCutsSpec.pre6 enc Try.prog Try.f7 Rows.walCutsRow.domain false) (Rows.walCutsSpec.post enc Try.prog Try.f7 false true false false) := by
  refine returnsInHanded_of_change (C := Try.checked) (by kernel_rfl) started (by kernel_rfl) Try.func7
    (ChangeSpec.witness6 (enc := enc) (C := Try.checked) false ⟨#[], #[.slice none 0 0], []⟩ 8 (by kernel_rfl) (by kernel_rfl) (by kernel_rfl) (by kernel_rfl)) ?_
  intro W base args ds gs before hval0 hW hcnd _
  have hval : ∀ (j : Nat) t v, Try.f7.params[j]? = some t → args[j]? = some v → Value.okWide Try.prog W .any base t v := hval0
  have hW' := hW
  obtain ⟨p, q, hA0, hV, rfl, hfz, hnd⟩ := hW
  have hA : DataW.TrodAll enc Try.prog W 0 (fun _ => true) true Try.f7.params.toList args.toList ds p := hA0
  rw [Try.params7] at hA hval
  clear hA0 hval0
  obtain ⟨args⟩ := args
  obtain ⟨v0, r0, d0, e0, p0, q0, ha0, rfl, rfl, h0, hA0⟩ := trodAll_cons hA
  simp only at ha0; subst ha0
  obtain ⟨rfl, rfl, rfl⟩ := trodAll_nil hA0
  obtain ⟨x0, hx0⟩ := arg_sl 60 walCuts_ok0 Try.underlying46 (hval 0 46 v0 rfl rfl) h0
  refine (calls_of (walCuts_ok W hx0)).mono fun e W' ⟨he, hg⟩ => ?_
  subst he
  exact ⟨_, rfl, law_post hW' hg laidOut_ok (by kernel_rfl) rfl Try.underlying4 rfl rfl rfl rfl⟩
theorem walCuts_joined : joinedFacts Try.prog 7 Try.f7 Rows.walCutsSpec Rows.walCutsRow = true := by
  unfold joinedFacts
  rw [laidOut_ok, mapsRowed_ok, stopsHeard_ok, mayEnter_ok, lifts_ok, make_ok]
  kernel_rfl
theorem walCuts_proved : Rows.WalCutsSaid :=
  OpenClaim.holds_of_wide 7 Try.f7 rfl rfl rfl rfl rfl rfl rfl ⟨rfl, rfl, rfl, rfl, rfl⟩ rfl rfl rfl rfl rfl (by kernel_rfl) Try.func7 walCuts_joined
    (of_decide_eq_true (by kernel_rfl)) (by unfold Func.isWrapper; first | (rw [if_pos (by decide +kernel)]; kernel_rfl) | (rw [if_neg (by decide +kernel)]; exact ⟨rfl, rfl⟩))
    (fun os started H enc _ => walCuts_lifted os started H enc)
#print axioms walCuts_proved
end
end Go.Proofs.Ytdoamgdanlnlfaa
