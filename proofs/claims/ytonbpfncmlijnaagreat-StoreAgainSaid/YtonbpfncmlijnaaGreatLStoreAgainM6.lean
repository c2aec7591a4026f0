/- Part 6 of the proof of LStoreAgain: what it needs of the library, the walks and the plain laws. Conditions: those named in each theorem. -/
import Derived.Test.YtonbpfncmlijnaaGreatLStoreAgainM5
set_option linter.unusedVariables false
set_option linter.unusedSimpArgs false
set_option maxRecDepth 4000
namespace Go.Proofs.YtonbpfncmlijnaaGreat
def smC1 : DCommit := (1, 1, [(true, [97], [49])])
def smC2 : DCommit := (1, 2, [(false, [97], []), (true, [98], [50])])
def exSt : List DCommit := [smC1, smC2]
def smR1 : DRun := (1, 1, [(true, [97], [49])])
def smR2 : DRun := (2, 2, [(false, [97], []), (true, [98], [50])])
theorem smU1 : opsUp [((true, [97], [49]) : DOp)] := ⟨fun o ho => by rw [List.mem_singleton.1 ho]; rfl, List.pairwise_singleton _ _⟩
theorem smT1 : tL (sT [smC1]) = [(true, [97], [49])] := (tl_is (L := [(true, [97], [49])]) (by decide) ⟨smU1, fun q => by
  show mGet [([97], ([49], true))] q = _
  unfold mGet findK
  by_cases h1 : ([97] : List UInt8) = q
  · subst h1; rfl
  · simp [h1]⟩).1
theorem smT2 : tL (sT [smC2]) = [(false, [97], []), (true, [98], [50])] := ex_list
theorem smT3 : tL (sT exSt) = [(false, [97], []), (true, [98], [50])] := ex_list
def smD1 : DDisk := (uFlush newD false [] smR1).1.1
def smD2 : DDisk := (uFlush smD1 false [smR1] smR2).1.1
theorem smK1 : Kz smD1 [smR1] := (kz_flush kz_new (x := smR1) (by decide) (by decide)).2.1
theorem smK2 : Kz smD2 [smR1, smR2] := (kz_flush smK1 (x := smR2) (by decide) (by decide)).2.1
theorem smU (d : DDisk) (u : List DRun) (x : DRun) (h : Kz d u) (hc : runCheck x = 0) (hx : x.1 = endR u + 1) : uFlush d false u x = (((uFlush d false u x).1.1, false, u ++ [x]), 0) := by
  obtain ⟨h1, h2, h3⟩ := kz_flush h hc hx
  exact Prod.ext (Prod.ext rfl h3) h1
theorem smF1 : sFlush newD false [] exSt 1 = (((smD1, false, [smR1]), [smC2]), 0) := by
  have e : sRun [] exSt 1 = smR1 := by show ((1, 1, tL (sT [smC1])) : DRun) = _; rw [smT1]; rfl
  have h := smU newD [] smR1 kz_new (by decide) (by decide)
  unfold sFlush
  rw [if_neg (by decide), if_neg (by decide), if_neg (by decide), e, h, if_neg (by decide)]; rfl
theorem smF0 : sFlush smD1 false [smR1] [smC2] 0 = (((smD1, false, [smR1]), [smC2]), 2) := by unfold sFlush; rw [if_pos (by decide)]
theorem smF3 : sFlush smD1 false [smR1] [smC2] 3 = (((smD1, false, [smR1]), [smC2]), 2) := by unfold sFlush; rw [if_pos (by decide)]
theorem smF2 : sFlush smD1 false [smR1] [smC2] 2 = (((smD2, false, [smR1, smR2]), []), 0) := by
  have e : sRun [smR1] [smC2] 2 = smR2 := by show ((2, 2, tL (sT [smC2])) : DRun) = _; rw [smT2]; rfl
  have h := smU smD1 [smR1] smR2 smK1 (by decide) (by decide)
  unfold sFlush
  rw [if_neg (by decide), if_neg (by decide), if_neg (by decide), e, h, if_neg (by decide)]; rfl
theorem smF4 : sFlush smD2 false [smR1, smR2] [] 2 = (((smD2, false, [smR1, smR2]), []), 0) := by unfold sFlush; rw [if_neg (by decide), if_pos (by decide)]
theorem smOU1 : okU [smR1] := smK1.2.2.1
theorem smOU2 : okU [smR1, smR2] := smK2.2.2.1
theorem smL : (sList [] exSt).filter (·.1) = [(true, [98], [50])] := by
  have h0 : tL (sOld []) = [] := tl_nil
  unfold sList; rw [smT3, h0]; decide
theorem smG1 : sGet [] exSt [97] = ([], false) := by decide
theorem smG2 : sGet [] exSt [98] = ([50], true) := by decide
theorem smG3 : sGet [smR1] [smC2] [97] = ([], false) := by decide
theorem fnOk14 : fnOk Tryz.prog 14 = true := by kernel_rfl
theorem fnOk18 : fnOk Tryz.prog 18 = true := by kernel_rfl
theorem fnOk19 : fnOk Tryz.prog 19 = true := by kernel_rfl
theorem uOpen0_ok (W : World) {m0 : Mem} (hm : mle (m0) (wm W)) {g0 : Nat} {d0 : DdiskDisk} (h0 : Ow (.ptr TdiskDisk) m0 [.pointer (some ⟨g0, 0, none⟩)] (g0, d0)) (e0 : d0 = newD) : CallR Tryz.prog 19 [.pointer (some ⟨g0, 0, none⟩)] W (m0) (fun v m' => ∃ (s0 : Nat), v = .tuple #[.pointer (some ⟨s0, 0, none⟩), .int .i64 (0)] ∧ Ow (.ptr TrunRuns) m' [.pointer (some ⟨s0, 0, none⟩)] (s0, ((g0, newD), false, ([] : List DRun)))) := by
  have hdw : wD d0 + 3000 ≤ 1000000000000 := by rw [e0]; decide
  have hdo : okD d0 := by rw [e0]; exact okD_new
  refine CallR.ofB (n := 42) hm Tryz.func19 rfl rfl rfl ?_
  refine VC.rs ?_
  refine VO.as ?_
  refine VO.as ?_
  refine VO.k3 0 2 3 ?_
  refine VC.rs ?_
  refine VO.mv ?_
  refine VO.call 1 rfl fnOk51 rfl rfl (fun W hW => dRead_ok W (hW.at (i := 1) rfl) h0 2 bdk (by assumption) bd) (fun v1 m1 hv1 => ?_)
  obtain ⟨s1_0, p1_0, p1_1, rfl, hS1, f1_0, w1_0⟩ := hv1
  refine VO.inv _ (fun _ h => h.parts (i := 1) rfl hS1 [102, 103]) ?_
  have hfa4 := (read_size d0 2)
  obtain ⟨A1_0, c1_0, eq1_0, l1_0, k1_0⟩ := f1_0.slice
  subst eq1_0
  simp only [maxLen] at k1_0
  refine VO.mv ?_
  refine VO.y rfl (.ext rfl rfl) ?_
  refine VO.y rfl (.ext rfl rfl) ?_
  refine VO.as ?_
  refine VO.as ?_
  refine VO.k5 0 2 3 4 5 ?_
  refine VC.seq ?_
  refine VC.rs ?_
  refine VO.mv ?_
  refine VO.y rfl (.neq rfl rfl) ?_
  refine VO.kp [102, 103, 0] [(102, p1_0), (103, p1_1), (0, mout (wm W) (m0))] ?_
  refine VO.k6 0 2 3 4 5 16 ?_
  refine VC.cond rfl (fun hc5 => ?_) (fun hc5 => ?_)
  · -- T
    exact absurd (by rw [e0]; decide) hc5
  · -- F
    refine VC.skip ?_
    refine outN ?_
    refine VC.rs ?_
    refine VO.mv ?_
    refine VO.callN 106 rfl fnOk52 rfl (fun W hW => uScan_ok W (OwnL.rd (Ow.ownl f1_0 rfl mnil) (hW.at (i := 102) rfl) (mle_nil _)) bd) (fun v6 m6 hv6 => ?_)
    obtain ⟨s6_0, rfl, f6_0⟩ := hv6
    have hfa7 := runF_bounds ((dRead d0 2).1)
    obtain ⟨A6_0, c6_0, eq6_0, l6_0, k6_0⟩ := f6_0.slice
    subst eq6_0
    simp only [maxLen] at k6_0
    refine VO.mv ?_
    refine VO.y rfl (.ext rfl rfl) ?_
    refine VO.y rfl (.ext rfl rfl) ?_
    refine VO.as ?_
    refine VO.as ?_
    refine VO.k8 0 2 3 4 5 6 7 16 ?_
    refine VC.seq ?_
    refine VC.rs ?_
    refine VO.mv ?_
    refine VO.mv ?_
    refine VO.y rfl (.lenS rfl tsl97) ?_
    refine VO.y rfl (.lss rfl rfl) ?_
    refine VO.k9 0 2 3 4 5 6 7 16 26 ?_
    refine VC.cond rfl (fun hc8 => ?_) (fun hc8 => ?_)
    · -- FT
      subst e0; exact absurd hc8 (by decide +kernel)
    · -- FF
      refine VC.skip ?_
      refine outN ?_
      refine VC.rs ?_
      refine VO.mv ?_
      refine VO.mv ?_
      refine VO.y rfl (.bst (cs := [Value.pointer (some ⟨g0, 0, none⟩), Value.bool false, Value.slice A6_0 (((runF ((dRead d0 2).1)).1).length) (c6_0)]) rfl tst47 tz47 rfl) ?_
      refine VO.box (cs := [Value.pointer (some ⟨g0, 0, none⟩), Value.bool false, Value.slice A6_0 (((runF ((dRead d0 2).1)).1).length) (c6_0)]) 110 rfl rfl rfl (fun g9 => ?_)
      refine VO.as ?_
      refine VO.as ?_
      refine VO.kp [110, 106, 102, 103, 0] [(110, mone g9 (.cells [Value.pointer (some ⟨g0, 0, none⟩), Value.bool false, Value.slice A6_0 (((runF ((dRead d0 2).1)).1).length) (c6_0)].toArray 47 (0, 0))), (106, m6), (102, p1_0), (103, p1_1), (0, mout (wm W) (m0))] ?_
      refine VO.k9 0 2 3 4 5 6 7 16 26 ?_
      refine VC.ret ?_
      refine ⟨_, _, res_run (rs := [.tmp 2, .tmp 3]) rfl (.tmp rfl (.tmp rfl .nil)), fun W_ hI => out_of (l := [mone g9 (.cells [Value.pointer (some ⟨g0, 0, none⟩), Value.bool false, Value.slice A6_0 (((runF ((dRead d0 2).1)).1).length) (c6_0)].toArray 47 (0, 0)), p1_1, m6]) hI [110, 103, 106] rfl rfl (mle_refl _) (fun hS_ => ?_)⟩
      dsimp only [packV]
      have he0 : (((g0, newD), false, ([] : List DRun)) : DrunRuns) = ((g0, d0), false, (runF ((dRead d0 2).1)).1) := by first | rfl | (first | (rw [e0, ru0l]; done) | (subst e0; rw [ru0l]; done))
      refine ⟨g9, ?_, ?_⟩
      rotate_left
      · rw [he0]; exact (mkP_runRuns (g0, d0) false ((runF ((dRead d0 2).1)).1) hS_ w1_0 f6_0)
      all_goals (first | rfl | (simp [*]; done))
theorem madeY_ok (W : World) {v0 : Value} {d0 : List DCommit} (h0 : Rd (.sl TCommit) (wm W) [v0] d0) (e0 : (cFollows 1 0 d0).1 = 0) (e1 : d0.length ≤ 1000000) : CallR Tryz.prog 9 [v0] W (mnil) (fun v m' => ∃ (s0 : Nat), ∃ (gt2 : Nat), ∃ (gu2 : Nat), ∃ (gd2 : Nat), v = .tuple #[.pointer (some ⟨s0, 0, none⟩), .int .i64 (0)] ∧ Ow (.ptr TstoreStore) m' [.pointer (some ⟨s0, 0, none⟩)] (s0, ((gt2, (sT d0)), (gu2, ((gd2, newD), false, ([] : List DRun))), d0))) := by
  obtain ⟨A0, c0, rfl, l0, k0⟩ := h0.slice
  simp only [maxLen] at k0
  refine CallR.ofA (n := 19) Tryz.func9 rfl rfl rfl ?_
  refine VC.rs ?_
  refine VO.as ?_
  refine VO.as ?_
  refine VO.k3 0 2 3 ?_
  refine VC.rs ?_
  refine VO.callN 101 rfl fnOk18 rfl (fun W hW => dNew_ok W ) (fun v1 m1 hv1 => ?_)
  obtain ⟨s1_0, rfl, f1_0⟩ := hv1
  have hfa2 := okD_new
  have hfa3 := (show wD newD = 0 from rfl)
  refine VO.call 101 rfl fnOk19 rfl rfl (fun W hW => uOpen0_ok W (hW.at (i := 101) rfl) f1_0 (by first | assumption | rfl)) (fun v4 m4 hv4 => ?_)
  obtain ⟨s4_0, rfl, f4_0⟩ := hv4
  refine VO.mv ?_
  refine VO.y rfl (.ext rfl rfl) ?_
  refine VO.y rfl (.ext rfl rfl) ?_
  refine VO.as ?_
  refine VO.as ?_
  refine VO.k5 0 2 3 4 5 ?_
  refine VC.seq ?_
  refine VC.rs ?_
  refine VO.mv ?_
  refine VO.y rfl (.neq rfl rfl) ?_
  refine VO.kp [101, 0] [(101, m4), (0, wm W)] ?_
  refine VO.k6 0 2 3 4 5 12 ?_
  refine VC.cond rfl (fun hc5 => ?_) (fun hc5 => ?_)
  · -- T
    exact absurd rfl hc5
  · -- F
    refine VC.skip ?_
    refine outN ?_
    refine VC.rs ?_
    refine VO.mv ?_
    refine VO.mv ?_
    by_cases hsp6 : (cFollows 1 (endR ([] : List DRun)) d0).1 = 0
    · -- FT
      refine VO.call 101 rfl fnOk14 rfl rfl (fun W hW => sOpenY_ok W (hW.at (i := 101) rfl) f4_0 (Rd.mono h0 (hW.out (i := 101) (j := 0) rfl rfl)) (by first | assumption | exact okU_nil) (by assumption) bd) (fun v7 m7 hv7 => ?_)
      try dsimp only at hv7
      obtain ⟨s7_0, gt2_7, rfl, f7_0⟩ := hv7
      refine VO.y rfl (.ext rfl rfl) ?_
      refine VO.y rfl (.ext rfl rfl) ?_
      refine VO.as ?_
      refine VO.as ?_
      refine VO.k6 0 2 3 4 5 12 ?_
      refine VC.ret ?_
      refine ⟨_, _, res_run (rs := [.tmp 2, .tmp 3]) rfl (.tmp rfl (.tmp rfl .nil)), fun W_ hI => out_of (l := [m7]) hI [101] rfl rfl (mle_refl _) (fun hS_ => ?_)⟩
      dsimp only [packV]
      have he0 : (((gt2_7, (sT d0)), (s4_0, ((s1_0, newD), false, ([] : List DRun))), d0) : DstoreStore) = ((gt2_7, (sT d0)), (s4_0, ((s1_0, newD), false, ([] : List DRun))), d0) := by first | rfl | (simp [*]; done)
      refine ⟨s7_0, gt2_7, s4_0, s1_0, ?_, ?_⟩
      rotate_left
      · rw [he0]; exact (Ow.up f7_0 (hS_.1 _ (.head _)))
      all_goals (first | rfl | (simp [*]; done))
    · -- FF
      exact absurd e0 hsp6
theorem example14_ok (W : World) : CallR Tryz.prog 10 [] W (mnil) (fun v m' => ∃ (s0 : Value), v = s0 ∧ Ow (.sl TCommit) m' [s0] (exSt)) := by
  refine CallR.ofA (n := 9) Tryz.func10 rfl rfl rfl ?_
  refine VC.rs ?_
  refine VO.as ?_
  refine VO.k1 0 ?_
  refine VC.rs ?_
  refine VO.y rfl (.bst (cs := [Value.bool true, str ([97]), str ([49])]) rfl tst64 tz64 rfl) ?_
  refine VO.bsl (cs := [Value.bool true, str ([97]), str ([49])]) 102 rfl rfl tsl34 tz64 rfl rfl (fun g1 => ?_)
  refine VO.y rfl (.bst (cs := [Value.int .i64 (1), Value.int .i64 (1), Value.slice (some ⟨g1, 0, none⟩) (1) (1)]) rfl tst36 tz36 rfl) ?_
  refine VO.y rfl (.bst (cs := [Value.bool false, str ([97]), str ([])]) rfl tst64 tz64 rfl) ?_
  refine VO.y rfl (.bst (cs := [Value.bool true, str ([98]), str ([50])]) rfl tst64 tz64 rfl) ?_
  refine VO.bsl (cs := [Value.bool false, str ([97]), str ([]), Value.bool true, str ([98]), str ([50])]) 104 rfl rfl tsl34 tz64 rfl rfl (fun g3 => ?_)
  refine VO.y rfl (.bst (cs := [Value.int .i64 (1), Value.int .i64 (2), Value.slice (some ⟨g3, 0, none⟩) (2) (2)]) rfl tst36 tz36 rfl) ?_
  refine VO.bsl (cs := [Value.int .i64 (1), Value.int .i64 (1), Value.slice (some ⟨g1, 0, none⟩) (1) (1), Value.int .i64 (1), Value.int .i64 (2), Value.slice (some ⟨g3, 0, none⟩) (2) (2)]) 106 rfl rfl tsl27 tz36 rfl rfl (fun g5 => ?_)
  refine VO.as ?_
  have ho8 : OwnL TOp (mone g1 (.cells [Value.bool true, str ([97]), str ([49])].toArray 64 (0, 0))) mnil (Value.slice (some ⟨g1, 0, none⟩) (1) (1)) [(true, [97], [49])] := OwnL.lit 1 (All2c.cons (c1 := [Value.bool true, str ([97]), str ([49])]) (mk_Op (m := _) true ([97]) ([49]) bdm bdm) All2c.nil) rfl rfl
  have ho9 : OwnL TOp (mone g3 (.cells [Value.bool false, str ([97]), str ([]), Value.bool true, str ([98]), str ([50])].toArray 64 (0, 0))) mnil (Value.slice (some ⟨g3, 0, none⟩) (2) (2)) [(false, [97], []), (true, [98], [50])] := OwnL.lit 2 (All2c.cons (c1 := [Value.bool false, str ([97]), str ([])]) (mk_Op (m := _) false ([97]) [] bdm bdm) (All2c.cons (c1 := [Value.bool true, str ([98]), str ([50])]) (mk_Op (m := _) true ([98]) ([50]) bdm bdm) All2c.nil)) rfl rfl
  refine VO.gather (l := [mone g5 (.cells [Value.int .i64 (1), Value.int .i64 (1), Value.slice (some ⟨g1, 0, none⟩) (1) (1), Value.int .i64 (1), Value.int .i64 (2), Value.slice (some ⟨g3, 0, none⟩) (2) (2)].toArray 36 (0, 0)), mone g1 (.cells [Value.bool true, str ([97]), str ([49])].toArray 64 (0, 0)), mone g3 (.cells [Value.bool false, str ([97]), str ([]), Value.bool true, str ([98]), str ([50])].toArray 64 (0, 0))]) 110 [106, 102, 104] rfl (fun hg7 => ?_)
  have ho7 : Ow (.sl TCommit) (muns [mone g5 (.cells [Value.int .i64 (1), Value.int .i64 (1), Value.slice (some ⟨g1, 0, none⟩) (1) (1), Value.int .i64 (1), Value.int .i64 (2), Value.slice (some ⟨g3, 0, none⟩) (2) (2)].toArray 36 (0, 0)), mone g1 (.cells [Value.bool true, str ([97]), str ([49])].toArray 64 (0, 0)), mone g3 (.cells [Value.bool false, str ([97]), str ([]), Value.bool true, str ([98]), str ([50])].toArray 64 (0, 0))]) [Value.slice (some ⟨g5, 0, none⟩) (2) (2)] [(1, 1, [(true, [97], [49])]), (1, 2, [(false, [97], []), (true, [98], [50])])] := Ow.lit 2 (Seps.grp1 (ls := [[mone g1 (.cells [Value.bool true, str ([97]), str ([49])].toArray 64 (0, 0))], [mone g3 (.cells [Value.bool false, str ([97]), str ([]), Value.bool true, str ([98]), str ([50])].toArray 64 (0, 0))]]) hg7) (OwAs.cons (m := muns [mone g1 (.cells [Value.bool true, str ([97]), str ([49])].toArray 64 (0, 0))]) (c1 := [Value.int .i64 (1), Value.int .i64 (1), Value.slice (some ⟨g1, 0, none⟩) (1) (1)]) (mkO_Commit 1 1 ([(true, [97], [49])]) (Seps.self hg7 (List.Sublist.cons _ (List.Sublist.cons_cons _ (List.Sublist.cons _ List.Sublist.slnil)))) bdk bdk (OwnL.ow ho8 rfl)) (OwAs.cons (m := muns [mone g3 (.cells [Value.bool false, str ([97]), str ([]), Value.bool true, str ([98]), str ([50])].toArray 64 (0, 0))]) (c1 := [Value.int .i64 (1), Value.int .i64 (2), Value.slice (some ⟨g3, 0, none⟩) (2) (2)]) (mkO_Commit 1 2 ([(false, [97], []), (true, [98], [50])]) (Seps.self hg7 (List.Sublist.cons _ (List.Sublist.cons _ (List.Sublist.cons_cons _ List.Sublist.slnil)))) bdk bdk (OwnL.ow ho9 rfl)) OwAs.nil)) rfl rfl
  refine VO.k1 0 ?_
  refine VC.ret ?_
  refine ⟨_, _, res_run (rs := [.tmp 0]) rfl (.tmp rfl .nil), fun W_ hI => out_of (l := [muns [mone g5 (.cells [Value.int .i64 (1), Value.int .i64 (1), Value.slice (some ⟨g1, 0, none⟩) (1) (1), Value.int .i64 (1), Value.int .i64 (2), Value.slice (some ⟨g3, 0, none⟩) (2) (2)].toArray 36 (0, 0)), mone g1 (.cells [Value.bool true, str ([97]), str ([49])].toArray 64 (0, 0)), mone g3 (.cells [Value.bool false, str ([97]), str ([]), Value.bool true, str ([98]), str ([50])].toArray 64 (0, 0))]]) hI [110] rfl rfl (mle_refl _) (fun hS_ => ?_)⟩
  dsimp only [packV]
  have he0 : (exSt : Ty.Den (.sl TCommit)) = [(1, 1, [(true, [97], [49])]), (1, 2, [(false, [97], []), (true, [98], [50])])] := by first | rfl | (simp [*]; done)
  refine ⟨Value.slice (some ⟨g5, 0, none⟩) (2) (2), ?_, ?_⟩
  rotate_left
  · rw [he0]; exact (Ow.up ho7 (hS_.1 _ (.head _)))
  all_goals (first | rfl | (simp [*]; done))
theorem fnOk10 : fnOk Tryz.prog 10 = true := by kernel_rfl
theorem fnOk11 : fnOk Tryz.prog 11 = true := by kernel_rfl
theorem fnOk12 : fnOk Tryz.prog 12 = true := by kernel_rfl
theorem fnOk13 : fnOk Tryz.prog 13 = true := by kernel_rfl
theorem fnOk17 : fnOk Tryz.prog 17 = true := by kernel_rfl
theorem fnOk8 : fnOk Tryz.prog 8 = true := by kernel_rfl
theorem fnOk9 : fnOk Tryz.prog 9 = true := by kernel_rfl
set_option maxHeartbeats 4000000 in
theorem lives14_ok (W : World) : CallR Tryz.prog 8 [] W (mnil) (fun v m' => v = .bool true) := by
  refine CallR.ofA (n := 54) Tryz.func8 rfl rfl rfl ?_
  refine VC.rs ?_
  refine VO.as ?_
  refine VO.k1 0 ?_
  refine VC.rs ?_
  refine VO.callN 101 rfl fnOk10 rfl (fun W hW => example14_ok W ) (fun v1 m1 hv1 => ?_)
  obtain ⟨s1_0, rfl, f1_0⟩ := hv1
  obtain ⟨A1_0, c1_0, eq1_0, l1_0, k1_0⟩ := f1_0.slice
  subst eq1_0
  simp only [maxLen] at k1_0
  by_cases hsp2 : (cFollows 1 0 exSt).1 = 0
  · -- T
    refine VO.callN 103 rfl fnOk9 rfl (fun W hW => madeY_ok W (Ow.rd f1_0 (hW.at (i := 101) rfl)) (by first | (simp only [smF1, smF0, smF3, smF2, smF4, smL, smG1, smG2, smG3]; first | decide) | decide | assumption) (by first | (simp only [smF1, smF0, smF3, smF2, smF4, smL, smG1, smG2, smG3]; first | decide) | decide | assumption)) (fun v3 m3 hv3 => ?_)
    obtain ⟨s3_0, gt2_3, gu2_3, gd2_3, rfl, f3_0⟩ := hv3
    refine VO.mv ?_
    refine VO.y rfl (.ext rfl rfl) ?_
    refine VO.y rfl (.ext rfl rfl) ?_
    refine VO.as ?_
    refine VO.as ?_
    refine VO.k3 0 1 2 ?_
    refine VC.seq ?_
    refine VC.rs ?_
    refine VO.mv ?_
    refine VO.y rfl (.neq rfl rfl) ?_
    refine VO.mv ?_
    refine VO.dec (t := 14) rfl (fun hc4 => ?_) (fun hc4 => ?_)
    · -- TT
      first | exact absurd rfl hc4 | exact absurd (by first | rfl | decide | (simp only [smF1, smF0, smF3, smF2, smF4, smL, smG1, smG2, smG3]; first | done | rfl | decide | omega)) hc4 | exact absurd hc4 (by first | decide | (simp only [smF1, smF0, smF3, smF2, smF4, smL, smG1, smG2, smG3]; first | done | rfl | decide | omega)) | (simp only [smF1, smF0, smF3, smF2, smF4, smL, smG1, smG2, smG3] at hc4; first | done | exact absurd hc4 (by decide) | exact absurd rfl hc4)
    · -- TF
      refine VO.gy rfl ⟨_, rfl, rfl⟩ (.mv rfl) ?_
      refine VO.gy rfl ⟨_, rfl, rfl⟩ (.pnil rfl rfl Tryz.underlying23 rfl) ?_
      refine VO.y rfl (.pF rfl rfl) ?_
      refine VO.kp [103, 0] [(103, m3), (0, wm W)] ?_
      refine VO.k4 0 1 2 17 ?_
      refine VC.condF rfl ?_
      refine VC.skip ?_
      refine outN ?_
      refine VC.rs ?_
      refine VO.mv ?_
      refine VO.call 103 rfl fnOk13 rfl rfl (fun W hW => sGet_ok W (hW.at (i := 103) rfl) f3_0 ([97]) bdm (by first | rfl | assumption) (by first | (simp only [smF1, smF0, smF3, smF2, smF4, smL, smG1, smG2, smG3]; first | exact smOU1 | exact smOU2) | exact okU_nil | assumption)) (fun v5 m5 hv5 => ?_)
      try dsimp only at hv5
      obtain ⟨rfl, w5_0⟩ := hv5
      refine VO.mv ?_
      refine VO.y rfl (.ext rfl rfl) ?_
      refine VO.y rfl (.ext rfl rfl) ?_
      refine VO.as ?_
      refine VO.as ?_
      refine VO.k5 0 1 2 4 17 ?_
      refine VC.rs ?_
      refine VO.mv ?_
      refine VO.call 103 rfl fnOk13 rfl rfl (fun W hW => sGet_ok W (hW.at (i := 103) rfl) w5_0 ([98]) bdm (by first | rfl | assumption) (by first | (simp only [smF1, smF0, smF3, smF2, smF4, smL, smG1, smG2, smG3]; first | exact smOU1 | exact smOU2) | exact okU_nil | assumption)) (fun v6 m6 hv6 => ?_)
      try dsimp only at hv6
      obtain ⟨rfl, w6_0⟩ := hv6
      refine VO.mv ?_
      refine VO.y rfl (.ext rfl rfl) ?_
      refine VO.y rfl (.ext rfl rfl) ?_
      refine VO.as ?_
      refine VO.as ?_
      refine VO.k7 0 1 2 4 5 6 17 ?_
      refine VC.rs ?_
      refine VO.mv ?_
      refine VO.y rfl (.not rfl) ?_
      refine VO.mv ?_
      refine VO.decBN (t := 30) rfl (fun hc7 => ?_) (fun hc7 => ?_)
      · -- TFT
        refine VO.gy rfl ⟨_, rfl, rfl⟩ (.mv rfl) ?_
        refine VO.gy rfl ⟨_, rfl, rfl⟩ (.seql rfl rfl) ?_
        refine VO.y rfl (.pT rfl rfl) ?_
        refine VO.mv ?_
        refine VO.dec (t := 34) rfl (fun hc8 => ?_) (fun hc8 => ?_)
        · -- TFTT
          refine VO.gy rfl ⟨_, rfl, rfl⟩ (.mv rfl) ?_
          refine VO.y rfl (.pT rfl rfl) ?_
          refine VO.mv ?_
          refine VO.decB (t := 37) rfl (fun hc9 => ?_) (fun hc9 => ?_)
          · -- TFTTT
            refine VO.gy rfl ⟨_, rfl, rfl⟩ (.mv rfl) ?_
            refine VO.gcall 103 rfl ⟨_, rfl, rfl⟩ fnOk16 rfl rfl (fun W hW => sEnd_ok W (hW.at (i := 103) rfl) w6_0 (by first | (simp only [smF1, smF0, smF3, smF2, smF4, smL, smG1, smG2, smG3]; first | exact smOU1 | exact smOU2) | exact okU_nil | assumption) (by first | (simp only [smF1, smF0, smF3, smF2, smF4, smL, smG1, smG2, smG3]; first | decide) | decide | assumption)) (fun v10 m10 hv10 => ?_)
            try dsimp only at hv10
            obtain ⟨rfl, w10_0⟩ := hv10
            refine VO.gy rfl ⟨_, rfl, rfl⟩ (.eql rfl rfl) ?_
            refine VO.y rfl (.pT rfl rfl) ?_
            refine VO.mv ?_
            refine VO.dec (t := 42) rfl (fun hc11 => ?_) (fun hc11 => ?_)
            · -- TFTTTT
              refine VO.gy rfl ⟨_, rfl, rfl⟩ (.mv rfl) ?_
              refine VO.gcall 103 rfl ⟨_, rfl, rfl⟩ fnOk12 rfl rfl (fun W hW => sRest_ok W (hW.at (i := 103) rfl) w10_0) (fun v12 m12 hv12 => ?_)
              try dsimp only at hv12
              obtain ⟨rfl, w12_0⟩ := hv12
              refine VO.gy rfl ⟨_, rfl, rfl⟩ (.eql rfl rfl) ?_
              refine VO.y rfl (.pT rfl rfl) ?_
              refine VO.mv ?_
              refine VO.dec (t := 47) rfl (fun hc13 => ?_) (fun hc13 => ?_)
              · -- TFTTTTT
                refine VO.gy rfl ⟨_, rfl, rfl⟩ (.mv rfl) ?_
                refine VO.gcall 103 rfl ⟨_, rfl, rfl⟩ fnOk17 rfl rfl (fun W hW => all14_ok W (hW.at (i := 103) rfl) w12_0 9 bdk (by first | rfl | assumption) (by first | (simp only [smF1, smF0, smF3, smF2, smF4, smL, smG1, smG2, smG3]; first | exact smOU1 | exact smOU2) | exact okU_nil | assumption) (by first | (simp only [smF1, smF0, smF3, smF2, smF4, smL, smG1, smG2, smG3]; first | decide) | decide | assumption) (by first | (simp only [smF1, smF0, smF3, smF2, smF4, smL, smG1, smG2, smG3]; first | decide) | decide | assumption) (by first | (simp only [smF1, smF0, smF3, smF2, smF4, smL, smG1, smG2, smG3]; first | decide) | decide | assumption)) (fun v14 m14 hv14 => ?_)
                try dsimp only at hv14
                obtain ⟨s14_0, p14_0, p14_1, rfl, hS14, f14_0, w14_0⟩ := hv14
                refine VO.inv _ (fun _ h => h.parts (i := 103) rfl hS14 [115, 116]) ?_
                have hfa17 := allT_len ((sList ([] : List DRun) exSt).filter (·.1)) 9
                have hfa18 := sList_len (l := ([] : List DRun)) (r := exSt)
                obtain ⟨A14_0, c14_0, eq14_0, l14_0, k14_0⟩ := f14_0.slice
                subst eq14_0
                simp only [maxLen] at k14_0
                refine VO.gy rfl ⟨_, rfl, rfl⟩ (.bst (cs := [Value.bool true, str ([98]), str ([50])]) rfl tst64 tz64 rfl) ?_
                refine VO.gbsl (cs := [Value.bool true, str ([98]), str ([50])]) 120 rfl ⟨_, rfl, rfl⟩ rfl tsl34 tz64 rfl rfl (fun g19 => ?_)
                have ho22 : OwnL TOp (mone g19 (.cells [Value.bool true, str ([98]), str ([50])].toArray 64 (0, 0))) mnil (Value.slice (some ⟨g19, 0, none⟩) (1) (1)) [(true, [98], [50])] := OwnL.lit 1 (All2c.cons (c1 := [Value.bool true, str ([98]), str ([50])]) (mk_Op (m := _) true ([98]) ([50]) bdm bdm) All2c.nil) rfl rfl
                refine VO.gcallN 121 rfl ⟨_, rfl, rfl⟩ fnOk22 rfl (fun W hW => SameOps_ok W (OwnL.rd (Ow.ownl f14_0 rfl mnil) (hW.at (i := 115) rfl) (mle_nil _)) (OwnL.rd ho22 (hW.at (i := 120) rfl) (mle_nil _))) (fun v21 m21 hv21 => ?_)
                subst hv21
                refine VO.y rfl (.pT rfl rfl) ?_
                refine VO.as ?_
                refine VO.kp [116, 0] [(116, p14_1), (0, wm W)] ?_
                refine VO.k7 0 1 2 4 5 6 17 ?_
                refine VC.ret ?_
                refine ⟨_, _, res_run (rs := [.tmp 0]) rfl (.tmp rfl .nil), fun W_ hI => out_of (l := []) hI [] rfl rfl (mle_refl _) (fun hS_ => ?_)⟩
                dsimp only [packV]
                all_goals (first | rfl | (first | exact congrArg Value.bool (decide_eq_true (by first | rfl | decide | (simp only [smF1, smF0, smF3, smF2, smF4, smL, smG1, smG2, smG3]; first | done | rfl | decide | omega))) | (show Value.bool _ = Value.bool true; simp only [smF1, smF0, smF3, smF2, smF4, smL, smG1, smG2, smG3]; done) | rfl))
              · -- TFTTTTF
                first | exact absurd rfl hc13 | exact absurd (by first | rfl | decide | (simp only [smF1, smF0, smF3, smF2, smF4, smL, smG1, smG2, smG3]; first | done | rfl | decide | omega)) hc13 | exact absurd hc13 (by first | decide | (simp only [smF1, smF0, smF3, smF2, smF4, smL, smG1, smG2, smG3]; first | done | rfl | decide | omega)) | (simp only [smF1, smF0, smF3, smF2, smF4, smL, smG1, smG2, smG3] at hc13; first | done | exact absurd hc13 (by decide) | exact absurd rfl hc13)
            · -- TFTTTF
              first | exact absurd rfl hc11 | exact absurd (by first | rfl | decide | (simp only [smF1, smF0, smF3, smF2, smF4, smL, smG1, smG2, smG3]; first | done | rfl | decide | omega)) hc11 | exact absurd hc11 (by first | decide | (simp only [smF1, smF0, smF3, smF2, smF4, smL, smG1, smG2, smG3]; first | done | rfl | decide | omega)) | (simp only [smF1, smF0, smF3, smF2, smF4, smL, smG1, smG2, smG3] at hc11; first | done | exact absurd hc11 (by decide) | exact absurd rfl hc11)
          · -- TFTTF
            first | exact absurd rfl hc9 | exact absurd (by first | rfl | decide | (simp only [smF1, smF0, smF3, smF2, smF4, smL, smG1, smG2, smG3]; first | done | rfl | decide | omega)) hc9 | exact absurd hc9 (by first | decide | (simp only [smF1, smF0, smF3, smF2, smF4, smL, smG1, smG2, smG3]; first | done | rfl | decide | omega)) | (simp only [smF1, smF0, smF3, smF2, smF4, smL, smG1, smG2, smG3] at hc9; first | done | exact absurd hc9 (by decide) | exact absurd rfl hc9)
        · -- TFTF
          first | exact absurd rfl hc8 | exact absurd (by first | rfl | decide | (simp only [smF1, smF0, smF3, smF2, smF4, smL, smG1, smG2, smG3]; first | done | rfl | decide | omega)) hc8 | exact absurd hc8 (by first | decide | (simp only [smF1, smF0, smF3, smF2, smF4, smL, smG1, smG2, smG3]; first | done | rfl | decide | omega)) | (simp only [smF1, smF0, smF3, smF2, smF4, smL, smG1, smG2, smG3] at hc8; first | done | exact absurd hc8 (by decide) | exact absurd rfl hc8)
      · -- TFF
        first | exact absurd rfl hc7 | exact absurd (by first | rfl | decide | (simp only [smF1, smF0, smF3, smF2, smF4, smL, smG1, smG2, smG3]; first | done | rfl | decide | omega)) hc7 | exact absurd hc7 (by first | decide | (simp only [smF1, smF0, smF3, smF2, smF4, smL, smG1, smG2, smG3]; first | done | rfl | decide | omega)) | (simp only [smF1, smF0, smF3, smF2, smF4, smL, smG1, smG2, smG3] at hc7; first | done | exact absurd hc7 (by decide) | exact absurd rfl hc7)
  · -- F
    first | exact absurd rfl hsp2 | exact absurd (by first | rfl | decide | (simp only [smF1, smF0, smF3, smF2, smF4, smL, smG1, smG2, smG3]; first | done | rfl | decide | omega)) hsp2 | exact absurd hsp2 (by first | decide | (simp only [smF1, smF0, smF3, smF2, smF4, smL, smG1, smG2, smG3]; first | done | rfl | decide | omega)) | (simp only [smF1, smF0, smF3, smF2, smF4, smL, smG1, smG2, smG3] at hsp2; first | done | exact absurd hsp2 (by decide) | exact absurd rfl hsp2)
section
variable {t T : MapD} {l : List DRun} {r : List DCommit} {c : DCommit} {x o : DOp} {y z ops : List DOp} {q : Bytes} {d : DDisk} {br : Bool} {i : Nat} {u : Int}
theorem sPut_keys (t : MapD) (k : List UInt8) (v : List UInt8 × Bool) : (mPut t k v).map (·.1) = if k ∈ t.map (·.1) then t.map (·.1) else t.map (·.1) ++ [k] := by
  induction t with
  | nil => rfl
  | cons x t ih =>
    rw [mPut]
    by_cases hx : x.1 = k
    · rw [if_pos hx, if_pos (by rw [List.map_cons, hx]; exact .head _), List.map_cons, List.map_cons, hx]
    · rw [if_neg hx, List.map_cons, ih, List.map_cons]
      by_cases hk : k ∈ t.map (·.1)
      · rw [if_pos hk, if_pos (List.mem_cons_of_mem _ hk)]
      · rw [if_neg hk, if_neg (fun q => (List.mem_cons.1 q).elim (fun e => hx e.symm) hk)]; rfl
theorem sPut_nodup (h : (t.map (·.1)).Nodup) (k : List UInt8) (v : List UInt8 × Bool) : ((mPut t k v).map (·.1)).Nodup := by
  rw [sPut_keys]; split
  · exact h
  · rename_i hk
    exact List.nodup_append.2 ⟨h, List.nodup_cons.2 ⟨fun q => (by cases q), List.nodup_nil⟩, fun a ha b hb e => hk (by rw [List.mem_singleton.1 hb] at e; exact e ▸ ha)⟩
theorem sfold_nodup : ∀ (l : List DOp) {t : MapD}, (t.map (·.1)).Nodup → ((l.foldl mPutO t).map (·.1)).Nodup
  | [], _, h => h
  | o :: l, _, h => sfold_nodup l (sPut_nodup h _ _)
/-- what ops that may be leave is what its list tells -/
theorem tbl_is (h : ∀ o ∈ ops, opCheck o = 0) : tabIs (ops.foldl mPutO []) (tL (ops.foldl mPutO [])) := by
  have h1 := tabIs_fold tabIs_nil h
  rw [(tl_is (sfold_nodup (t := []) ops List.nodup_nil) h1).1]; exact h1
theorem comb_fold : ∀ (ops : List DOp) {t T : MapD} {f : Bytes → Option (List UInt8 × Bool)}, (∀ q, mGet t q = (mGet T q).or (f q)) → ∀ q, mGet (ops.foldl mPutO t) q = (mGet (ops.foldl mPutO T) q).or (f q)
  | [], _, _, _, h, q => h q
  | o :: ops, t, T, f, h, q => comb_fold ops (fun q => by
    rw [show mPutO t o = mPut t o.2.1 (o.2.2, o.1) from rfl, show mPutO T o = mPut T o.2.1 (o.2.2, o.1) from rfl, get_put, get_put]
    split
    · rfl
    · exact h q) q
/-- ops of commits, of runs -/
def sOps (r : List DCommit) : List DOp := (r.map (·.2.2)).flatten
theorem cOps_ok (h : cCheck c = 0) : ∀ o ∈ c.2.2, opCheck o = 0 := fun o ho => opCheck_good (batchCheck_mem (cCheck_ok h).2.2.2.2 ho)
theorem sOps_ok (h : ∀ c ∈ r, cCheck c = 0) : ∀ o ∈ sOps r, opCheck o = 0 := fun o ho => by
  obtain ⟨y, hy, ho⟩ := List.mem_flatten.1 ho
  obtain ⟨c, hc, rfl⟩ := List.mem_map.1 hy
  exact cOps_ok (h c hc) o ho
theorem sT_fold : ∀ {r : List DCommit} {t : MapD}, (∀ c ∈ r, cCheck c = 0) → r.foldl (fun t c => (mApply t c.2.2).1) t = (sOps r).foldl mPutO t
  | [], _, _ => rfl
  | c :: r, t, h => by
    rw [List.foldl_cons, sT_fold (fun x hx => h x (.tail _ hx)), mApply_good (cOps_ok (h c (.head _)))]
    show _ = ((c.2.2 ++ sOps r)).foldl mPutO t
    rw [List.foldl_append]
theorem sT_ops (h : ∀ c ∈ r, cCheck c = 0) : sT r = (sOps r).foldl mPutO [] := sT_fold h
def sVal (l : List DRun) (r : List DCommit) (q : Bytes) : Option (List UInt8 × Bool) := (mGet (sT r) q).or ((getRev l.reverse q).map opPair)
/-- what the loop keeps -/
structure SF (i : Nat) (d : DDisk) (br : Bool) (l : List DRun) (r : List DCommit) (t : MapD) : Prop where
  br : br = false
  z : Kz d l
  s : okS l r
  e : endR l + r.length = i
  v : ∀ q, mGet t q = sVal l r q
theorem SF.okU (h : SF i d br l r t) : okU l := h.z.2.2.1
theorem SF.okD (h : SF i d br l r t) : okD d := h.z.1.ok
theorem sf_new : SF 0 newD false [] [] [] := ⟨rfl, kz_new, rfl, rfl, fun q => rfl⟩
theorem sVal_snoc (hc : cCheck c = 0) (h : ∀ q, mGet t q = sVal l r q) (q : Bytes) : mGet (mApply t c.2.2).1 q = sVal l (r ++ [c]) q := by
  unfold sVal
  rw [sT_snoc, mApply_good (cOps_ok hc), mApply_good (cOps_ok hc)]
  exact comb_fold c.2.2 h q
theorem sf_apply (h : SF i d br l r t) (hc : (sApply l r c).2 = 0) : (mApply t c.2.2).2 = 0 ∧ SF (i + 1) d br l (sApply l r c).1 (mApply t c.2.2).1 := by
  unfold sApply at hc ⊢
  split at hc
  · rename_i h1; exact absurd hc h1
  · split at hc
    · cases hc
    · rename_i h1 h2
      rw [if_neg h1, if_neg h2]
      have h3 := Decidable.not_not.1 h1
      refine ⟨by rw [mApply_good (cOps_ok h3)], h.br, h.z, okS_snoc h.s h1 (fun q => h2 (.inl q)) (fun q => h2 (.inr q)), ?_, sVal_snoc h3 h.v⟩
      have := h.e; rw [List.length_append, List.length_singleton]; omega
theorem sApply_ok2 (hc : (sApply l r c).2 = 0) : (sApply l r c).1 = r ++ [c] := by
  unfold sApply at hc ⊢
  split at hc
  · rename_i h1; exact absurd hc h1
  · split at hc
    · cases hc
    · rename_i h1 h2; rw [if_neg h1, if_neg h2]
theorem sT_cut (h : ∀ c ∈ r, cCheck c = 0) (k : Nat) (q : Bytes) : mGet (sT r) q = (mGet (sT (r.drop k)) q).or (mGet (sT (r.take k)) q) := by
  have h1 : ∀ c ∈ r.take k, cCheck c = 0 := fun c hc => h c (List.mem_of_mem_take hc)
  have h2 : ∀ c ∈ r.drop k, cCheck c = 0 := fun c hc => h c (List.mem_of_mem_drop hc)
  have e : sT r = (sOps (r.drop k)).foldl mPutO (sT (r.take k)) := by
    conv => lhs; rw [← List.take_append_drop k r]
    unfold sT; rw [List.foldl_append, sT_fold h2]
  rw [e, sT_ops h2]
  exact comb_fold _ (T := []) (fun q => rfl) q
theorem sf_run (h : SF i d br l r t) (hi : i ≤ 1000000) (hu : endR l ≤ u) (hu2 : u ≤ endR l + r.length) (hne : ¬ u = endR l) (hr : r.length ≤ 100) : runCheck (sRun l r u) = 0 ∧ (sT (sCut l r u)).length ≤ 800 := by
  have h0 := okU_len h.okU
  have hl := sT_lenT h.s (u - endR l).toNat
  have hc : ∀ c ∈ sCut l r u, cCheck c = 0 := fun c hc => okS_all h.s c (List.mem_of_mem_take hc)
  have h1 : opsUp (tL (sT (sCut l r u))) := by rw [sT_ops hc]; exact (tbl_is (sOps_ok hc)).1
  have he := h.e
  have hl2 : (sT (sCut l r u)).length ≤ 800 := by unfold sCut; omega
  refine ⟨runCheck_good (by show ¬ (1024 : Int) < ((tL (sT (sCut l r u))).length : Int); rw [tL_len]; omega) (by show ¬ (endR l + 1 < 1 ∨ u < endR l + 1 ∨ 1048576 < u); omega) h1, hl2⟩
theorem sf_flush (h : SF i d br l r t) (hi : i ≤ 1000000) (hr : r.length ≤ 100) : ((sFlush d br l r u).2 = 0 ∨ (sFlush d br l r u).2 = 2) ∧ SF i (sFlush d br l r u).1.1.1 (sFlush d br l r u).1.1.2.1 (sFlush d br l r u).1.1.2.2 (sFlush d br l r u).1.2 t ∧ (sFlush d br l r u).1.2.length ≤ r.length ∧ (sFlush d br l r u).1.1.2.2.length ≤ l.length + 1 ∧ wD (sFlush d br l r u).1.1.1 ≤ wD d + 200000 := by
  have hw := flush_w (br := br) (l := l) (x := sRun l r u) h.okD
  by_cases h1 : u < endR l ∨ endR l + (r.length : Int) < u
  · rw [sFlush_arg h1]; exact ⟨.inr rfl, h, Nat.le_refl _, Nat.le_succ _, by dsimp only; omega⟩
  · by_cases h2 : u = endR l
    · rw [sFlush_same (fun q => h1 (.inl q)) (fun q => h1 (.inr q)) h2]; exact ⟨.inl rfl, h, Nat.le_refl _, Nat.le_succ _, by dsimp only; omega⟩
    · obtain ⟨hc, hl⟩ := sf_run h hi (by omega) (by omega) h2 hr
      have hb := h.br
      subst hb
      have e := smU d l (sRun l r u) h.z hc rfl
      obtain ⟨f1, f2, f3⟩ := kz_flush h.z hc rfl
      have hk : (u - endR l).toNat ≤ r.length := by omega
      rw [sFlush_good (fun q => h1 (.inl q)) (fun q => h1 (.inr q)) h2 rfl (by omega) (not_not_intro f1)]
      have e' : uFlush d false l (endR l + 1, u, tL (sT (sCut l r u))) = _ := e
      rw [e']
      refine ⟨.inl rfl, ⟨rfl, f2, ?_, ?_, fun q => ?_⟩, by dsimp only; rw [List.length_drop]; omega, by simp, by dsimp only; rw [e] at hw; dsimp only at hw; rw [e]; dsimp only; omega⟩
      · show (cFollowsAt 1 (endR (l ++ [sRun l r u])) 0 _).1 = 0
        rw [endR_snoc]
        have h3 := h.s
        have h4 : (cFollowsAt 1 (endR l) 0 (r.take (u - endR l).toNat ++ r.drop (u - endR l).toNat)).1 = 0 := by rw [List.take_append_drop]; exact h3
        have h5 := follows_app_right 0 h4
        rw [List.length_take, Nat.min_eq_left hk, show endR l + ((u - endR l).toNat : Int) = u by omega] at h5
        refine follows_weak h5 ?_ 0
        have h6 := follows_app_left h4
        rcases Nat.eq_zero_or_pos (r.take (u - endR l).toNat).length with h7 | h7
        · rw [List.eq_nil_of_length_eq_zero h7]; exact Int.le_refl _
        · have h8 : (r.take (u - endR l).toNat)[(r.take (u - endR l).toNat).length - 1]? = some (r.take (u - endR l).toNat)[(r.take (u - endR l).toNat).length - 1] := List.getElem?_eq_getElem (by omega)
          rw [lastOr_at h8 (by omega)]
          exact (follows_get h6 h8).2.1
      · show endR (l ++ [sRun l r u]) + _ = _
        rw [endR_snoc]
        have := h.e
        show u + ((r.drop (u - endR l).toNat).length : Int) = i
        rw [List.length_drop]; omega
      · rw [h.v q]
        have hcc : ∀ c ∈ sCut l r u, cCheck c = 0 := fun c hc => okS_all h.s c (List.mem_of_mem_take hc)
        have hT : tabIs (sT (sCut l r u)) (tL (sT (sCut l r u))) := by rw [sT_ops hcc]; exact tbl_is (sOps_ok hcc)
        unfold sVal
        rw [sT_cut (okS_all h.s) (u - endR l).toNat q, List.reverse_append]
        show _ = (mGet (sT (r.drop (u - endR l).toNat)) q).or (Option.map opPair (match findK (tL (sT (sCut l r u))) q with | some o => some o | none => getRev l.reverse q))
        rw [show mGet (sT (r.take (u - endR l).toNat)) q = _ from hT.2 q]
        cases mGet (sT (r.drop (u - endR l).toNat)) q with
        | some p => rfl
        | none => cases findK (tL (sT (sCut l r u))) q <;> rfl
end
section
variable {t : MapD} {l : List DRun} {r log : List DCommit} {c : DCommit} {d : DDisk} {br : Bool} {i : Nat} {u : Int}
theorem kz_open (h : Kz d l) : (uOpen d).2 = 0 ∧ (runF (dRead d 2).1).1 = l := by
  obtain ⟨h1, h2, h3, A, h4, h5⟩ := h
  have h6 : Hd2 d (rFrames l) := ⟨h1, by rw [h4.ends, h5]⟩
  obtain ⟨a, b⟩ := h2_open h6
  exact ⟨a, by rw [b, run_whole h3]⟩
/-- the log, and what of it stands behind the runs -/
structure SA (i : Nat) (d : DDisk) (br : Bool) (l : List DRun) (r log : List DCommit) : Prop where
  f : SF i d br l r (sT log)
  r : r = log.drop (endR l).toNat
  n : log.length = i
theorem sa_new : SA 0 newD false [] [] [] := ⟨sf_new, rfl, rfl⟩
theorem sa_apply (h : SA i d br l r log) (hc : (sApply l r c).2 = 0) : SA (i + 1) d br l (sApply l r c).1 (log ++ [c]) := by
  have hu := okU_len h.f.okU
  have he := h.f.e
  refine ⟨by rw [sT_snoc]; exact (sf_apply h.f hc).2, ?_, by rw [List.length_append, h.n]; rfl⟩
  rw [sApply_ok2 hc, List.drop_append_of_le_length (by have := h.n; omega), ← h.r]
theorem sa_flush (h : SA i d br l r log) (hi : i ≤ 1000000) (hr : r.length ≤ 100) : SA i (sFlush d br l r u).1.1.1 (sFlush d br l r u).1.1.2.1 (sFlush d br l r u).1.1.2.2 (sFlush d br l r u).1.2 log := by
  refine ⟨(sf_flush h.f hi hr).2.1, ?_, h.n⟩
  by_cases h1 : u < endR l ∨ endR l + (r.length : Int) < u
  · rw [sFlush_arg h1]; exact h.r
  · by_cases h2 : u = endR l
    · rw [sFlush_same (fun q => h1 (.inl q)) (fun q => h1 (.inr q)) h2]; exact h.r
    · obtain ⟨hc, hl⟩ := sf_run h.f hi (by omega) (by omega) h2 hr
      have hu := okU_len h.f.okU
      have hb := h.f.br
      subst hb
      have e := smU d l (sRun l r u) h.f.z hc rfl
      obtain ⟨f1, f2, f3⟩ := kz_flush h.f.z hc rfl
      rw [sFlush_good (fun q => h1 (.inl q)) (fun q => h1 (.inr q)) h2 rfl (by omega) (not_not_intro f1)]
      have e' : uFlush d false l (endR l + 1, u, tL (sT (sCut l r u))) = _ := e
      rw [e']
      show r.drop (u - endR l).toNat = log.drop (endR (l ++ [sRun l r u])).toNat
      rw [endR_snoc, h.r, List.drop_drop]
      show log.drop ((endR l).toNat + (u - endR l).toNat) = log.drop u.toNat
      congr 1; omega
theorem SA.len (h : SA i d br l r log) : 0 ≤ endR l ∧ endR l ≤ i ∧ (r.length : Int) = i - endR l ∧ (log.drop (endR l).toNat).length = r.length := by
  have hu := okU_len h.f.okU
  have he := h.f.e
  refine ⟨hu.2.1, by omega, by omega, by rw [← h.r]⟩
end
theorem VX.seqJ {P : Program} {n : Nat} {w0 : World} {σ : Env} {Ω : Ctx} {ρ d : Option Nat} {R : Option Nat → Exit → Env → Ctx → Prop} {G : Type} {x y : Code} (S : G → Env) (C : G → Ctx) (I : G → Prop) (rest : ∀ g, I g → VX P n w0 ρ y R d (S g) (C g))
    (h : (∀ g σ' Ω', I g → To w0 (S g) (C g) σ' Ω' → VX P n w0 ρ y R d σ' Ω') → VX P n w0 ρ x (thenX (fun d' σ' Ω' => VX P n w0 ρ y R d' σ' Ω') R) d σ Ω) : VX P n w0 ρ (.seq x y) R d σ Ω :=
  VX.seq (h fun g _ _ hi ht => VX.esub _ ht.env (VX.inv _ ht.inv (rest g hi)))
theorem fnOk20 : fnOk Tryz.prog 20 = true := by kernel_rfl
theorem fnOk15 : fnOk Tryz.prog 15 = true := by kernel_rfl
theorem tsl49 : tsl Tryz.prog 49 = some (34, 1, 24) := by kernel_rfl
theorem tsl50 : tsl Tryz.prog 50 = some (3, 1, 8) := by kernel_rfl
set_option maxHeartbeats 8000000 in
theorem storeAgain_ok (W : World) {v0 : Value} {d0 : List (List DOp)} (h0 : Rd (.sl (.sl TOp)) (wm W) [v0] d0) {v1 : Value} {d1 : List Int} (h1 : Rd (.sl (.int .i64)) (wm W) [v1] d1) : CallR Tryz.prog 5 [v0, v1] W (mnil) (fun v m' => v = .bool true) := by
  obtain ⟨A0, c0, rfl, l0, k0⟩ := h0.slice
  simp only [maxLen] at k0
  obtain ⟨A1, c1, rfl, l1, k1⟩ := h1.slice
  simp only [maxLen] at k1
  refine CallR.ofA (n := 147) Tryz.func5 rfl rfl rfl ?_
  refine VC.rs ?_
  refine VO.as ?_
  refine VO.k3 0 1 4 ?_
  refine VC.seq ?_
  refine VC.rs ?_
  refine VO.callN 101 rfl fnOk8 rfl (fun W hW => lives14_ok W ) (fun v1 m1 hv1 => ?_)
  subst hv1
  refine VO.y rfl (.not rfl) ?_
  refine VO.k4 0 1 4 16 ?_
  refine VC.condF rfl ?_
  refine VC.skip ?_
  refine outN ?_
  refine VC.seq ?_
  refine VC.rs ?_
  refine VO.mv ?_
  refine VO.y rfl (.lenS rfl tsl49) ?_
  refine VO.y rfl (.gtr rfl rfl) ?_
  refine VO.kp [0] [(0, wm W)] ?_
  refine VO.k5 0 1 4 16 19 ?_
  refine VC.cond rfl (fun hc2 => ?_) (fun hc2 => ?_)
  · -- T
    refine VC.rs ?_
    refine VO.as ?_
    refine VO.k5 0 1 4 16 19 ?_
    refine VC.ret ?_
    refine outR ?_
    refine ⟨_, _, res_run (rs := [.tmp 4]) rfl (.tmp rfl .nil), fun W_ hI => out_of (l := []) hI [] rfl rfl (mle_refl _) (fun hS_ => ?_)⟩
    dsimp only [packV]
    all_goals (first | rfl | (first | rfl | exact congrArg Value.bool (decide_eq_true (by rw [← hF.r]))))
  · -- F
    refine VC.skip ?_
    refine outN ?_
    refine VC.rs ?_
    refine VO.callN 103 rfl fnOk18 rfl (fun W hW => dNew_ok W ) (fun v3 m3 hv3 => ?_)
    obtain ⟨s3_0, rfl, f3_0⟩ := hv3
    have hfa4 := okD_new
    have hfa5 := (show wD newD = 0 from rfl)
    refine VO.as ?_
    refine VO.k6 0 1 4 5 16 19 ?_
    refine VC.rs ?_
    refine VO.mv ?_
    refine VO.call 103 rfl fnOk19 rfl rfl (fun W hW => uOpen0_ok W (hW.at (i := 103) rfl) f3_0 (by first | assumption | rfl)) (fun v6 m6 hv6 => ?_)
    obtain ⟨s6_0, rfl, f6_0⟩ := hv6
    refine VO.mv ?_
    refine VO.y rfl (.ext rfl rfl) ?_
    refine VO.y rfl (.ext rfl rfl) ?_
    refine VO.as ?_
    refine VO.as ?_
    refine VO.k8 0 1 4 5 6 7 16 19 ?_
    refine VC.rs ?_
    refine VO.mv ?_
    by_cases hsp7 : (cFollows 1 (endR ([] : List DRun)) []).1 = 0
    · -- FT
      refine VO.call 103 rfl fnOk14 rfl rfl (fun W hW => sOpenY_ok W (hW.at (i := 103) rfl) f6_0 (Rd.nil _ _ none 0 (Nat.zero_le _)) (by first | assumption | exact okU_nil) (by assumption) bd) (fun v8 m8 hv8 => ?_)
      try dsimp only at hv8
      obtain ⟨s8_0, gt2_8, rfl, f8_0⟩ := hv8
      refine VO.mv ?_
      refine VO.y rfl (.ext rfl rfl) ?_
      refine VO.y rfl (.ext rfl rfl) ?_
      refine VO.as ?_
      refine VO.as ?_
      refine VO.kp [103, 0] [(103, m8), (0, wm W)] ?_
      refine VO.k10 0 1 4 5 6 7 8 9 16 19 ?_
      refine VC.seq ?_
      refine VC.rs ?_
      refine VO.mv ?_
      refine VO.y rfl (.neq rfl rfl) ?_
      refine VO.mv ?_
      refine VO.dec (t := 33) rfl (fun hc9 => ?_) (fun hc9 => ?_)
      · -- FTT
        first | exact absurd rfl hc9 | exact absurd hc9 (by omega) | exact hc9 hko.1 | exact absurd hko.1 hc9 | (rw [← hF.r] at hc9; exact absurd hFs hc9) | (refine absurd ?_ hc9; rw [← hF.r]; exact hFs) | (exfalso; omega)
      · -- FTF
        refine VO.gy rfl ⟨_, rfl, rfl⟩ (.mv rfl) ?_
        refine VO.gy rfl ⟨_, rfl, rfl⟩ (.neq rfl rfl) ?_
        refine VO.y rfl (.pF rfl rfl) ?_
        refine VO.mv ?_
        refine VO.known (t := 37) false rfl (decide_eq_false hc9) ?_
        refine VO.gy rfl ⟨_, rfl, rfl⟩ (.mv rfl) ?_
        refine VO.gy rfl ⟨_, rfl, rfl⟩ (.pnil rfl rfl Tryz.underlying23 rfl) ?_
        refine VO.y rfl (.pF rfl rfl) ?_
        refine VO.k11 0 1 4 5 6 7 8 9 16 19 40 ?_
        refine VC.condF rfl ?_
        refine VC.skip ?_
        refine outN ?_
        refine VC.rs ?_
        refine VO.as ?_
        refine VO.k12 0 1 4 5 6 7 8 9 10 16 19 40 ?_
        refine VC.seq ?_
        refine VC.rs ?_
        refine VO.as ?_
        refine VO.kp [103, 0] [(103, m8), (0, wm W)] ?_
        refine VO.k13 0 1 4 5 6 7 8 9 10 11 16 19 40 ?_
        refine VC.block ?_
        refine VC.inv ((110, mnil) :: _) (fun _ h => h.nilc 110) ?_
        refine VC.loop (G := Nat × Nat × DtableTable × DdiskDisk × Bool × (List DRun) × (List DCommit) × Mem × (List DCommit) × (Option Addr) × Nat × Mem) (fun g => [(10, Value.slice (g.2.2.2.2.2.2.2.2.2.1) ((g.2.2.2.2.2.2.2.2.1).length) ((g.2.2.2.2.2.2.2.2.2.2.1))), (11, Value.int .i64 ((((g.1) : Nat) : Int))), (0, Value.slice A0 (d0.length) (c0)), (1, Value.slice A1 (d1.length) (c1)), (5, Value.pointer (some ⟨s3_0, 0, none⟩)), (6, Value.pointer (some ⟨s6_0, 0, none⟩)), (7, Value.int .i64 (0)), (8, Value.pointer (some ⟨s8_0, 0, none⟩)), (9, Value.int .i64 (0)), (16, Value.bool false), (19, Value.bool (decide (40 < ((d0.length : Nat) : Int)))), (40, Value.bool false)]) (fun g => [(110, (g.2.2.2.2.2.2.2.2.2.2.2)), (103, (g.2.2.2.2.2.2.2.1)), (0, wm W)]) (fun g => ((g.1) ≤ d0.length) ∧ (SA (g.1) (g.2.2.2.1) (g.2.2.2.2.1) (g.2.2.2.2.2.1) (g.2.2.2.2.2.2.1) (g.2.2.2.2.2.2.2.2.1)) ∧ ((g.2.2.1) = sT (g.2.2.2.2.2.2.1)) ∧ ((g.2.2.2.2.2.2.1).length ≤ (g.1)) ∧ ((g.2.2.2.2.2.1).length ≤ (g.1)) ∧ (wD (g.2.2.2.1) ≤ 200000 * (g.1)) ∧ (OwnL TCommit (g.2.2.2.2.2.2.2.2.2.2.2) (wm W) (.slice (g.2.2.2.2.2.2.2.2.2.1) (g.2.2.2.2.2.2.2.2.1).length (g.2.2.2.2.2.2.2.2.2.2.1)) (g.2.2.2.2.2.2.2.2.1)) ∧ (Ow (.ptr TstoreStore) (g.2.2.2.2.2.2.2.1) [.pointer (some ⟨s8_0, 0, none⟩)] (s8_0, (((g.2.1), (g.2.2.1)), (s6_0, ((s3_0, (g.2.2.2.1)), (g.2.2.2.2.1), (g.2.2.2.2.2.1))), (g.2.2.2.2.2.2.1))))) (fun g => d0.length - (g.1)) (0, gt2_8, (sT []), newD, false, ([] : List DRun), [], m8, [], none, 0, mnil) (⟨by (dsimp only; omega), by exact sa_new, by rfl, by (dsimp only; exact Nat.le_refl _), by (dsimp only; exact Nat.le_refl _), by (dsimp only; exact Nat.le_refl _), (OwnL.nil TCommit mnil (wm W)), f8_0⟩) ⟨⟨rfl, rfl, rfl, rfl, rfl, rfl, rfl, rfl, rfl, rfl, rfl, rfl, trivial⟩, fun _ h => h.sub [110, 103, 0]⟩ ?_
        rintro ⟨i, w_0g, w_0, w_1_0, w_1_1, w_1_2, w_2, w_m, log, log_A, log_c, log_m⟩ ⟨hi, hF, hT, hrl, hul, hw, h_log, h_w⟩
        replace hi : i ≤ d0.length := hi
        replace hF : SA i w_1_0 w_1_1 w_1_2 w_2 log := hF
        replace hT : w_0 = sT w_2 := hT
        replace hrl : w_2.length ≤ i := hrl
        replace hul : w_1_2.length ≤ i := hul
        replace hw : wD w_1_0 ≤ 200000 * i := hw
        replace h_log : OwnL TCommit log_m (wm W) (.slice log_A log.length log_c) log := h_log
        replace h_w : Ow (.ptr TstoreStore) w_m [.pointer (some ⟨s8_0, 0, none⟩)] (s8_0, ((w_0g, w_0), (s6_0, ((s3_0, w_1_0), w_1_1, w_1_2)), w_2)) := h_w
        show VC _ _ _ _ _ [(10, Value.slice log_A (log.length) (log_c)), (11, Value.int .i64 (((i : Nat) : Int))), (0, Value.slice A0 (d0.length) (c0)), (1, Value.slice A1 (d1.length) (c1)), (5, Value.pointer (some ⟨s3_0, 0, none⟩)), (6, Value.pointer (some ⟨s6_0, 0, none⟩)), (7, Value.int .i64 (0)), (8, Value.pointer (some ⟨s8_0, 0, none⟩)), (9, Value.int .i64 (0)), (16, Value.bool false), (19, Value.bool (decide (40 < ((d0.length : Nat) : Int)))), (40, Value.bool false)] [(110, log_m), (103, w_m), (0, wm W)]
        have l_log : log.length ≤ log_c := by obtain ⟨_, _, he, hl, _⟩ := h_log.slice; simp only [Value.slice.injEq] at he; omega
        have k_log : log_c ≤ 9223372036854775807 := by obtain ⟨_, _, he, _, hl⟩ := h_log.slice; simp only [Value.slice.injEq, maxLen] at he hl; omega
        have hFu := hF.f.okU; have hFs := hF.f.s; have hFd := hF.f.okD; have hFn := hF.n
        refine VC.seq ?_
        refine VC.rs ?_
        refine VO.mv ?_
        refine VO.mv ?_
        refine VO.y rfl (.lenS rfl tsl49) ?_
        refine VO.y rfl (.lss rfl rfl) ?_
        refine VO.k13 0 1 5 6 7 8 9 10 11 16 19 40 44 ?_
        refine VC.cond rfl (fun hc11 => ?_) (fun hc11 => ?_)
        · -- FTFT
          refine VC.skip ?_
          refine outN ?_
          refine VC.seqJ (G := Nat × DtableTable × DdiskDisk × Bool × (List DRun) × (List DCommit) × Mem × (List DCommit) × (Option Addr) × Nat × Mem) (fun g => [(10, Value.slice (g.2.2.2.2.2.2.2.2.1) ((g.2.2.2.2.2.2.2.1).length) ((g.2.2.2.2.2.2.2.2.2.1))), (0, Value.slice A0 (d0.length) (c0)), (1, Value.slice A1 (d1.length) (c1)), (5, Value.pointer (some ⟨s3_0, 0, none⟩)), (6, Value.pointer (some ⟨s6_0, 0, none⟩)), (7, Value.int .i64 (0)), (8, Value.pointer (some ⟨s8_0, 0, none⟩)), (9, Value.int .i64 (0)), (11, Value.int .i64 (((i : Nat) : Int))), (16, Value.bool false), (19, Value.bool (decide (40 < ((d0.length : Nat) : Int)))), (40, Value.bool false)]) (fun g => [(103, (g.2.2.2.2.2.2.1)), (110, (g.2.2.2.2.2.2.2.2.2.2)), (0, wm W)]) (fun g => (SA (i + 1) (g.2.2.1) (g.2.2.2.1) (g.2.2.2.2.1) (g.2.2.2.2.2.1) (g.2.2.2.2.2.2.2.1)) ∧ ((g.2.1) = sT (g.2.2.2.2.2.1)) ∧ ((g.2.2.2.2.2.1).length ≤ i + 1) ∧ ((g.2.2.2.2.1).length ≤ i + 1) ∧ (wD (g.2.2.1) ≤ 200000 * (i + 1)) ∧ (OwnL TCommit (g.2.2.2.2.2.2.2.2.2.2) (wm W) (.slice (g.2.2.2.2.2.2.2.2.1) (g.2.2.2.2.2.2.2.1).length (g.2.2.2.2.2.2.2.2.2.1)) (g.2.2.2.2.2.2.2.1)) ∧ (Ow (.ptr TstoreStore) (g.2.2.2.2.2.2.1) [.pointer (some ⟨s8_0, 0, none⟩)] (s8_0, (((g.1), (g.2.1)), (s6_0, ((s3_0, (g.2.2.1)), (g.2.2.2.1), (g.2.2.2.2.1))), (g.2.2.2.2.2.1))))) ?_ ?_
          · -- FTFTFFTJ
            rintro ⟨v_0g, v_0, v_1_0, v_1_1, v_1_2, v_2, v_m, lg, lg_A, lg_c, lg_m⟩ ⟨hF2, hT2, hr2, hu2, hw2, h_lg, h_v⟩
            replace hF2 : SA (i + 1) v_1_0 v_1_1 v_1_2 v_2 lg := hF2
            replace hT2 : v_0 = sT v_2 := hT2
            replace hr2 : v_2.length ≤ i + 1 := hr2
            replace hu2 : v_1_2.length ≤ i + 1 := hu2
            replace hw2 : wD v_1_0 ≤ 200000 * (i + 1) := hw2
            replace h_lg : OwnL TCommit lg_m (wm W) (.slice lg_A lg.length lg_c) lg := h_lg
            replace h_v : Ow (.ptr TstoreStore) v_m [.pointer (some ⟨s8_0, 0, none⟩)] (s8_0, ((v_0g, v_0), (s6_0, ((s3_0, v_1_0), v_1_1, v_1_2)), v_2)) := h_v
            show VC _ _ _ _ _ [(10, Value.slice lg_A (lg.length) (lg_c)), (0, Value.slice A0 (d0.length) (c0)), (1, Value.slice A1 (d1.length) (c1)), (5, Value.pointer (some ⟨s3_0, 0, none⟩)), (6, Value.pointer (some ⟨s6_0, 0, none⟩)), (7, Value.int .i64 (0)), (8, Value.pointer (some ⟨s8_0, 0, none⟩)), (9, Value.int .i64 (0)), (11, Value.int .i64 (((i : Nat) : Int))), (16, Value.bool false), (19, Value.bool (decide (40 < ((d0.length : Nat) : Int)))), (40, Value.bool false)] [(103, v_m), (110, lg_m), (0, wm W)]
            have l_lg : lg.length ≤ lg_c := by obtain ⟨_, _, he, hl, _⟩ := h_lg.slice; simp only [Value.slice.injEq] at he; omega
            have k_lg : lg_c ≤ 9223372036854775807 := by obtain ⟨_, _, he, _, hl⟩ := h_lg.slice; simp only [Value.slice.injEq, maxLen] at he hl; omega
            refine VC.reg ?_
            refine VO.mv ?_
            refine VO.y rfl (.add (c := ((i + 1 : Nat) : Int)) rfl rfl (by omega) ⟨bd, bd⟩) ?_
            refine VO.as ?_
            refine VO.k12 0 1 5 6 7 8 9 10 11 16 19 40 ?_
            exact outN ⟨⟨i + 1, v_0g, v_0, v_1_0, v_1_1, v_1_2, v_2, v_m, lg, lg_A, lg_c, lg_m⟩, ⟨by (dsimp only; omega), by exact hF2, by exact hT2, by (dsimp only; omega), by (dsimp only; omega), by (dsimp only; omega), h_lg, h_v⟩, by (dsimp only; omega), ⟨⟨rfl, rfl, rfl, rfl, rfl, rfl, rfl, rfl, rfl, rfl, rfl, rfl, trivial⟩, fun _ h => Inv.sub h [110, 103, 0]⟩⟩
          · -- FTFTA
            intro hJ1
            refine VC.block ?_
            refine VC.rs ?_
            refine VO.mv ?_
            refine VO.y rfl (.add (c := ((i + 1 : Nat) : Int)) rfl rfl (by omega) ⟨bd, bd⟩) ?_
            refine VO.mv ?_
            refine VO.mv ?_
            obtain ⟨x27, hx27⟩ : ∃ z_, (d0)[i]? = some z_ := ⟨_, List.getElem?_eq_getElem bd⟩
            obtain ⟨gg27, oo27, ec27, ea27, hce27, hre27⟩ := h0.elem hx27
            cases ea27
            have hr27 := hre27
            obtain ⟨A27_, c27_, rfl, _⟩ := hre27
            have rr27 := Rd.room hr27
            refine VO.y rfl (.ixI i rfl rfl tsl49 rfl bd) ?_
            refine VO.y rfl (.ld1 0 rfl tk34 rfl hce27) ?_
            refine VO.y rfl (.bst (cs := [Value.int .i64 (1), Value.int .i64 (((i + 1 : Nat) : Int)), Value.slice A27_ (x27.length) (c27_)]) rfl tst36 tz36 rfl) ?_
            refine VO.alloc 129 rfl tz36 (fun g28 => ?_)
            refine VO.store (k := 3) (c' := [Value.int .i64 (1), Value.int .i64 (((i + 1 : Nat) : Int)), Value.slice A27_ (x27.length) (c27_)]) 129 rfl rfl (.inl tk36) rfl rfl rfl rfl rfl ?_
            refine VO.k14 0 1 5 6 7 8 9 10 11 12 16 19 40 44 ?_
            refine VC.seq ?_
            refine VC.rs ?_
            refine VO.mv ?_
            refine VO.mv ?_
            refine VO.y rfl (.ixI i rfl rfl tsl49 rfl bd) ?_
            refine VO.y rfl (.ld1 0 rfl tk34 rfl hce27) ?_
            refine VO.y rfl (.lenS rfl tsl34) ?_
            refine VO.y rfl (.gtr rfl rfl) ?_
            refine VO.mv ?_
            refine VO.dec (t := 60) rfl (fun hc31 => ?_) (fun hc31 => ?_)
            · -- FTFTAT
              refine VO.gN ?_
              refine VO.gN ?_
              refine VO.gN ?_
              refine VO.gN ?_
              refine VO.y rfl (.pT rfl rfl) ?_
              refine VO.kp [129, 110, 103, 0] [(129, mone g28 (.cells [Value.int .i64 (1), Value.int .i64 (((i + 1 : Nat) : Int)), Value.slice A27_ (x27.length) (c27_)].toArray 36 (0, 0))), (110, log_m), (103, w_m), (0, wm W)] ?_
              refine VO.k15 0 1 5 6 7 8 9 10 11 12 16 19 40 44 65 ?_
              refine VC.condT rfl ?_
              refine VC.rs ?_
              refine VO.as ?_
              refine VO.k16 0 1 4 5 6 7 8 9 10 11 12 16 19 40 44 65 ?_
              refine VC.ret ?_
              refine outR ?_
              refine outBR ?_
              refine outR ?_
              refine outR ?_
              refine outBR ?_
              refine outR ?_
              refine ⟨_, _, res_run (rs := [.tmp 4]) rfl (.tmp rfl .nil), fun W_ hI => out_of (l := []) hI [] rfl rfl (mle_refl _) (fun hS_ => ?_)⟩
              dsimp only [packV]
              all_goals (first | rfl | (first | rfl | exact congrArg Value.bool (decide_eq_true (by rw [← hF.r]))))
            · -- FTFTAF
              refine VO.gy rfl ⟨_, rfl, rfl⟩ (.mv rfl) ?_
              refine VO.gy rfl ⟨_, rfl, rfl⟩ (.ldA 129 rfl tk36 rfl (cellsAt_one rfl rfl)) ?_
              refine VO.gcall 103 rfl ⟨_, rfl, rfl⟩ fnOk15 rfl rfl (fun W hW => sApply_ok_ W (hW.at (i := 103) rfl) h_w (mk_Commit (m := mout (wm W) (w_m)) 1 ((i + 1 : Nat) : Int) x27 bdk bdk (Rd.mono hr27 (hW.out (i := 103) (j := 0) rfl rfl))) (by first | assumption | rfl) (by assumption) bd) (fun v32 m32 hv32 => ?_)
              try dsimp only at hv32
              obtain ⟨rfl, w32_0⟩ := hv32
              refine VO.gy rfl ⟨_, rfl, rfl⟩ (.neq rfl rfl) ?_
              refine VO.y rfl (.pF rfl rfl) ?_
              refine VO.kp [103, 129, 110, 0] [(103, m32), (129, mone g28 (.cells [Value.int .i64 (1), Value.int .i64 (((i + 1 : Nat) : Int)), Value.slice A27_ (x27.length) (c27_)].toArray 36 (0, 0))), (110, log_m), (0, wm W)] ?_
              refine VO.k15 0 1 5 6 7 8 9 10 11 12 16 19 40 44 65 ?_
              refine VC.cond rfl (fun hc33 => ?_) (fun hc33 => ?_)
              · -- FTFTAFT
                refine VC.rs ?_
                refine VO.as ?_
                refine VO.k16 0 1 4 5 6 7 8 9 10 11 12 16 19 40 44 65 ?_
                refine VC.ret ?_
                refine outR ?_
                refine outBR ?_
                refine outR ?_
                refine outR ?_
                refine outBR ?_
                refine outR ?_
                refine ⟨_, _, res_run (rs := [.tmp 4]) rfl (.tmp rfl .nil), fun W_ hI => out_of (l := []) hI [] rfl rfl (mle_refl _) (fun hS_ => ?_)⟩
                dsimp only [packV]
                all_goals (first | rfl | (first | rfl | exact congrArg Value.bool (decide_eq_true (by rw [← hF.r]))))
              · -- FTFTAFF
                refine VC.skip ?_
                refine outN ?_
                refine VC.rs ?_
                have hA := sa_apply hF (Decidable.not_not.1 ‹¬ ¬ (sApply _ _ _).2 = 0›)
                have hAu := hA.f.okU; have hAs := hA.f.s; have hAd := hA.f.okD
                have hAr := sApply_len (l := w_1_2) (r := w_2) (c := (1, ((i + 1 : Nat) : Int), x27))
                refine VO.mv ?_
                refine VO.y rfl (.ldA 129 rfl tk36 rfl (cellsAt_one rfl rfl)) ?_
                refine VO.bsl (cs := [Value.int .i64 (1), Value.int .i64 (((i + 1 : Nat) : Int)), Value.slice A27_ (x27.length) (c27_)]) 135 rfl rfl tsl27 tz36 rfl rfl (fun g34 => ?_)
                obtain ⟨mo36, cs36, hM36, hA36, hC36⟩ := h_log
                refine VO.app 110 rfl rfl rfl tsl27 tz36 rfl rfl hM36 hA36 (.row 135 _ _ _ 1 1 _ _ Tryz.underlying27 rfl (cellsAt_one rfl rfl)) (by simp [Value.oneCell']) bdm bd (by decide) (fun v36 m36 hN36 => ?_)
                have ho36 : OwnL TCommit m36 (wm W) v36 (log ++ [(1, ((i + 1 : Nat) : Int), x27)]) := OwnL.one hC36 hN36 (mk_Commit (m := (wm W)) 1 ((i + 1 : Nat) : Int) x27 bdk bdk (Rd.mono hr27 (mle_refl _)))
                obtain ⟨A36, c36, rfl, l36, k36⟩ := ho36.slice
                simp only [maxLen] at k36
                refine VO.as ?_
                refine VO.k15 0 1 5 6 7 8 9 10 11 12 16 19 40 44 65 ?_
                refine VC.rs ?_
                refine VO.mv ?_
                refine VO.mv ?_
                refine VO.y rfl (.lenS rfl tsl50) ?_
                refine VO.y rfl (.lss rfl rfl) ?_
                refine VO.k16 0 1 5 6 7 8 9 10 11 12 16 19 40 44 65 73 ?_
                refine VC.cond rfl (fun hc37 => ?_) (fun hc37 => ?_)
                · -- FTFTAFFT
                  refine VC.reg ?_
                  have hB := fun u : Int => sf_flush (u := u) hA.f (by omega) (by omega)
                  have hB2 := fun u : Int => sa_flush (u := u) hA (by omega) (by omega)
                  refine VO.mv ?_
                  refine VO.mv ?_
                  refine VO.mv ?_
                  obtain ⟨x38, hx38⟩ : ∃ z_, (d1)[i]? = some z_ := ⟨_, List.getElem?_eq_getElem bd⟩
                  obtain ⟨gg38, oo38, ec38, ea38, hce38, hre38⟩ := h1.elem hx38
                  cases ea38
                  obtain ⟨rfl, q38⟩ := hre38; simp only [inK] at q38
                  refine VO.y rfl (.ixI i rfl rfl tsl50 rfl bd) ?_
                  refine VO.y rfl (.ld1 0 rfl tk3 rfl hce38) ?_
                  refine VO.mv ?_
                  refine VO.y rfl (.add (c := ((i + 2 : Nat) : Int)) rfl rfl (by omega) ⟨bd, bd⟩) ?_
                  refine VO.callN 139 rfl fnOk20 rfl (fun W hW => pick_ok W x38 bdk ((i + 2 : Nat) : Int) bdk bd) (fun v39 m39 hv39 => ?_)
                  subst hv39
                  have hfa40 := pickI_bounds x38 ((i + 2 : Nat) : Int) (by omega)
                  refine VO.call 103 rfl fnOk11 rfl rfl (fun W hW => sFlush_ok W (hW.at (i := 103) rfl) w32_0 (pickI x38 ((i + 2 : Nat) : Int)) bdk (by first | assumption | rfl) (by assumption) (by assumption) bd (by assumption) bd) (fun v41 m41 hv41 => ?_)
                  try dsimp only at hv41
                  obtain ⟨gt2_41, rfl, w41_0⟩ := hv41
                  refine VO.kp [103, 129, 110, 0] [(103, m41), (129, mone g28 (.cells [Value.int .i64 (1), Value.int .i64 (((i + 1 : Nat) : Int)), Value.slice A27_ (x27.length) (c27_)].toArray 36 (0, 0))), (110, m36), (0, wm W)] ?_
                  refine VO.k16 0 1 5 6 7 8 9 10 11 12 16 19 40 44 65 73 ?_
                  refine outBN ?_
                  exact outN (hJ1 ⟨gt2_41, (sT (sFlush w_1_0 w_1_1 w_1_2 ((sApply w_1_2 w_2 (1, ((i + 1 : Nat) : Int), x27)).1) (pickI x38 ((i + 2 : Nat) : Int))).1.2), (sFlush w_1_0 w_1_1 w_1_2 ((sApply w_1_2 w_2 (1, ((i + 1 : Nat) : Int), x27)).1) (pickI x38 ((i + 2 : Nat) : Int))).1.1.1, (sFlush w_1_0 w_1_1 w_1_2 ((sApply w_1_2 w_2 (1, ((i + 1 : Nat) : Int), x27)).1) (pickI x38 ((i + 2 : Nat) : Int))).1.1.2.1, (sFlush w_1_0 w_1_1 w_1_2 ((sApply w_1_2 w_2 (1, ((i + 1 : Nat) : Int), x27)).1) (pickI x38 ((i + 2 : Nat) : Int))).1.1.2.2, (sFlush w_1_0 w_1_1 w_1_2 ((sApply w_1_2 w_2 (1, ((i + 1 : Nat) : Int), x27)).1) (pickI x38 ((i + 2 : Nat) : Int))).1.2, m41, log ++ [(1, ((i + 1 : Nat) : Int), x27)], A36, c36, m36⟩ _ _ ⟨by first | exact hA | exact hB2 _, by rfl, by first | (dsimp only; omega) | exact Nat.le_trans (hB _).2.2.1 (by omega), by first | (dsimp only; omega) | exact Nat.le_trans (hB _).2.2.2.1 (by omega), by first | (dsimp only; omega) | exact Nat.le_trans (hB _).2.2.2.2 (by omega), ho36, w41_0⟩ ⟨⟨rfl, rfl, rfl, rfl, rfl, rfl, rfl, rfl, rfl, rfl, rfl, rfl, trivial⟩, fun _ h => Inv.sub h [103, 110, 0]⟩)
                · -- FTFTAFFF
                  refine VC.skip ?_
                  refine outBN ?_
                  exact outN (hJ1 ⟨w_0g, (sT (sApply w_1_2 w_2 (1, ((i + 1 : Nat) : Int), x27)).1), w_1_0, w_1_1, w_1_2, (sApply w_1_2 w_2 (1, ((i + 1 : Nat) : Int), x27)).1, m32, log ++ [(1, ((i + 1 : Nat) : Int), x27)], A36, c36, m36⟩ _ _ ⟨by first | exact hA | exact hB2 _, by rfl, by first | (dsimp only; omega) | exact Nat.le_trans (hB _).2.2.1 (by omega), by first | (dsimp only; omega) | exact Nat.le_trans (hB _).2.2.2.1 (by omega), by first | (dsimp only; omega) | exact Nat.le_trans (hB _).2.2.2.2 (by omega), ho36, w32_0⟩ ⟨⟨rfl, rfl, rfl, rfl, rfl, rfl, rfl, rfl, rfl, rfl, rfl, rfl, trivial⟩, fun _ h => Inv.sub h [103, 110, 0]⟩)
        · -- FTFF
          refine VC.exit ?_
          refine outE ?_
          refine outE ?_
          refine outBB ?_
          refine outN ?_
          refine VC.rs ?_
          have hko := kz_open hF.f.z
          have hsl := hF.len
          refine VO.mv ?_
          obtain ⟨q42_E, q42_A2, q42_c2, q42_n0, q42_n1, q42_n2, _, q42_S, q42_0, q42_1, q42_2⟩ := openP_storeStore (x0 := (w_0g, w_0)) (x1 := (s6_0, ((s3_0, w_1_0), w_1_1, w_1_2))) (x2 := w_2) h_w
          dsimp only at q42_0
          dsimp only at q42_1
          have q42_r2 := q42_2.rm
          refine VO.inv _ (fun _ h => h.parts (i := 103) rfl q42_S [146, 143, 144, 145]) ?_
          obtain ⟨q47_E, q47_A2, q47_c2, q47_n0, q47_n2, _, q47_S, q47_0, q47_2⟩ := openP_runRuns (x0 := (s3_0, w_1_0)) (x1 := w_1_1) (x2 := w_1_2) q42_1
          dsimp only at q47_0
          have q47_r2 := q47_2.rm
          refine VO.inv _ (fun _ h => h.parts (i := 144) rfl q47_S [150, 148, 149]) ?_
          by_cases hsp51 : (uOpen w_1_0).2 = 0
          · -- FTFFT
            refine VO.call 148 rfl fnOk19 rfl rfl (fun W hW => uOpenY_ok W (hW.at (i := 148) rfl) q47_0 (by assumption) bd (by assumption)) (fun v52 m52 hv52 => ?_)
            obtain ⟨s52_0, rfl, f52_0⟩ := hv52
            have hfa53 := (uopen_ok (show okD w_1_0 by assumption))
            have hfa54 := (uopen_w (show okD w_1_0 by assumption))
            have hfa55 := (runF_ok (dRead w_1_0 2).1).1
            rw [hko.2] at f52_0
            refine VO.mv ?_
            refine VO.y rfl (.ext rfl rfl) ?_
            refine VO.y rfl (.ext rfl rfl) ?_
            refine VO.as ?_
            refine VO.as ?_
            refine VO.k14 0 1 5 6 7 8 9 10 11 13 16 19 40 44 ?_
            refine VC.seq ?_
            refine VC.rs ?_
            refine VO.mv ?_
            refine VO.y rfl (.neq rfl rfl) ?_
            refine VO.mv ?_
            refine VO.known (t := 90) false rfl (decide_eq_false hc9) ?_
            refine VO.gy rfl ⟨_, rfl, rfl⟩ (.mv rfl) ?_
            refine VO.gy rfl ⟨_, rfl, rfl⟩ (.pnil rfl rfl Tryz.underlying38 rfl) ?_
            refine VO.y rfl (.pF rfl rfl) ?_
            refine VO.mv ?_
            refine VO.gy rfl ⟨_, rfl, rfl⟩ (.mv rfl) ?_
            refine VO.gcall 148 rfl ⟨_, rfl, rfl⟩ fnOk21 rfl rfl (fun W hW => uEnd_ok W (hW.at (i := 148) rfl) f52_0 (by assumption)) (fun v56 m56 hv56 => ?_)
            try dsimp only at hv56
            obtain ⟨rfl, w56_0⟩ := hv56
            refine VO.gy rfl ⟨_, rfl, rfl⟩ (.mv rfl) ?_
            refine VO.gy rfl ⟨_, rfl, rfl⟩ (.lenS rfl tsl27) ?_
            refine VO.gy rfl ⟨_, rfl, rfl⟩ (.gtr rfl rfl) ?_
            refine VO.y rfl (.pF rfl rfl) ?_
            refine VO.mv ?_
            refine VO.dec (t := 101) rfl (fun hc57 => ?_) (fun hc57 => ?_)
            · -- FTFFTT
              first | exact absurd rfl hc57 | exact absurd hc57 (by omega) | exact hc57 hko.1 | exact absurd hko.1 hc57 | (rw [← hF.r] at hc57; exact absurd hFs hc57) | (refine absurd ?_ hc57; rw [← hF.r]; exact hFs) | (exfalso; omega)
            · -- FTFFTF
              refine VO.gy rfl ⟨_, rfl, rfl⟩ (.mv rfl) ?_
              refine VO.gcall 148 rfl ⟨_, rfl, rfl⟩ fnOk21 rfl rfl (fun W hW => uEnd_ok W (hW.at (i := 148) rfl) w56_0 (by assumption)) (fun v58 m58 hv58 => ?_)
              try dsimp only at hv58
              obtain ⟨rfl, w58_0⟩ := hv58
              refine VO.gy rfl ⟨_, rfl, rfl⟩ (.mv rfl) ?_
              refine VO.gy rfl ⟨_, rfl, rfl⟩ (.lenS rfl tsl27) ?_
              refine VO.gy rfl ⟨_, rfl, rfl⟩ (.mv rfl) ?_
              obtain ⟨q60_E, q60_A2, q60_c2, q60_n0, q60_n2, _, q60_S, q60_0, q60_2⟩ := openP_runRuns (x0 := (s3_0, ((uOpen w_1_0).1))) (x1 := false) (x2 := w_1_2) w58_0
              dsimp only at q60_0
              have q60_r2 := q60_2.rm
              refine VO.inv _ (fun _ h => h.parts (i := 148) rfl q60_S [163, 161, 162]) ?_
              refine VO.clsP 164 [150, 161, 149] rfl (fun hg64 => (mkP_runRuns (s3_0, ((uOpen w_1_0).1)) w_1_1 w_1_2 hg64 q60_0 q47_2)) (fun mc64 ho64 => ?_)
              refine VO.clsP 165 [146, 143, 164, 145] rfl (fun hg65 => (mkP_storeStore (w_0g, w_0) (s6_0, ((s3_0, ((uOpen w_1_0).1)), w_1_1, w_1_2)) w_2 hg65 q42_0 ho64 q42_2)) (fun mc65 ho65 => ?_)
              refine VO.gcall 165 rfl ⟨_, rfl, rfl⟩ fnOk12 rfl rfl (fun W hW => sRest_ok W (hW.at (i := 165) rfl) ho65) (fun v59 m59 hv59 => ?_)
              try dsimp only at hv59
              obtain ⟨rfl, w59_0⟩ := hv59
              refine VO.gy rfl ⟨_, rfl, rfl⟩ (.sub rfl rfl rfl ⟨bd, bd⟩) ?_
              refine VO.gy rfl ⟨_, rfl, rfl⟩ (.neq rfl rfl) ?_
              refine VO.y rfl (.pF rfl rfl) ?_
              refine VO.kp [165, 163, 162, 110, 0] [(165, m59), (163, mone s52_0 (.cells [Value.pointer (some ⟨s3_0, 0, none⟩), Value.bool false, Value.slice q60_A2 (w_1_2.length) (q60_c2)].toArray q60_E (0, 0))), (162, q60_n2), (110, log_m), (0, wm W)] ?_
              refine VO.k15 0 1 5 6 7 8 9 10 11 13 16 19 40 44 110 ?_
              refine VC.cond rfl (fun hc66 => ?_) (fun hc66 => ?_)
              · -- FTFFTFT
                first | exact absurd rfl hc66 | exact absurd hc66 (by omega) | exact hc66 hko.1 | exact absurd hko.1 hc66 | (rw [← hF.r] at hc66; exact absurd hFs hc66) | (refine absurd ?_ hc66; rw [← hF.r]; exact hFs) | (exfalso; omega)
              · -- FTFFTFF
                refine VC.skip ?_
                refine outN ?_
                refine VC.rs ?_
                refine VO.mv ?_
                refine VO.mv ?_
                refine VO.mv ?_
                obtain ⟨q68_E, q68_A2, q68_c2, q68_n0, q68_n1, q68_n2, _, q68_S, q68_0, q68_1, q68_2⟩ := openP_storeStore (x0 := (w_0g, w_0)) (x1 := (s6_0, ((s3_0, ((uOpen w_1_0).1)), w_1_1, w_1_2))) (x2 := w_2) w59_0
                dsimp only at q68_0
                dsimp only at q68_1
                have q68_r2 := q68_2.rm
                refine VO.inv _ (fun _ h => h.parts (i := 165) rfl q68_S [172, 169, 170, 171]) ?_
                obtain ⟨q73_E, q73_A2, q73_c2, q73_n0, q73_n2, _, q73_S, q73_0, q73_2⟩ := openP_runRuns (x0 := (s3_0, ((uOpen w_1_0).1))) (x1 := w_1_1) (x2 := w_1_2) q68_1
                dsimp only at q73_0
                have q73_r2 := q73_2.rm
                refine VO.inv _ (fun _ h => h.parts (i := 170) rfl q73_S [176, 174, 175]) ?_
                refine VO.clsP 177 [163, 174, 162] rfl (fun hg77 => (mkP_runRuns (s3_0, ((uOpen w_1_0).1)) false w_1_2 hg77 q73_0 q60_2)) (fun mc77 ho77 => ?_)
                refine VO.call 177 rfl fnOk21 rfl rfl (fun W hW => uEnd_ok W (hW.at (i := 177) rfl) ho77 (by assumption)) (fun v67 m67 hv67 => ?_)
                try dsimp only at hv67
                obtain ⟨rfl, w67_0⟩ := hv67
                obtain ⟨A78, hA78, ho78⟩ := h_log.drop' 3 ((endR w_1_2).toNat) rfl bd
                refine VO.y rfl (.slLI ((endR w_1_2).toNat) A78 rfl rfl tsl27 bd hA78 bd) ?_
                by_cases hsp79 : (cFollows 1 (endR w_1_2) (log.drop ((endR w_1_2).toNat))).1 = 0
                · -- FTFFTFFT
                  refine VO.call 177 rfl fnOk14 rfl rfl (fun W hW => sOpenY_ok W (hW.at (i := 177) rfl) w67_0 (OwnL.rd ho78 (hW.out (i := 177) (j := 110) rfl rfl) (hW.out (i := 177) (j := 0) rfl rfl)) (by first | assumption | exact okU_nil) (by assumption) bd) (fun v80 m80 hv80 => ?_)
                  try dsimp only at hv80
                  obtain ⟨s80_0, gt2_80, rfl, f80_0⟩ := hv80
                  refine VO.mv ?_
                  refine VO.y rfl (.ext rfl rfl) ?_
                  refine VO.y rfl (.ext rfl rfl) ?_
                  refine VO.as ?_
                  refine VO.as ?_
                  refine VO.k16 0 1 5 6 7 8 9 10 11 13 14 16 19 40 44 110 ?_
                  refine VC.rs ?_
                  refine VO.mv ?_
                  refine VO.y rfl (.eql rfl rfl) ?_
                  refine VO.mv ?_
                  refine VO.dec (t := 122) rfl (fun hc81 => ?_) (fun hc81 => ?_)
                  · -- FTFFTFFTT
                    refine VO.gy rfl ⟨_, rfl, rfl⟩ (.mv rfl) ?_
                    refine VO.gy rfl ⟨_, rfl, rfl⟩ (.pnilN rfl rfl Tryz.underlying23 rfl) ?_
                    refine VO.y rfl (.pT rfl rfl) ?_
                    refine VO.mv ?_
                    refine VO.gy rfl ⟨_, rfl, rfl⟩ (.mv rfl) ?_
                    refine VO.gcall 177 rfl ⟨_, rfl, rfl⟩ fnOk16 rfl rfl (fun W hW => sEnd_ok W (hW.at (i := 177) rfl) f80_0 (by assumption) bd) (fun v82 m82 hv82 => ?_)
                    try dsimp only at hv82
                    obtain ⟨rfl, w82_0⟩ := hv82
                    refine VO.gy rfl ⟨_, rfl, rfl⟩ (.mv rfl) ?_
                    obtain ⟨q84_E, q84_A2, q84_c2, q84_n0, q84_n1, q84_n2, _, q84_S, q84_0, q84_1, q84_2⟩ := openP_storeStore (x0 := (gt2_80, (sT (log.drop ((endR w_1_2).toNat))))) (x1 := (s52_0, ((s3_0, ((uOpen w_1_0).1)), false, w_1_2))) (x2 := (log.drop ((endR w_1_2).toNat))) w82_0
                    dsimp only at q84_0
                    dsimp only at q84_1
                    have q84_r2 := q84_2.rm
                    refine VO.inv _ (fun _ h => h.parts (i := 177) rfl q84_S [188, 185, 186, 187]) ?_
                    obtain ⟨q89_E, q89_A2, q89_c2, q89_n0, q89_n2, _, q89_S, q89_0, q89_2⟩ := openP_runRuns (x0 := (s3_0, ((uOpen w_1_0).1))) (x1 := false) (x2 := w_1_2) q84_1
                    dsimp only at q89_0
                    have q89_r2 := q89_2.rm
                    refine VO.inv _ (fun _ h => h.parts (i := 186) rfl q89_S [192, 190, 191]) ?_
                    refine VO.clsP 193 [176, 190, 175] rfl (fun hg93 => (mkP_runRuns (s3_0, ((uOpen w_1_0).1)) w_1_1 w_1_2 hg93 q89_0 q73_2)) (fun mc93 ho93 => ?_)
                    refine VO.clsP 194 [172, 169, 193, 171] rfl (fun hg94 => (mkP_storeStore (w_0g, w_0) (s6_0, ((s3_0, ((uOpen w_1_0).1)), w_1_1, w_1_2)) w_2 hg94 q68_0 ho93 q68_2)) (fun mc94 ho94 => ?_)
                    refine VO.gcall 194 rfl ⟨_, rfl, rfl⟩ fnOk16 rfl rfl (fun W hW => sEnd_ok W (hW.at (i := 194) rfl) ho94 (by assumption) bd) (fun v83 m83 hv83 => ?_)
                    try dsimp only at hv83
                    obtain ⟨rfl, w83_0⟩ := hv83
                    refine VO.gy rfl ⟨_, rfl, rfl⟩ (.eql rfl rfl) ?_
                    refine VO.y rfl (.pT rfl rfl) ?_
                    refine VO.mv ?_
                    refine VO.dec (t := 133) rfl (fun hc95 => ?_) (fun hc95 => ?_)
                    · -- FTFFTFFTTT
                      refine VO.gy rfl ⟨_, rfl, rfl⟩ (.mv rfl) ?_
                      obtain ⟨q97_E, q97_A2, q97_c2, q97_n0, q97_n1, q97_n2, _, q97_S, q97_0, q97_1, q97_2⟩ := openP_storeStore (x0 := (w_0g, w_0)) (x1 := (s6_0, ((s3_0, ((uOpen w_1_0).1)), w_1_1, w_1_2))) (x2 := w_2) w83_0
                      dsimp only at q97_0
                      dsimp only at q97_1
                      have q97_r2 := q97_2.rm
                      refine VO.inv _ (fun _ h => h.parts (i := 194) rfl q97_S [201, 198, 199, 200]) ?_
                      obtain ⟨q102_E, q102_A2, q102_c2, q102_n0, q102_n2, _, q102_S, q102_0, q102_2⟩ := openP_runRuns (x0 := (s3_0, ((uOpen w_1_0).1))) (x1 := w_1_1) (x2 := w_1_2) q97_1
                      dsimp only at q102_0
                      have q102_r2 := q102_2.rm
                      refine VO.inv _ (fun _ h => h.parts (i := 199) rfl q102_S [205, 203, 204]) ?_
                      refine VO.clsP 206 [192, 203, 191] rfl (fun hg106 => (mkP_runRuns (s3_0, ((uOpen w_1_0).1)) false w_1_2 hg106 q102_0 q89_2)) (fun mc106 ho106 => ?_)
                      refine VO.clsP 207 [188, 185, 206, 187] rfl (fun hg107 => (mkP_storeStore (gt2_80, (sT (log.drop ((endR w_1_2).toNat)))) (s52_0, ((s3_0, ((uOpen w_1_0).1)), false, w_1_2)) (log.drop ((endR w_1_2).toNat)) hg107 q84_0 ho106 q84_2)) (fun mc107 ho107 => ?_)
                      refine VO.gcall 207 rfl ⟨_, rfl, rfl⟩ fnOk12 rfl rfl (fun W hW => sRest_ok W (hW.at (i := 207) rfl) ho107) (fun v96 m96 hv96 => ?_)
                      try dsimp only at hv96
                      obtain ⟨rfl, w96_0⟩ := hv96
                      refine VO.gy rfl ⟨_, rfl, rfl⟩ (.mv rfl) ?_
                      obtain ⟨q109_E, q109_A2, q109_c2, q109_n0, q109_n1, q109_n2, _, q109_S, q109_0, q109_1, q109_2⟩ := openP_storeStore (x0 := (gt2_80, (sT (log.drop ((endR w_1_2).toNat))))) (x1 := (s52_0, ((s3_0, ((uOpen w_1_0).1)), false, w_1_2))) (x2 := (log.drop ((endR w_1_2).toNat))) w96_0
                      dsimp only at q109_0
                      dsimp only at q109_1
                      have q109_r2 := q109_2.rm
                      refine VO.inv _ (fun _ h => h.parts (i := 207) rfl q109_S [213, 210, 211, 212]) ?_
                      obtain ⟨q114_E, q114_A2, q114_c2, q114_n0, q114_n2, _, q114_S, q114_0, q114_2⟩ := openP_runRuns (x0 := (s3_0, ((uOpen w_1_0).1))) (x1 := false) (x2 := w_1_2) q109_1
                      dsimp only at q114_0
                      have q114_r2 := q114_2.rm
                      refine VO.inv _ (fun _ h => h.parts (i := 211) rfl q114_S [217, 215, 216]) ?_
                      refine VO.clsP 218 [205, 215, 204] rfl (fun hg118 => (mkP_runRuns (s3_0, ((uOpen w_1_0).1)) w_1_1 w_1_2 hg118 q114_0 q102_2)) (fun mc118 ho118 => ?_)
                      refine VO.clsP 219 [201, 198, 218, 200] rfl (fun hg119 => (mkP_storeStore (w_0g, w_0) (s6_0, ((s3_0, ((uOpen w_1_0).1)), w_1_1, w_1_2)) w_2 hg119 q97_0 ho118 q97_2)) (fun mc119 ho119 => ?_)
                      refine VO.gcall 219 rfl ⟨_, rfl, rfl⟩ fnOk12 rfl rfl (fun W hW => sRest_ok W (hW.at (i := 219) rfl) ho119) (fun v108 m108 hv108 => ?_)
                      try dsimp only at hv108
                      obtain ⟨rfl, w108_0⟩ := hv108
                      refine VO.gy rfl ⟨_, rfl, rfl⟩ (.eql rfl rfl) ?_
                      refine VO.y rfl (.pT rfl rfl) ?_
                      refine VO.mv ?_
                      refine VO.dec (t := 140) rfl (fun hc120 => ?_) (fun hc120 => ?_)
                      · -- FTFFTFFTTTT
                        refine VO.gy rfl ⟨_, rfl, rfl⟩ (.mv rfl) ?_
                        obtain ⟨q122_E, q122_A2, q122_c2, q122_n0, q122_n1, q122_n2, _, q122_S, q122_0, q122_1, q122_2⟩ := openP_storeStore (x0 := (w_0g, w_0)) (x1 := (s6_0, ((s3_0, ((uOpen w_1_0).1)), w_1_1, w_1_2))) (x2 := w_2) w108_0
                        dsimp only at q122_0
                        dsimp only at q122_1
                        have q122_r2 := q122_2.rm
                        refine VO.inv _ (fun _ h => h.parts (i := 219) rfl q122_S [226, 223, 224, 225]) ?_
                        obtain ⟨q127_E, q127_A2, q127_c2, q127_n0, q127_n2, _, q127_S, q127_0, q127_2⟩ := openP_runRuns (x0 := (s3_0, ((uOpen w_1_0).1))) (x1 := w_1_1) (x2 := w_1_2) q122_1
                        dsimp only at q127_0
                        have q127_r2 := q127_2.rm
                        refine VO.inv _ (fun _ h => h.parts (i := 224) rfl q127_S [230, 228, 229]) ?_
                        refine VO.clsP 231 [217, 228, 216] rfl (fun hg131 => (mkP_runRuns (s3_0, ((uOpen w_1_0).1)) false w_1_2 hg131 q127_0 q114_2)) (fun mc131 ho131 => ?_)
                        refine VO.clsP 232 [213, 210, 231, 212] rfl (fun hg132 => (mkP_storeStore (gt2_80, (sT (log.drop ((endR w_1_2).toNat)))) (s52_0, ((s3_0, ((uOpen w_1_0).1)), false, w_1_2)) (log.drop ((endR w_1_2).toNat)) hg132 q109_0 ho131 q109_2)) (fun mc132 ho132 => ?_)
                        refine VO.gcall 232 rfl ⟨_, rfl, rfl⟩ fnOk17 rfl rfl (fun W hW => all14_ok W (hW.at (i := 232) rfl) ho132 1000 bdk (by first | assumption | rfl) (by assumption) (by assumption) bd bd) (fun v121 m121 hv121 => ?_)
                        try dsimp only at hv121
                        obtain ⟨s121_0, p121_0, p121_1, rfl, hS121, f121_0, w121_0⟩ := hv121
                        refine VO.inv _ (fun _ h => h.parts (i := 232) rfl hS121 [233, 234]) ?_
                        have hfa135 := allT_len ((sList w_1_2 (log.drop ((endR w_1_2).toNat))).filter (·.1)) 1000
                        have hfa136 := sList_len (l := w_1_2) (r := (log.drop ((endR w_1_2).toNat)))
                        obtain ⟨A121_0, c121_0, eq121_0, l121_0, k121_0⟩ := f121_0.slice
                        subst eq121_0
                        simp only [maxLen] at k121_0
                        refine VO.gy rfl ⟨_, rfl, rfl⟩ (.mv rfl) ?_
                        obtain ⟨q138_E, q138_A2, q138_c2, q138_n0, q138_n1, q138_n2, _, q138_S, q138_0, q138_1, q138_2⟩ := openP_storeStore (x0 := (gt2_80, (sT (log.drop ((endR w_1_2).toNat))))) (x1 := (s52_0, ((s3_0, ((uOpen w_1_0).1)), false, w_1_2))) (x2 := (log.drop ((endR w_1_2).toNat))) w121_0
                        dsimp only at q138_0
                        dsimp only at q138_1
                        have q138_r2 := q138_2.rm
                        refine VO.inv _ (fun _ h => h.parts (i := 234) rfl q138_S [242, 239, 240, 241]) ?_
                        obtain ⟨q143_E, q143_A2, q143_c2, q143_n0, q143_n2, _, q143_S, q143_0, q143_2⟩ := openP_runRuns (x0 := (s3_0, ((uOpen w_1_0).1))) (x1 := false) (x2 := w_1_2) q138_1
                        dsimp only at q143_0
                        have q143_r2 := q143_2.rm
                        refine VO.inv _ (fun _ h => h.parts (i := 240) rfl q143_S [246, 244, 245]) ?_
                        refine VO.clsP 247 [230, 244, 229] rfl (fun hg147 => (mkP_runRuns (s3_0, ((uOpen w_1_0).1)) w_1_1 w_1_2 hg147 q143_0 q127_2)) (fun mc147 ho147 => ?_)
                        refine VO.clsP 248 [226, 223, 247, 225] rfl (fun hg148 => (mkP_storeStore (w_0g, w_0) (s6_0, ((s3_0, ((uOpen w_1_0).1)), w_1_1, w_1_2)) w_2 hg148 q122_0 ho147 q122_2)) (fun mc148 ho148 => ?_)
                        refine VO.gcall 248 rfl ⟨_, rfl, rfl⟩ fnOk17 rfl rfl (fun W hW => all14_ok W (hW.at (i := 248) rfl) ho148 1000 bdk (by first | assumption | rfl) (by assumption) (by assumption) bd bd) (fun v137 m137 hv137 => ?_)
                        try dsimp only at hv137
                        obtain ⟨s137_0, p137_0, p137_1, rfl, hS137, f137_0, w137_0⟩ := hv137
                        refine VO.inv _ (fun _ h => h.parts (i := 248) rfl hS137 [249, 250]) ?_
                        have hfa151 := allT_len ((sList w_1_2 w_2).filter (·.1)) 1000
                        have hfa152 := sList_len (l := w_1_2) (r := w_2)
                        obtain ⟨A137_0, c137_0, eq137_0, l137_0, k137_0⟩ := f137_0.slice
                        subst eq137_0
                        simp only [maxLen] at k137_0
                        refine VO.gcallN 253 rfl ⟨_, rfl, rfl⟩ fnOk22 rfl (fun W hW => SameOps_ok W (OwnL.rd (Ow.ownl f121_0 rfl mnil) (hW.at (i := 233) rfl) (mle_nil _)) (OwnL.rd (Ow.ownl f137_0 rfl mnil) (hW.at (i := 249) rfl) (mle_nil _))) (fun v153 m153 hv153 => ?_)
                        subst hv153
                        refine VO.y rfl (.pT rfl rfl) ?_
                        refine VO.as ?_
                        refine VO.k17 0 1 4 5 6 7 8 9 10 11 13 14 16 19 40 44 110 ?_
                        refine VC.ret ?_
                        refine ⟨_, _, res_run (rs := [.tmp 4]) rfl (.tmp rfl .nil), fun W_ hI => out_of (l := []) hI [] rfl rfl (mle_refl _) (fun hS_ => ?_)⟩
                        dsimp only [packV]
                        all_goals (first | rfl | (first | rfl | exact congrArg Value.bool (decide_eq_true (by rw [← hF.r]))))
                      · -- FTFFTFFTTTF
                        first | exact absurd rfl hc120 | exact absurd hc120 (by omega) | exact hc120 hko.1 | exact absurd hko.1 hc120 | (rw [← hF.r] at hc120; exact absurd hFs hc120) | (refine absurd ?_ hc120; rw [← hF.r]; exact hFs) | (exfalso; omega)
                    · -- FTFFTFFTTF
                      first | exact absurd rfl hc95 | exact absurd hc95 (by omega) | exact hc95 hko.1 | exact absurd hko.1 hc95 | (rw [← hF.r] at hc95; exact absurd hFs hc95) | (refine absurd ?_ hc95; rw [← hF.r]; exact hFs) | (exfalso; omega)
                  · -- FTFFTFFTF
                    first | exact absurd rfl hc81 | exact absurd hc81 (by omega) | exact hc81 hko.1 | exact absurd hko.1 hc81 | (rw [← hF.r] at hc81; exact absurd hFs hc81) | (refine absurd ?_ hc81; rw [← hF.r]; exact hFs) | (exfalso; omega)
                · -- FTFFTFFF
                  first | exact absurd rfl hsp79 | exact absurd hsp79 (by omega) | exact hsp79 hko.1 | exact absurd hko.1 hsp79 | (rw [← hF.r] at hsp79; exact absurd hFs hsp79) | (refine absurd ?_ hsp79; rw [← hF.r]; exact hFs) | (exfalso; omega)
          · -- FTFFF
            first | exact absurd rfl hsp51 | exact absurd hsp51 (by omega) | exact hsp51 hko.1 | exact absurd hko.1 hsp51 | (rw [← hF.r] at hsp51; exact absurd hFs hsp51) | (refine absurd ?_ hsp51; rw [← hF.r]; exact hFs) | (exfalso; omega)
    · -- FF
      first | exact absurd rfl hsp7 | exact absurd hsp7 (by omega) | exact hsp7 hko.1 | exact absurd hko.1 hsp7 | (rw [← hF.r] at hsp7; exact absurd hFs hsp7) | (refine absurd ?_ hsp7; rw [← hF.r]; exact hFs) | (exfalso; omega)
section
open Go.ChangeShapes Go.WideShapes Go.ChangeAt Go.RowKit
theorem storeAgain_ok0 : tyOk Tryz.prog 60 (.sl (.sl TOp)) (.inl 49) = true := by kernel_rfl
theorem storeAgain_ok1 : tyOk Tryz.prog 60 (.sl (.int .i64)) (.inl 50) = true := by kernel_rfl
set_option maxRecDepth 100000 in
theorem storeAgain_lifted (os : Os) (started : os.Started) (H : Type) (enc : TypeId × Value → H) :
    ReturnsInHanded {} Tryz.checked os 5 .any (Rows.storeAgainSpec.pre6 enc Tryz.prog Tryz.f5 Rows.storeAgainRow.domain false) (Rows.storeAgainSpec.post enc Tryz.prog Tryz.f5 false true false false) := by
  refine returnsInHanded_of_change (C := Tryz.checked) (by kernel_rfl) started (by kernel_rfl) Tryz.func5
    (ChangeSpec.witness6 (enc := enc) (C := Tryz.checked) false ⟨#[], #[.slice none 0 0, .slice none 0 0], []⟩ 8 (by kernel_rfl) (by kernel_rfl) (by kernel_rfl) (by kernel_rfl)) ?_
  intro W base args ds gs before hval0 hW hcnd _
  have hval : ∀ (j : Nat) t v, Tryz.f5.params[j]? = some t → args[j]? = some v → Value.okWide Tryz.prog W .any base t v := hval0
  have hW' := hW
  obtain ⟨p, q, hA0, hV, rfl, hfz, hnd⟩ := hW
  have hA : DataW.TrodAll enc Tryz.prog W 0 (fun _ => true) true Tryz.f5.params.toList args.toList ds p := hA0
  rw [Tryz.params5] at hA hval
  clear hA0 hval0
  obtain ⟨args⟩ := args
  obtain ⟨v0, r0, d0, e0, p0, q0, ha0, rfl, rfl, h0, hA0⟩ := trodAll_cons hA
  simp only at ha0; subst ha0
  obtain ⟨v1, r1, d1, e1, p1, q1, ha1, rfl, rfl, h1, hA1⟩ := trodAll_cons hA0
  subst ha1
  obtain ⟨rfl, rfl, rfl⟩ := trodAll_nil hA1
  obtain ⟨x0, hx0⟩ := arg_sl 60 storeAgain_ok0 Tryz.underlying49 (hval 0 49 v0 rfl rfl) h0
  obtain ⟨x1, hx1⟩ := arg_sl 60 storeAgain_ok1 Tryz.underlying50 (hval 1 50 v1 rfl rfl) h1
  refine (calls_of (storeAgain_ok W hx0 hx1)).mono fun e W' ⟨he, hg⟩ => ?_
  subst he
  exact ⟨_, rfl, law_post hW' hg laidOut_ok (by kernel_rfl) rfl Tryz.underlying4 rfl rfl rfl rfl⟩
theorem storeAgain_joined : joinedFacts Tryz.prog 5 Tryz.f5 Rows.storeAgainSpec Rows.storeAgainRow = true := by
  unfold joinedFacts
  rw [laidOut_ok, mapsRowed_ok, stopsHeard_ok, mayEnter_ok, lifts_ok, make_ok]
  kernel_rfl
theorem storeAgain_proved : Rows.StoreAgainSaid :=
  OpenClaim.holds_of_wide 5 Tryz.f5 rfl rfl rfl rfl rfl rfl rfl ⟨rfl, rfl, rfl, rfl, rfl⟩ rfl rfl rfl rfl rfl (by kernel_rfl) Tryz.func5 storeAgain_joined
    (of_decide_eq_true (by kernel_rfl)) (by unfold Func.isWrapper; first | (rw [if_pos (by decide +kernel)]; kernel_rfl) | (rw [if_neg (by decide +kernel)]; exact ⟨rfl, rfl⟩))
    (fun os started H enc _ => storeAgain_lifted os started H enc)
#print axioms storeAgain_proved
end
end Go.Proofs.YtonbpfncmlijnaaGreat
