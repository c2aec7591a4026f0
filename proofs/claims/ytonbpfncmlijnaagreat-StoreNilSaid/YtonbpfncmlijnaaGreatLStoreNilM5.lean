/- Part 5 of the proof of LStoreNil: what it needs of the library, the walks and the plain laws. Conditions: those named in each theorem. -/
import Derived.Test.YtonbpfncmlijnaaGreatLStoreNilM4
set_option linter.unusedVariables false
set_option linter.unusedSimpArgs false
set_option maxRecDepth 4000
namespace Go.Proofs.YtonbpfncmlijnaaGreat
theorem fnOk10 : fnOk Tryz.prog 10 = true := by kernel_rfl
theorem fnOk11 : fnOk Tryz.prog 11 = true := by kernel_rfl
theorem fnOk12 : fnOk Tryz.prog 12 = true := by kernel_rfl
theorem fnOk13 : fnOk Tryz.prog 13 = true := by kernel_rfl
theorem fnOk17 : fnOk Tryz.prog 17 = true := by kernel_rfl
theorem fnOk8 : fnOk Tryz.prog 8 = true := by kernel_rfl
theorem fnOk9 : fnOk Tryz.prog 9 = true := by kernel_rfl
set_option maxHeartbeats 4000000 in
theorem lives14_ok (W : World) : CallR Tryz.prog 8 [] W (mnil) (fun v m' => v = .bool true) := by
  refine CallR.ofA (n := 54) Tryz.func8 rfl rfl rfl ?_
  refine VC.rs ?_
  refine VO.as ?_
  refine VO.k1 0 ?_
  refine VC.rs ?_
  refine VO.callN 101 rfl fnOk10 rfl (fun W hW => example14_ok W ) (fun v1 m1 hv1 => ?_)
  obtain ⟨s1_0, rfl, f1_0⟩ := hv1
  obtain ⟨A1_0, c1_0, eq1_0, l1_0, k1_0⟩ := f1_0.slice
  subst eq1_0
  simp only [maxLen] at k1_0
  by_cases hsp2 : (cFollows 1 0 exSt).1 = 0
  · -- T
    refine VO.callN 103 rfl fnOk9 rfl (fun W hW => madeY_ok W (Ow.rd f1_0 (hW.at (i := 101) rfl)) (by first | (simp only [smF1, smF0, smF3, smF2, smF4, smL, smG1, smG2, smG3]; first | decide) | decide | assumption) (by first | (simp only [smF1, smF0, smF3, smF2, smF4, smL, smG1, smG2, smG3]; first | decide) | decide | assumption)) (fun v3 m3 hv3 => ?_)
    obtain ⟨s3_0, gt2_3, gu2_3, gd2_3, rfl, f3_0⟩ := hv3
    refine VO.mv ?_
    refine VO.y rfl (.ext rfl rfl) ?_
    refine VO.y rfl (.ext rfl rfl) ?_
    refine VO.as ?_
    refine VO.as ?_
    refine VO.k3 0 1 2 ?_
    refine VC.seq ?_
    refine VC.rs ?_
    refine VO.mv ?_
    refine VO.y rfl (.neq rfl rfl) ?_
    refine VO.mv ?_
    refine VO.dec (t := 14) rfl (fun hc4 => ?_) (fun hc4 => ?_)
    · -- TT
      first | exact absurd rfl hc4 | exact absurd (by first | rfl | decide | (simp only [smF1, smF0, smF3, smF2, smF4, smL, smG1, smG2, smG3]; first | done | rfl | decide | omega)) hc4 | exact absurd hc4 (by first | decide | (simp only [smF1, smF0, smF3, smF2, smF4, smL, smG1, smG2, smG3]; first | done | rfl | decide | omega)) | (simp only [smF1, smF0, smF3, smF2, smF4, smL, smG1, smG2, smG3] at hc4; first | done | exact absurd hc4 (by decide) | exact absurd rfl hc4)
    · -- TF
      refine VO.gy rfl ⟨_, rfl, rfl⟩ (.mv rfl) ?_
      refine VO.gy rfl ⟨_, rfl, rfl⟩ (.pnil rfl rfl Tryz.underlying23 rfl) ?_
      refine VO.y rfl (.pF rfl rfl) ?_
      refine VO.kp [103, 0] [(103, m3), (0, wm W)] ?_
      refine VO.k4 0 1 2 17 ?_
      refine VC.condF rfl ?_
      refine VC.skip ?_
      refine outN ?_
      refine VC.rs ?_
      refine VO.mv ?_
      refine VO.call 103 rfl fnOk13 rfl rfl (fun W hW => sGet_ok W (hW.at (i := 103) rfl) f3_0 ([97]) bdm (by first | rfl | assumption) (by first | (simp only [smF1, smF0, smF3, smF2, smF4, smL, smG1, smG2, smG3]; first | exact smOU1 | exact smOU2) | exact okU_nil | assumption)) (fun v5 m5 hv5 => ?_)
      try dsimp only at hv5
      obtain ⟨rfl, w5_0⟩ := hv5
      refine VO.mv ?_
      refine VO.y rfl (.ext rfl rfl) ?_
      refine VO.y rfl (.ext rfl rfl) ?_
      refine VO.as ?_
      refine VO.as ?_
      refine VO.k5 0 1 2 4 17 ?_
      refine VC.rs ?_
      refine VO.mv ?_
      refine VO.call 103 rfl fnOk13 rfl rfl (fun W hW => sGet_ok W (hW.at (i := 103) rfl) w5_0 ([98]) bdm (by first | rfl | assumption) (by first | (simp only [smF1, smF0, smF3, smF2, smF4, smL, smG1, smG2, smG3]; first | exact smOU1 | exact smOU2) | exact okU_nil | assumption)) (fun v6 m6 hv6 => ?_)
      try dsimp only at hv6
      obtain ⟨rfl, w6_0⟩ := hv6
      refine VO.mv ?_
      refine VO.y rfl (.ext rfl rfl) ?_
      refine VO.y rfl (.ext rfl rfl) ?_
      refine VO.as ?_
      refine VO.as ?_
      refine VO.k7 0 1 2 4 5 6 17 ?_
      refine VC.rs ?_
      refine VO.mv ?_
      refine VO.y rfl (.not rfl) ?_
      refine VO.mv ?_
      refine VO.decBN (t := 30) rfl (fun hc7 => ?_) (fun hc7 => ?_)
      · -- TFT
        refine VO.gy rfl ⟨_, rfl, rfl⟩ (.mv rfl) ?_
        refine VO.gy rfl ⟨_, rfl, rfl⟩ (.seql rfl rfl) ?_
        refine VO.y rfl (.pT rfl rfl) ?_
        refine VO.mv ?_
        refine VO.dec (t := 34) rfl (fun hc8 => ?_) (fun hc8 => ?_)
        · -- TFTT
          refine VO.gy rfl ⟨_, rfl, rfl⟩ (.mv rfl) ?_
          refine VO.y rfl (.pT rfl rfl) ?_
          refine VO.mv ?_
          refine VO.decB (t := 37) rfl (fun hc9 => ?_) (fun hc9 => ?_)
          · -- TFTTT
            refine VO.gy rfl ⟨_, rfl, rfl⟩ (.mv rfl) ?_
            refine VO.gcall 103 rfl ⟨_, rfl, rfl⟩ fnOk16 rfl rfl (fun W hW => sEnd_ok W (hW.at (i := 103) rfl) w6_0 (by first | (simp only [smF1, smF0, smF3, smF2, smF4, smL, smG1, smG2, smG3]; first | exact smOU1 | exact smOU2) | exact okU_nil | assumption) (by first | (simp only [smF1, smF0, smF3, smF2, smF4, smL, smG1, smG2, smG3]; first | decide) | decide | assumption)) (fun v10 m10 hv10 => ?_)
            try dsimp only at hv10
            obtain ⟨rfl, w10_0⟩ := hv10
            refine VO.gy rfl ⟨_, rfl, rfl⟩ (.eql rfl rfl) ?_
            refine VO.y rfl (.pT rfl rfl) ?_
            refine VO.mv ?_
            refine VO.dec (t := 42) rfl (fun hc11 => ?_) (fun hc11 => ?_)
            · -- TFTTTT
              refine VO.gy rfl ⟨_, rfl, rfl⟩ (.mv rfl) ?_
              refine VO.gcall 103 rfl ⟨_, rfl, rfl⟩ fnOk12 rfl rfl (fun W hW => sRest_ok W (hW.at (i := 103) rfl) w10_0) (fun v12 m12 hv12 => ?_)
              try dsimp only at hv12
              obtain ⟨rfl, w12_0⟩ := hv12
              refine VO.gy rfl ⟨_, rfl, rfl⟩ (.eql rfl rfl) ?_
              refine VO.y rfl (.pT rfl rfl) ?_
              refine VO.mv ?_
              refine VO.dec (t := 47) rfl (fun hc13 => ?_) (fun hc13 => ?_)
              · -- TFTTTTT
                refine VO.gy rfl ⟨_, rfl, rfl⟩ (.mv rfl) ?_
                refine VO.gcall 103 rfl ⟨_, rfl, rfl⟩ fnOk17 rfl rfl (fun W hW => all14_ok W (hW.at (i := 103) rfl) w12_0 9 bdk (by first | rfl | assumption) (by first | (simp only [smF1, smF0, smF3, smF2, smF4, smL, smG1, smG2, smG3]; first | exact smOU1 | exact smOU2) | exact okU_nil | assumption) (by first | (simp only [smF1, smF0, smF3, smF2, smF4, smL, smG1, smG2, smG3]; first | decide) | decide | assumption) (by first | (simp only [smF1, smF0, smF3, smF2, smF4, smL, smG1, smG2, smG3]; first | decide) | decide | assumption) (by first | (simp only [smF1, smF0, smF3, smF2, smF4, smL, smG1, smG2, smG3]; first | decide) | decide | assumption)) (fun v14 m14 hv14 => ?_)
                try dsimp only at hv14
                obtain ⟨s14_0, p14_0, p14_1, rfl, hS14, f14_0, w14_0⟩ := hv14
                refine VO.inv _ (fun _ h => h.parts (i := 103) rfl hS14 [115, 116]) ?_
                have hfa17 := allT_len ((sList ([] : List DRun) exSt).filter (·.1)) 9
                have hfa18 := sList_len (l := ([] : List DRun)) (r := exSt)
                obtain ⟨A14_0, c14_0, eq14_0, l14_0, k14_0⟩ := f14_0.slice
                subst eq14_0
                simp only [maxLen] at k14_0
                refine VO.gy rfl ⟨_, rfl, rfl⟩ (.bst (cs := [Value.bool true, str ([98]), str ([50])]) rfl tst64 tz64 rfl) ?_
                refine VO.gbsl (cs := [Value.bool true, str ([98]), str ([50])]) 120 rfl ⟨_, rfl, rfl⟩ rfl tsl34 tz64 rfl rfl (fun g19 => ?_)
                have ho22 : OwnL TOp (mone g19 (.cells [Value.bool true, str ([98]), str ([50])].toArray 64 (0, 0))) mnil (Value.slice (some ⟨g19, 0, none⟩) (1) (1)) [(true, [98], [50])] := OwnL.lit 1 (All2c.cons (c1 := [Value.bool true, str ([98]), str ([50])]) (mk_Op (m := _) true ([98]) ([50]) bdm bdm) All2c.nil) rfl rfl
                refine VO.gcallN 121 rfl ⟨_, rfl, rfl⟩ fnOk22 rfl (fun W hW => SameOps_ok W (OwnL.rd (Ow.ownl f14_0 rfl mnil) (hW.at (i := 115) rfl) (mle_nil _)) (OwnL.rd ho22 (hW.at (i := 120) rfl) (mle_nil _))) (fun v21 m21 hv21 => ?_)
                subst hv21
                refine VO.y rfl (.pT rfl rfl) ?_
                refine VO.as ?_
                refine VO.kp [116, 0] [(116, p14_1), (0, wm W)] ?_
                refine VO.k7 0 1 2 4 5 6 17 ?_
                refine VC.ret ?_
                refine ⟨_, _, res_run (rs := [.tmp 0]) rfl (.tmp rfl .nil), fun W_ hI => out_of (l := []) hI [] rfl rfl (mle_refl _) (fun hS_ => ?_)⟩
                dsimp only [packV]
                all_goals (first | rfl | (first | exact congrArg Value.bool (decide_eq_true (by first | rfl | decide | (simp only [smF1, smF0, smF3, smF2, smF4, smL, smG1, smG2, smG3]; first | done | rfl | decide | omega))) | (show Value.bool _ = Value.bool true; simp only [smF1, smF0, smF3, smF2, smF4, smL, smG1, smG2, smG3]; done) | rfl))
              · -- TFTTTTF
                first | exact absurd rfl hc13 | exact absurd (by first | rfl | decide | (simp only [smF1, smF0, smF3, smF2, smF4, smL, smG1, smG2, smG3]; first | done | rfl | decide | omega)) hc13 | exact absurd hc13 (by first | decide | (simp only [smF1, smF0, smF3, smF2, smF4, smL, smG1, smG2, smG3]; first | done | rfl | decide | omega)) | (simp only [smF1, smF0, smF3, smF2, smF4, smL, smG1, smG2, smG3] at hc13; first | done | exact absurd hc13 (by decide) | exact absurd rfl hc13)
            · -- TFTTTF
              first | exact absurd rfl hc11 | exact absurd (by first | rfl | decide | (simp only [smF1, smF0, smF3, smF2, smF4, smL, smG1, smG2, smG3]; first | done | rfl | decide | omega)) hc11 | exact absurd hc11 (by first | decide | (simp only [smF1, smF0, smF3, smF2, smF4, smL, smG1, smG2, smG3]; first | done | rfl | decide | omega)) | (simp only [smF1, smF0, smF3, smF2, smF4, smL, smG1, smG2, smG3] at hc11; first | done | exact absurd hc11 (by decide) | exact absurd rfl hc11)
          · -- TFTTF
            first | exact absurd rfl hc9 | exact absurd (by first | rfl | decide | (simp only [smF1, smF0, smF3, smF2, smF4, smL, smG1, smG2, smG3]; first | done | rfl | decide | omega)) hc9 | exact absurd hc9 (by first | decide | (simp only [smF1, smF0, smF3, smF2, smF4, smL, smG1, smG2, smG3]; first | done | rfl | decide | omega)) | (simp only [smF1, smF0, smF3, smF2, smF4, smL, smG1, smG2, smG3] at hc9; first | done | exact absurd hc9 (by decide) | exact absurd rfl hc9)
        · -- TFTF
          first | exact absurd rfl hc8 | exact absurd (by first | rfl | decide | (simp only [smF1, smF0, smF3, smF2, smF4, smL, smG1, smG2, smG3]; first | done | rfl | decide | omega)) hc8 | exact absurd hc8 (by first | decide | (simp only [smF1, smF0, smF3, smF2, smF4, smL, smG1, smG2, smG3]; first | done | rfl | decide | omega)) | (simp only [smF1, smF0, smF3, smF2, smF4, smL, smG1, smG2, smG3] at hc8; first | done | exact absurd hc8 (by decide) | exact absurd rfl hc8)
      · -- TFF
        first | exact absurd rfl hc7 | exact absurd (by first | rfl | decide | (simp only [smF1, smF0, smF3, smF2, smF4, smL, smG1, smG2, smG3]; first | done | rfl | decide | omega)) hc7 | exact absurd hc7 (by first | decide | (simp only [smF1, smF0, smF3, smF2, smF4, smL, smG1, smG2, smG3]; first | done | rfl | decide | omega)) | (simp only [smF1, smF0, smF3, smF2, smF4, smL, smG1, smG2, smG3] at hc7; first | done | exact absurd hc7 (by decide) | exact absurd rfl hc7)
  · -- F
    first | exact absurd rfl hsp2 | exact absurd (by first | rfl | decide | (simp only [smF1, smF0, smF3, smF2, smF4, smL, smG1, smG2, smG3]; first | done | rfl | decide | omega)) hsp2 | exact absurd hsp2 (by first | decide | (simp only [smF1, smF0, smF3, smF2, smF4, smL, smG1, smG2, smG3]; first | done | rfl | decide | omega)) | (simp only [smF1, smF0, smF3, smF2, smF4, smL, smG1, smG2, smG3] at hsp2; first | done | exact absurd hsp2 (by decide) | exact absurd rfl hsp2)
theorem uNone0_ok_ (W : World) {l_ : List DRun} {br_ : Bool} {m0 : Mem} (hm : mle (m0) (wm W)) {g0 : Nat} (h0 : Ow (.ptr TrunRuns0) m0 [.pointer (some ⟨g0, 0, none⟩)] (g0, (none, br_, l_))) : CallR Tryz.prog 55 [.pointer (some ⟨g0, 0, none⟩)] W (m0) (fun v m' => v = .bool true ∧ Ow (.ptr TrunRuns0) m' [.pointer (some ⟨g0, 0, none⟩)] (g0, (none, br_, l_))) := by
  refine CallR.ofB (n := 12) hm Tryz.func55 rfl rfl rfl ?_
  refine VC.rs ?_
  refine VO.as ?_
  refine VO.k2 0 2 ?_
  refine VC.rs ?_
  refine VO.mv ?_
  refine VO.y rfl (.pnil rfl rfl Tryz.underlying38 rfl) ?_
  refine VO.mv ?_
  refine VO.gy rfl ⟨_, rfl, rfl⟩ (.mv rfl) ?_
  refine VO.gy rfl ⟨_, rfl, rfl⟩ (.nilp rfl) ?_
  refine VO.gy rfl ⟨_, rfl, rfl⟩ (.fa rfl tst47 rfl) ?_
  obtain ⟨q1_E, q1_A2, q1_c2, q1_n2, _, q1_S, q1_2⟩ := openP_runRuns0 (x0 := none) (x1 := br_) (x2 := l_) h0
  have q1_r2 := q1_2.rm
  refine VO.inv _ (fun _ h => h.parts (i := 1) rfl q1_S [103, 102]) ?_
  refine VO.gy rfl ⟨_, rfl, rfl⟩ (.ld1 103 rfl tk44 rfl (cellsAt_one rfl rfl)) ?_
  refine VO.gy rfl ⟨_, rfl, rfl⟩ (.pnil rfl rfl Tryz.underlying44 rfl) ?_
  refine VO.y rfl (.pF rfl rfl) ?_
  refine VO.as ?_
  refine VO.clsP 104 [103, 102] rfl (fun hg4 => (mkP_runRuns0 none br_ l_ hg4 q1_2)) (fun mc4 ho4 => ?_)
  refine VO.k2 0 2 ?_
  refine VC.ret ?_
  refine ⟨_, _, res_run (rs := [.tmp 2]) rfl (.tmp rfl .nil), fun W_ hI => out_of (l := [mc4]) hI [104] rfl rfl (mle_refl _) (fun hS_ => ?_)⟩
  dsimp only [packV]
  have hm0_ : ((none, br_, l_) : DrunRuns0) = (none, br_, l_) := by first | rfl | (simp [*]; done)
  refine ⟨?_, ?_⟩
  rotate_left
  · rw [hm0_]; exact (Ow.up ho4 (hS_.1 _ (.head _)))
  all_goals (first | rfl | (simp [*]; done))
abbrev TstoreStore0 : Ty := .pair .addr (.pair .addr (.sl TCommit))
abbrev DstoreStore0 := (Option Nat) × (Option Nat) × (List DCommit)
theorem openO_storeStore0 {m : Mem} {cs : List Value} {x0 : Option Nat} {x1 : Option Nat} {x2 : List DCommit} (h : Ow TstoreStore0 m cs (x0, x1, x2)) : ∃ (A2 : Option Addr), ∃ (c2 : Nat), ∃ (n2 : Mem), cs = [(.pointer (x0.map fun g => ⟨g, 0, none⟩) : Value), .pointer (x1.map fun g => ⟨g, 0, none⟩), .slice A2 x2.length c2] ∧ Seps m [n2] ∧ Ow (.sl TCommit) n2 [.slice A2 x2.length c2] x2 := by
  obtain ⟨p1, q1, ma1, mb1, rfl, dj1, la1, lb1, u1, w1⟩ := Ow.pair h
  obtain rfl := (show _ = _ from u1)
  obtain ⟨p3, q3, ma3, mb3, rfl, dj3, la3, lb3, u3, w3⟩ := Ow.pair w1
  obtain rfl := (show _ = _ from u3)
  have z5 := w3
  obtain ⟨A5, c5, rfl, _⟩ := Ow.slice1 w3
  exact ⟨A5, c5, _, rfl, (Seps.app dj1 la1 lb1 (Seps.nil _) (Seps.app dj3 la3 lb3 (Seps.nil _) (Seps.one (mle_refl _)))), z5⟩
theorem mkO_storeStore0 {m : Mem} {n2 : Mem} (x0 : Option Nat) (x1 : Option Nat) (x2 : List DCommit) (hS : Seps m [n2]) {v2 : Value} (h2 : Ow (.sl TCommit) n2 [v2] x2) : Ow TstoreStore0 m [.pointer (x0.map fun g => ⟨g, 0, none⟩), .pointer (x1.map fun g => ⟨g, 0, none⟩), v2] (x0, x1, x2) := by
  obtain ⟨e1, la1, lb1, Sa1, Sb1⟩ := Seps.cut (l := []) (r := [n2]) hS
  obtain ⟨e2, la2, lb2, Sa2, Sb2⟩ := Seps.cut (l := []) (r := [n2]) Sb1
  exact (Ow.mkPair (c1 := [_]) e1 la1 lb1 (show Ow .addr _ [_] _ from rfl) (Ow.mkPair (c1 := [_]) e2 la2 lb2 (show Ow .addr _ [_] _ from rfl) (h2.up (Sb2.1 _ (.head _)))))
theorem openP_storeStore0 {m : Mem} {cs : List Value} {g : Nat} {x0 : Option Nat} {x1 : Option Nat} {x2 : List DCommit} (h : Ow (.ptr TstoreStore0) m cs (g, (x0, x1, x2))) : ∃ (E : TypeId), ∃ (A2 : Option Addr), ∃ (c2 : Nat), ∃ (n2 : Mem), cs = [.pointer (some ⟨g, 0, none⟩)] ∧ Seps m [mone g (.cells [(.pointer (x0.map fun g => ⟨g, 0, none⟩) : Value), .pointer (x1.map fun g => ⟨g, 0, none⟩), .slice A2 x2.length c2].toArray E (0, 0)), n2] ∧ Ow (.sl TCommit) n2 [.slice A2 x2.length c2] x2 := by
  obtain ⟨rfl, rc, E, m1, hd, l0, l1, h1⟩ := Ow.opnP h
  obtain ⟨A2, c2, n2, rfl, hS, f2⟩ := openO_storeStore0 h1
  exact ⟨E, A2, c2, n2, rfl, Seps.app hd l0 l1 (Seps.one (mle_refl _)) hS, f2⟩
theorem mkP_storeStore0 {m : Mem} {g : Nat} {E : TypeId} {n2 : Mem}{v2 : Value} (x0 : Option Nat) (x1 : Option Nat) (x2 : List DCommit) (hS : Seps m [mone g (.cells [.pointer (x0.map fun g => ⟨g, 0, none⟩), .pointer (x1.map fun g => ⟨g, 0, none⟩), v2].toArray E (0, 0)), n2]) (h2 : Ow (.sl TCommit) n2 [v2] x2) : Ow (.ptr TstoreStore0) m [.pointer (some ⟨g, 0, none⟩)] (g, (x0, x1, x2)) :=
  Ow.clsP hS fun hS => mkO_storeStore0 x0 x1 x2 hS h2
theorem all1_ok (m : Mem) : IterOk Tryz.prog 94 [] m (lvE []) vsN 0 (lvD []) := by
  intro G M I X lp W g0 h0 hm hdj hy
  refine CallR.ofX (n := 2) Tryz.func94 rfl rfl rfl hm ?_
  refine VX.parts 1 [1, 2] rfl (Seps.two hdj (mle_un_left _ _) (mle_un_right hdj)) ?_
  refine VX.skip ?_
  exact ⟨_, _, res_run (rs := []) rfl .nil, fun W_ hI_ => out_of (l := [M g0]) hI_ [1] rfl rfl (mle_refl _) (fun hS_ => ⟨g0, mun_nil _, .inr ⟨0, h0, Int.le_refl _⟩⟩)⟩
theorem sNoneN_ok (W : World) : CallR Tryz.prog 40 [.pointer none] W (mnil) (fun v m' => v = .bool (decide (True))) := by
  refine CallR.ofA (n := 12) Tryz.func40 rfl rfl rfl ?_
  refine VC.rs ?_
  refine VO.as ?_
  refine VO.k2 0 2 ?_
  refine VC.rs ?_
  refine VO.mv ?_
  refine VO.y rfl (.pnil rfl rfl Tryz.underlying23 rfl) ?_
  refine VO.mv ?_
  refine VO.gN ?_
  refine VO.gN ?_
  refine VO.gN ?_
  refine VO.gN ?_
  refine VO.gN ?_
  refine VO.y rfl (.pT rfl rfl) ?_
  refine VO.as ?_
  refine VO.k2 0 2 ?_
  refine VC.ret ?_
  refine ⟨_, _, res_run (rs := [.tmp 2]) rfl (.tmp rfl .nil), fun W_ hI => out_of (l := []) hI [] rfl rfl (mle_refl _) (fun hS_ => ?_)⟩
  dsimp only [packV]
  all_goals (first | rfl | (simp [*]; done))
theorem sNone0_ok_ (W : World) {r_ : List DCommit} {m0 : Mem} (hm : mle (m0) (wm W)) {g0 : Nat} (h0 : Ow (.ptr TstoreStore0) m0 [.pointer (some ⟨g0, 0, none⟩)] (g0, (none, none, r_))) : CallR Tryz.prog 40 [.pointer (some ⟨g0, 0, none⟩)] W (m0) (fun v m' => v = .bool true ∧ Ow (.ptr TstoreStore0) m' [.pointer (some ⟨g0, 0, none⟩)] (g0, (none, none, r_))) := by
  refine CallR.ofB (n := 12) hm Tryz.func40 rfl rfl rfl ?_
  refine VC.rs ?_
  refine VO.as ?_
  refine VO.k2 0 2 ?_
  refine VC.rs ?_
  refine VO.mv ?_
  refine VO.y rfl (.pnil rfl rfl Tryz.underlying23 rfl) ?_
  refine VO.mv ?_
  refine VO.gy rfl ⟨_, rfl, rfl⟩ (.mv rfl) ?_
  refine VO.gy rfl ⟨_, rfl, rfl⟩ (.nilp rfl) ?_
  refine VO.gy rfl ⟨_, rfl, rfl⟩ (.fa rfl tst40 rfl) ?_
  obtain ⟨q1_E, q1_A2, q1_c2, q1_n2, _, q1_S, q1_2⟩ := openP_storeStore0 (x0 := none) (x1 := none) (x2 := r_) h0
  have q1_r2 := q1_2.rm
  refine VO.inv _ (fun _ h => h.parts (i := 1) rfl q1_S [103, 102]) ?_
  refine VO.gy rfl ⟨_, rfl, rfl⟩ (.ld1 103 rfl tk38 rfl (cellsAt_one rfl rfl)) ?_
  refine VO.gy rfl ⟨_, rfl, rfl⟩ (.pnil rfl rfl Tryz.underlying38 rfl) ?_
  refine VO.y rfl (.pF rfl rfl) ?_
  refine VO.as ?_
  refine VO.clsP 104 [103, 102] rfl (fun hg4 => (mkP_storeStore0 none none r_ hg4 q1_2)) (fun mc4 ho4 => ?_)
  refine VO.k2 0 2 ?_
  refine VC.ret ?_
  refine ⟨_, _, res_run (rs := [.tmp 2]) rfl (.tmp rfl .nil), fun W_ hI => out_of (l := [mc4]) hI [104] rfl rfl (mle_refl _) (fun hS_ => ?_)⟩
  dsimp only [packV]
  have hm0_ : ((none, none, r_) : DstoreStore0) = (none, none, r_) := by first | rfl | (simp [*]; done)
  refine ⟨?_, ?_⟩
  rotate_left
  · rw [hm0_]; exact (Ow.up ho4 (hS_.1 _ (.head _)))
  all_goals (first | rfl | (simp [*]; done))
theorem sGetN_ok_ (W : World) (d1 : List UInt8) (h1 : d1.length ≤ maxLen) : CallR Tryz.prog 13 [.pointer none, str d1] W (mnil) (fun v m' => v = .tuple #[str (([] : List UInt8)), .bool (false)]) := by
  have h1' := h1; simp only [maxLen] at h1'
  refine CallR.ofA (n := 35) Tryz.func13 rfl rfl rfl ?_
  refine VC.rs ?_
  refine VO.as ?_
  refine VO.as ?_
  refine VO.k4 0 1 4 5 ?_
  refine VC.seq ?_
  refine VC.rs ?_
  refine VO.mv ?_
  refine VO.callN 101 rfl fnOk40 rfl (fun W hW => sNoneN_ok W ) (fun v1 m1 hv1 => ?_)
  subst hv1
  refine VO.k5 0 1 4 5 10 ?_
  refine VC.cond rfl (fun hc2 => ?_) (fun hc2 => ?_)
  · -- T
    refine VC.rs ?_
    refine VO.as ?_
    refine VO.as ?_
    refine VO.kp [0] [(0, wm W)] ?_
    refine VO.k5 0 1 4 5 10 ?_
    refine VC.ret ?_
    refine outR ?_
    refine ⟨_, _, res_run (rs := [.tmp 4, .tmp 5]) rfl (.tmp rfl (.tmp rfl .nil)), fun W_ hI => out_of (l := []) hI [] rfl rfl (mle_refl _) (fun hS_ => ?_)⟩
    dsimp only [packV]
    all_goals (first | rfl | (simp [*]; done))
  · -- F
    exact absurd trivial hc2
theorem sGet0_ok_ (W : World) {r_ : List DCommit} {m0 : Mem} (hm : mle (m0) (wm W)) {g0 : Nat} (h0 : Ow (.ptr TstoreStore0) m0 [.pointer (some ⟨g0, 0, none⟩)] (g0, (none, none, r_))) (d1 : List UInt8) (h1 : d1.length ≤ maxLen) : CallR Tryz.prog 13 [.pointer (some ⟨g0, 0, none⟩), str d1] W (m0) (fun v m' => v = .tuple #[str (([] : List UInt8)), .bool (false)] ∧ Ow (.ptr TstoreStore0) m' [.pointer (some ⟨g0, 0, none⟩)] (g0, (none, none, r_))) := by
  have h1' := h1; simp only [maxLen] at h1'
  refine CallR.ofB (n := 35) hm Tryz.func13 rfl rfl rfl ?_
  refine VC.rs ?_
  refine VO.as ?_
  refine VO.as ?_
  refine VO.k4 0 1 4 5 ?_
  refine VC.seq ?_
  refine VC.rs ?_
  refine VO.mv ?_
  refine VO.call 1 rfl fnOk40 rfl rfl (fun W hW => sNone0_ok_ W (hW.at (i := 1) rfl) h0) (fun v1 m1 hv1 => ?_)
  try dsimp only at hv1
  obtain ⟨rfl, w1_0⟩ := hv1
  refine VO.k5 0 1 4 5 10 ?_
  refine VC.condT rfl ?_
  refine VC.rs ?_
  refine VO.as ?_
  refine VO.as ?_
  refine VO.kp [1, 0] [(1, m1), (0, mout (wm W) (m0))] ?_
  refine VO.k5 0 1 4 5 10 ?_
  refine VC.ret ?_
  refine outR ?_
  refine ⟨_, _, res_run (rs := [.tmp 4, .tmp 5]) rfl (.tmp rfl (.tmp rfl .nil)), fun W_ hI => out_of (l := [m1]) hI [1] rfl rfl (mle_refl _) (fun hS_ => ?_)⟩
  dsimp only [packV]
  have hm0_ : ((none, none, r_) : DstoreStore0) = (none, none, r_) := by first | rfl | (simp [*]; done)
  refine ⟨?_, ?_⟩
  rotate_left
  · rw [hm0_]; exact (Ow.up w1_0 (hS_.1 _ (.head _)))
  all_goals (first | rfl | (simp [*]; done))
theorem sApplyN_ok_ (W : World) {v1 : List Value} {d1 : DCommit} (h1 : Rd TCommit (wm W) v1 d1) : CallR Tryz.prog 15 [.pointer none, .agg v1.toArray] W (mnil) (fun v m' => v = .int .i64 (1)) := by
  obtain ⟨p1_A2, p1_c2, rfl, p1_0, p1_1, p1_2⟩ := open_Commit (x0 := d1.1) (x1 := d1.2.1) (x2 := d1.2.2) h1
  simp only [inK] at p1_0
  simp only [inK] at p1_1
  have p1_r2 := Rd.room p1_2
  refine CallR.ofA (n := 46) Tryz.func15 rfl rfl rfl ?_
  refine VC.rs ?_
  refine VO.box (cs := [Value.int .i64 (d1.1), Value.int .i64 (d1.2.1), Value.slice p1_A2 (d1.2.2.length) (p1_c2)]) 102 rfl rfl rfl (fun g1 => ?_)
  refine VO.as ?_
  refine VO.k4 0 1 3 4 ?_
  refine VC.seq ?_
  refine VC.rs ?_
  refine VO.mv ?_
  refine VO.callN 103 rfl fnOk40 rfl (fun W hW => sNoneN_ok W ) (fun v3 m3 hv3 => ?_)
  subst hv3
  refine VO.k5 0 1 3 4 8 ?_
  refine VC.cond rfl (fun hc4 => ?_) (fun hc4 => ?_)
  · -- T
    refine VC.rs ?_
    refine VO.as ?_
    refine VO.kp [102, 0] [(102, mone g1 (.cells [Value.int .i64 (d1.1), Value.int .i64 (d1.2.1), Value.slice p1_A2 (d1.2.2.length) (p1_c2)].toArray 36 (0, 0))), (0, wm W)] ?_
    refine VO.k5 0 1 3 4 8 ?_
    refine VC.ret ?_
    refine outR ?_
    refine ⟨_, _, res_run (rs := [.tmp 4]) rfl (.tmp rfl .nil), fun W_ hI => out_of (l := []) hI [] rfl rfl (mle_refl _) (fun hS_ => ?_)⟩
    dsimp only [packV]
    all_goals (first | rfl | (simp [*]; done))
  · -- F
    exact absurd trivial hc4
theorem sApply0_ok_ (W : World) {r_ : List DCommit} {m0 : Mem} (hm : mle (m0) (wm W)) {g0 : Nat} (h0 : Ow (.ptr TstoreStore0) m0 [.pointer (some ⟨g0, 0, none⟩)] (g0, (none, none, r_))) {v1 : List Value} {d1 : DCommit} (h1 : Rd TCommit (mout (wm W) (m0)) v1 d1) : CallR Tryz.prog 15 [.pointer (some ⟨g0, 0, none⟩), .agg v1.toArray] W (m0) (fun v m' => v = .int .i64 (1) ∧ Ow (.ptr TstoreStore0) m' [.pointer (some ⟨g0, 0, none⟩)] (g0, (none, none, r_))) := by
  obtain ⟨p1_A2, p1_c2, rfl, p1_0, p1_1, p1_2⟩ := open_Commit (x0 := d1.1) (x1 := d1.2.1) (x2 := d1.2.2) h1
  simp only [inK] at p1_0
  simp only [inK] at p1_1
  have p1_r2 := Rd.room p1_2
  refine CallR.ofB (n := 46) hm Tryz.func15 rfl rfl rfl ?_
  refine VC.rs ?_
  refine VO.box (cs := [Value.int .i64 (d1.1), Value.int .i64 (d1.2.1), Value.slice p1_A2 (d1.2.2.length) (p1_c2)]) 102 rfl rfl rfl (fun g1 => ?_)
  refine VO.as ?_
  refine VO.k4 0 1 3 4 ?_
  refine VC.seq ?_
  refine VC.rs ?_
  refine VO.mv ?_
  refine VO.call 1 rfl fnOk40 rfl rfl (fun W hW => sNone0_ok_ W (hW.at (i := 1) rfl) h0) (fun v3 m3 hv3 => ?_)
  try dsimp only at hv3
  obtain ⟨rfl, w3_0⟩ := hv3
  refine VO.k5 0 1 3 4 8 ?_
  refine VC.condT rfl ?_
  refine VC.rs ?_
  refine VO.as ?_
  refine VO.kp [1, 102, 0] [(1, m3), (102, mone g1 (.cells [Value.int .i64 (d1.1), Value.int .i64 (d1.2.1), Value.slice p1_A2 (d1.2.2.length) (p1_c2)].toArray 36 (0, 0))), (0, mout (wm W) (m0))] ?_
  refine VO.k5 0 1 3 4 8 ?_
  refine VC.ret ?_
  refine outR ?_
  refine ⟨_, _, res_run (rs := [.tmp 4]) rfl (.tmp rfl .nil), fun W_ hI => out_of (l := [m3]) hI [1] rfl rfl (mle_refl _) (fun hS_ => ?_)⟩
  dsimp only [packV]
  have hm0_ : ((none, none, r_) : DstoreStore0) = (none, none, r_) := by first | rfl | (simp [*]; done)
  refine ⟨?_, ?_⟩
  rotate_left
  · rw [hm0_]; exact (Ow.up w3_0 (hS_.1 _ (.head _)))
  all_goals (first | rfl | (simp [*]; done))
theorem sFlushN_ok_ (W : World) (d1 : Int) (h1 : inK .i64 d1) : CallR Tryz.prog 11 [.pointer none, .int .i64 d1] W (mnil) (fun v m' => v = .int .i64 (1)) := by
  have h1' := h1; simp only [inK] at h1'
  refine CallR.ofA (n := 96) Tryz.func11 rfl rfl rfl ?_
  refine VC.rs ?_
  refine VO.as ?_
  refine VO.k3 0 1 4 ?_
  refine VC.seq ?_
  refine VC.rs ?_
  refine VO.mv ?_
  refine VO.callN 101 rfl fnOk40 rfl (fun W hW => sNoneN_ok W ) (fun v1 m1 hv1 => ?_)
  subst hv1
  refine VO.k4 0 1 4 14 ?_
  refine VC.cond rfl (fun hc2 => ?_) (fun hc2 => ?_)
  · -- T
    refine VC.rs ?_
    refine VO.as ?_
    refine VO.kp [0] [(0, wm W)] ?_
    refine VO.k4 0 1 4 14 ?_
    refine VC.ret ?_
    refine outR ?_
    refine ⟨_, _, res_run (rs := [.tmp 4]) rfl (.tmp rfl .nil), fun W_ hI => out_of (l := []) hI [] rfl rfl (mle_refl _) (fun hS_ => ?_)⟩
    dsimp only [packV]
    all_goals (first | rfl | (simp [*]; done))
  · -- F
    exact absurd trivial hc2
theorem sFlush0_ok_ (W : World) {r_ : List DCommit} {m0 : Mem} (hm : mle (m0) (wm W)) {g0 : Nat} (h0 : Ow (.ptr TstoreStore0) m0 [.pointer (some ⟨g0, 0, none⟩)] (g0, (none, none, r_))) (d1 : Int) (h1 : inK .i64 d1) : CallR Tryz.prog 11 [.pointer (some ⟨g0, 0, none⟩), .int .i64 d1] W (m0) (fun v m' => v = .int .i64 (1) ∧ Ow (.ptr TstoreStore0) m' [.pointer (some ⟨g0, 0, none⟩)] (g0, (none, none, r_))) := by
  have h1' := h1; simp only [inK] at h1'
  refine CallR.ofB (n := 96) hm Tryz.func11 rfl rfl rfl ?_
  refine VC.rs ?_
  refine VO.as ?_
  refine VO.k3 0 1 4 ?_
  refine VC.seq ?_
  refine VC.rs ?_
  refine VO.mv ?_
  refine VO.call 1 rfl fnOk40 rfl rfl (fun W hW => sNone0_ok_ W (hW.at (i := 1) rfl) h0) (fun v1 m1 hv1 => ?_)
  try dsimp only at hv1
  obtain ⟨rfl, w1_0⟩ := hv1
  refine VO.k4 0 1 4 14 ?_
  refine VC.condT rfl ?_
  refine VC.rs ?_
  refine VO.as ?_
  refine VO.kp [1, 0] [(1, m1), (0, mout (wm W) (m0))] ?_
  refine VO.k4 0 1 4 14 ?_
  refine VC.ret ?_
  refine outR ?_
  refine ⟨_, _, res_run (rs := [.tmp 4]) rfl (.tmp rfl .nil), fun W_ hI => out_of (l := [m1]) hI [1] rfl rfl (mle_refl _) (fun hS_ => ?_)⟩
  dsimp only [packV]
  have hm0_ : ((none, none, r_) : DstoreStore0) = (none, none, r_) := by first | rfl | (simp [*]; done)
  refine ⟨?_, ?_⟩
  rotate_left
  · rw [hm0_]; exact (Ow.up w1_0 (hS_.1 _ (.head _)))
  all_goals (first | rfl | (simp [*]; done))
theorem sEndN_ok_ (W : World) : CallR Tryz.prog 16 [.pointer none] W (mnil) (fun v m' => v = .int .i64 (0)) := by
  refine CallR.ofA (n := 16) Tryz.func16 rfl rfl rfl ?_
  refine VC.rs ?_
  refine VO.as ?_
  refine VO.k2 0 2 ?_
  refine VC.seq ?_
  refine VC.rs ?_
  refine VO.mv ?_
  refine VO.callN 101 rfl fnOk40 rfl (fun W hW => sNoneN_ok W ) (fun v1 m1 hv1 => ?_)
  subst hv1
  refine VO.k3 0 2 4 ?_
  refine VC.cond rfl (fun hc2 => ?_) (fun hc2 => ?_)
  · -- T
    refine VC.rs ?_
    refine VO.as ?_
    refine VO.kp [0] [(0, wm W)] ?_
    refine VO.k3 0 2 4 ?_
    refine VC.ret ?_
    refine outR ?_
    refine ⟨_, _, res_run (rs := [.tmp 2]) rfl (.tmp rfl .nil), fun W_ hI => out_of (l := []) hI [] rfl rfl (mle_refl _) (fun hS_ => ?_)⟩
    dsimp only [packV]
    all_goals (first | rfl | (simp [*]; done))
  · -- F
    exact absurd trivial hc2
theorem sEnd0_ok_ (W : World) {r_ : List DCommit} {m0 : Mem} (hm : mle (m0) (wm W)) {g0 : Nat} (h0 : Ow (.ptr TstoreStore0) m0 [.pointer (some ⟨g0, 0, none⟩)] (g0, (none, none, r_))) : CallR Tryz.prog 16 [.pointer (some ⟨g0, 0, none⟩)] W (m0) (fun v m' => v = .int .i64 (0) ∧ Ow (.ptr TstoreStore0) m' [.pointer (some ⟨g0, 0, none⟩)] (g0, (none, none, r_))) := by
  refine CallR.ofB (n := 16) hm Tryz.func16 rfl rfl rfl ?_
  refine VC.rs ?_
  refine VO.as ?_
  refine VO.k2 0 2 ?_
  refine VC.seq ?_
  refine VC.rs ?_
  refine VO.mv ?_
  refine VO.call 1 rfl fnOk40 rfl rfl (fun W hW => sNone0_ok_ W (hW.at (i := 1) rfl) h0) (fun v1 m1 hv1 => ?_)
  try dsimp only at hv1
  obtain ⟨rfl, w1_0⟩ := hv1
  refine VO.k3 0 2 4 ?_
  refine VC.condT rfl ?_
  refine VC.rs ?_
  refine VO.as ?_
  refine VO.kp [1, 0] [(1, m1), (0, mout (wm W) (m0))] ?_
  refine VO.k3 0 2 4 ?_
  refine VC.ret ?_
  refine outR ?_
  refine ⟨_, _, res_run (rs := [.tmp 2]) rfl (.tmp rfl .nil), fun W_ hI => out_of (l := [m1]) hI [1] rfl rfl (mle_refl _) (fun hS_ => ?_)⟩
  dsimp only [packV]
  have hm0_ : ((none, none, r_) : DstoreStore0) = (none, none, r_) := by first | rfl | (simp [*]; done)
  refine ⟨?_, ?_⟩
  rotate_left
  · rw [hm0_]; exact (Ow.up w1_0 (hS_.1 _ (.head _)))
  all_goals (first | rfl | (simp [*]; done))
theorem sRestN_ok_ (W : World) : CallR Tryz.prog 12 [.pointer none] W (mnil) (fun v m' => v = .int .i64 (0)) := by
  refine CallR.ofA (n := 10) Tryz.func12 rfl rfl rfl ?_
  refine VC.rs ?_
  refine VO.as ?_
  refine VO.k2 0 2 ?_
  refine VC.seq ?_
  refine VC.rs ?_
  refine VO.mv ?_
  refine VO.callN 101 rfl fnOk40 rfl (fun W hW => sNoneN_ok W ) (fun v1 m1 hv1 => ?_)
  subst hv1
  refine VO.k3 0 2 4 ?_
  refine VC.cond rfl (fun hc2 => ?_) (fun hc2 => ?_)
  · -- T
    refine VC.rs ?_
    refine VO.as ?_
    refine VO.kp [0] [(0, wm W)] ?_
    refine VO.k3 0 2 4 ?_
    refine VC.ret ?_
    refine outR ?_
    refine ⟨_, _, res_run (rs := [.tmp 2]) rfl (.tmp rfl .nil), fun W_ hI => out_of (l := []) hI [] rfl rfl (mle_refl _) (fun hS_ => ?_)⟩
    dsimp only [packV]
    all_goals (first | rfl | (simp [*]; done))
  · -- F
    exact absurd trivial hc2
theorem sRest0_ok_ (W : World) {r_ : List DCommit} {m0 : Mem} (hm : mle (m0) (wm W)) {g0 : Nat} (h0 : Ow (.ptr TstoreStore0) m0 [.pointer (some ⟨g0, 0, none⟩)] (g0, (none, none, r_))) : CallR Tryz.prog 12 [.pointer (some ⟨g0, 0, none⟩)] W (m0) (fun v m' => v = .int .i64 (0) ∧ Ow (.ptr TstoreStore0) m' [.pointer (some ⟨g0, 0, none⟩)] (g0, (none, none, r_))) := by
  refine CallR.ofB (n := 10) hm Tryz.func12 rfl rfl rfl ?_
  refine VC.rs ?_
  refine VO.as ?_
  refine VO.k2 0 2 ?_
  refine VC.seq ?_
  refine VC.rs ?_
  refine VO.mv ?_
  refine VO.call 1 rfl fnOk40 rfl rfl (fun W hW => sNone0_ok_ W (hW.at (i := 1) rfl) h0) (fun v1 m1 hv1 => ?_)
  try dsimp only at hv1
  obtain ⟨rfl, w1_0⟩ := hv1
  refine VO.k3 0 2 4 ?_
  refine VC.condT rfl ?_
  refine VC.rs ?_
  refine VO.as ?_
  refine VO.kp [1, 0] [(1, m1), (0, mout (wm W) (m0))] ?_
  refine VO.k3 0 2 4 ?_
  refine VC.ret ?_
  refine outR ?_
  refine ⟨_, _, res_run (rs := [.tmp 2]) rfl (.tmp rfl .nil), fun W_ hI => out_of (l := [m1]) hI [1] rfl rfl (mle_refl _) (fun hS_ => ?_)⟩
  dsimp only [packV]
  have hm0_ : ((none, none, r_) : DstoreStore0) = (none, none, r_) := by first | rfl | (simp [*]; done)
  refine ⟨?_, ?_⟩
  rotate_left
  · rw [hm0_]; exact (Ow.up w1_0 (hS_.1 _ (.head _)))
  all_goals (first | rfl | (simp [*]; done))
theorem sAllN_ok_ (W : World) : CallR Tryz.prog 50 [.pointer none] W (mnil) (fun v m' => ∃ (s0 : List Value), v = .func (.func 94) #[] (List.toArray s0) ∧ IterOk Tryz.prog 94 s0 m' (lvE []) vsN 0 (lvD [])) := by
  refine CallR.ofA (n := 18) Tryz.func50 rfl rfl rfl ?_
  refine VC.rs ?_
  refine VO.as ?_
  refine VO.k2 0 2 ?_
  refine VC.seq ?_
  refine VC.rs ?_
  refine VO.mv ?_
  refine VO.callN 101 rfl fnOk40 rfl (fun W hW => sNoneN_ok W ) (fun v1 m1 hv1 => ?_)
  subst hv1
  refine VO.k3 0 2 6 ?_
  refine VC.cond rfl (fun hc2 => ?_) (fun hc2 => ?_)
  · -- T
    refine VC.rs ?_
    refine VO.as ?_
    refine VO.kp [0] [(0, wm W)] ?_
    refine VO.k3 0 2 6 ?_
    refine VC.ret ?_
    refine outR ?_
    refine ⟨_, _, res_run (rs := [.tmp 2]) rfl (.tmp rfl .nil), fun W_ hI => out_of (l := []) hI [] rfl rfl (mle_refl _) (fun hS_ => ?_)⟩
    dsimp only [packV]
    refine ⟨[], ?_, ?_⟩
    rotate_left
    · exact (all1_ok _)
    all_goals (first | rfl | (simp [*]; done))
  · -- F
    exact absurd trivial hc2
theorem sAll0_ok_ (W : World) {r_ : List DCommit} {m0 : Mem} (hm : mle (m0) (wm W)) {g0 : Nat} (h0 : Ow (.ptr TstoreStore0) m0 [.pointer (some ⟨g0, 0, none⟩)] (g0, (none, none, r_))) : CallR Tryz.prog 50 [.pointer (some ⟨g0, 0, none⟩)] W (m0) (fun v m' => ∃ (s0 : List Value), ∃ (p0 : Mem), ∃ (p1 : Mem), v = .func (.func 94) #[] (List.toArray s0) ∧ Seps m' [p0, p1] ∧ IterOk Tryz.prog 94 s0 p0 (lvE []) vsN 0 (lvD []) ∧ Ow (.ptr TstoreStore0) p1 [.pointer (some ⟨g0, 0, none⟩)] (g0, (none, none, r_))) := by
  refine CallR.ofB (n := 18) hm Tryz.func50 rfl rfl rfl ?_
  refine VC.rs ?_
  refine VO.as ?_
  refine VO.k2 0 2 ?_
  refine VC.seq ?_
  refine VC.rs ?_
  refine VO.mv ?_
  refine VO.call 1 rfl fnOk40 rfl rfl (fun W hW => sNone0_ok_ W (hW.at (i := 1) rfl) h0) (fun v1 m1 hv1 => ?_)
  try dsimp only at hv1
  obtain ⟨rfl, w1_0⟩ := hv1
  refine VO.k3 0 2 6 ?_
  refine VC.condT rfl ?_
  refine VC.rs ?_
  refine VO.as ?_
  refine VO.kp [1, 0] [(1, m1), (0, mout (wm W) (m0))] ?_
  refine VO.k3 0 2 6 ?_
  refine VC.ret ?_
  refine outR ?_
  refine ⟨_, _, res_run (rs := [.tmp 2]) rfl (.tmp rfl .nil), fun W_ hI => out_of (l := [m1]) hI [1] rfl rfl (mle_refl _) (fun hS_ => ?_)⟩
  dsimp only [packV]
  have hm0_ : ((none, none, r_) : DstoreStore0) = (none, none, r_) := by first | rfl | (simp [*]; done)
  refine ⟨[], muns [], muns [m1], ?_, ?_, ?_, ?_⟩
  rotate_left
  · exact Seps.grp (ls := [[], [m1]]) hS_
  · exact (all1_ok _)
  · rw [hm0_]; exact (Ow.up w1_0 ((Seps.self hS_ (List.Sublist.cons_cons _ List.Sublist.slnil)).1 _ (.head _)))
  all_goals (first | rfl | (simp [*]; done))
theorem all14N_ok_ (W : World) (d1 : Int) (h1 : inK .i64 d1) : CallR Tryz.prog 17 [.pointer none, .int .i64 d1] W (mnil) (fun v m' => ∃ (s0 : Value), v = s0 ∧ Ow (.sl TOp) m' [s0] (([] : List DOp))) := by
  have h1' := h1; simp only [inK] at h1'
  refine CallR.ofXA (n := 23) Tryz.func17 rfl rfl rfl ?_
  refine VX.rs ?_
  refine VO.box (cs := [Value.int .i64 (d1)]) 102 rfl rfl rfl (fun g1 => ?_)
  refine VO.as ?_
  refine VO.k4 0 1 3 4 ?_
  refine VX.rs ?_
  refine VO.alloc 104 rfl tz34 (fun g3 => ?_)
  refine VO.k5 0 1 3 4 5 ?_
  refine VX.seq ?_
  refine VX.rs ?_
  refine VO.mv ?_
  refine VO.callN 105 rfl fnOk50 rfl (fun W hW => sAllN_ok_ W ) (fun v5 m5 hv5 => ?_)
  obtain ⟨s5_0, rfl, f5_0⟩ := hv5
  refine VO.kp [105, 104, 102, 0] [(105, m5), (104, mone g3 (.cells [Value.slice none (0) (0)].toArray 34 (0, 0))), (102, mone g1 (.cells [Value.int .i64 (d1)].toArray 3 (0, 0))), (0, wm W)] ?_
  refine VO.k6 0 1 3 4 5 9 ?_
  refine VX.block ?_
  refine VX.inv ((106, mnil) :: _) (fun _ h => h.nilc 106) ?_
  refine VX.gather (l := [mnil, mone g3 (.cells [Value.slice none (0) (0)].toArray 34 (0, 0))]) 108 [106, 104] rfl (fun hg7 => ?_)
  refine VX.inv [(105, m5), (108, muns [mnil, mone g3 (.cells [Value.slice none (0) (0)].toArray 34 (0, 0))]), (102, mone g1 (.cells [Value.int .i64 (d1)].toArray 3 (0, 0))), (0, wm W)] (fun _ h => h.sub [105, 108, 102, 0]) ?_
  refine VX.rangeF (A := Int) (G := (List DOp) × (Option Addr) × Nat × Mem) (rest := [(102, mone g1 (.cells [Value.int .i64 (d1)].toArray 3 (0, 0))), (0, wm W)]) 108 105 109 110 111 112 (fun g => muns [(g.2.2.2), mone g3 (.cells [Value.slice (g.2.1) ((g.1).length) ((g.2.2.1))].toArray 34 (0, 0))]) (fun at_ g => ((g.1) = []) ∧ (OwnL TOp (g.2.2.2) mnil (.slice (g.2.1) (g.1).length (g.2.2.1)) (g.1)) ∧ (Seps (muns [(g.2.2.2), mone g3 (.cells [Value.slice (g.2.1) ((g.1).length) ((g.2.2.1))].toArray 34 (0, 0))]) [(g.2.2.2), mone g3 (.cells [Value.slice (g.2.1) ((g.1).length) ((g.2.2.1))].toArray 34 (0, 0))])) (fun e g => e = (.exit 0) ∧ ((g.1) = []) ∧ (OwnL TOp (g.2.2.2) mnil (.slice (g.2.1) (g.1).length (g.2.2.1)) (g.1)) ∧ (Seps (muns [(g.2.2.2), mone g3 (.cells [Value.slice (g.2.1) ((g.1).length) ((g.2.2.1))].toArray 34 (0, 0))]) [(g.2.2.2), mone g3 (.cells [Value.slice (g.2.1) ((g.1).length) ((g.2.2.1))].toArray 34 (0, 0))])) ([], none, 0, mnil) ⟨by rfl, (OwnL.nil TOp mnil mnil), hg7⟩ (fun _ _ => f5_0) rfl rfl rfl (fun _ _ _ h => by obtain ⟨_, _, _, _, _, _, _, rfl⟩ := h; rfl) (fun args => [(6, args.getD 0 undef), (7, args.getD 1 undef), (0, Value.pointer none), (1, Value.int .i64 (d1)), (3, Value.pointer (some ⟨g1, 0, none⟩)), (4, Value.slice none (0) (0)), (5, Value.pointer (some ⟨g3, 0, none⟩))]) ?_ ?_ ?_ ?_
  · intro w1_ lr_ args_ Ω_ hl_
    obtain ⟨y0_, y1_, rfl⟩ : ∃ y0_ y1_, args_ = [y0_, y1_] := (match args_, hl_ with | [y0_, y1_], _ => ⟨y0_, y1_, rfl⟩)
    refine VX.rs ?_
    refine VO.as ?_
    refine VO.nil ?_
    refine VX.reg ?_
    refine VO.as ?_
    refine VO.nil ?_
    exact ⟨rfl, rfl, ⟨rfl, rfl, rfl, rfl, rfl, rfl, rfl, trivial⟩, rfl⟩
  · -- B
    rintro w1_ lr_ Dr_ at_ ⟨out, out_A, out_c, out_m⟩ args_ mr_ ml_ mo_ ⟨ho, h_out, hSep_⟩ hE_
    replace ho : out = [] := ho
    replace h_out : OwnL TOp out_m mnil (.slice out_A out.length out_c) out := h_out
    replace hSep_ : Seps (muns [out_m, mone g3 (.cells [Value.slice out_A (out.length) (out_c)].toArray 34 (0, 0))]) [out_m, mone g3 (.cells [Value.slice out_A (out.length) (out_c)].toArray 34 (0, 0))] := hSep_
    obtain ⟨hE0_, hE1_, hE2_, x_, hxa_, hxl1_, hxl2_, rfl⟩ := hE_
    simp only [maxLen] at hxl1_ hxl2_
    refine VX.parts 108 [106, 104] rfl hSep_ ?_
    show VX _ _ _ _ _ _ _ [(6, str (x_.2.1)), (7, str (x_.2.2)), (0, Value.pointer none), (1, Value.int .i64 (d1)), (3, Value.pointer (some ⟨g1, 0, none⟩)), (4, Value.slice none (0) (0)), (5, Value.pointer (some ⟨g3, 0, none⟩))] [(106, out_m), (104, mone g3 (.cells [Value.slice out_A (out.length) (out_c)].toArray 34 (0, 0))), (111, mr_), (112, mo_), (110, ml_), (109, mone Dr_ (.deferred (some []))), (102, mone g1 (.cells [Value.int .i64 (d1)].toArray 3 (0, 0))), (0, wm W)]
    have l_out : out.length ≤ out_c := by obtain ⟨_, _, he, hl, _⟩ := h_out.slice; simp only [Value.slice.injEq] at he; omega
    have k_out : out_c ≤ 9223372036854775807 := by obtain ⟨_, _, he, _, hl⟩ := h_out.slice; simp only [Value.slice.injEq, maxLen] at he hl; omega
    have hlo : out.length = 0 := by rw [ho]; rfl
    refine VX.block ?_
    refine VX.seq ?_
    refine VX.rs ?_
    refine VO.y rfl (.ld1 104 rfl tk34 rfl (cellsAt_one rfl rfl)) ?_
    refine VO.y rfl (.lenS rfl tsl34) ?_
    refine VO.y rfl (.ld1 102 rfl tk3 rfl (cellsAt_one rfl rfl)) ?_
    refine VO.y rfl (.eql rfl rfl) ?_
    refine VO.k8 0 1 3 4 5 6 7 15 ?_
    refine VX.cond rfl (fun hc13 => ?_) (fun hc13 => ?_)
    · -- BT
      refine VX.exit ?_
      refine outE ?_
      refine outBE rfl ?_
      exact ⟨rfl, fun W_ hW_ => ⟨⟨out, out_A, out_c, out_m⟩, (hW_.gather (ids := [106, 104]) 108 rfl).1.sub [112, 110, 108, 109, 102, 0], .inr ⟨rfl, rfl, by exact ho, h_out, (hW_.gather (ids := [106, 104]) 108 rfl).2⟩⟩⟩
    · -- BF
      refine VX.skip ?_
      refine outN ?_
      refine VX.reg ?_
      refine VO.y rfl (.ld1 104 rfl tk34 rfl (cellsAt_one rfl rfl)) ?_
      refine VO.mv ?_
      refine VO.mv ?_
      refine VO.y rfl (.bst (cs := [Value.bool true, str (x_.2.1), str (x_.2.2)]) rfl tst64 tz64 rfl) ?_
      refine VO.bsl (cs := [Value.bool true, str (x_.2.1), str (x_.2.2)]) 115 rfl rfl tsl34 tz64 rfl rfl (fun g14 => ?_)
      obtain ⟨mo16, cs16, hM16, hA16, hC16⟩ := h_out
      refine VO.app 106 rfl rfl rfl tsl34 tz64 rfl rfl hM16 hA16 (.row 115 _ _ _ 1 1 _ _ Tryz.underlying34 rfl (cellsAt_one rfl rfl)) (by simp [Value.oneCell']) bdm bd (by decide) (fun v16 m16 hN16 => ?_)
      have ho16 : OwnL TOp m16 mnil v16 (out ++ [(true, x_.2)]) := OwnL.one hC16 hN16 (mk_Op (m := _) true x_.2.1 x_.2.2 bdm bdm)
      obtain ⟨A16, c16, rfl, l16, k16⟩ := ho16.slice
      simp only [maxLen] at k16
      refine VO.store (k := 1) (c' := [Value.slice A16 ((out ++ [(true, x_.2)]).length) (c16)]) 104 rfl rfl (.inr ⟨tk34, rfl⟩) rfl rfl rfl rfl rfl ?_
      refine VO.k8 0 1 3 4 5 6 7 15 ?_
      refine outBN ?_
      exact ⟨rfl, fun W_ hW_ => ⟨⟨out ++ [(true, x_.2)], A16, c16, m16⟩, (hW_.gather (ids := [106, 104]) 108 rfl).1.sub [112, 110, 108, 109, 102, 0], .inl ⟨rfl, by exact absurd hE1_ (by simp only [List.filter_nil, List.length_nil]; omega), ho16, (hW_.gather (ids := [106, 104]) 108 rfl).2⟩⟩⟩
  · -- D
    rintro Dr_ at_ ⟨out, out_A, out_c, out_m⟩ ⟨ho, h_out, hSep_⟩ hDn_
    replace ho : out = [] := ho
    replace h_out : OwnL TOp out_m mnil (.slice out_A out.length out_c) out := h_out
    replace hSep_ : Seps (muns [out_m, mone g3 (.cells [Value.slice out_A (out.length) (out_c)].toArray 34 (0, 0))]) [out_m, mone g3 (.cells [Value.slice out_A (out.length) (out_c)].toArray 34 (0, 0))] := hSep_
    have l_out : out.length ≤ out_c := by obtain ⟨_, _, he, hl, _⟩ := h_out.slice; simp only [Value.slice.injEq] at he; omega
    have k_out : out_c ≤ 9223372036854775807 := by obtain ⟨_, _, he, _, hl⟩ := h_out.slice; simp only [Value.slice.injEq, maxLen] at he hl; omega
    refine outBN ?_
    refine outN ?_
    refine VX.parts 108 [106, 104] rfl hSep_ ?_
    show VX _ _ _ _ _ _ _ [(0, Value.pointer none), (1, Value.int .i64 (d1)), (3, Value.pointer (some ⟨g1, 0, none⟩)), (4, Value.slice none (0) (0)), (5, Value.pointer (some ⟨g3, 0, none⟩)), (9, Value.func (.func 94) #[] s5_0.toArray)] [(106, out_m), (104, mone g3 (.cells [Value.slice out_A (out.length) (out_c)].toArray 34 (0, 0))), (109, mone Dr_ (.deferred (some []))), (102, mone g1 (.cells [Value.int .i64 (d1)].toArray 3 (0, 0))), (0, wm W)]
    refine VX.rs ?_
    refine VO.y rfl (.ld1 104 rfl tk34 rfl (cellsAt_one rfl rfl)) ?_
    refine VO.as ?_
    refine VO.k6 0 1 3 4 5 9 ?_
    refine VX.ret ?_
    refine ⟨109, rfl, ?_⟩
    refine ⟨_, _, res_run (rs := [.tmp 4]) rfl (.tmp rfl .nil), fun W_ hI => out_of (l := [out_m]) hI [106] rfl rfl (mle_refl _) (fun hS_ => ?_)⟩
    dsimp only [packV]
    have he0 : (([] : List DOp) : Ty.Den (.sl TOp)) = out := by first | rfl | (first | exact hs.symm | exact ho.symm)
    refine ⟨Value.slice out_A (out.length) (out_c), ?_, ?_⟩
    rotate_left
    · rw [he0]; exact (Ow.up (OwnL.ow h_out rfl) (hS_.1 _ (.head _)))
    all_goals (first | rfl | (simp [*]; done))
  · -- X
    rintro Dr_ _ ⟨out, out_A, out_c, out_m⟩ ⟨rfl, hs, h_out, hSep_⟩ _
    replace hs : out = [] := hs
    replace h_out : OwnL TOp out_m mnil (.slice out_A out.length out_c) out := h_out
    replace hSep_ : Seps (muns [out_m, mone g3 (.cells [Value.slice out_A (out.length) (out_c)].toArray 34 (0, 0))]) [out_m, mone g3 (.cells [Value.slice out_A (out.length) (out_c)].toArray 34 (0, 0))] := hSep_
    have l_out : out.length ≤ out_c := by obtain ⟨_, _, he, hl, _⟩ := h_out.slice; simp only [Value.slice.injEq] at he; omega
    have k_out : out_c ≤ 9223372036854775807 := by obtain ⟨_, _, he, _, hl⟩ := h_out.slice; simp only [Value.slice.injEq, maxLen] at he hl; omega
    refine outBB ?_
    refine outN ?_
    refine VX.parts 108 [106, 104] rfl hSep_ ?_
    show VX _ _ _ _ _ _ _ [(0, Value.pointer none), (1, Value.int .i64 (d1)), (3, Value.pointer (some ⟨g1, 0, none⟩)), (4, Value.slice none (0) (0)), (5, Value.pointer (some ⟨g3, 0, none⟩)), (9, Value.func (.func 94) #[] s5_0.toArray)] [(106, out_m), (104, mone g3 (.cells [Value.slice out_A (out.length) (out_c)].toArray 34 (0, 0))), (109, mone Dr_ (.deferred (some []))), (102, mone g1 (.cells [Value.int .i64 (d1)].toArray 3 (0, 0))), (0, wm W)]
    refine VX.rs ?_
    refine VO.y rfl (.ld1 104 rfl tk34 rfl (cellsAt_one rfl rfl)) ?_
    refine VO.as ?_
    refine VO.k6 0 1 3 4 5 9 ?_
    refine VX.ret ?_
    refine ⟨109, rfl, ?_⟩
    refine ⟨_, _, res_run (rs := [.tmp 4]) rfl (.tmp rfl .nil), fun W_ hI => out_of (l := [out_m]) hI [106] rfl rfl (mle_refl _) (fun hS_ => ?_)⟩
    dsimp only [packV]
    have he0 : (([] : List DOp) : Ty.Den (.sl TOp)) = out := by first | rfl | (first | exact hs.symm | exact ho.symm)
    refine ⟨Value.slice out_A (out.length) (out_c), ?_, ?_⟩
    rotate_left
    · rw [he0]; exact (Ow.up (OwnL.ow h_out rfl) (hS_.1 _ (.head _)))
    all_goals (first | rfl | (simp [*]; done))
theorem all140_ok_ (W : World) {r_ : List DCommit} {m0 : Mem} (hm : mle (m0) (wm W)) {g0 : Nat} (h0 : Ow (.ptr TstoreStore0) m0 [.pointer (some ⟨g0, 0, none⟩)] (g0, (none, none, r_))) (d1 : Int) (h1 : inK .i64 d1) : CallR Tryz.prog 17 [.pointer (some ⟨g0, 0, none⟩), .int .i64 d1] W (m0) (fun v m' => ∃ (s0 : Value), ∃ (p0 : Mem), ∃ (p1 : Mem), v = s0 ∧ Seps m' [p0, p1] ∧ Ow (.sl TOp) p0 [s0] (([] : List DOp)) ∧ Ow (.ptr TstoreStore0) p1 [.pointer (some ⟨g0, 0, none⟩)] (g0, (none, none, r_))) := by
  have h1' := h1; simp only [inK] at h1'
  refine CallR.ofX (n := 23) Tryz.func17 rfl rfl rfl hm ?_
  refine VX.rs ?_
  refine VO.box (cs := [Value.int .i64 (d1)]) 102 rfl rfl rfl (fun g1 => ?_)
  refine VO.as ?_
  refine VO.k4 0 1 3 4 ?_
  refine VX.rs ?_
  refine VO.alloc 104 rfl tz34 (fun g3 => ?_)
  refine VO.k5 0 1 3 4 5 ?_
  refine VX.seq ?_
  refine VX.rs ?_
  refine VO.mv ?_
  refine VO.call 1 rfl fnOk50 rfl rfl (fun W hW => sAll0_ok_ W (hW.at (i := 1) rfl) h0) (fun v5 m5 hv5 => ?_)
  try dsimp only at hv5
  obtain ⟨s5_0, p5_0, p5_1, rfl, hS5, f5_0, w5_0⟩ := hv5
  refine VO.inv _ (fun _ h => h.parts (i := 1) rfl hS5 [106, 107]) ?_
  refine VO.kp [106, 107, 104, 102, 0] [(106, p5_0), (107, p5_1), (104, mone g3 (.cells [Value.slice none (0) (0)].toArray 34 (0, 0))), (102, mone g1 (.cells [Value.int .i64 (d1)].toArray 3 (0, 0))), (0, mout (wm W) (m0))] ?_
  refine VO.k6 0 1 3 4 5 9 ?_
  refine VX.block ?_
  refine VX.inv ((108, mnil) :: _) (fun _ h => h.nilc 108) ?_
  refine VX.gather (l := [mnil, mone g3 (.cells [Value.slice none (0) (0)].toArray 34 (0, 0))]) 110 [108, 104] rfl (fun hg9 => ?_)
  refine VX.inv [(106, p5_0), (110, muns [mnil, mone g3 (.cells [Value.slice none (0) (0)].toArray 34 (0, 0))]), (107, p5_1), (102, mone g1 (.cells [Value.int .i64 (d1)].toArray 3 (0, 0))), (0, mout (wm W) (m0))] (fun _ h => h.sub [106, 110, 107, 102, 0]) ?_
  refine VX.rangeF (A := Int) (G := (List DOp) × (Option Addr) × Nat × Mem) (rest := [(107, p5_1), (102, mone g1 (.cells [Value.int .i64 (d1)].toArray 3 (0, 0))), (0, mout (wm W) (m0))]) 110 106 111 112 113 114 (fun g => muns [(g.2.2.2), mone g3 (.cells [Value.slice (g.2.1) ((g.1).length) ((g.2.2.1))].toArray 34 (0, 0))]) (fun at_ g => ((g.1) = []) ∧ (OwnL TOp (g.2.2.2) mnil (.slice (g.2.1) (g.1).length (g.2.2.1)) (g.1)) ∧ (Seps (muns [(g.2.2.2), mone g3 (.cells [Value.slice (g.2.1) ((g.1).length) ((g.2.2.1))].toArray 34 (0, 0))]) [(g.2.2.2), mone g3 (.cells [Value.slice (g.2.1) ((g.1).length) ((g.2.2.1))].toArray 34 (0, 0))])) (fun e g => e = (.exit 0) ∧ ((g.1) = []) ∧ (OwnL TOp (g.2.2.2) mnil (.slice (g.2.1) (g.1).length (g.2.2.1)) (g.1)) ∧ (Seps (muns [(g.2.2.2), mone g3 (.cells [Value.slice (g.2.1) ((g.1).length) ((g.2.2.1))].toArray 34 (0, 0))]) [(g.2.2.2), mone g3 (.cells [Value.slice (g.2.1) ((g.1).length) ((g.2.2.1))].toArray 34 (0, 0))])) ([], none, 0, mnil) ⟨by rfl, (OwnL.nil TOp mnil mnil), hg9⟩ (fun _ _ => f5_0) rfl rfl rfl (fun _ _ _ h => by obtain ⟨_, _, _, _, _, _, _, rfl⟩ := h; rfl) (fun args => [(6, args.getD 0 undef), (7, args.getD 1 undef), (0, Value.pointer (some ⟨g0, 0, none⟩)), (1, Value.int .i64 (d1)), (3, Value.pointer (some ⟨g1, 0, none⟩)), (4, Value.slice none (0) (0)), (5, Value.pointer (some ⟨g3, 0, none⟩))]) ?_ ?_ ?_ ?_
  · intro w1_ lr_ args_ Ω_ hl_
    obtain ⟨y0_, y1_, rfl⟩ : ∃ y0_ y1_, args_ = [y0_, y1_] := (match args_, hl_ with | [y0_, y1_], _ => ⟨y0_, y1_, rfl⟩)
    refine VX.rs ?_
    refine VO.as ?_
    refine VO.nil ?_
    refine VX.reg ?_
    refine VO.as ?_
    refine VO.nil ?_
    exact ⟨rfl, rfl, ⟨rfl, rfl, rfl, rfl, rfl, rfl, rfl, trivial⟩, rfl⟩
  · -- B
    rintro w1_ lr_ Dr_ at_ ⟨out, out_A, out_c, out_m⟩ args_ mr_ ml_ mo_ ⟨ho, h_out, hSep_⟩ hE_
    replace ho : out = [] := ho
    replace h_out : OwnL TOp out_m mnil (.slice out_A out.length out_c) out := h_out
    replace hSep_ : Seps (muns [out_m, mone g3 (.cells [Value.slice out_A (out.length) (out_c)].toArray 34 (0, 0))]) [out_m, mone g3 (.cells [Value.slice out_A (out.length) (out_c)].toArray 34 (0, 0))] := hSep_
    obtain ⟨hE0_, hE1_, hE2_, x_, hxa_, hxl1_, hxl2_, rfl⟩ := hE_
    simp only [maxLen] at hxl1_ hxl2_
    refine VX.parts 110 [108, 104] rfl hSep_ ?_
    show VX _ _ _ _ _ _ _ [(6, str (x_.2.1)), (7, str (x_.2.2)), (0, Value.pointer (some ⟨g0, 0, none⟩)), (1, Value.int .i64 (d1)), (3, Value.pointer (some ⟨g1, 0, none⟩)), (4, Value.slice none (0) (0)), (5, Value.pointer (some ⟨g3, 0, none⟩))] [(108, out_m), (104, mone g3 (.cells [Value.slice out_A (out.length) (out_c)].toArray 34 (0, 0))), (113, mr_), (114, mo_), (112, ml_), (111, mone Dr_ (.deferred (some []))), (107, p5_1), (102, mone g1 (.cells [Value.int .i64 (d1)].toArray 3 (0, 0))), (0, mout (wm W) (m0))]
    have l_out : out.length ≤ out_c := by obtain ⟨_, _, he, hl, _⟩ := h_out.slice; simp only [Value.slice.injEq] at he; omega
    have k_out : out_c ≤ 9223372036854775807 := by obtain ⟨_, _, he, _, hl⟩ := h_out.slice; simp only [Value.slice.injEq, maxLen] at he hl; omega
    have hlo : out.length = 0 := by rw [ho]; rfl
    refine VX.block ?_
    refine VX.seq ?_
    refine VX.rs ?_
    refine VO.y rfl (.ld1 104 rfl tk34 rfl (cellsAt_one rfl rfl)) ?_
    refine VO.y rfl (.lenS rfl tsl34) ?_
    refine VO.y rfl (.ld1 102 rfl tk3 rfl (cellsAt_one rfl rfl)) ?_
    refine VO.y rfl (.eql rfl rfl) ?_
    refine VO.k8 0 1 3 4 5 6 7 15 ?_
    refine VX.cond rfl (fun hc15 => ?_) (fun hc15 => ?_)
    · -- BT
      refine VX.exit ?_
      refine outE ?_
      refine outBE rfl ?_
      exact ⟨rfl, fun W_ hW_ => ⟨⟨out, out_A, out_c, out_m⟩, (hW_.gather (ids := [108, 104]) 110 rfl).1.sub [114, 112, 110, 111, 107, 102, 0], .inr ⟨rfl, rfl, by exact ho, h_out, (hW_.gather (ids := [108, 104]) 110 rfl).2⟩⟩⟩
    · -- BF
      refine VX.skip ?_
      refine outN ?_
      refine VX.reg ?_
      refine VO.y rfl (.ld1 104 rfl tk34 rfl (cellsAt_one rfl rfl)) ?_
      refine VO.mv ?_
      refine VO.mv ?_
      refine VO.y rfl (.bst (cs := [Value.bool true, str (x_.2.1), str (x_.2.2)]) rfl tst64 tz64 rfl) ?_
      refine VO.bsl (cs := [Value.bool true, str (x_.2.1), str (x_.2.2)]) 117 rfl rfl tsl34 tz64 rfl rfl (fun g16 => ?_)
      obtain ⟨mo18, cs18, hM18, hA18, hC18⟩ := h_out
      refine VO.app 108 rfl rfl rfl tsl34 tz64 rfl rfl hM18 hA18 (.row 117 _ _ _ 1 1 _ _ Tryz.underlying34 rfl (cellsAt_one rfl rfl)) (by simp [Value.oneCell']) bdm bd (by decide) (fun v18 m18 hN18 => ?_)
      have ho18 : OwnL TOp m18 mnil v18 (out ++ [(true, x_.2)]) := OwnL.one hC18 hN18 (mk_Op (m := _) true x_.2.1 x_.2.2 bdm bdm)
      obtain ⟨A18, c18, rfl, l18, k18⟩ := ho18.slice
      simp only [maxLen] at k18
      refine VO.store (k := 1) (c' := [Value.slice A18 ((out ++ [(true, x_.2)]).length) (c18)]) 104 rfl rfl (.inr ⟨tk34, rfl⟩) rfl rfl rfl rfl rfl ?_
      refine VO.k8 0 1 3 4 5 6 7 15 ?_
      refine outBN ?_
      exact ⟨rfl, fun W_ hW_ => ⟨⟨out ++ [(true, x_.2)], A18, c18, m18⟩, (hW_.gather (ids := [108, 104]) 110 rfl).1.sub [114, 112, 110, 111, 107, 102, 0], .inl ⟨rfl, by exact absurd hE1_ (by simp only [List.filter_nil, List.length_nil]; omega), ho18, (hW_.gather (ids := [108, 104]) 110 rfl).2⟩⟩⟩
  · -- D
    rintro Dr_ at_ ⟨out, out_A, out_c, out_m⟩ ⟨ho, h_out, hSep_⟩ hDn_
    replace ho : out = [] := ho
    replace h_out : OwnL TOp out_m mnil (.slice out_A out.length out_c) out := h_out
    replace hSep_ : Seps (muns [out_m, mone g3 (.cells [Value.slice out_A (out.length) (out_c)].toArray 34 (0, 0))]) [out_m, mone g3 (.cells [Value.slice out_A (out.length) (out_c)].toArray 34 (0, 0))] := hSep_
    have l_out : out.length ≤ out_c := by obtain ⟨_, _, he, hl, _⟩ := h_out.slice; simp only [Value.slice.injEq] at he; omega
    have k_out : out_c ≤ 9223372036854775807 := by obtain ⟨_, _, he, _, hl⟩ := h_out.slice; simp only [Value.slice.injEq, maxLen] at he hl; omega
    refine outBN ?_
    refine outN ?_
    refine VX.parts 110 [108, 104] rfl hSep_ ?_
    show VX _ _ _ _ _ _ _ [(0, Value.pointer (some ⟨g0, 0, none⟩)), (1, Value.int .i64 (d1)), (3, Value.pointer (some ⟨g1, 0, none⟩)), (4, Value.slice none (0) (0)), (5, Value.pointer (some ⟨g3, 0, none⟩)), (9, Value.func (.func 94) #[] s5_0.toArray)] [(108, out_m), (104, mone g3 (.cells [Value.slice out_A (out.length) (out_c)].toArray 34 (0, 0))), (111, mone Dr_ (.deferred (some []))), (107, p5_1), (102, mone g1 (.cells [Value.int .i64 (d1)].toArray 3 (0, 0))), (0, mout (wm W) (m0))]
    refine VX.rs ?_
    refine VO.y rfl (.ld1 104 rfl tk34 rfl (cellsAt_one rfl rfl)) ?_
    refine VO.as ?_
    refine VO.k6 0 1 3 4 5 9 ?_
    refine VX.ret ?_
    refine ⟨111, rfl, ?_⟩
    refine ⟨_, _, res_run (rs := [.tmp 4]) rfl (.tmp rfl .nil), fun W_ hI => out_of (l := [out_m, p5_1]) hI [108, 107] rfl rfl (mle_refl _) (fun hS_ => ?_)⟩
    dsimp only [packV]
    have he0 : (([] : List DOp) : Ty.Den (.sl TOp)) = out := by first | rfl | (first | exact hs.symm | exact ho.symm)
    have hm0_ : ((none, none, r_) : DstoreStore0) = (none, none, r_) := by first | rfl | (first | exact hs.symm | exact ho.symm)
    refine ⟨Value.slice out_A (out.length) (out_c), muns [out_m], muns [p5_1], ?_, ?_, ?_, ?_⟩
    rotate_left
    · exact Seps.grp (ls := [[out_m], [p5_1]]) hS_
    · rw [he0]; exact (Ow.up (OwnL.ow h_out rfl) ((Seps.self hS_ (List.Sublist.cons_cons _ (List.Sublist.cons _ List.Sublist.slnil))).1 _ (.head _)))
    · rw [hm0_]; exact (Ow.up w5_0 ((Seps.self hS_ (List.Sublist.cons _ (List.Sublist.cons_cons _ List.Sublist.slnil))).1 _ (.head _)))
    all_goals (first | rfl | (simp [*]; done))
  · -- X
    rintro Dr_ _ ⟨out, out_A, out_c, out_m⟩ ⟨rfl, hs, h_out, hSep_⟩ _
    replace hs : out = [] := hs
    replace h_out : OwnL TOp out_m mnil (.slice out_A out.length out_c) out := h_out
    replace hSep_ : Seps (muns [out_m, mone g3 (.cells [Value.slice out_A (out.length) (out_c)].toArray 34 (0, 0))]) [out_m, mone g3 (.cells [Value.slice out_A (out.length) (out_c)].toArray 34 (0, 0))] := hSep_
    have l_out : out.length ≤ out_c := by obtain ⟨_, _, he, hl, _⟩ := h_out.slice; simp only [Value.slice.injEq] at he; omega
    have k_out : out_c ≤ 9223372036854775807 := by obtain ⟨_, _, he, _, hl⟩ := h_out.slice; simp only [Value.slice.injEq, maxLen] at he hl; omega
    refine outBB ?_
    refine outN ?_
    refine VX.parts 110 [108, 104] rfl hSep_ ?_
    show VX _ _ _ _ _ _ _ [(0, Value.pointer (some ⟨g0, 0, none⟩)), (1, Value.int .i64 (d1)), (3, Value.pointer (some ⟨g1, 0, none⟩)), (4, Value.slice none (0) (0)), (5, Value.pointer (some ⟨g3, 0, none⟩)), (9, Value.func (.func 94) #[] s5_0.toArray)] [(108, out_m), (104, mone g3 (.cells [Value.slice out_A (out.length) (out_c)].toArray 34 (0, 0))), (111, mone Dr_ (.deferred (some []))), (107, p5_1), (102, mone g1 (.cells [Value.int .i64 (d1)].toArray 3 (0, 0))), (0, mout (wm W) (m0))]
    refine VX.rs ?_
    refine VO.y rfl (.ld1 104 rfl tk34 rfl (cellsAt_one rfl rfl)) ?_
    refine VO.as ?_
    refine VO.k6 0 1 3 4 5 9 ?_
    refine VX.ret ?_
    refine ⟨111, rfl, ?_⟩
    refine ⟨_, _, res_run (rs := [.tmp 4]) rfl (.tmp rfl .nil), fun W_ hI => out_of (l := [out_m, p5_1]) hI [108, 107] rfl rfl (mle_refl _) (fun hS_ => ?_)⟩
    dsimp only [packV]
    have he0 : (([] : List DOp) : Ty.Den (.sl TOp)) = out := by first | rfl | (first | exact hs.symm | exact ho.symm)
    have hm0_ : ((none, none, r_) : DstoreStore0) = (none, none, r_) := by first | rfl | (first | exact hs.symm | exact ho.symm)
    refine ⟨Value.slice out_A (out.length) (out_c), muns [out_m], muns [p5_1], ?_, ?_, ?_, ?_⟩
    rotate_left
    · exact Seps.grp (ls := [[out_m], [p5_1]]) hS_
    · rw [he0]; exact (Ow.up (OwnL.ow h_out rfl) ((Seps.self hS_ (List.Sublist.cons_cons _ (List.Sublist.cons _ List.Sublist.slnil))).1 _ (.head _)))
    · rw [hm0_]; exact (Ow.up w5_0 ((Seps.self hS_ (List.Sublist.cons _ (List.Sublist.cons_cons _ List.Sublist.slnil))).1 _ (.head _)))
    all_goals (first | rfl | (simp [*]; done))
theorem uIs0_ok_ (W : World) {l_ : List DRun} {br_ : Bool} {m0 : Mem} (hm : mle (m0) (wm W)) {g0 : Nat} (h0 : Ow (.ptr TrunRuns0) m0 [.pointer (some ⟨g0, 0, none⟩)] (g0, (none, br_, l_))) : CallR Tryz.prog 47 [.pointer (some ⟨g0, 0, none⟩)] W (m0) (fun v m' => v = .bool (decide (False)) ∧ Ow (.ptr TrunRuns0) m' [.pointer (some ⟨g0, 0, none⟩)] (g0, (none, br_, l_))) := by
  refine CallR.ofB (n := 6) hm Tryz.func47 rfl rfl rfl ?_
  refine VC.rs ?_
  refine VO.as ?_
  refine VO.k2 0 2 ?_
  refine VC.rs ?_
  refine VO.mv ?_
  refine VO.call 1 rfl fnOk55 rfl rfl (fun W hW => uNone0_ok_ W (hW.at (i := 1) rfl) h0) (fun v1 m1 hv1 => ?_)
  try dsimp only at hv1
  obtain ⟨rfl, w1_0⟩ := hv1
  refine VO.y rfl (.not rfl) ?_
  refine VO.as ?_
  refine VO.k2 0 2 ?_
  refine VC.ret ?_
  refine ⟨_, _, res_run (rs := [.tmp 2]) rfl (.tmp rfl .nil), fun W_ hI => out_of (l := [m1]) hI [1] rfl rfl (mle_refl _) (fun hS_ => ?_)⟩
  dsimp only [packV]
  have hm0_ : ((none, br_, l_) : DrunRuns0) = (none, br_, l_) := by first | rfl | (simp [*]; done)
  refine ⟨?_, ?_⟩
  rotate_left
  · rw [hm0_]; exact (Ow.up w1_0 (hS_.1 _ (.head _)))
  all_goals (first | rfl | (first | rfl | simp))
theorem sOpen0_ok_ (W : World) {l_ : List DRun} {br_ : Bool} {m0 : Mem} (hm : mle (m0) (wm W)) {g0 : Nat} (h0 : Ow (.ptr TrunRuns0) m0 [.pointer (some ⟨g0, 0, none⟩)] (g0, (none, br_, l_))) {v1 : Value} {d1 : List DCommit} (h1 : Rd (.sl TCommit) (mout (wm W) (m0)) [v1] d1) : CallR Tryz.prog 14 [.pointer (some ⟨g0, 0, none⟩), v1] W (m0) (fun v m' => v = .tuple #[.pointer none, .int .i64 (1)] ∧ Ow (.ptr TrunRuns0) m' [.pointer (some ⟨g0, 0, none⟩)] (g0, (none, br_, l_))) := by
  obtain ⟨A1, c1, rfl, l1, k1⟩ := h1.slice
  simp only [maxLen] at k1
  refine CallR.ofB (n := 37) hm Tryz.func14 rfl rfl rfl ?_
  refine VC.rs ?_
  refine VO.as ?_
  refine VO.as ?_
  refine VO.k4 0 1 4 5 ?_
  refine VC.seq ?_
  refine VC.rs ?_
  refine VO.mv ?_
  refine VO.call 1 rfl fnOk47 rfl rfl (fun W hW => uIs0_ok_ W (hW.at (i := 1) rfl) h0) (fun v1 m1 hv1 => ?_)
  try dsimp only at hv1
  obtain ⟨rfl, w1_0⟩ := hv1
  refine VO.y rfl (.notD rfl) ?_
  refine VO.k5 0 1 4 5 12 ?_
  refine VC.cond rfl (fun hc2 => ?_) (fun hc2 => ?_)
  · -- T
    refine VC.rs ?_
    refine VO.as ?_
    refine VO.as ?_
    refine VO.kp [1, 0] [(1, m1), (0, mout (wm W) (m0))] ?_
    refine VO.k5 0 1 4 5 12 ?_
    refine VC.ret ?_
    refine outR ?_
    refine ⟨_, _, res_run (rs := [.tmp 4, .tmp 5]) rfl (.tmp rfl (.tmp rfl .nil)), fun W_ hI => out_of (l := [m1]) hI [1] rfl rfl (mle_refl _) (fun hS_ => ?_)⟩
    dsimp only [packV]
    have hm0_ : ((none, br_, l_) : DrunRuns0) = (none, br_, l_) := by first | rfl | (simp [*]; done)
    refine ⟨?_, ?_⟩
    rotate_left
    · rw [hm0_]; exact (Ow.up w1_0 (hS_.1 _ (.head _)))
    all_goals (first | rfl | (simp [*]; done))
  · -- F
    exact absurd (fun q_ => q_) hc2
theorem fnOk15 : fnOk Tryz.prog 15 = true := by kernel_rfl
theorem tk23 : tk Tryz.prog 23 = some none := by kernel_rfl
theorem tsl41 : tsl Tryz.prog 41 = some (23, 1, 8) := by kernel_rfl
theorem tz23 : tz Tryz.prog 23 = some [.pointer none] := by kernel_rfl
set_option maxHeartbeats 8000000 in
theorem storeNil_ok (W : World) {v0 : List Value} {d0 : DCommit} (h0 : Rd TCommit (wm W) v0 d0) (d1 : Int) (h1 : inK .i64 d1) : CallR Tryz.prog 4 [.agg v0.toArray, .int .i64 d1] W (mnil) (fun v m' => v = .bool true) := by
  obtain ⟨p0_A2, p0_c2, rfl, p0_0, p0_1, p0_2⟩ := open_Commit (x0 := d0.1) (x1 := d0.2.1) (x2 := d0.2.2) h0
  simp only [inK] at p0_0
  simp only [inK] at p0_1
  have p0_r2 := Rd.room p0_2
  have h1' := h1; simp only [inK] at h1'
  refine CallR.ofA (n := 91) Tryz.func4 rfl rfl rfl ?_
  refine VC.rs ?_
  refine VO.box (cs := [Value.int .i64 (d0.1), Value.int .i64 (d0.2.1), Value.slice p0_A2 (d0.2.2.length) (p0_c2)]) 102 rfl rfl rfl (fun g1 => ?_)
  refine VO.as ?_
  refine VO.k4 0 1 2 4 ?_
  refine VC.rs ?_
  refine VO.y rfl (.bst (cs := [Value.pointer none, Value.pointer none, Value.slice none (0) (0)]) rfl tst40 tz40 rfl) ?_
  refine VO.box (cs := [Value.pointer none, Value.pointer none, Value.slice none (0) (0)]) 104 rfl rfl rfl (fun g3 => ?_)
  refine VO.bsl (cs := [Value.pointer none, Value.pointer (some ⟨g3, 0, none⟩)]) 106 rfl rfl tsl41 tz23 rfl rfl (fun g5 => ?_)
  refine VO.as ?_
  refine VO.k5 0 1 2 4 5 ?_
  refine VC.seq ?_
  refine VC.rs ?_
  refine VO.as ?_
  refine VO.kp [106, 104, 102, 0] [(106, mone g5 (.cells [Value.pointer none, Value.pointer (some ⟨g3, 0, none⟩)].toArray 23 (0, 0))), (104, mone g3 (.cells [Value.pointer none, Value.pointer none, Value.slice none (0) (0)].toArray 40 (0, 0))), (102, mone g1 (.cells [Value.int .i64 (d0.1), Value.int .i64 (d0.2.1), Value.slice p0_A2 (d0.2.2.length) (p0_c2)].toArray 36 (0, 0))), (0, wm W)] ?_
  refine VO.k6 0 1 2 4 5 6 ?_
  refine VC.block ?_
  refine VC.rounds 3 (VRounds.step ?_)
  refine VC.seq ?_
  refine VC.rs ?_
  refine VO.mv ?_
  refine VO.mv ?_
  refine VO.y rfl (.lenS rfl tsl41) ?_
  refine VO.y rfl (.lss rfl rfl) ?_
  refine VO.k7 0 1 2 4 5 6 17 ?_
  refine VC.cond rfl (fun hc7 => ?_) (fun hc7 => ?_)
  · -- RT
    refine VC.skip ?_
    refine outN ?_
    refine VC.seq ?_
    refine VC.block ?_
    refine VC.rs ?_
    refine VO.mv ?_
    refine VO.mv ?_
    refine VO.y rfl (.ixL (oo := 0) 0 rfl rfl tsl41 rfl (by decide) rfl) ?_
    refine VO.y rfl (.ld1 106 rfl tk23 rfl (cellsAt_one rfl rfl)) ?_
    refine VO.callN 109 rfl fnOk13 rfl (fun W hW => sGetN_ok_ W ([97]) bdm) (fun v9 m9 hv9 => ?_)
    subst hv9
    refine VO.mv ?_
    refine VO.y rfl (.ext rfl rfl) ?_
    refine VO.y rfl (.ext rfl rfl) ?_
    refine VO.as ?_
    refine VO.as ?_
    refine VO.k9 0 1 2 4 5 6 7 8 17 ?_
    refine VC.seq ?_
    refine VC.regT _ 42 48 [(0, true), (1, true), (2, true), (3, true), (4, true), (5, false), (6, true), (7, true), (8, true), (9, true), (10, true), (11, true), (12, true), (13, false), (14, true), (15, true), (16, true), (17, true), (18, true), (19, true), (20, true), (21, true), (22, true), (23, true), (24, true), (25, true), (26, true), (27, true), (28, false), (29, true), (30, true), (31, true), (32, true), (33, true), (34, true), (35, true), (36, false), (37, true), (38, true), (39, true), (40, true), (41, true)] [(29, 32, 0), (30, 64, 0), (31, 805306368, 3), (32, 1073741824, 4), (33, 4, 0), (34, 6442450944, 24), (35, 8589934592, 32), (36, 17179869184, 96), (37, 34359738400, 128), (38, 34359738432, 128), (39, 240518168576, 896), (40, 309237645312, 1152), (41, 34359738370, 128), (42, 1683627180032, 6272), (43, 2233382993920, 8320), (44, 4432406249472, 16512), (45, 8796093022208, 40960), (46, 17592186044544, 65536), (47, 52776558133248, 196608), (48, 87960930222080, 327680), (49, 140737488355328, 589824), (50, 281474976710912, 1048576), (51, 844424930131968, 3145728), (52, 1125899906842624, 5242880), (53, 2251799813685280, 8388608), (54, 2251799813685312, 8388608), (55, 15762598695796736, 58720256), (56, 20266198323167232, 75497472), (57, 38280596832649216, 142606336), (58, 74309393851613184, 276824064), (59, 146366987889541120, 545259520), (60, 288230376151711744, 1342177280), (61, 576460752303423520, 2147483648), (62, 576460752303423552, 2147483648), (63, 4035225266123964416, 15032385536), (64, 5188146770730811392, 19327352832), (65, 9799832789158199296, 36507222016), (66, 19023204826012975104, 70866960384), (67, 37469948899722526720, 139586437120), (68, 73786976294838206464, 343597383680), (69, 147573952589676412960, 549755813888), (70, 147573952589676412992, 549755813888), (71, 1033017668127734890496, 3848290697216), (72, 1328165573307087716352, 4947802324992), (73, 2508757194024499019776, 9345848836096), (74, 4869940435459321626624, 18141941858304), (75, 9592306918328966840320, 35734127902720), (76, 19037039884068257267712, 70918499991552)] follows (by kernel_rfl) (by kernel_rfl) (by kernel_rfl) (by kernel_rfl) (by kernel_rfl) (fun _ h => h.sub [109, 106, 104, 102, 0]) ?_
    refine VD.y rfl rfl (.inl rfl) (.mv rfl) ?_
    refine VD.y rfl rfl (.inl rfl) (.mv rfl) ?_
    refine VD.y rfl rfl (.inl rfl) (.ixL (oo := 0) 0 rfl rfl tsl41 rfl (by decide) rfl) ?_
    refine VD.y rfl rfl (.inl rfl) (.ld1 106 rfl tk23 rfl (cellsAt_one rfl rfl)) ?_
    refine VD.y rfl rfl (.inl rfl) (.ldA 102 rfl tk36 rfl (cellsAt_one rfl rfl)) ?_
    refine VD.callN 111 rfl rfl (.inl rfl) fnOk15 rfl (fun _ h => h.sub [109, 106, 104, 102, 0]) (fun W hW => sApplyN_ok_ W (Rd.mono h0 (hW.at (i := 0) rfl))) (fun v11 m11 hv11 => ?_)
    subst hv11
    refine VD.y rfl rfl (.inl rfl) (.neq rfl rfl) ?_
    refine VD.y rfl rfl (.inl rfl) (.mv rfl) ?_
    refine VD.dec (s := 35) rfl (fun hc12 => ?_) (fun hc12 => ?_)
    · -- RTT
      first | exact absurd hc12 (by decide) | exact absurd (by decide) hc12 | exact absurd rfl hc12
    · -- RTF
      refine VD.y rfl rfl (.inr ⟨_, _, rfl, _, rfl, rfl⟩) (.mv rfl) ?_
      refine VD.y rfl rfl (.inr ⟨_, _, rfl, _, rfl, rfl⟩) (.mv rfl) ?_
      refine VD.y rfl rfl (.inr ⟨_, _, rfl, _, rfl, rfl⟩) (.ixL (oo := 0) 0 rfl rfl tsl41 rfl (by decide) rfl) ?_
      refine VD.y rfl rfl (.inr ⟨_, _, rfl, _, rfl, rfl⟩) (.ld1 106 rfl tk23 rfl (cellsAt_one rfl rfl)) ?_
      refine VD.y rfl rfl (.inr ⟨_, _, rfl, _, rfl, rfl⟩) (.mv rfl) ?_
      refine VD.callN 114 rfl rfl (.inr ⟨_, _, rfl, _, rfl, rfl⟩) fnOk11 rfl (fun _ h => h.sub [109, 106, 104, 102, 0]) (fun W hW => sFlushN_ok_ W d1 bdk) (fun v14 m14 hv14 => ?_)
      subst hv14
      refine VD.y rfl rfl (.inr ⟨_, _, rfl, _, rfl, rfl⟩) (.neq rfl rfl) ?_
      refine VD.y rfl rfl (.inl rfl) (.pF rfl rfl) ?_
      refine VD.y rfl rfl (.inl rfl) (.mv rfl) ?_
      refine VD.known (t := 44) false rfl (decide_eq_false hc12) ?_
      refine VD.y rfl rfl (.inr ⟨_, _, rfl, _, rfl, rfl⟩) (.mv rfl) ?_
      refine VD.y rfl rfl (.inr ⟨_, _, rfl, _, rfl, rfl⟩) (.sneq rfl rfl) ?_
      refine VD.y rfl rfl (.inl rfl) (.pF rfl rfl) ?_
      refine VD.y rfl rfl (.inl rfl) (.mv rfl) ?_
      refine VD.dec (s := 48) rfl (fun hc15 => ?_) (fun hc15 => ?_)
      · -- RTFT
        first | exact absurd hc15 (by decide) | exact absurd (by decide) hc15 | exact absurd rfl hc15
      · -- RTFF
        refine VD.y rfl rfl (.inr ⟨_, _, rfl, _, rfl, rfl⟩) (.mv rfl) ?_
        refine VD.y rfl rfl (.inl rfl) (.pF rfl rfl) ?_
        refine VD.y rfl rfl (.inl rfl) (.mv rfl) ?_
        refine VD.decB (s := 51) rfl (fun hc16 => ?_) (fun hc16 => ?_)
        · -- RTFFT
          first | exact absurd hc16 (by decide) | exact absurd (by decide) hc16 | exact absurd rfl hc16
        · -- RTFFF
          refine VD.y rfl rfl (.inr ⟨_, _, rfl, _, rfl, rfl⟩) (.mv rfl) ?_
          refine VD.y rfl rfl (.inr ⟨_, _, rfl, _, rfl, rfl⟩) (.mv rfl) ?_
          refine VD.y rfl rfl (.inr ⟨_, _, rfl, _, rfl, rfl⟩) (.ixL (oo := 0) 0 rfl rfl tsl41 rfl (by decide) rfl) ?_
          refine VD.y rfl rfl (.inr ⟨_, _, rfl, _, rfl, rfl⟩) (.ld1 106 rfl tk23 rfl (cellsAt_one rfl rfl)) ?_
          refine VD.callN 118 rfl rfl (.inr ⟨_, _, rfl, _, rfl, rfl⟩) fnOk16 rfl (fun _ h => h.sub [109, 106, 104, 102, 0]) (fun W hW => sEndN_ok_ W ) (fun v18 m18 hv18 => ?_)
          subst hv18
          refine VD.y rfl rfl (.inr ⟨_, _, rfl, _, rfl, rfl⟩) (.neq rfl rfl) ?_
          refine VD.y rfl rfl (.inl rfl) (.pF rfl rfl) ?_
          refine VD.y rfl rfl (.inl rfl) (.mv rfl) ?_
          refine VD.dec (s := 59) rfl (fun hc19 => ?_) (fun hc19 => ?_)
          · -- RTFFFT
            first | exact absurd hc19 (by decide) | exact absurd (by decide) hc19 | exact absurd rfl hc19
          · -- RTFFFF
            refine VD.y rfl rfl (.inr ⟨_, _, rfl, _, rfl, rfl⟩) (.mv rfl) ?_
            refine VD.y rfl rfl (.inr ⟨_, _, rfl, _, rfl, rfl⟩) (.mv rfl) ?_
            refine VD.y rfl rfl (.inr ⟨_, _, rfl, _, rfl, rfl⟩) (.ixL (oo := 0) 0 rfl rfl tsl41 rfl (by decide) rfl) ?_
            refine VD.y rfl rfl (.inr ⟨_, _, rfl, _, rfl, rfl⟩) (.ld1 106 rfl tk23 rfl (cellsAt_one rfl rfl)) ?_
            refine VD.callN 121 rfl rfl (.inr ⟨_, _, rfl, _, rfl, rfl⟩) fnOk12 rfl (fun _ h => h.sub [109, 106, 104, 102, 0]) (fun W hW => sRestN_ok_ W ) (fun v21 m21 hv21 => ?_)
            subst hv21
            refine VD.y rfl rfl (.inr ⟨_, _, rfl, _, rfl, rfl⟩) (.neq rfl rfl) ?_
            refine VD.y rfl rfl (.inl rfl) (.pF rfl rfl) ?_
            refine VD.y rfl rfl (.inl rfl) (.mv rfl) ?_
            refine VD.known (t := 67) false rfl (decide_eq_false hc19) ?_
            refine VD.y rfl rfl (.inr ⟨_, _, rfl, _, rfl, rfl⟩) (.mv rfl) ?_
            refine VD.y rfl rfl (.inr ⟨_, _, rfl, _, rfl, rfl⟩) (.mv rfl) ?_
            refine VD.nil rfl ?_ rfl
            refine VO.gy rfl ⟨_, rfl, rfl⟩ (.ixL (oo := 0) 0 rfl rfl tsl41 rfl (by decide) rfl) ?_
            refine VO.gy rfl ⟨_, rfl, rfl⟩ (.ld1 106 rfl tk23 rfl (cellsAt_one rfl rfl)) ?_
            refine VO.gcallN 123 rfl ⟨_, rfl, rfl⟩ fnOk17 rfl (fun W hW => all14N_ok_ W 2 bdk) (fun v23 m23 hv23 => ?_)
            obtain ⟨s23_0, rfl, f23_0⟩ := hv23
            obtain ⟨A23_0, c23_0, eq23_0, l23_0, k23_0⟩ := f23_0.slice
            subst eq23_0
            simp only [maxLen] at k23_0
            refine VO.gy rfl ⟨_, rfl, rfl⟩ (.lenS rfl tsl34) ?_
            refine VO.gy rfl ⟨_, rfl, rfl⟩ (.neq rfl rfl) ?_
            refine VO.y rfl (.pF rfl rfl) ?_
            refine VO.kp [106, 104, 102, 0] [(106, mone g5 (.cells [Value.pointer none, Value.pointer (some ⟨g3, 0, none⟩)].toArray 23 (0, 0))), (104, mone g3 (.cells [Value.pointer none, Value.pointer none, Value.slice none (0) (0)].toArray 40 (0, 0))), (102, mone g1 (.cells [Value.int .i64 (d0.1), Value.int .i64 (d0.2.1), Value.slice p0_A2 (d0.2.2.length) (p0_c2)].toArray 36 (0, 0))), (0, wm W)] ?_
            refine VO.k10 0 1 2 4 5 6 7 8 17 75 ?_
            refine outN ?_
            refine VC.cond rfl (fun hc24 => ?_) (fun hc24 => ?_)
            · -- RTFFFFT
              first | exact absurd hc24 (by decide) | exact absurd (by decide) hc24 | exact absurd rfl hc24
            · -- RTFFFFF
              refine VC.skip ?_
              refine outBN ?_
              refine outN ?_
              refine VC.reg ?_
              refine VO.mv ?_
              refine VO.y rfl (.add (c := ((1 : Nat) : Int)) rfl rfl (by omega) ⟨bd, bd⟩) ?_
              refine VO.as ?_
              refine VO.k10 0 1 2 4 5 6 7 8 17 75 ?_
              refine outN (VRounds.step ?_)
              refine VC.seq ?_
              refine VC.rs ?_
              refine VO.mv ?_
              refine VO.mv ?_
              refine VO.y rfl (.lenS rfl tsl41) ?_
              refine VO.y rfl (.lss rfl rfl) ?_
              refine VO.k10 0 1 2 4 5 6 7 8 17 75 ?_
              refine VC.cond rfl (fun hc25 => ?_) (fun hc25 => ?_)
              · -- RTFFFFFRT
                refine VC.skip ?_
                refine outN ?_
                refine VC.seq ?_
                refine VC.block ?_
                refine VC.rs ?_
                refine VO.mv ?_
                refine VO.mv ?_
                refine VO.y rfl (.ixL (oo := 1) 1 rfl rfl tsl41 rfl (by decide) rfl) ?_
                refine VO.y rfl (.ld1 106 rfl tk23 rfl (cellsAt_one rfl rfl)) ?_
                refine VO.clsP 128 [104] rfl (fun hg28 => (mkP_storeStore0 none none [] (Seps.nilAt 1 hg28) (Ow.nil _ _))) (fun mc28 ho28 => ?_)
                refine VO.call 128 rfl fnOk13 rfl rfl (fun W hW => sGet0_ok_ W (hW.at (i := 128) rfl) ho28 ([97]) bdm) (fun v27 m27 hv27 => ?_)
                try dsimp only at hv27
                obtain ⟨rfl, w27_0⟩ := hv27
                refine VO.mv ?_
                refine VO.y rfl (.ext rfl rfl) ?_
                refine VO.y rfl (.ext rfl rfl) ?_
                refine VO.as ?_
                refine VO.as ?_
                refine VO.kp [128, 106, 102, 0] [(128, m27), (106, mone g5 (.cells [Value.pointer none, Value.pointer (some ⟨g3, 0, none⟩)].toArray 23 (0, 0))), (102, mone g1 (.cells [Value.int .i64 (d0.1), Value.int .i64 (d0.2.1), Value.slice p0_A2 (d0.2.2.length) (p0_c2)].toArray 36 (0, 0))), (0, wm W)] ?_
                refine VO.k10 0 1 2 4 5 6 7 8 17 75 ?_
                refine VC.seq ?_
                refine VC.regT _ 42 48 [(0, true), (1, true), (2, true), (3, true), (4, true), (5, false), (6, true), (7, true), (8, true), (9, true), (10, true), (11, true), (12, true), (13, false), (14, true), (15, true), (16, true), (17, true), (18, true), (19, true), (20, true), (21, true), (22, true), (23, true), (24, true), (25, true), (26, true), (27, true), (28, false), (29, true), (30, true), (31, true), (32, true), (33, true), (34, true), (35, true), (36, false), (37, true), (38, true), (39, true), (40, true), (41, true)] [(29, 32, 0), (30, 64, 0), (31, 805306368, 3), (32, 1073741824, 4), (33, 4, 0), (34, 6442450944, 24), (35, 8589934592, 32), (36, 17179869184, 96), (37, 34359738400, 128), (38, 34359738432, 128), (39, 240518168576, 896), (40, 309237645312, 1152), (41, 34359738370, 128), (42, 1683627180032, 6272), (43, 2233382993920, 8320), (44, 4432406249472, 16512), (45, 8796093022208, 40960), (46, 17592186044544, 65536), (47, 52776558133248, 196608), (48, 87960930222080, 327680), (49, 140737488355328, 589824), (50, 281474976710912, 1048576), (51, 844424930131968, 3145728), (52, 1125899906842624, 5242880), (53, 2251799813685280, 8388608), (54, 2251799813685312, 8388608), (55, 15762598695796736, 58720256), (56, 20266198323167232, 75497472), (57, 38280596832649216, 142606336), (58, 74309393851613184, 276824064), (59, 146366987889541120, 545259520), (60, 288230376151711744, 1342177280), (61, 576460752303423520, 2147483648), (62, 576460752303423552, 2147483648), (63, 4035225266123964416, 15032385536), (64, 5188146770730811392, 19327352832), (65, 9799832789158199296, 36507222016), (66, 19023204826012975104, 70866960384), (67, 37469948899722526720, 139586437120), (68, 73786976294838206464, 343597383680), (69, 147573952589676412960, 549755813888), (70, 147573952589676412992, 549755813888), (71, 1033017668127734890496, 3848290697216), (72, 1328165573307087716352, 4947802324992), (73, 2508757194024499019776, 9345848836096), (74, 4869940435459321626624, 18141941858304), (75, 9592306918328966840320, 35734127902720), (76, 19037039884068257267712, 70918499991552)] follows (by kernel_rfl) (by kernel_rfl) (by kernel_rfl) (by kernel_rfl) (by kernel_rfl) (fun _ h => h.sub [106, 102, 0]) ?_
                refine VD.y rfl rfl (.inl rfl) (.mv rfl) ?_
                refine VD.y rfl rfl (.inl rfl) (.mv rfl) ?_
                refine VD.y rfl rfl (.inl rfl) (.ixL (oo := 1) 1 rfl rfl tsl41 rfl (by decide) rfl) ?_
                refine VD.y rfl rfl (.inl rfl) (.ld1 106 rfl tk23 rfl (cellsAt_one rfl rfl)) ?_
                refine VD.y rfl rfl (.inl rfl) (.ldA 102 rfl tk36 rfl (cellsAt_one rfl rfl)) ?_
                refine VD.call 128 rfl rfl (.inl rfl) fnOk15 rfl rfl (fun _ _ h => h.sub [106, 102, 0]) (fun W hW => sApply0_ok_ W (hW.at (i := 128) rfl) w27_0 (Rd.mono h0 (hW.out (i := 128) (j := 0) rfl rfl))) (fun v30 m30 hv30 => ?_)
                try dsimp only at hv30
                obtain ⟨rfl, w30_0⟩ := hv30
                refine VD.y rfl rfl (.inl rfl) (.neq rfl rfl) ?_
                refine VD.y rfl rfl (.inl rfl) (.mv rfl) ?_
                refine VD.known (t := 35) false rfl (decide_eq_false hc12) ?_
                refine VD.y rfl rfl (.inr ⟨_, _, rfl, _, rfl, rfl⟩) (.mv rfl) ?_
                refine VD.y rfl rfl (.inr ⟨_, _, rfl, _, rfl, rfl⟩) (.mv rfl) ?_
                refine VD.y rfl rfl (.inr ⟨_, _, rfl, _, rfl, rfl⟩) (.ixL (oo := 1) 1 rfl rfl tsl41 rfl (by decide) rfl) ?_
                refine VD.y rfl rfl (.inr ⟨_, _, rfl, _, rfl, rfl⟩) (.ld1 106 rfl tk23 rfl (cellsAt_one rfl rfl)) ?_
                refine VD.y rfl rfl (.inr ⟨_, _, rfl, _, rfl, rfl⟩) (.mv rfl) ?_
                refine VD.call 128 rfl rfl (.inr ⟨_, _, rfl, _, rfl, rfl⟩) fnOk11 rfl rfl (fun _ _ h => h.sub [106, 102, 0]) (fun W hW => sFlush0_ok_ W (hW.at (i := 128) rfl) w30_0 d1 bdk) (fun v32 m32 hv32 => ?_)
                try dsimp only at hv32
                obtain ⟨rfl, w32_0⟩ := hv32
                refine VD.y rfl rfl (.inr ⟨_, _, rfl, _, rfl, rfl⟩) (.neq rfl rfl) ?_
                refine VD.y rfl rfl (.inl rfl) (.pF rfl rfl) ?_
                refine VD.y rfl rfl (.inl rfl) (.mv rfl) ?_
                refine VD.known (t := 44) false rfl (decide_eq_false hc12) ?_
                refine VD.y rfl rfl (.inr ⟨_, _, rfl, _, rfl, rfl⟩) (.mv rfl) ?_
                refine VD.y rfl rfl (.inr ⟨_, _, rfl, _, rfl, rfl⟩) (.sneq rfl rfl) ?_
                refine VD.y rfl rfl (.inl rfl) (.pF rfl rfl) ?_
                refine VD.y rfl rfl (.inl rfl) (.mv rfl) ?_
                refine VD.known (t := 48) false rfl (decide_eq_false hc15) ?_
                refine VD.y rfl rfl (.inr ⟨_, _, rfl, _, rfl, rfl⟩) (.mv rfl) ?_
                refine VD.y rfl rfl (.inl rfl) (.pF rfl rfl) ?_
                refine VD.y rfl rfl (.inl rfl) (.mv rfl) ?_
                refine VD.known (t := 51) false rfl hc16 ?_
                refine VD.y rfl rfl (.inr ⟨_, _, rfl, _, rfl, rfl⟩) (.mv rfl) ?_
                refine VD.y rfl rfl (.inr ⟨_, _, rfl, _, rfl, rfl⟩) (.mv rfl) ?_
                refine VD.y rfl rfl (.inr ⟨_, _, rfl, _, rfl, rfl⟩) (.ixL (oo := 1) 1 rfl rfl tsl41 rfl (by decide) rfl) ?_
                refine VD.y rfl rfl (.inr ⟨_, _, rfl, _, rfl, rfl⟩) (.ld1 106 rfl tk23 rfl (cellsAt_one rfl rfl)) ?_
                refine VD.call 128 rfl rfl (.inr ⟨_, _, rfl, _, rfl, rfl⟩) fnOk16 rfl rfl (fun _ _ h => h.sub [106, 102, 0]) (fun W hW => sEnd0_ok_ W (hW.at (i := 128) rfl) w32_0) (fun v34 m34 hv34 => ?_)
                try dsimp only at hv34
                obtain ⟨rfl, w34_0⟩ := hv34
                refine VD.y rfl rfl (.inr ⟨_, _, rfl, _, rfl, rfl⟩) (.neq rfl rfl) ?_
                refine VD.y rfl rfl (.inl rfl) (.pF rfl rfl) ?_
                refine VD.y rfl rfl (.inl rfl) (.mv rfl) ?_
                refine VD.known (t := 59) false rfl (decide_eq_false hc19) ?_
                refine VD.y rfl rfl (.inr ⟨_, _, rfl, _, rfl, rfl⟩) (.mv rfl) ?_
                refine VD.y rfl rfl (.inr ⟨_, _, rfl, _, rfl, rfl⟩) (.mv rfl) ?_
                refine VD.y rfl rfl (.inr ⟨_, _, rfl, _, rfl, rfl⟩) (.ixL (oo := 1) 1 rfl rfl tsl41 rfl (by decide) rfl) ?_
                refine VD.y rfl rfl (.inr ⟨_, _, rfl, _, rfl, rfl⟩) (.ld1 106 rfl tk23 rfl (cellsAt_one rfl rfl)) ?_
                refine VD.call 128 rfl rfl (.inr ⟨_, _, rfl, _, rfl, rfl⟩) fnOk12 rfl rfl (fun _ _ h => h.sub [106, 102, 0]) (fun W hW => sRest0_ok_ W (hW.at (i := 128) rfl) w34_0) (fun v36 m36 hv36 => ?_)
                try dsimp only at hv36
                obtain ⟨rfl, w36_0⟩ := hv36
                refine VD.y rfl rfl (.inr ⟨_, _, rfl, _, rfl, rfl⟩) (.neq rfl rfl) ?_
                refine VD.y rfl rfl (.inl rfl) (.pF rfl rfl) ?_
                refine VD.y rfl rfl (.inl rfl) (.mv rfl) ?_
                refine VD.known (t := 67) false rfl (decide_eq_false hc19) ?_
                refine VD.y rfl rfl (.inr ⟨_, _, rfl, _, rfl, rfl⟩) (.mv rfl) ?_
                refine VD.y rfl rfl (.inr ⟨_, _, rfl, _, rfl, rfl⟩) (.mv rfl) ?_
                refine VD.nil rfl ?_ rfl
                refine VO.gy rfl ⟨_, rfl, rfl⟩ (.ixL (oo := 1) 1 rfl rfl tsl41 rfl (by decide) rfl) ?_
                refine VO.gy rfl ⟨_, rfl, rfl⟩ (.ld1 106 rfl tk23 rfl (cellsAt_one rfl rfl)) ?_
                refine VO.gcall 128 rfl ⟨_, rfl, rfl⟩ fnOk17 rfl rfl (fun W hW => all140_ok_ W (hW.at (i := 128) rfl) w36_0 2 bdk) (fun v38 m38 hv38 => ?_)
                try dsimp only at hv38
                obtain ⟨s38_0, p38_0, p38_1, rfl, hS38, f38_0, w38_0⟩ := hv38
                refine VO.inv _ (fun _ h => h.parts (i := 128) rfl hS38 [139, 140]) ?_
                obtain ⟨A38_0, c38_0, eq38_0, l38_0, k38_0⟩ := f38_0.slice
                subst eq38_0
                simp only [maxLen] at k38_0
                refine VO.gy rfl ⟨_, rfl, rfl⟩ (.lenS rfl tsl34) ?_
                refine VO.gy rfl ⟨_, rfl, rfl⟩ (.neq rfl rfl) ?_
                refine VO.y rfl (.pF rfl rfl) ?_
                refine VO.k10 0 1 2 4 5 6 7 8 17 75 ?_
                refine outN ?_
                refine VC.condKF rfl (decide_eq_false hc24) ?_
                refine VC.skip ?_
                refine outBN ?_
                refine outN ?_
                refine VC.reg ?_
                refine VO.mv ?_
                refine VO.y rfl (.add (c := ((2 : Nat) : Int)) rfl rfl (by omega) ⟨bd, bd⟩) ?_
                refine VO.as ?_
                refine VO.k10 0 1 2 4 5 6 7 8 17 75 ?_
                refine outN (VRounds.step ?_)
                refine VC.seq ?_
                refine VC.rs ?_
                refine VO.mv ?_
                refine VO.mv ?_
                refine VO.y rfl (.lenS rfl tsl41) ?_
                refine VO.y rfl (.lss rfl rfl) ?_
                refine VO.kp [140, 106, 102, 0] [(140, p38_1), (106, mone g5 (.cells [Value.pointer none, Value.pointer (some ⟨g3, 0, none⟩)].toArray 23 (0, 0))), (102, mone g1 (.cells [Value.int .i64 (d0.1), Value.int .i64 (d0.2.1), Value.slice p0_A2 (d0.2.2.length) (p0_c2)].toArray 36 (0, 0))), (0, wm W)] ?_
                refine VO.k10 0 1 2 4 5 6 7 8 17 75 ?_
                refine VC.cond rfl (fun hc41 => ?_) (fun hc41 => ?_)
                · -- RTFFFFFRTRT
                  exact absurd hc41 (by decide)
                · -- RTFFFFFRTRF
                  refine VC.exit ?_
                  refine outE ?_
                  refine outE ?_
                  refine outBB ?_
                  refine outN ?_
                  refine VC.rs ?_
                  refine VO.y rfl (.bst (cs := [Value.pointer none, Value.bool false, Value.slice none (0) (0)]) rfl tst47 tz47 rfl) ?_
                  refine VO.box (cs := [Value.pointer none, Value.bool false, Value.slice none (0) (0)]) 143 rfl rfl rfl (fun g42 => ?_)
                  refine VO.clsP 145 [143] rfl (fun hg45 => (mkP_runRuns0 none false [] (Seps.nilAt 1 hg45) (Ow.nil _ _))) (fun mc45 ho45 => ?_)
                  refine VO.call 145 rfl fnOk14 rfl rfl (fun W hW => sOpen0_ok_ W (hW.at (i := 145) rfl) ho45 (Rd.nil _ _ none 0 (Nat.zero_le _))) (fun v44 m44 hv44 => ?_)
                  try dsimp only at hv44
                  obtain ⟨rfl, w44_0⟩ := hv44
                  refine VO.mv ?_
                  refine VO.y rfl (.ext rfl rfl) ?_
                  refine VO.y rfl (.ext rfl rfl) ?_
                  refine VO.as ?_
                  refine VO.as ?_
                  refine VO.k12 0 1 2 4 5 6 7 8 9 10 17 75 ?_
                  refine VC.rs ?_
                  refine VO.callN 146 rfl fnOk8 rfl (fun W hW => lives14_ok W ) (fun v46 m46 hv46 => ?_)
                  subst hv46
                  refine VO.mv ?_
                  refine VO.gy rfl ⟨_, rfl, rfl⟩ (.mv rfl) ?_
                  refine VO.gy rfl ⟨_, rfl, rfl⟩ (.pnil rfl rfl Tryz.underlying23 rfl) ?_
                  refine VO.y rfl (.pT rfl rfl) ?_
                  refine VO.mv ?_
                  refine VO.gy rfl ⟨_, rfl, rfl⟩ (.mv rfl) ?_
                  refine VO.gy rfl ⟨_, rfl, rfl⟩ (.eql rfl rfl) ?_
                  refine VO.y rfl (.pT rfl rfl) ?_
                  refine VO.as ?_
                  refine VO.k12 0 1 2 4 5 6 7 8 9 10 17 75 ?_
                  refine VC.ret ?_
                  refine ⟨_, _, res_run (rs := [.tmp 4]) rfl (.tmp rfl .nil), fun W_ hI => out_of (l := []) hI [] rfl rfl (mle_refl _) (fun hS_ => ?_)⟩
                  dsimp only [packV]
                  all_goals (first | rfl | (first | rfl))
              · -- RTFFFFFRF
                first | exact absurd hc25 (by decide) | exact absurd (by decide) hc25 | exact absurd rfl hc25
  · -- RF
    first | exact absurd hc7 (by decide) | exact absurd (by decide) hc7 | exact absurd rfl hc7
section
open Go.ChangeShapes Go.WideShapes Go.ChangeAt Go.RowKit
theorem storeNil_ok0 : tyOk Tryz.prog 60 TCommit (.inl 36) = true := by kernel_rfl
set_option maxRecDepth 100000 in
theorem storeNil_lifted (os : Os) (started : os.Started) (H : Type) (enc : TypeId × Value → H) :
    ReturnsInHanded {} Tryz.checked os 4 .any (Rows.storeNilSpec.pre6 enc Tryz.prog Tryz.f4 Rows.storeNilRow.domain false) (Rows.storeNilSpec.post enc Tryz.prog Tryz.f4 false true false false) := by
  refine returnsInHanded_of_change (C := Tryz.checked) (by kernel_rfl) started (by kernel_rfl) Tryz.func4
    (ChangeSpec.witness6 (enc := enc) (C := Tryz.checked) false ⟨#[], #[.agg #[.int .i64 0, .int .i64 0, .slice none 0 0], .int .i64 0], []⟩ 8 (by kernel_rfl) (by kernel_rfl) (by kernel_rfl) (by kernel_rfl)) ?_
  intro W base args ds gs before hval0 hW hcnd _
  have hval : ∀ (j : Nat) t v, Tryz.f4.params[j]? = some t → args[j]? = some v → Value.okWide Tryz.prog W .any base t v := hval0
  have hW' := hW
  obtain ⟨p, q, hA0, hV, rfl, hfz, hnd⟩ := hW
  have hA : DataW.TrodAll enc Tryz.prog W 0 (fun _ => true) true Tryz.f4.params.toList args.toList ds p := hA0
  rw [Tryz.params4] at hA hval
  clear hA0 hval0
  obtain ⟨args⟩ := args
  obtain ⟨v0, r0, d0, e0, p0, q0, ha0, rfl, rfl, h0, hA0⟩ := trodAll_cons hA
  simp only at ha0; subst ha0
  obtain ⟨v1, r1, d1, e1, p1, q1, ha1, rfl, rfl, h1, hA1⟩ := trodAll_cons hA0
  subst ha1
  obtain ⟨rfl, rfl, rfl⟩ := trodAll_nil hA1
  obtain ⟨c0, x0, rfl, hx0⟩ := arg_st 60 storeNil_ok0 Tryz.underlying36 (hval 0 36 v0 rfl rfl) h0
  obtain ⟨x1, rfl, hx1⟩ := arg_int Tryz.underlying3 (hval 1 3 v1 rfl rfl) h1
  refine (calls_of (storeNil_ok W hx0 x1 hx1)).mono fun e W' ⟨he, hg⟩ => ?_
  subst he
  exact ⟨_, rfl, law_post hW' hg laidOut_ok (by kernel_rfl) rfl Tryz.underlying4 rfl rfl rfl rfl⟩
theorem storeNil_joined : joinedFacts Tryz.prog 4 Tryz.f4 Rows.storeNilSpec Rows.storeNilRow = true := by
  unfold joinedFacts
  rw [laidOut_ok, mapsRowed_ok, stopsHeard_ok, mayEnter_ok, lifts_ok, make_ok]
  kernel_rfl
theorem storeNil_proved : Rows.StoreNilSaid :=
  OpenClaim.holds_of_wide 4 Tryz.f4 rfl rfl rfl rfl rfl rfl rfl ⟨rfl, rfl, rfl, rfl, rfl⟩ rfl rfl rfl rfl rfl (by kernel_rfl) Tryz.func4 storeNil_joined
    (of_decide_eq_true (by kernel_rfl)) (by unfold Func.isWrapper; first | (rw [if_pos (by decide +kernel)]; kernel_rfl) | (rw [if_neg (by decide +kernel)]; exact ⟨rfl, rfl⟩))
    (fun os started H enc _ => storeNil_lifted os started H enc)
#print axioms storeNil_proved
end
end Go.Proofs.YtonbpfncmlijnaaGreat
