/- Part 3 of the proof of LTakeCalls: what it needs of the library, the walks and the plain laws. Conditions: those named in each theorem. -/
import Derived.Test.YtfaknkkaegjdaaaLTakeCallsM2
namespace Go.Proofs.Ytfaknkkaegjdaaa
section
set_option linter.unusedVariables false
set_option linter.unusedSimpArgs false
set_option maxRecDepth 4000
theorem fnOk61 : fnOk Try.prog 61 = true := by kernel_rfl
theorem c4Check_ok (W : World) {v0 : List Value} {d0 : DCommit} (h0 : Rd TCommit (wm W) v0 d0) : CallR Try.prog 61 [.agg v0.toArray] W (mnil) (fun v m' => v = .int .i64 (cCheck d0)) := by
 obtain ⟨p0_A2, p0_c2, rfl, p0_0, p0_1, p0_2⟩ := open_Commit (x0 := d0.1) (x1 := d0.2.1) (x2 := d0.2.2) h0
 simp only [inK] at p0_0 p0_1
 have p0_r2 := Rd.room p0_2
 refine CallR.ofA (n := 24) Try.func61 rfl rfl rfl ?_
 refine VC.rs ?_
 refine VO.box (cs := [.int .i64 (d0.1), .int .i64 (d0.2.1), .slice p0_A2 (d0.2.2.length) (p0_c2)]) 102 rfl rfl rfl (fun g1 => ?_)
 refine VO.as (VO.k3 0 1 2 (VC.seq (VC.rs (VO.y rfl (.fa rfl tst52 rfl) (VO.y rfl (.ld1 102 rfl tk3 rfl (cellsAt_one rfl rfl)) (VO.y rfl (.lss rfl rfl) (VO.mv ?_)))))))
 refine VO.dec (t := 6) rfl (fun hc3 => ?_) (fun hc3 => ?_)
 · refine VO.gN (VO.gN (VO.gN (VO.y rfl (.pT rfl rfl) (VO.mv (VO.gN (VO.gN (VO.gN (VO.y rfl (.pT rfl rfl) (VO.mv (VO.gN (VO.gN ?_)))))))))))
   refine VO.gN (VO.y rfl (.pT rfl rfl) (VO.k4 0 1 2 20 (VC.condT rfl (VC.rs (VO.as ?_)))))
   refine VO.kp [102, 0] [(102, mone g1 (.cells #[.int .i64 (d0.1), .int .i64 (d0.2.1), .slice p0_A2 (d0.2.2.length) (p0_c2)] 52 (0, 0))), (0, wm W)] ?_
   refine VO.k4 0 1 2 20 (VC.ret (outR ?_))
   refine ⟨_, _, res_run (rs := [.tmp 2]) rfl (.tmp rfl .nil), fun W_ hI => out_of (l := []) hI [] rfl rfl (mle_refl _) (fun hS_ => ?_)⟩
   dsimp only [packV]
   all_goals (first | rfl | (unfold cCheck; congr 1; split <;> (try split) <;> first | rfl | omega))
 refine VO.gy rfl ⟨_, rfl, rfl⟩ (.fa rfl tst52 rfl) ?_
 refine VO.gy rfl ⟨_, rfl, rfl⟩ (.ld1 102 rfl tk3 rfl (cellsAt_one rfl rfl)) ?_
 refine VO.gy rfl ⟨_, rfl, rfl⟩ (.gtr rfl rfl) (VO.y rfl (.pF rfl rfl) (VO.mv ?_))
 refine VO.dec (t := 11) rfl (fun hc4 => ?_) (fun hc4 => ?_)
 · refine VO.gN (VO.gN (VO.gN (VO.y rfl (.pT rfl rfl) (VO.mv (VO.gN (VO.gN (VO.gN (VO.y rfl (.pT rfl rfl) (VO.k4 0 1 2 20 (VC.condT rfl (VC.rs ?_)))))))))))
   refine VO.as ?_
   refine VO.kp [102, 0] [(102, mone g1 (.cells #[.int .i64 (d0.1), .int .i64 (d0.2.1), .slice p0_A2 (d0.2.2.length) (p0_c2)] 52 (0, 0))), (0, wm W)] ?_
   refine VO.k4 0 1 2 20 (VC.ret (outR ?_))
   refine ⟨_, _, res_run (rs := [.tmp 2]) rfl (.tmp rfl .nil), fun W_ hI => out_of (l := []) hI [] rfl rfl (mle_refl _) (fun hS_ => ?_)⟩
   dsimp only [packV]
   all_goals (first | rfl | (unfold cCheck; congr 1; split <;> (try split) <;> first | rfl | omega))
 refine VO.gy rfl ⟨_, rfl, rfl⟩ (.fa rfl tst52 rfl) ?_
 refine VO.gy rfl ⟨_, rfl, rfl⟩ (.ld1 102 rfl tk3 rfl (cellsAt_one rfl rfl)) ?_
 refine VO.gy rfl ⟨_, rfl, rfl⟩ (.lss rfl rfl) (VO.y rfl (.pF rfl rfl) (VO.mv ?_))
 refine VO.dec (t := 16) rfl (fun hc5 => ?_) (fun hc5 => ?_)
 · refine VO.gN (VO.gN (VO.gN (VO.y rfl (.pT rfl rfl) (VO.k4 0 1 2 20 (VC.condT rfl (VC.rs (VO.as ?_)))))))
   refine VO.kp [102, 0] [(102, mone g1 (.cells #[.int .i64 (d0.1), .int .i64 (d0.2.1), .slice p0_A2 (d0.2.2.length) (p0_c2)] 52 (0, 0))), (0, wm W)] ?_
   refine VO.k4 0 1 2 20 (VC.ret (outR ?_))
   refine ⟨_, _, res_run (rs := [.tmp 2]) rfl (.tmp rfl .nil), fun W_ hI => out_of (l := []) hI [] rfl rfl (mle_refl _) (fun hS_ => ?_)⟩
   dsimp only [packV]
   all_goals (first | rfl | (unfold cCheck; congr 1; split <;> (try split) <;> first | rfl | omega))
 refine VO.gy rfl ⟨_, rfl, rfl⟩ (.fa rfl tst52 rfl) ?_
 refine VO.gy rfl ⟨_, rfl, rfl⟩ (.ld1 102 rfl tk3 rfl (cellsAt_one rfl rfl)) ?_
 refine VO.gy rfl ⟨_, rfl, rfl⟩ (.gtr rfl rfl) (VO.y rfl (.pF rfl rfl) (VO.k4 0 1 2 20 ?_))
 refine VC.cond rfl (fun hc6 => ?_) (fun hc6 => ?_)
 · refine VC.rs (VO.as ?_)
   refine VO.kp [102, 0] [(102, mone g1 (.cells #[.int .i64 (d0.1), .int .i64 (d0.2.1), .slice p0_A2 (d0.2.2.length) (p0_c2)] 52 (0, 0))), (0, wm W)] ?_
   refine VO.k4 0 1 2 20 (VC.ret (outR ?_))
   refine ⟨_, _, res_run (rs := [.tmp 2]) rfl (.tmp rfl .nil), fun W_ hI => out_of (l := []) hI [] rfl rfl (mle_refl _) (fun hS_ => ?_)⟩
   dsimp only [packV]
   all_goals (first | rfl | (unfold cCheck; congr 1; split <;> (try split) <;> first | rfl | omega))
 · refine VC.skip (outN (VC.rs (VO.y rfl (.fa rfl tst52 rfl) (VO.y rfl (.ld1 102 rfl tk22 rfl (cellsAt_one rfl rfl)) ?_))))
   refine VO.callN 107 rfl fnOk32 rfl (fun W hW => rbCheck_ok W (Rd.mono p0_2 (hW.at (i := 0) rfl))) (fun v7 m7 hv7 => ?_)
   subst hv7
   have hfa8 := batchCheck_range d0.2.2
   refine VO.as ?_
   refine VO.kp [102, 0] [(102, mone g1 (.cells #[.int .i64 (d0.1), .int .i64 (d0.2.1), .slice p0_A2 (d0.2.2.length) (p0_c2)] 52 (0, 0))), (0, wm W)] ?_
   refine VO.k4 0 1 2 20 (VC.ret ?_)
   refine ⟨_, _, res_run (rs := [.tmp 2]) rfl (.tmp rfl .nil), fun W_ hI => out_of (l := []) hI [] rfl rfl (mle_refl _) (fun hS_ => ?_)⟩
   dsimp only [packV]
   all_goals (first | rfl | (unfold cCheck; congr 1; split <;> (try split) <;> first | rfl | omega))
end
section
set_option linter.unusedVariables false
abbrev TLCommit : Ty := .pair (.int .i64) (.pair (.int .i64) (.spl TOp))
abbrev DLCommit := Int × Int × (List DOp × List DOp)
theorem open_LCommit {m : Mem} {cs : List Value} {x0 : Int} {x1 : Int} {x2 : List DOp × List DOp} (h : Rd TLCommit m cs (x0, x1, x2)) : ∃ (A2 : Option Addr), ∃ (c2 : Nat), cs = [(.int .i64 x0 : Value), .int .i64 x1, .slice A2 x2.1.length c2] ∧ inK .i64 x0 ∧ inK .i64 x1 ∧ Rd (.spl TOp) m [.slice A2 x2.1.length c2] x2 := by
  obtain ⟨p1, q1, rfl, u1, w1⟩ := Rd.pair h
  obtain ⟨rfl, z2⟩ := (show _ = _ ∧ _ from u1)
  obtain ⟨p3, q3, rfl, u3, w3⟩ := Rd.pair w1
  obtain ⟨rfl, z4⟩ := (show _ = _ ∧ _ from u3)
  have z5 := w3
  obtain ⟨A5, c5, rfl, _⟩ := Rd.spl1 w3
  exact ⟨A5, c5, rfl, z2, z4, z5⟩
theorem openO_LCommit {m : Mem} {cs : List Value} {x0 : Int} {x1 : Int} {x2 : List DOp × List DOp} (h : Ow TLCommit m cs (x0, x1, x2)) : ∃ (A2 : Option Addr), ∃ (c2 : Nat), ∃ (n2 : Mem), cs = [(.int .i64 x0 : Value), .int .i64 x1, .slice A2 x2.1.length c2] ∧ Seps m [n2] ∧ inK .i64 x0 ∧ inK .i64 x1 ∧ Ow (.spl TOp) n2 [.slice A2 x2.1.length c2] x2 := by
  obtain ⟨p1, q1, ma1, mb1, rfl, dj1, la1, lb1, u1, w1⟩ := Ow.pair h
  obtain ⟨rfl, z2⟩ := (show _ = _ ∧ _ from u1)
  obtain ⟨p3, q3, ma3, mb3, rfl, dj3, la3, lb3, u3, w3⟩ := Ow.pair w1
  obtain ⟨rfl, z4⟩ := (show _ = _ ∧ _ from u3)
  have z5 := w3
  obtain ⟨A5, c5, rfl, _⟩ := Ow.spl1 w3
  exact ⟨A5, c5, _, rfl, (Seps.app dj1 la1 lb1 (Seps.nil _) (Seps.app dj3 la3 lb3 (Seps.nil _) (Seps.one (mle_refl _)))), z2, z4, z5⟩
theorem mkO_LCommit {m : Mem} {n2 : Mem} (x0 : Int) (x1 : Int) (x2 : List DOp × List DOp) (hS : Seps m [n2]) (h0 : inK .i64 x0) (h1 : inK .i64 x1) {v2 : Value} (h2 : Ow (.spl TOp) n2 [v2] x2) : Ow TLCommit m [.int .i64 x0, .int .i64 x1, v2] (x0, x1, x2) := by
  obtain ⟨e1, la1, lb1, Sa1, Sb1⟩ := Seps.cut (l := []) (r := [n2]) hS
  obtain ⟨e2, la2, lb2, Sa2, Sb2⟩ := Seps.cut (l := []) (r := [n2]) Sb1
  exact (Ow.mkPair (c1 := [_]) e1 la1 lb1 (show Ow (.int .i64) _ [_] _ from ⟨rfl, h0⟩) (Ow.mkPair (c1 := [_]) e2 la2 lb2 (show Ow (.int .i64) _ [_] _ from ⟨rfl, h1⟩) (h2.up (Sb2.1 _ (.head _)))))
abbrev THC : Ty := .pair (.int .i64) (.pair (.int .i64) .hdr)
abbrev DHC := Int × Int × Hd
instance decHC : DecidableEq DHC := (@instDecidableEqProd _ _ inferInstance (@instDecidableEqProd _ _ inferInstance inferInstance))
theorem open_HC {m : Mem} {cs : List Value} {x0 : Int} {x1 : Int} {x2 : Hd} (h : Rd THC m cs (x0, x1, x2)) : cs = [(.int .i64 x0 : Value), .int .i64 x1, .slice x2.1 x2.2.1 x2.2.2] ∧ inK .i64 x0 ∧ inK .i64 x1 := by
  obtain ⟨p1, q1, rfl, u1, w1⟩ := Rd.pair h
  obtain ⟨rfl, z2⟩ := (show _ = _ ∧ _ from u1)
  obtain ⟨p3, q3, rfl, u3, w3⟩ := Rd.pair w1
  obtain ⟨rfl, z4⟩ := (show _ = _ ∧ _ from u3)
  obtain rfl := (show _ = _ from w3)
  exact ⟨rfl, z2, z4⟩
theorem mk_HC {m : Mem} (x0 : Int) (x1 : Int) (x2 : Hd) (h0 : inK .i64 x0) (h1 : inK .i64 x1) : Rd THC m [.int .i64 x0, .int .i64 x1, .slice x2.1 x2.2.1 x2.2.2] (x0, x1, x2) := (Rd.mkPair (c1 := [_]) (show Rd (.int .i64) m [_] _ from ⟨rfl, h0⟩) (Rd.mkPair (c1 := [_]) (show Rd (.int .i64) m [_] _ from ⟨rfl, h1⟩) (show Rd .hdr m [_] _ from rfl)))
end
section
set_option linter.unusedVariables false
def lentC (c : DCommit) : DLCommit := (c.1, c.2.1, c.2.2, spareO)
def spareC : List DLCommit := [(-7, 0, [], []), (-7, 0, [], []), (-7, 0, [], [])]
def fgC (c : DLCommit) : DCommit := (c.1, c.2.1, c.2.2.1)
theorem fg_lent (l : List DCommit) : (l.map lentC).map fgC = l := by
  rw [List.map_map]; exact List.map_id l
theorem lent_take (l : List DCommit) : ((l.map lentC ++ spareC).take l.length) = l.map lentC := by
  rw [List.take_append_of_le_length (by simp), List.take_of_length_le (by simp)]
theorem lent_fg (l : List DCommit) : ((l.map lentC ++ spareC).take l.length).map fgC = l := by rw [lent_take, fg_lent]
theorem fgC_rd1 {m : Mem} {c : List Value} {x : DLCommit} (h : Rd TLCommit m c x) : Rd TCommit m c (fgC x) := by
  obtain ⟨A, k, rfl, z0, z1, z2⟩ := open_LCommit (x0 := x.1) (x1 := x.2.1) (x2 := x.2.2) h
  exact mk_Commit (m := m) _ _ _ z0 z1 (Rd.pre2 (Rd.full z2).2)
theorem fgC_ow1 {m : Mem} {c : List Value} {x : DLCommit} (h : Ow TLCommit m c x) : Ow TCommit m c (fgC x) := by
  obtain ⟨A, k, n, rfl, zS, z0, z1, z2⟩ := openO_LCommit (x0 := x.1) (x1 := x.2.1) (x2 := x.2.2) h
  exact mkO_Commit _ _ _ zS z0 z1 (Ow.pre2 (Ow.full z2).2)
theorem fgC_rd {m : Mem} {cs : List Value} {l : List DLCommit} (h : Rd (.sl TLCommit) m cs l) : Rd (.sl TCommit) m cs (l.map fgC) := Rd.mapL (e := TLCommit) (e' := TCommit) fgC rfl (fun _ _ _ h => fgC_rd1 h) h
theorem fgC_ow {m : Mem} {cs : List Value} {l : List DLCommit} (h : Ow (.sl TLCommit) m cs l) : Ow (.sl TCommit) m cs (l.map fgC) := Ow.mapL (e := TLCommit) (e' := TCommit) fgC rfl (fun _ _ _ h => fgC_ow1 h) h
theorem lent_rd {m : Mem} {cs : List Value} {l : List DCommit} (h : Rd (.sl TLCommit) m cs ((l.map lentC ++ spareC).take l.length)) : Rd (.sl TCommit) m cs l := by
  have h2 := fgC_rd h
  rwa [lent_fg] at h2
theorem lent_ow {m : Mem} {cs : List Value} {l : List DCommit} (h : Ow (.sl TLCommit) m cs ((l.map lentC ++ spareC).take l.length)) : Ow (.sl TCommit) m cs l := by
  have h2 := fgC_ow h
  rwa [lent_fg] at h2
theorem lent_len (l : List DCommit) : (l.map lentC ++ spareC).length = l.length + 3 := by simp [spareC]
theorem lent_next {out : List DLCommit} {l0 : List DCommit} {k : Nat} {c : DCommit} (h : out = (l0.take k).map lentC) (hc : l0[k]? = some c) : out ++ [lentC c] = (l0.take (k + 1)).map lentC := by
  rw [h, take_one hc, List.map_append]; rfl
theorem spareC_next {out d : List DLCommit} {k : Nat} (h : out = d ++ spareC.take k) (hk : k < 3) : out ++ [(-7, 0, [], [])] = d ++ spareC.take (k + 1) := by
  rw [h, List.append_assoc]
  congr 1
  rcases k with _ | _ | _ | k
  · rfl
  · rfl
  · rfl
  · omega
theorem lent_at {full : List DLCommit} {l : List DCommit} {k : Nat} {x : DLCommit} {c : DCommit} (e : full = l.map lentC ++ spareC) (hx : full[k]? = some x) (hc : l[k]? = some c) : x = lentC c := by
  obtain ⟨hk, _⟩ := List.getElem?_eq_some_iff.1 hc
  rw [e, List.getElem?_append_left (by simpa using hk), List.getElem?_map, hc] at hx
  exact (Option.some.inj hx).symm
theorem spare_at {full : List DLCommit} {l : List DCommit} {k : Nat} {x : DLCommit} (h : full = l.map lentC ++ spareC) (hk : l.length ≤ k) (hx : full[k]? = some x) : x = (-7, 0, [], []) := by
  obtain ⟨hk2, _⟩ := List.getElem?_eq_some_iff.1 hx
  rw [h, lent_len] at hk2
  rw [h, List.getElem?_append_right (by simpa using hk), List.length_map] at hx
  have h3 : k - l.length = 0 ∨ k - l.length = 1 ∨ k - l.length = 2 := by omega
  rcases h3 with e | e | e <;> rw [e] at hx <;> exact (Option.some.inj hx).symm
theorem opsLent {l : List DOp} {n : Nat} (h : n = l.length) : (l ++ spareO).take (n + 3) = l ++ spareO := by
  rw [List.take_of_length_le]; simp [spareO]; omega
end
section
set_option linter.unusedVariables false
set_option linter.unusedSimpArgs false
set_option maxRecDepth 4000
theorem fnOk57 : fnOk Try.prog 57 = true := by kernel_rfl
theorem fnOk64 : fnOk Try.prog 64 = true := by kernel_rfl
theorem fnOk35 : fnOk Try.prog 35 = true := by kernel_rfl
theorem LentCommit_ok (W : World) {v0 : List Value} {d0 : DCommit} (h0 : Rd TCommit (wm W) v0 d0) (e0 : d0.2.2.length ≤ 3518437208800) : CallR Try.prog 57 [.agg v0.toArray] W (mnil) (fun v m' => ∃ (s0 : List Value), v = .agg s0.toArray ∧ Ow TLCommit m' s0 (lentC d0)) := by
 obtain ⟨p0_A2, p0_c2, rfl, p0_0, p0_1, p0_2⟩ := open_Commit (x0 := d0.1) (x1 := d0.2.1) (x2 := d0.2.2) h0
 simp only [inK] at p0_0 p0_1
 have p0_r2 := Rd.room p0_2
 refine CallR.ofA (n := 15) Try.func57 rfl rfl rfl ?_
 refine VC.rs ?_
 refine VO.box (cs := [.int .i64 (d0.1), .int .i64 (d0.2.1), .slice p0_A2 (d0.2.2.length) (p0_c2)]) 102 rfl rfl rfl (fun g1 => ?_)
 refine VO.alloc 104 rfl tz52 (fun g3 => ?_)
 refine VO.k3 0 1 2 (VC.seq ?_)
 refine VC.regD _ 11 [(0, true), (1, true), (2, true), (3, true), (4, true), (5, true), (7, true), (8, true), (9, true), (6, false), (10, true)] follows (by kernel_rfl) (fun _ h => h.sub [104, 102, 0]) ?_
 refine VD.y rfl rfl (.inl rfl) (.fa rfl tst52 rfl) (VD.y rfl rfl (.inl rfl) (.ld1 102 rfl tk3 rfl (cellsAt_one rfl rfl)) (VD.y rfl rfl (.inl rfl) (.fa rfl tst52 rfl) (VD.y rfl rfl (.inl rfl) (.ld1 102 rfl tk3 rfl (cellsAt_one rfl rfl)) (VD.y rfl rfl (.inl rfl) (.fa rfl tst52 rfl) (VD.y rfl rfl (.inl rfl) (.ld1 102 rfl tk22 rfl (cellsAt_one rfl rfl)) (VD.y rfl rfl (.inl rfl) (.fa rfl tst52 rfl) (VD.y rfl rfl (.inl rfl) (.ld1 102 rfl tk22 rfl (cellsAt_one rfl rfl)) ?_)))))))
 refine VD.y rfl rfl (.inl rfl) (.lenS rfl tsl22) ?_
 refine VD.callN 105 rfl rfl (.inl rfl) fnOk29 rfl (fun _ h => h.sub [104, 102, 0]) (fun W hW => LentOps_ok W (Rd.mono p0_2 (hW.at (i := 0) rfl)) bd) (fun v5 m5 hv5 => ?_)
 obtain ⟨s5_0, rfl, f5_0⟩ := hv5
 obtain ⟨A5_0, c5_0, eq5_0, l5_0, k5_0⟩ := f5_0.slice
 subst eq5_0
 simp only [maxLen] at k5_0
 have hs6 := (OwnL.rd (Ow.ownl f5_0 rfl mnil) (mle_refl _) (mle_nil _)).pre (j := d0.2.2.length) bd
 rw [List.take_left] at hs6
 refine VD.y rfl rfl (.inl rfl) (.slHI d0.2.2.length rfl rfl tsl22 rfl bd) ?_
 refine VD.nil rfl ?_ rfl
 refine VO.y rfl (.bst (cs := [.int .i64 (d0.1), .int .i64 (d0.2.1), .slice A5_0 (d0.2.2.length) (c5_0)]) rfl tst52 tz52 rfl) ?_
 refine VO.store (k := 3) (c' := [Value.int .i64 (d0.1), Value.int .i64 (d0.2.1), Value.slice A5_0 (d0.2.2.length) (c5_0)]) 104 rfl rfl (.inl tk52) rfl rfl rfl rfl rfl ?_
 refine VO.k3 0 1 2 (outN (VC.ret ?_))
 refine ⟨_, _, res_run (rs := [.cell 2 52]) rfl (.agg 104 rfl tk52 rfl ⟨_, _, _, mone_self _ _, Nat.le_of_ble_eq_true rfl, rfl⟩ .nil), fun W_ hI => out_of (l := [m5]) hI [105] rfl rfl (mle_refl _) (fun hS_ => ?_)⟩
 dsimp only [packV]
 have he0 : (lentC d0 : Ty.Den TLCommit) = (d0.1, d0.2.1, (d0.2.2, spareO)) := by first | rfl | (simp [*]; done)
 refine ⟨[Value.int .i64 (d0.1), Value.int .i64 (d0.2.1), Value.slice A5_0 (d0.2.2.length) (c5_0)], ?_, ?_⟩
 rotate_left
 · rw [he0]; exact (mkO_LCommit d0.1 d0.2.1 (d0.2.2, spareO) hS_ bdk bdk (Ow.mkSpl (e := TOp) (xs := d0.2.2) (ys := spareO) (OwnL.ow (Ow.ownl f5_0 rfl mnil) rfl) (by first | rfl | simp)))
 all_goals (first | rfl | (simp [*]; done))
theorem KeptCommit_ok (W : World) {v0 : List Value} {d0 : DLCommit} (h0 : Rd TLCommit (wm W) v0 d0) {v1 : List Value} {d1 : DCommit} (h1 : Rd TCommit (wm W) v1 d1) (e0 : d0 = lentC d1) (e1 : d1.2.2.length ≤ 3518437208800) : CallR Try.prog 64 [.agg v0.toArray, .agg v1.toArray] W (mnil) (fun v m' => v = .bool true) := by
 have ea := congrArg Prod.fst e0; have eb := congrArg (fun x => x.2.1) e0; have ec := congrArg (fun x => x.2.2.1) e0; have ed := congrArg (fun x => x.2.2.2) e0; simp only [lentC] at ea eb ec ed; have el := congrArg List.length ec; have em := congrArg List.length ed; simp only [spareO, List.length_cons, List.length_nil] at em
 obtain ⟨p0_A2, p0_c2, rfl, p0_0, p0_1, p0_2⟩ := open_LCommit (x0 := d0.1) (x1 := d0.2.1) (x2 := d0.2.2) h0
 simp only [inK] at p0_0 p0_1
 have p0_f2 := (Rd.full p0_2).2
 have p0_s2 := Rd.pre2 p0_f2
 have p0_r2 := Rd.room p0_f2
 obtain ⟨p1_A2, p1_c2, rfl, p1_0, p1_1, p1_2⟩ := open_Commit (x0 := d1.1) (x1 := d1.2.1) (x2 := d1.2.2) h1
 simp only [inK] at p1_0 p1_1
 have p1_r2 := Rd.room p1_2
 refine CallR.ofA (n := 38) Try.func64 rfl rfl rfl ?_
 refine VC.rs ?_
 refine VO.box (cs := [.int .i64 (d0.1), .int .i64 (d0.2.1), .slice p0_A2 (d0.2.2.1.length) (p0_c2)]) 102 rfl rfl rfl (fun g1 => ?_)
 refine VO.box (cs := [.int .i64 (d1.1), .int .i64 (d1.2.1), .slice p1_A2 (d1.2.2.length) (p1_c2)]) 104 rfl rfl rfl (fun g3 => ?_)
 refine VO.as (VO.k5 0 1 2 3 4 (VC.seq ?_))
 refine VC.regD _ 31 [(0, true), (1, true), (2, true), (3, true), (4, true), (5, true), (6, true), (7, true), (8, true), (9, true), (10, true), (11, true), (12, true), (13, true), (14, true), (15, true), (16, true), (17, true), (18, true), (19, true), (20, true), (21, true), (22, true), (23, true), (24, true), (25, true), (26, true), (27, true), (28, true), (29, true), (30, true)] follows (by kernel_rfl) (fun _ h => h.sub [104, 102, 0]) ?_
 refine VD.y rfl rfl (.inl rfl) (.fa rfl tst52 rfl) (VD.y rfl rfl (.inl rfl) (.ld1 102 rfl tk3 rfl (cellsAt_one rfl rfl)) (VD.y rfl rfl (.inl rfl) (.fa rfl tst52 rfl) (VD.y rfl rfl (.inl rfl) (.ld1 104 rfl tk3 rfl (cellsAt_one rfl rfl)) (VD.y rfl rfl (.inl rfl) (.eql rfl rfl) (VD.y rfl rfl (.inl rfl) (.mv rfl) ?_)))))
 refine VD.dec (s := 10) rfl (fun hc5 => ?_) (fun hc5 => ?_)
 refine VD.y rfl rfl (.inr ⟨_, _, rfl, _, rfl, rfl⟩) (.fa rfl tst52 rfl) ?_
 refine VD.y rfl rfl (.inr ⟨_, _, rfl, _, rfl, rfl⟩) (.ld1 102 rfl tk3 rfl (cellsAt_one rfl rfl)) ?_
 refine VD.y rfl rfl (.inr ⟨_, _, rfl, _, rfl, rfl⟩) (.fa rfl tst52 rfl) ?_
 refine VD.y rfl rfl (.inr ⟨_, _, rfl, _, rfl, rfl⟩) (.ld1 104 rfl tk3 rfl (cellsAt_one rfl rfl)) ?_
 refine VD.y rfl rfl (.inr ⟨_, _, rfl, _, rfl, rfl⟩) (.eql rfl rfl) ?_
 refine VD.y rfl rfl (.inl rfl) (.pT rfl rfl) (VD.y rfl rfl (.inl rfl) (.mv rfl) ?_)
 refine VD.dec (s := 17) rfl (fun hc6 => ?_) (fun hc6 => ?_)
 refine VD.y rfl rfl (.inr ⟨_, _, rfl, _, rfl, rfl⟩) (.fa rfl tst52 rfl) ?_
 refine VD.y rfl rfl (.inr ⟨_, _, rfl, _, rfl, rfl⟩) (.ld1 102 rfl tk22 rfl (cellsAt_one rfl rfl)) ?_
 refine VD.y rfl rfl (.inr ⟨_, _, rfl, _, rfl, rfl⟩) (.lenS rfl tsl22) ?_
 refine VD.y rfl rfl (.inr ⟨_, _, rfl, _, rfl, rfl⟩) (.fa rfl tst52 rfl) ?_
 refine VD.y rfl rfl (.inr ⟨_, _, rfl, _, rfl, rfl⟩) (.ld1 104 rfl tk22 rfl (cellsAt_one rfl rfl)) ?_
 refine VD.y rfl rfl (.inr ⟨_, _, rfl, _, rfl, rfl⟩) (.lenS rfl tsl22) ?_
 refine VD.y rfl rfl (.inr ⟨_, _, rfl, _, rfl, rfl⟩) (.eql rfl rfl) ?_
 refine VD.y rfl rfl (.inl rfl) (.pT rfl rfl) (VD.y rfl rfl (.inl rfl) (.mv rfl) ?_)
 refine VD.dec (s := 26) rfl (fun hc7 => ?_) (fun hc7 => ?_)
 · refine VD.y rfl rfl (.inr ⟨_, _, rfl, _, rfl, rfl⟩) (.fa rfl tst52 rfl) ?_
   refine VD.y rfl rfl (.inr ⟨_, _, rfl, _, rfl, rfl⟩) (.ld1 102 rfl tk22 rfl (cellsAt_one rfl rfl)) ?_
   refine VD.y rfl rfl (.inr ⟨_, _, rfl, _, rfl, rfl⟩) (.fa rfl tst52 rfl) ?_
   refine VD.y rfl rfl (.inr ⟨_, _, rfl, _, rfl, rfl⟩) (.ld1 104 rfl tk22 rfl (cellsAt_one rfl rfl)) ?_
   refine VD.y rfl rfl (.inr ⟨_, _, rfl, _, rfl, rfl⟩) (.lenS rfl tsl22) ?_
   refine VD.y rfl rfl (.inr ⟨_, _, rfl, _, rfl, rfl⟩) (.add (c := ((d1.2.2.length + 3 : Nat) : Int)) rfl rfl (by omega) ⟨bd, bd⟩) ?_
   have hs8 := p0_f2.pre (j := (d1.2.2.length + 3)) bd
   refine VD.y rfl rfl (.inr ⟨_, _, rfl, _, rfl, rfl⟩) (.slHI (d1.2.2.length + 3) rfl rfl tsl22 rfl bd) ?_
   refine VD.y rfl rfl (.inr ⟨_, _, rfl, _, rfl, rfl⟩) (.fa rfl tst52 rfl) ?_
   refine VD.y rfl rfl (.inr ⟨_, _, rfl, _, rfl, rfl⟩) (.ld1 104 rfl tk22 rfl (cellsAt_one rfl rfl)) ?_
   refine VD.nil rfl ?_ rfl
   refine VO.gcallN 109 rfl ⟨_, rfl, rfl⟩ fnOk35 rfl (fun W hW => KeptOps_ok W (Rd.mono hs8 (hW.at (i := 0) rfl)) (Rd.mono p1_2 (hW.at (i := 0) rfl)) bd) (fun v9 m9 hv9 => ?_)
   subst hv9
   refine VO.y rfl (.pT rfl rfl) (VO.as (VO.k5 0 1 2 3 4 (outN (VC.ret ?_))))
   refine ⟨_, _, res_run (rs := [.tmp 4]) rfl (.tmp rfl .nil), fun W_ hI => out_of (l := []) hI [] rfl rfl (mle_refl _) (fun hS_ => ?_)⟩
   dsimp only [packV]
   all_goals (first | rfl | (exact congrArg Value.bool (decide_eq_true (by rw [ec, ed]; exact opsLent (by omega)))))
 exact absurd (by rw [el]) hc7
 exact absurd eb hc6
 exact absurd ea hc5
theorem fin0_LentCommits_ok {P : Prop} (h : P := by first | omega | (simp only [List.length_append, List.length_nil, List.length_cons, List.length_take, List.length_drop] at *; omega) | exact e1 _ (List.mem_of_getElem? ‹d0[_]? = some _›)) : P := h
theorem LentCommits_ok (W : World) {v0 : Value} {d0 : List DCommit} (h0 : Rd (.sl TCommit) (wm W) [v0] d0) (e0 : d0.length ≤ 3518437200000) (e1 : ∀ c ∈ d0, c.2.2.length ≤ 3518437208800) : CallR Try.prog 53 [v0] W (mnil) (fun v m' => ∃ (s0 : Value), v = s0 ∧ Ow (.sl TLCommit) m' [s0] (d0.map lentC ++ spareC)) := by
 obtain ⟨A0, c0, rfl, l0, k0⟩ := h0.slice
 simp only [maxLen] at k0
 refine CallR.ofA (n := 29) Try.func53 rfl rfl rfl ?_
 refine VC.rs (VO.as (VO.k2 0 2 (VC.rs (VO.as (VO.k3 0 2 3 (VC.seq (VC.rs (VO.as ?_))))))))
 refine VO.kp [0] [(0, wm W)] ?_
 refine VO.k4 0 2 3 4 (VC.block ?_)
 refine VC.inv ((101, mnil) :: _) (fun _ h => h.nilc 101) ?_
 refine VC.loop (G := Nat × (List DLCommit) × (Option Addr) × Nat × Mem) (fun g => [(3, .slice (g.2.2.1) ((g.2.1).length) ((g.2.2.2.1))), (4, .int .i64 ((((g.1) : Nat) : Int))), (0, .slice A0 (d0.length) (c0)), (2, .slice none (0) (0))]) (fun g => [(101, (g.2.2.2.2)), (0, wm W)]) (fun g => ((g.1) ≤ d0.length) ∧ ((g.2.1) = (d0.take (g.1)).map lentC) ∧ (Ow (.sl TLCommit) (g.2.2.2.2) [.slice (g.2.2.1) (g.2.1).length (g.2.2.2.1)] (g.2.1))) (fun g => d0.length - (g.1)) (0, [], none, 0, mnil) (⟨by omega, by rfl, (Ow.nil TLCommit mnil)⟩) ⟨⟨rfl, rfl, rfl, rfl, trivial⟩, fun _ h => h.sub [101, 0]⟩ ?_
 rintro ⟨k, out, out_A, out_c, out_m⟩ ⟨hk, ho, h_out⟩
 replace hk : k ≤ d0.length := hk
 replace ho : out = (d0.take k).map lentC := ho
 replace h_out : Ow (.sl TLCommit) out_m [.slice out_A out.length out_c] out := h_out
 show VC _ _ _ _ _ [(3, .slice out_A (out.length) (out_c)), (4, .int .i64 (((k : Nat) : Int))), (0, .slice A0 (d0.length) (c0)), (2, .slice none (0) (0))] [(101, out_m), (0, wm W)]
 have l_out : out.length ≤ out_c := by obtain ⟨_, _, he, hl, _⟩ := h_out.slice; simp only [Value.slice.injEq] at he; omega
 have k_out : out_c ≤ 9223372036854775807 := by obtain ⟨_, _, he, _, hl⟩ := h_out.slice; simp only [Value.slice.injEq, maxLen] at he hl; omega
 have hlo : out.length ≤ k := by rw [ho]; simp; omega
 refine VC.seq (VC.rs (VO.mv (VO.mv ?_)))
 refine VO.y rfl (.lenS rfl tsl61) ?_
 refine VO.y rfl (.lss rfl rfl) (VO.k5 0 2 3 4 9 ?_)
 refine VC.cond rfl (fun hc2 => ?_) (fun hc2 => ?_)
 · refine VC.skip (outN (VC.seq (VC.block ?_)))
   refine VC.reg ?_
   refine VO.mv (VO.mv (VO.mv ?_))
   obtain ⟨x3, hx3⟩ : ∃ z_, (d0)[k]? = some z_ := ⟨_, List.getElem?_eq_getElem (by exact fin0_LentCommits_ok)⟩
   obtain ⟨gg3, oo3, ec3, ea3, hce3, hre3⟩ := h0.elem hx3
   cases ea3
   obtain ⟨q3_A2, q3_c2, rfl, q3_0, q3_1, q3_2⟩ := open_Commit (x0 := x3.1) (x1 := x3.2.1) (x2 := x3.2.2) hre3
   simp only [inK] at q3_0 q3_1
   have q3_r2 := Rd.room q3_2
   refine VO.y rfl (.ixI k rfl rfl tsl61 rfl (by exact fin0_LentCommits_ok)) ?_
   refine VO.y rfl (.ldA 0 rfl tk52 rfl hce3) ?_
   refine VO.callN 104 rfl fnOk57 rfl (fun W hW => LentCommit_ok W (Rd.mono hre3 (hW.at (i := 0) rfl)) (by exact fin0_LentCommits_ok)) (fun v4 m4 hv4 => ?_)
   obtain ⟨s4_0, rfl, f4_0⟩ := hv4
   obtain ⟨q4_0_A2, q4_0_c2, q4_0_n2, rfl, q4_0_S, q4_0_0, q4_0_1, q4_0_2⟩ := openO_LCommit (x0 := x3.1) (x1 := x3.2.1) (x2 := (x3.2.2, spareO)) f4_0
   simp only [inK] at q4_0_0 q4_0_1
   have q4_0_f2 := (Rd.full (q4_0_2.rd (mle_refl _))).2
   have q4_0_s2 := Rd.pre2 q4_0_f2
   have q4_0_r2 := Rd.room q4_0_f2
   dsimp only at q4_0_f2 q4_0_s2 q4_0_r2
   have q4_0_o2 := (Ow.full q4_0_2).2
   have q4_0_p2 := Ow.pre2 q4_0_o2
   dsimp only at q4_0_o2 q4_0_p2
   refine VO.inv _ (fun _ h => h.parts (i := 104) rfl q4_0_S [105]) ?_
   refine VO.bsl (cs := [Value.int .i64 (x3.1), Value.int .i64 (x3.2.1), Value.slice q4_0_A2 (x3.2.2.length) (q4_0_c2)]) 107 rfl rfl tsl61 tz52 rfl rfl (fun g6 => ?_)
   refine VO.appO (e := TLCommit) 101 105 107 rfl rfl rfl tsl61 tz52 rfl rfl rfl rfl h_out (mkO_LCommit x3.1 x3.2.1 (x3.2.2, spareO) (Seps.one (mle_refl _)) (by simp only [inK]; (exact fin0_LentCommits_ok)) (by simp only [inK]; (exact fin0_LentCommits_ok)) q4_0_2) Try.underlying61 (cellsAt_one rfl rfl) (by simp only [maxLen]; (exact fin0_LentCommits_ok)) (by exact fin0_LentCommits_ok) (by decide) (fun v8 m8 ho8 => ?_)
   obtain ⟨A8, c8, rfl, l8, k8⟩ := ho8.slice
   simp only [maxLen] at k8
   refine VO.as (VO.k5 0 2 3 4 9 (outBN (outN ?_)))
   refine VC.reg ?_
   refine VO.mv ?_
   refine VO.y rfl (.add (c := ((k + 1 : Nat) : Int)) rfl rfl (by omega) ⟨by exact fin0_LentCommits_ok, by exact fin0_LentCommits_ok⟩) ?_
   refine VO.as ?_
   refine VO.kp [101, 0] [(101, m8), (0, wm W)] ?_
   refine VO.k5 0 2 3 4 9 ?_
   exact outN ⟨⟨k + 1, out ++ [(x3.1, x3.2.1, (x3.2.2, spareO))], A8, c8, m8⟩, ⟨by omega, by exact lent_next ho ‹d0[k]? = some _›, ho8⟩, by exact fin0_LentCommits_ok, ⟨⟨rfl, rfl, rfl, rfl, trivial⟩, fun _ h => Inv.sub h [101, 0]⟩⟩
 refine VC.exit (outE (outE (outBB (outN (VC.seq (VC.rs (VO.as (VO.k6 0 2 3 4 5 9 (VC.block ?_)))))))))
 refine VC.loop (G := Nat × (List DLCommit) × (Option Addr) × Nat × Mem) (fun g => [(3, .slice (g.2.2.1) ((g.2.1).length) ((g.2.2.2.1))), (5, .int .i64 ((((g.1) : Nat) : Int))), (0, .slice A0 (d0.length) (c0)), (2, .slice none (0) (0)), (4, .int .i64 (((k : Nat) : Int))), (9, .bool (decide (((k : Nat) : Int) < ((d0.length : Nat) : Int))))]) (fun g => [(101, (g.2.2.2.2)), (0, wm W)]) (fun g => ((g.1) ≤ 3) ∧ ((g.2.1) = d0.map lentC ++ spareC.take (g.1)) ∧ (Ow (.sl TLCommit) (g.2.2.2.2) [.slice (g.2.2.1) (g.2.1).length (g.2.2.2.1)] (g.2.1))) (fun g => 3 - (g.1)) (0, out, out_A, out_c, out_m) (⟨by omega, by (rw [ho, List.take_of_length_le (by omega)]; simp), h_out⟩) ⟨⟨rfl, rfl, rfl, rfl, rfl, rfl, trivial⟩, fun _ h => h.sub [101, 0]⟩ ?_
 rintro ⟨j, out, out_A, out_c, out_m⟩ ⟨hj, ho2, h_out⟩
 replace hj : j ≤ 3 := hj
 replace ho2 : out = d0.map lentC ++ spareC.take j := ho2
 replace h_out : Ow (.sl TLCommit) out_m [.slice out_A out.length out_c] out := h_out
 show VC _ _ _ _ _ [(3, .slice out_A (out.length) (out_c)), (5, .int .i64 (((j : Nat) : Int))), (0, .slice A0 (d0.length) (c0)), (2, .slice none (0) (0)), (4, .int .i64 (((k : Nat) : Int))), (9, .bool (decide (((k : Nat) : Int) < ((d0.length : Nat) : Int))))] [(101, out_m), (0, wm W)]
 have l_out : out.length ≤ out_c := by obtain ⟨_, _, he, hl, _⟩ := h_out.slice; simp only [Value.slice.injEq] at he; omega
 have k_out : out_c ≤ 9223372036854775807 := by obtain ⟨_, _, he, _, hl⟩ := h_out.slice; simp only [Value.slice.injEq, maxLen] at he hl; omega
 have hlo : out.length ≤ d0.length + 3 := by rw [ho2]; simp [spareC]; omega
 refine VC.seq (VC.rs (VO.mv (VO.y rfl (.lss rfl rfl) ?_)))
 refine VO.kp [101, 0] [(101, out_m), (0, wm W)] ?_
 refine VO.k7 0 2 3 4 5 9 21 ?_
 refine VC.cond rfl (fun hc9 => ?_) (fun hc9 => ?_)
 refine VC.skip (outN (VC.seq (VC.block ?_)))
 refine VC.reg ?_
 refine VO.mv ?_
 refine VO.y rfl (.bst (cs := [.int .i64 ((-7)), .int .i64 (0), .slice none (0) (0)]) rfl tst52 tz52 rfl) ?_
 refine VO.bsl (cs := [Value.int .i64 ((-7)), Value.int .i64 (0), Value.slice none (0) (0)]) 111 rfl rfl tsl61 tz52 rfl rfl (fun g10 => ?_)
 refine VO.inv ((113, mnil) :: _) (fun _ h => h.nilc 113) ?_
 refine VO.appO (e := TLCommit) 101 113 111 rfl rfl rfl tsl61 tz52 rfl rfl rfl rfl h_out (mkO_LCommit (-7) 0 ([], []) (Seps.nilAt 0 (Seps.nil _)) (by simp only [inK]; (exact fin0_LentCommits_ok)) (by simp only [inK]; (exact fin0_LentCommits_ok)) (Ow.nilSpl _ _)) Try.underlying61 (cellsAt_one rfl rfl) (by simp only [maxLen]; (exact fin0_LentCommits_ok)) (by exact fin0_LentCommits_ok) (by decide) (fun v12 m12 ho12 => ?_)
 obtain ⟨A12, c12, rfl, l12, k12⟩ := ho12.slice
 simp only [maxLen] at k12
 refine VO.as (VO.k7 0 2 3 4 5 9 21 (outBN (outN ?_)))
 refine VC.reg ?_
 refine VO.mv ?_
 refine VO.y rfl (.add (c := ((j + 1 : Nat) : Int)) rfl rfl (by omega) ⟨by exact fin0_LentCommits_ok, by exact fin0_LentCommits_ok⟩) ?_
 refine VO.as (VO.k7 0 2 3 4 5 9 21 ?_)
 exact outN ⟨⟨j + 1, out ++ [(((-7), 0, ([], [])) : DLCommit)], A12, c12, m12⟩, ⟨by omega, by exact spareC_next ho2 (by omega), ho12⟩, by exact fin0_LentCommits_ok, ⟨⟨rfl, rfl, rfl, rfl, rfl, rfl, trivial⟩, fun _ h => Inv.sub h [101, 0]⟩⟩
 · refine VC.exit (outE (outE (outBB (outN (VC.rs (VO.mv (VO.as (VO.k7 0 2 3 4 5 9 21 (VC.ret ?_)))))))))
   refine ⟨_, _, res_run (rs := [.tmp 2]) rfl (.tmp rfl .nil), fun W_ hI => out_of (l := [out_m]) hI [101] rfl rfl (mle_refl _) (fun hS_ => ?_)⟩
   dsimp only [packV]
   have he0 : (d0.map lentC ++ spareC : Ty.Den (.sl TLCommit)) = out := by first | rfl | (have : j = 3 := (by omega); subst this; exact ho2.symm)
   refine ⟨Value.slice out_A (out.length) (out_c), ?_, ?_⟩
   rotate_left
   · rw [he0]; exact (Ow.up h_out (hS_.1 _ (.head _)))
   all_goals (first | rfl | (simp [*]; done))
theorem fin0_KeptCommits_ok {P : Prop} (h : P := by first | omega | (simp only [List.length_append, List.length_nil, List.length_cons, List.length_take, List.length_drop] at *; omega) | exact lent_at e0 ‹d0[_]? = some _› ‹d1[_]? = some _› | exact e2 _ (List.mem_of_getElem? ‹d1[_]? = some _›)) : P := h
theorem KeptCommits_ok (W : World) {v0 : Value} {d0 : List DLCommit} (h0 : Rd (.sl TLCommit) (wm W) [v0] d0) {v1 : Value} {d1 : List DCommit} (h1 : Rd (.sl TCommit) (wm W) [v1] d1) (e0 : d0 = d1.map lentC ++ spareC) (e1 : d1.length ≤ 3518437200000) (e2 : ∀ c ∈ d1, c.2.2.length ≤ 3518437208800) : CallR Try.prog 55 [v0, v1] W (mnil) (fun v m' => v = .bool true) := by
 have el := congrArg List.length e0; rw [lent_len] at el
 obtain ⟨A0, c0, rfl, l0, k0⟩ := h0.slice
 simp only [maxLen] at k0
 obtain ⟨A1, c1, rfl, l1, k1⟩ := h1.slice
 simp only [maxLen] at k1
 refine CallR.ofA (n := 44) Try.func55 rfl rfl rfl ?_
 refine VC.rs (VO.as (VO.k3 0 1 4 (VC.seq (VC.rs (VO.mv ?_)))))
 refine VO.y rfl (.lenS rfl tsl61) ?_
 refine VO.mv ?_
 refine VO.y rfl (.lenS rfl tsl61) ?_
 refine VO.y rfl (.add (c := ((d1.length + 3 : Nat) : Int)) rfl rfl (by omega) ⟨by exact fin0_KeptCommits_ok, by exact fin0_KeptCommits_ok⟩) ?_
 refine VO.y rfl (.neq rfl rfl) (VO.k4 0 1 4 12 ?_)
 refine VC.cond rfl (fun hc1 => ?_) (fun hc1 => ?_)
 omega
 refine VC.skip (outN (VC.seq (VC.rs (VO.as ?_))))
 refine VO.kp [0] [(0, wm W)] ?_
 refine VO.k5 0 1 4 5 12 (VC.block ?_)
 refine VC.loop (G := Nat) (fun k => [(5, .int .i64 (((k : Nat) : Int))), (0, .slice A0 (d0.length) (c0)), (1, .slice A1 (d1.length) (c1)), (12, .bool (decide (¬ ((d0.length : Nat) : Int) = ((d1.length + 3 : Nat) : Int))))]) (fun k => [(0, wm W)]) (fun k => (k ≤ d1.length)) (fun k => d1.length - k) 0 (by omega) ⟨⟨rfl, rfl, rfl, rfl, trivial⟩, fun _ h => h.sub [0]⟩ ?_
 rintro k hk
 refine VC.seq (VC.rs (VO.mv (VO.mv ?_)))
 refine VO.y rfl (.lenS rfl tsl61) ?_
 refine VO.y rfl (.lss rfl rfl) (VO.k5 0 1 5 12 16 ?_)
 refine VC.cond rfl (fun hc2 => ?_) (fun hc2 => ?_)
 · refine VC.skip (outN (VC.seq (VC.block (VC.seq ?_))))
   refine VC.regD _ 8 [(0, true), (1, true), (2, true), (3, true), (4, true), (5, true), (6, true), (7, true)] follows (by kernel_rfl) (fun _ h => h.sub [0]) ?_
   refine VD.y rfl rfl (.inl rfl) (.mv rfl) (VD.y rfl rfl (.inl rfl) (.mv rfl) ?_)
   obtain ⟨x3, hx3⟩ : ∃ z_, (d0)[k]? = some z_ := ⟨_, List.getElem?_eq_getElem (by exact fin0_KeptCommits_ok)⟩
   obtain ⟨gg3, oo3, ec3, ea3, hce3, hre3⟩ := h0.elem hx3
   cases ea3
   obtain ⟨q3_A2, q3_c2, rfl, q3_0, q3_1, q3_2⟩ := open_LCommit (x0 := x3.1) (x1 := x3.2.1) (x2 := x3.2.2) hre3
   simp only [inK] at q3_0 q3_1
   have q3_f2 := (Rd.full q3_2).2
   have q3_s2 := Rd.pre2 q3_f2
   have q3_r2 := Rd.room q3_f2
   refine VD.y rfl rfl (.inl rfl) (.ixI k rfl rfl tsl61 rfl (by exact fin0_KeptCommits_ok)) ?_
   refine VD.y rfl rfl (.inl rfl) (.ldA 0 rfl tk52 rfl hce3) ?_
   refine VD.y rfl rfl (.inl rfl) (.mv rfl) (VD.y rfl rfl (.inl rfl) (.mv rfl) ?_)
   obtain ⟨x4, hx4⟩ : ∃ z_, (d1)[k]? = some z_ := ⟨_, List.getElem?_eq_getElem (by exact fin0_KeptCommits_ok)⟩
   obtain ⟨gg4, oo4, ec4, ea4, hce4, hre4⟩ := h1.elem hx4
   cases ea4
   obtain ⟨q4_A2, q4_c2, rfl, q4_0, q4_1, q4_2⟩ := open_Commit (x0 := x4.1) (x1 := x4.2.1) (x2 := x4.2.2) hre4
   simp only [inK] at q4_0 q4_1
   have q4_r2 := Rd.room q4_2
   refine VD.y rfl rfl (.inl rfl) (.ixI k rfl rfl tsl61 rfl (by exact fin0_KeptCommits_ok)) ?_
   refine VD.y rfl rfl (.inl rfl) (.ldA 0 rfl tk52 rfl hce4) ?_
   refine VD.nil rfl ?_ rfl
   refine VO.callN 105 rfl fnOk64 rfl (fun W hW => KeptCommit_ok W (Rd.mono hre3 (hW.at (i := 0) rfl)) (Rd.mono hre4 (hW.at (i := 0) rfl)) (by exact lent_at e0 ‹d0[k]? = some _› ‹d1[k]? = some _›) (by exact fin0_KeptCommits_ok)) (fun v5 m5 hv5 => ?_)
   subst hv5
   refine VO.y rfl (.not rfl) (VO.k6 0 1 5 12 16 28 (outN (VC.condF rfl (VC.skip (outBN (outN ?_))))))
   refine VC.reg ?_
   refine VO.mv ?_
   refine VO.y rfl (.add (c := ((k + 1 : Nat) : Int)) rfl rfl (by omega) ⟨by exact fin0_KeptCommits_ok, by exact fin0_KeptCommits_ok⟩) ?_
   refine VO.as ?_
   refine VO.kp [0] [(0, wm W)] ?_
   refine VO.k6 0 1 5 12 16 28 ?_
   exact outN ⟨k + 1, by omega, by exact fin0_KeptCommits_ok, ⟨⟨rfl, rfl, rfl, rfl, trivial⟩, fun _ h => Inv.sub h [0]⟩⟩
 refine VC.exit (outE (outE (outBB (outN (VC.seq (VC.rs (VO.mv ?_)))))))
 refine VO.y rfl (.lenS rfl tsl61) ?_
 refine VO.as (VO.k6 0 1 5 6 12 16 (VC.block ?_))
 refine VC.loop (G := Nat) (fun j => [(6, .int .i64 (((j : Nat) : Int))), (0, .slice A0 (d0.length) (c0)), (1, .slice A1 (d1.length) (c1)), (5, .int .i64 (((k : Nat) : Int))), (12, .bool (decide (¬ ((d0.length : Nat) : Int) = ((d1.length + 3 : Nat) : Int)))), (16, .bool (decide (((k : Nat) : Int) < ((d1.length : Nat) : Int))))]) (fun j => [(0, wm W)]) (fun j => (d1.length ≤ j ∧ j ≤ d0.length)) (fun j => d0.length - j) d1.length (by omega) ⟨⟨rfl, rfl, rfl, rfl, rfl, rfl, trivial⟩, fun _ h => h.sub [0]⟩ ?_
 rintro j hj
 refine VC.seq (VC.rs (VO.mv (VO.mv ?_)))
 refine VO.y rfl (.lenS rfl tsl61) ?_
 refine VO.y rfl (.lss rfl rfl) ?_
 refine VO.kp [0] [(0, wm W)] ?_
 refine VO.k7 0 1 5 6 12 16 34 ?_
 refine VC.cond rfl (fun hc6 => ?_) (fun hc6 => ?_)
 refine VC.skip (outN (VC.seq (VC.block (VC.rs (VO.mv (VO.mv ?_))))))
 obtain ⟨x7, hx7⟩ : ∃ z_, (d0)[j]? = some z_ := ⟨_, List.getElem?_eq_getElem (by exact fin0_KeptCommits_ok)⟩
 obtain ⟨gg7, oo7, ec7, ea7, hce7, hre7⟩ := h0.elem hx7
 cases ea7
 obtain ⟨q7_A2, q7_c2, rfl, q7_0, q7_1, q7_2⟩ := open_LCommit (x0 := x7.1) (x1 := x7.2.1) (x2 := x7.2.2) hre7
 simp only [inK] at q7_0 q7_1
 have q7_f2 := (Rd.full q7_2).2
 have q7_s2 := Rd.pre2 q7_f2
 have q7_r2 := Rd.room q7_f2
 refine VO.y rfl (.ixI j rfl rfl tsl61 rfl (by exact fin0_KeptCommits_ok)) ?_
 refine VO.y rfl (.ldA 0 rfl tk52 rfl hce7) ?_
 refine VO.y rfl (.bst (cs := [.int .i64 ((-7)), .int .i64 (0), .slice none (0) (0)]) rfl tst52 tz52 rfl) ?_
 refine VO.callN 108 rfl fnOk49 rfl (fun W hW => SameCommit_ok W (mk_Commit (m := wm W) x7.1 x7.2.1 x7.2.2.1 (by simp only [inK]; (exact fin0_KeptCommits_ok)) (by simp only [inK]; (exact fin0_KeptCommits_ok)) (Rd.mono q7_s2 (hW.at (i := 0) rfl))) (mk_Commit (m := wm W) (-7) 0 [] (by simp only [inK]; (exact fin0_KeptCommits_ok)) (by simp only [inK]; (exact fin0_KeptCommits_ok)) (Rd.nil _ _ none 0 (Nat.zero_le _)))) (fun v8 m8 hv8 => ?_)
 try dsimp only at hv8
 subst hv8
 refine VO.y rfl (.notD rfl) (VO.k8 0 1 5 6 12 16 34 43 ?_)
 refine VC.cond rfl (fun hc9 => ?_) (fun hc9 => ?_)
 have h_ := spare_at e0 hj.1 ‹d0[j]? = some _›; exact absurd (by rw [h_]) hc9
 refine VC.skip (outBN (outN ?_))
 refine VC.reg ?_
 refine VO.mv ?_
 refine VO.y rfl (.add (c := ((j + 1 : Nat) : Int)) rfl rfl (by omega) ⟨by exact fin0_KeptCommits_ok, by exact fin0_KeptCommits_ok⟩) ?_
 refine VO.as (VO.k8 0 1 5 6 12 16 34 43 ?_)
 exact outN ⟨j + 1, by omega, by exact fin0_KeptCommits_ok, ⟨⟨rfl, rfl, rfl, rfl, rfl, rfl, trivial⟩, fun _ h => Inv.sub h [0]⟩⟩
 · refine VC.exit (outE (outE (outBB (outN (VC.rs (VO.as (VO.k8 0 1 4 5 6 12 16 34 (VC.ret ?_))))))))
   refine ⟨_, _, res_run (rs := [.tmp 4]) rfl (.tmp rfl .nil), fun W_ hI => out_of (l := []) hI [] rfl rfl (mle_refl _) (fun hS_ => ?_)⟩
   dsimp only [packV]
   all_goals (first | rfl | (simp [*]; done))
theorem fin0_c4Follows_ok {P : Prop} (h : P := by first | omega | (simp only [List.length_append, List.length_nil, List.length_cons, List.length_take, List.length_drop] at *; omega) | (have := cCheck_ok (by first | assumption | exact Decidable.not_not.1 (by assumption) : cCheck _ = 0); omega)) : P := h
theorem c4Follows_ok (W : World) (d0 : Int) (h0 : inK .i64 d0) (d1 : Int) (h1 : inK .i64 d1) {v2 : Value} {d2 : List DCommit} (h2 : Rd (.sl TCommit) (wm W) [v2] d2) : CallR Try.prog 54 [.int .i64 d0, .int .i64 d1, v2] W (mnil) (fun v m' => ∃ (s0 : List Value), v = .agg s0.toArray ∧ Ow TFault m' s0 (cFollows d0 d1 d2)) := by
 have h0' := h0; simp only [inK] at h0'
 have h1' := h1; simp only [inK] at h1'
 obtain ⟨A2, c2, rfl, l2, k2⟩ := h2.slice
 simp only [maxLen] at k2
 refine CallR.ofA (n := 55) Try.func54 rfl rfl rfl ?_
 refine VC.rs ?_
 refine VO.alloc 102 rfl tz57 (fun g1 => ?_)
 refine VO.k4 0 1 2 6 (VC.seq (VC.rs (VO.as (VO.k5 0 1 2 6 7 (VC.block ?_)))))
 refine VC.loop (G := Nat × Int × Int) (fun g => [(0, .int .i64 ((g.2.1))), (1, .int .i64 ((g.2.2))), (7, .int .i64 ((((g.1) : Nat) : Int))), (2, .slice A2 (d2.length) (c2)), (6, .pointer (some ⟨g1, 0, none⟩))]) (fun g => [(102, mone g1 (.cells #[.int .i64 (0), .int .i64 (0)] 57 (0, 0))), (0, wm W)]) (fun g => ((g.1) ≤ d2.length) ∧ (cFollows d0 d1 d2 = cFollowsAt (g.2.1) (g.2.2) (g.1) (d2.drop (g.1)))) (fun g => d2.length - (g.1)) (0, d0, d1) (⟨by omega, by rfl⟩) ⟨⟨rfl, rfl, rfl, rfl, rfl, trivial⟩, fun _ h => h.sub [102, 0]⟩ ?_
 rintro ⟨k, e, nn⟩ ⟨hk, hf⟩
 replace hk : k ≤ d2.length := hk
 replace hf : cFollows d0 d1 d2 = cFollowsAt e nn k (d2.drop k) := hf
 show VC _ _ _ _ _ [(0, .int .i64 (e)), (1, .int .i64 (nn)), (7, .int .i64 (((k : Nat) : Int))), (2, .slice A2 (d2.length) (c2)), (6, .pointer (some ⟨g1, 0, none⟩))] [(102, mone g1 (.cells #[.int .i64 (0), .int .i64 (0)] 57 (0, 0))), (0, wm W)]
 refine VC.seq (VC.rs (VO.mv (VO.mv ?_)))
 refine VO.y rfl (.lenS rfl tsl61) ?_
 refine VO.y rfl (.lss rfl rfl) ?_
 refine VO.kp [102, 0] [(102, mone g1 (.cells #[.int .i64 (0), .int .i64 (0)] 57 (0, 0))), (0, wm W)] ?_
 refine VO.k6 0 1 2 6 7 12 ?_
 refine VC.cond rfl (fun hc3 => ?_) (fun hc3 => ?_)
 refine VC.skip (outN (VC.seq (VC.block (VC.rs (VO.mv (VO.mv ?_))))))
 obtain ⟨x4, hx4⟩ : ∃ z_, (d2)[k]? = some z_ := ⟨_, List.getElem?_eq_getElem (by exact fin0_c4Follows_ok)⟩
 obtain ⟨gg4, oo4, ec4, ea4, hce4, hre4⟩ := h2.elem hx4
 cases ea4
 obtain ⟨q4_A2, q4_c2, rfl, q4_0, q4_1, q4_2⟩ := open_Commit (x0 := x4.1) (x1 := x4.2.1) (x2 := x4.2.2) hre4
 simp only [inK] at q4_0 q4_1
 have q4_r2 := Rd.room q4_2
 refine VO.y rfl (.ixI k rfl rfl tsl61 rfl (by exact fin0_c4Follows_ok)) ?_
 refine VO.y rfl (.ldA 0 rfl tk52 rfl hce4) ?_
 refine VO.callN 105 rfl fnOk61 rfl (fun W hW => c4Check_ok W (Rd.mono hre4 (hW.at (i := 0) rfl))) (fun v5 m5 hv5 => ?_)
 subst hv5
 have hfa6 := cCheck_range x4
 refine VO.as (VO.k7 0 1 2 6 7 8 12 (VC.seq (VC.rs (VO.mv (VO.y rfl (.neq rfl rfl) (VO.k8 0 1 2 6 7 8 12 21 ?_))))))
 refine VC.cond rfl (fun hc7 => ?_) (fun hc7 => ?_)
 · refine VC.rs (VO.mv (VO.mv ?_))
   refine VO.y rfl (.bst (cs := [.int .i64 (cCheck x4), .int .i64 (((k : Nat) : Int))]) rfl tst57 tz57 rfl) ?_
   refine VO.store (k := 2) (c' := [Value.int .i64 (cCheck x4), Value.int .i64 (((k : Nat) : Int))]) 102 rfl rfl (.inl tk57) rfl rfl rfl rfl rfl ?_
   refine VO.kp [102, 0] [(102, mone g1 (.cells #[.int .i64 (cCheck x4), .int .i64 (((k : Nat) : Int))] 57 (0, 0))), (0, wm W)] ?_
   refine VO.k8 0 1 2 6 7 8 12 21 (VC.ret (outR (outBR (outR (outR (outBR (outR ?_)))))))
   refine ⟨_, _, res_run (rs := [.cell 6 57]) rfl (.agg 102 rfl tk57 rfl ⟨_, _, _, mone_self _ _, Nat.le_of_ble_eq_true rfl, rfl⟩ .nil), fun W_ hI => out_of (l := []) hI [] rfl rfl (mle_refl _) (fun hS_ => ?_)⟩
   dsimp only [packV]
   have he0 : (cFollows d0 d1 d2 : Ty.Den TFault) = (cCheck x4, ((k : Nat) : Int)) := by first | rfl | (first | (rw [hf, List.drop_of_length_le (by omega)]; rfl) | (rw [hf, follows_bad ‹d2[k]? = some _› (by first | assumption | omega)]) | (rw [hf, follows_order ‹d2[k]? = some _› (by first | assumption | omega) (by omega)]) | (exfalso; omega))
   refine ⟨[Value.int .i64 (cCheck x4), Value.int .i64 (((k : Nat) : Int))], ?_, ?_⟩
   rotate_left
   · rw [he0]; exact (Ow.of (m := mnil) rfl (mk_Fault (m := _) (cCheck x4) ((k : Nat) : Int) (by simp only [inK]; (exact fin0_c4Follows_ok)) (by simp only [inK]; (exact fin0_c4Follows_ok))))
   all_goals (first | rfl | (rfl))
 refine VC.skip (outN (VC.seq (VC.rs (VO.mv (VO.mv ?_)))))
 refine VO.y rfl (.ixI k rfl rfl tsl61 rfl (by exact fin0_c4Follows_ok)) ?_
 refine VO.y rfl (.fa rfl tst52 rfl) ?_
 refine VO.y rfl (.ld1 0 rfl tk3 rfl (hce4.at1 (j := 1) rfl)) ?_
 refine VO.y rfl (.sub rfl rfl rfl ⟨by exact fin0_c4Follows_ok, by exact fin0_c4Follows_ok⟩) ?_
 refine VO.mv (VO.y rfl (.neq rfl rfl) (VO.mv ?_))
 refine VO.dec (t := 33) rfl (fun hc9 => ?_) (fun hc9 => ?_)
 · refine VO.gN (VO.gN (VO.gN (VO.gN (VO.gN (VO.gN (VO.gN (VO.y rfl (.pT rfl rfl) ?_)))))))
   refine VO.kp [102, 0] [(102, mone g1 (.cells #[.int .i64 (0), .int .i64 (0)] 57 (0, 0))), (0, wm W)] ?_
   refine VO.k9 0 1 2 6 7 8 12 21 41 (VC.condT rfl (VC.rs (VO.mv ?_)))
   refine VO.y rfl (.bst (cs := [.int .i64 (15), .int .i64 (((k : Nat) : Int))]) rfl tst57 tz57 rfl) ?_
   refine VO.store (k := 2) (c' := [Value.int .i64 (15), Value.int .i64 (((k : Nat) : Int))]) 102 rfl rfl (.inl tk57) rfl rfl rfl rfl rfl ?_
   refine VO.k9 0 1 2 6 7 8 12 21 41 (VC.ret (outR (outBR (outR (outR (outBR (outR ?_)))))))
   refine ⟨_, _, res_run (rs := [.cell 6 57]) rfl (.agg 102 rfl tk57 rfl ⟨_, _, _, mone_self _ _, Nat.le_of_ble_eq_true rfl, rfl⟩ .nil), fun W_ hI => out_of (l := []) hI [] rfl rfl (mle_refl _) (fun hS_ => ?_)⟩
   dsimp only [packV]
   have he0 : (cFollows d0 d1 d2 : Ty.Den TFault) = (15, ((k : Nat) : Int)) := by first | rfl | (first | (rw [hf, List.drop_of_length_le (by omega)]; rfl) | (rw [hf, follows_bad ‹d2[k]? = some _› (by first | assumption | omega)]) | (rw [hf, follows_order ‹d2[k]? = some _› (by first | assumption | omega) (by omega)]) | (exfalso; omega))
   refine ⟨[Value.int .i64 (15), Value.int .i64 (((k : Nat) : Int))], ?_, ?_⟩
   rotate_left
   · rw [he0]; exact (Ow.of (m := mnil) rfl (mk_Fault (m := _) 15 ((k : Nat) : Int) (by simp only [inK]; (exact fin0_c4Follows_ok)) (by simp only [inK]; (exact fin0_c4Follows_ok))))
   all_goals (first | rfl | (rfl))
 refine VO.gy rfl ⟨_, rfl, rfl⟩ (.mv rfl) (VO.gy rfl ⟨_, rfl, rfl⟩ (.mv rfl) ?_)
 refine VO.gy rfl ⟨_, rfl, rfl⟩ (.ixI k rfl rfl tsl61 rfl (by exact fin0_c4Follows_ok)) ?_
 refine VO.gy rfl ⟨_, rfl, rfl⟩ (.fa rfl tst52 rfl) ?_
 refine VO.gy rfl ⟨_, rfl, rfl⟩ (.ld1 0 rfl tk3 rfl (hce4.at1 (j := 0) rfl)) ?_
 refine VO.gy rfl ⟨_, rfl, rfl⟩ (.mv rfl) (VO.gy rfl ⟨_, rfl, rfl⟩ (.lss rfl rfl) (VO.y rfl (.pF rfl rfl) ?_))
 refine VO.kp [102, 0] [(102, mone g1 (.cells #[.int .i64 (0), .int .i64 (0)] 57 (0, 0))), (0, wm W)] ?_
 refine VO.k9 0 1 2 6 7 8 12 21 41 ?_
 refine VC.cond rfl (fun hc11 => ?_) (fun hc11 => ?_)
 · refine VC.rs (VO.mv ?_)
   refine VO.y rfl (.bst (cs := [.int .i64 (15), .int .i64 (((k : Nat) : Int))]) rfl tst57 tz57 rfl) ?_
   refine VO.store (k := 2) (c' := [Value.int .i64 (15), Value.int .i64 (((k : Nat) : Int))]) 102 rfl rfl (.inl tk57) rfl rfl rfl rfl rfl ?_
   refine VO.k9 0 1 2 6 7 8 12 21 41 (VC.ret (outR (outBR (outR (outR (outBR (outR ?_)))))))
   refine ⟨_, _, res_run (rs := [.cell 6 57]) rfl (.agg 102 rfl tk57 rfl ⟨_, _, _, mone_self _ _, Nat.le_of_ble_eq_true rfl, rfl⟩ .nil), fun W_ hI => out_of (l := []) hI [] rfl rfl (mle_refl _) (fun hS_ => ?_)⟩
   dsimp only [packV]
   have he0 : (cFollows d0 d1 d2 : Ty.Den TFault) = (15, ((k : Nat) : Int)) := by first | rfl | (first | (rw [hf, List.drop_of_length_le (by omega)]; rfl) | (rw [hf, follows_bad ‹d2[k]? = some _› (by first | assumption | omega)]) | (rw [hf, follows_order ‹d2[k]? = some _› (by first | assumption | omega) (by omega)]) | (exfalso; omega))
   refine ⟨[Value.int .i64 (15), Value.int .i64 (((k : Nat) : Int))], ?_, ?_⟩
   rotate_left
   · rw [he0]; exact (Ow.of (m := mnil) rfl (mk_Fault (m := _) 15 ((k : Nat) : Int) (by simp only [inK]; (exact fin0_c4Follows_ok)) (by simp only [inK]; (exact fin0_c4Follows_ok))))
   all_goals (first | rfl | (rfl))
 refine VC.skip (outN ?_)
 refine VC.regD _ 11 [(0, true), (1, true), (2, true), (3, true), (4, true), (5, true), (6, true), (7, true), (8, true), (9, true), (10, true)] follows (by kernel_rfl) (fun _ h => h.sub [102, 0]) ?_
 refine VD.y rfl rfl (.inl rfl) (.mv rfl) (VD.y rfl rfl (.inl rfl) (.mv rfl) ?_)
 refine VD.y rfl rfl (.inl rfl) (.ixI k rfl rfl tsl61 rfl (by exact fin0_c4Follows_ok)) ?_
 refine VD.y rfl rfl (.inl rfl) (.fa rfl tst52 rfl) ?_
 refine VD.y rfl rfl (.inl rfl) (.ld1 0 rfl tk3 rfl (hce4.at1 (j := 0) rfl)) ?_
 refine VD.y rfl rfl (.inl rfl) (.mv rfl) (VD.y rfl rfl (.inl rfl) (.mv rfl) ?_)
 refine VD.y rfl rfl (.inl rfl) (.ixI k rfl rfl tsl61 rfl (by exact fin0_c4Follows_ok)) ?_
 refine VD.y rfl rfl (.inl rfl) (.fa rfl tst52 rfl) ?_
 refine VD.y rfl rfl (.inl rfl) (.ld1 0 rfl tk3 rfl (hce4.at1 (j := 1) rfl)) ?_
 refine VD.y rfl rfl (.inl rfl) (.as rfl) ?_
 refine VD.nil rfl ?_ rfl
 refine VO.as (VO.k9 0 1 2 6 7 8 12 21 41 (outBN (outN ?_)))
 refine VC.reg ?_
 refine VO.mv ?_
 refine VO.y rfl (.add (c := ((k + 1 : Nat) : Int)) rfl rfl (by omega) ⟨by exact fin0_c4Follows_ok, by exact fin0_c4Follows_ok⟩) ?_
 refine VO.as (VO.k9 0 1 2 6 7 8 12 21 41 ?_)
 exact outN ⟨⟨k + 1, x4.1, x4.2.1⟩, ⟨by omega, by first | (exfalso; omega) | (rw [hf, follows_step ‹d2[k]? = some _› (by first | assumption | omega) (by omega) (by omega)]; rfl)⟩, by exact fin0_c4Follows_ok, ⟨⟨rfl, rfl, rfl, rfl, rfl, trivial⟩, fun _ h => Inv.sub h [102, 0]⟩⟩
 · refine VC.exit (outE (outE (outBB (outN (VC.rs ?_)))))
   refine VO.y rfl (.bst (cs := [.int .i64 (0), .int .i64 (0)]) rfl tst57 tz57 rfl) ?_
   refine VO.store (k := 2) (c' := [Value.int .i64 (0), Value.int .i64 (0)]) 102 rfl rfl (.inl tk57) rfl rfl rfl rfl rfl ?_
   refine VO.k6 0 1 2 6 7 12 (VC.ret ?_)
   refine ⟨_, _, res_run (rs := [.cell 6 57]) rfl (.agg 102 rfl tk57 rfl ⟨_, _, _, mone_self _ _, Nat.le_of_ble_eq_true rfl, rfl⟩ .nil), fun W_ hI => out_of (l := []) hI [] rfl rfl (mle_refl _) (fun hS_ => ?_)⟩
   dsimp only [packV]
   have he0 : (cFollows d0 d1 d2 : Ty.Den TFault) = (0, 0) := by first | rfl | (first | (rw [hf, List.drop_of_length_le (by omega)]; rfl) | (rw [hf, follows_bad ‹d2[k]? = some _› (by first | assumption | omega)]) | (rw [hf, follows_order ‹d2[k]? = some _› (by first | assumption | omega) (by omega)]) | (exfalso; omega))
   refine ⟨[Value.int .i64 (0), Value.int .i64 (0)], ?_, ?_⟩
   rotate_left
   · rw [he0]; exact (Ow.of (m := mnil) rfl (mk_Fault (m := _) 0 0 (by simp only [inK]; (exact fin0_c4Follows_ok)) (by simp only [inK]; (exact fin0_c4Follows_ok))))
   all_goals (first | rfl | (rfl))
end
section
set_option linter.unusedVariables false
def overH (h : DH) : DH := (-h.1 - 1, h.2.1, h.2.2)
def hdO (h : DH) : Hd := h.2.2
variable {mo : Mem} {hss l : List (List DH)} {d was : List (List DCommit)} {p k : Nat} {x : List DH} {y : List DCommit} {a : DH} {b : DCommit}
theorem hdr_row (hF : F2 (F2 (Pc TOp mo)) hss d) (hl : l = hss.map (List.map overH)) (hw : was = d) (hx : l[p]? = some x) (hy : was[p]? = some y) : ∃ h, x = h.map overH ∧ F2 (Pc TOp mo) h y := by
  rw [hl, List.getElem?_map] at hx
  obtain ⟨h, hh, rfl⟩ := Option.map_eq_some_iff.1 hx
  obtain ⟨y', hy', hp⟩ := hF.get hh
  rw [hw, hy'] at hy
  obtain rfl := Option.some.inj hy
  exact ⟨h, rfl, hp⟩
theorem hdr_len (hF : F2 (F2 (Pc TOp mo)) hss d) (hl : l = hss.map (List.map overH)) (hw : was = d) (hx : l[p]? = some x) (hy : was[p]? = some y) : x.length = y.length := by
  obtain ⟨h, rfl, hp⟩ := hdr_row hF hl hw hx hy
  rw [List.length_map, hp.len]
theorem hdr_at (hF : F2 (F2 (Pc TOp mo)) hss d) (hl : l = hss.map (List.map overH)) (hw : was = d) (hx : l[p]? = some x) (hy : was[p]? = some y) (ha : x[k]? = some a) (hb : y[k]? = some b) : a.1 = -b.1 - 1 := by
  obtain ⟨h, rfl, hp⟩ := hdr_row hF hl hw hx hy
  rw [List.getElem?_map] at ha
  obtain ⟨h0, hh, rfl⟩ := Option.map_eq_some_iff.1 ha
  obtain ⟨b', hb', hq⟩ := hp.get hh
  rw [hb'] at hb
  obtain rfl := Option.some.inj hb
  show -h0.1 - 1 = _
  rw [hq.1]
theorem flat_next {α β : Type} {f : α → β} {o : List β} {hs : List (List α)} {i : Nat} {r : List α} (h : o = (hs.take i).flatten.map f) (hr : hs[i]? = some r) : o ++ r.map f = (hs.take (i + 1)).flatten.map f := by
  rw [take_one hr, List.flatten_append, List.map_append, h]; simp
theorem flat_room {α β : Type} {f : α → β} {o : List β} {hs : List (List α)} {i : Nat} {r : List α} (h : o = (hs.take i).flatten.map f) (hr : hs[i]? = some r) : o.length + r.length ≤ hs.flatten.length := by
  have h1 := congrArg List.length (flat_next h hr)
  have h3 := congrArg (fun l => l.flatten.length) (List.take_append_drop (i + 1) hs)
  simp only [List.flatten_append, List.length_append] at h3
  simp only [List.length_append, List.length_map] at h1
  omega
theorem flat_len {α β : Type} {R : α → β → Prop} {hs : List (List α)} {d : List (List β)} (h : F2 (F2 R) hs d) : hs.flatten.length = d.flatten.length := by
  induction h with
  | nil => rfl
  | cons h _ ih => simp only [List.flatten_cons, List.length_append, h.len, ih]
theorem ops_room {n j : Nat} {d : List (List DCommit)} (h : ∀ x ∈ d, ∀ c ∈ x, c.2.2.length ≤ n ∧ ∀ o ∈ c.2.2, o.2.1.length ≤ j) : ∀ x ∈ d.flatten.map (fun x => x.2.2), x.length ≤ n ∧ ∀ o ∈ x, o.2.1.length ≤ j := fun x hx => by
  obtain ⟨c, hc, rfl⟩ := List.mem_map.1 hx
  obtain ⟨r, hr, hcr⟩ := List.mem_flatten.1 hc
  exact h r hr c hcr
end
section
set_option linter.unusedVariables false
set_option linter.unusedSimpArgs false
set_option maxRecDepth 4000
theorem fnOk117 : fnOk Try.prog 117 = true := by kernel_rfl
theorem fnOk118 : fnOk Try.prog 118 = true := by kernel_rfl
theorem tsl81 : tsl Try.prog 81 = some (61, 1, 24) := by kernel_rfl
theorem tz61 : tz Try.prog 61 = some [.slice none 0 0] := by kernel_rfl
theorem fnOk39 : fnOk Try.prog 39 = true := by kernel_rfl
theorem OpsOf_ok (W : World) {v0 : Value} {d0 : List DHC} (h0 : Rd (.sl THC) (wm W) [v0] d0) (e0 : d0.length ≤ 3518437200000) : CallR Try.prog 117 [v0] W (mnil) (fun v m' => ∃ (s0 : Value), v = s0 ∧ Ow (.sl .hdr) m' [s0] (d0.map hdO)) := by
 obtain ⟨A0, c0, rfl, l0, k0⟩ := h0.slice
 simp only [maxLen] at k0
 refine CallR.ofA (n := 20) Try.func117 rfl rfl rfl ?_
 refine VC.rs (VO.as (VO.k2 0 2 (VC.rs (VO.as (VO.k3 0 2 3 (VC.seq (VC.rs (VO.as ?_))))))))
 refine VO.kp [0] [(0, wm W)] ?_
 refine VO.k4 0 2 3 4 (VC.block ?_)
 refine VC.inv ((101, mnil) :: _) (fun _ h => h.nilc 101) ?_
 refine VC.loop (G := Nat × (List Hd) × (Option Addr) × Nat × Mem) (fun g => [(3, .slice (g.2.2.1) ((g.2.1).length) ((g.2.2.2.1))), (4, .int .i64 ((((g.1) : Nat) : Int))), (0, .slice A0 (d0.length) (c0)), (2, .slice none (0) (0))]) (fun g => [(101, (g.2.2.2.2)), (0, wm W)]) (fun g => ((g.1) ≤ d0.length) ∧ ((g.2.1) = (d0.take (g.1)).map hdO) ∧ (OwnL .hdr (g.2.2.2.2) mnil (.slice (g.2.2.1) (g.2.1).length (g.2.2.2.1)) (g.2.1))) (fun g => d0.length - (g.1)) (0, [], none, 0, mnil) (⟨by omega, by rfl, (OwnL.nil .hdr mnil mnil)⟩) ⟨⟨rfl, rfl, rfl, rfl, trivial⟩, fun _ h => h.sub [101, 0]⟩ ?_
 rintro ⟨k, out, out_A, out_c, out_m⟩ ⟨hk, ho, h_out⟩
 replace hk : k ≤ d0.length := hk
 replace ho : out = (d0.take k).map hdO := ho
 replace h_out : OwnL .hdr out_m mnil (.slice out_A out.length out_c) out := h_out
 show VC _ _ _ _ _ [(3, .slice out_A (out.length) (out_c)), (4, .int .i64 (((k : Nat) : Int))), (0, .slice A0 (d0.length) (c0)), (2, .slice none (0) (0))] [(101, out_m), (0, wm W)]
 have l_out : out.length ≤ out_c := by obtain ⟨_, _, he, hl, _⟩ := h_out.slice; simp only [Value.slice.injEq] at he; omega
 have k_out : out_c ≤ 9223372036854775807 := by obtain ⟨_, _, he, _, hl⟩ := h_out.slice; simp only [Value.slice.injEq, maxLen] at he hl; omega
 have hlo : out.length ≤ k := by rw [ho]; simp; omega
 refine VC.seq (VC.rs (VO.mv (VO.mv ?_)))
 refine VO.y rfl (.lenS rfl tsl61) ?_
 refine VO.y rfl (.lss rfl rfl) (VO.k5 0 2 3 4 8 ?_)
 refine VC.cond rfl (fun hc2 => ?_) (fun hc2 => ?_)
 · refine VC.skip (outN (VC.seq (VC.block ?_)))
   refine VC.reg ?_
   refine VO.mv (VO.mv (VO.mv ?_))
   obtain ⟨x3, hx3⟩ : ∃ z_, (d0)[k]? = some z_ := ⟨_, List.getElem?_eq_getElem bd⟩
   obtain ⟨gg3, oo3, ec3, ea3, hce3, hre3⟩ := h0.elem hx3
   cases ea3
   obtain ⟨rfl, q3_0, q3_1⟩ := open_HC (x0 := x3.1) (x1 := x3.2.1) (x2 := x3.2.2) hre3
   simp only [inK] at q3_0 q3_1
   refine VO.y rfl (.ixI k rfl rfl tsl61 rfl bd) ?_
   refine VO.y rfl (.fa rfl tst52 rfl) ?_
   refine VO.y rfl (.ld1 0 rfl tk22 rfl (hce3.at1 (j := 2) rfl)) ?_
   refine VO.bsl (cs := [Value.slice x3.2.2.1 (x3.2.2.2.1) (x3.2.2.2.2)]) 105 rfl rfl tsl42 tz22 rfl rfl (fun g4 => ?_)
   obtain ⟨mo6, cs6, hM6, hA6, hC6⟩ := h_out
   refine VO.app 101 rfl rfl rfl tsl42 tz22 rfl rfl hM6 hA6 (.row 105 _ _ _ 1 1 _ _ Try.underlying42 rfl (cellsAt_one rfl rfl)) (by simp [Value.oneCell']) bdm bd (by decide) (fun v6 m6 hN6 => ?_)
   have ho6 : OwnL .hdr m6 mnil v6 (out ++ [x3.2.2]) := OwnL.one hC6 hN6 (show Rd .hdr _ [_] _ from rfl)
   obtain ⟨A6, c6, rfl, l6, k6⟩ := ho6.slice
   simp only [maxLen] at k6
   refine VO.as (VO.k5 0 2 3 4 8 (outBN (outN ?_)))
   refine VC.reg ?_
   refine VO.mv ?_
   refine VO.y rfl (.add (c := ((k + 1 : Nat) : Int)) rfl rfl (by omega) ⟨bd, bd⟩) ?_
   refine VO.as ?_
   refine VO.kp [101, 0] [(101, m6), (0, wm W)] ?_
   refine VO.k5 0 2 3 4 8 ?_
   exact outN ⟨⟨k + 1, out ++ [x3.2.2], A6, c6, m6⟩, ⟨by omega, by (rw [ho, take_one ‹d0[k]? = some _›, List.map_append]; rfl), ho6⟩, bd, ⟨⟨rfl, rfl, rfl, rfl, trivial⟩, fun _ h => Inv.sub h [101, 0]⟩⟩
 · refine VC.exit (outE (outE (outBB (outN (VC.rs (VO.mv (VO.as (VO.k5 0 2 3 4 8 (VC.ret ?_)))))))))
   refine ⟨_, _, res_run (rs := [.tmp 2]) rfl (.tmp rfl .nil), fun W_ hI => out_of (l := [out_m]) hI [101] rfl rfl (mle_refl _) (fun hS_ => ?_)⟩
   dsimp only [packV]
   have he0 : (d0.map hdO : Ty.Den (.sl .hdr)) = out := by first | rfl | (rw [ho, List.take_of_length_le (by omega)])
   refine ⟨Value.slice out_A (out.length) (out_c), ?_, ?_⟩
   rotate_left
   · rw [he0]; exact (Ow.up (OwnL.ow h_out rfl) (hS_.1 _ (.head _)))
   all_goals (first | rfl | (simp [*]; done))
theorem overCommits_ok (W : World) {m0 : Mem} (hm : mle (m0) (wm W)) {v0 : Value} {d0 : List DHC} (h0 : Ow (.sl THC) m0 [v0] d0) : CallR Try.prog 118 [v0] W (m0) (fun v m' => v = .tuple #[] ∧ Ow (.sl THC) m' [v0] (d0.map overH)) := by
 obtain ⟨A0, c0, e0_, l0, k0⟩ := h0.slice
 subst e0_
 simp only [maxLen] at k0
 refine CallR.ofB (n := 30) hm Try.func118 rfl rfl rfl ?_
 refine VC.rs (VO.mv ?_)
 refine VO.y rfl (.capS rfl tsl61) ?_
 refine VO.as (VO.k2 0 2 (VC.seq (VC.rs (VO.as (VO.k3 0 2 3 (VC.block ?_))))))
 refine VC.loop (G := Nat × (List DHC) × Mem) (fun g => [(0, .slice A0 (d0.length) (c0)), (3, .int .i64 ((((g.1) : Nat) : Int))), (0, .slice A0 (d0.length) (c0)), (2, .int .i64 (((c0 : Nat) : Int)))]) (fun g => [(0, mout (wm W) (m0)), (1, (g.2.2))]) (fun g => ((g.1) ≤ d0.length) ∧ ((g.2.1) = (d0.take (g.1)).map overH ++ d0.drop (g.1)) ∧ (OwnL THC (g.2.2) mnil (.slice A0 (d0.length) (c0)) (g.2.1))) (fun g => d0.length - (g.1)) (0, d0, m0) (⟨by omega, by simp, (Ow.ownl h0 rfl mnil)⟩) ⟨⟨rfl, rfl, rfl, rfl, trivial⟩, fun _ h => h.sub [0, 1]⟩ ?_
 rintro ⟨k, l, l_m⟩ ⟨hk, hl, h_l⟩
 replace hk : k ≤ d0.length := hk
 replace hl : l = (d0.take k).map overH ++ d0.drop k := hl
 replace h_l : OwnL THC l_m mnil (.slice A0 (d0.length) (c0)) l := h_l
 show VC _ _ _ _ _ [(0, .slice A0 (d0.length) (c0)), (3, .int .i64 (((k : Nat) : Int))), (0, .slice A0 (d0.length) (c0)), (2, .int .i64 (((c0 : Nat) : Int)))] [(0, mout (wm W) (m0)), (1, l_m)]
 have ll_l := slice_len (OwnL.ow h_l rfl)
 refine VC.seq (VC.rs (VO.mv (VO.mv ?_)))
 refine VO.y rfl (.lenS rfl tsl61) ?_
 refine VO.y rfl (.lss rfl rfl) ?_
 refine VO.kp [0, 1] [(0, mout (wm W) (m0)), (1, l_m)] ?_
 refine VO.k4 0 2 3 9 ?_
 refine VC.cond rfl (fun hc1 => ?_) (fun hc1 => ?_)
 · refine VC.skip (outN (VC.seq (VC.block ?_)))
   refine VC.reg ?_
   refine VO.mv (VO.mv (VO.mv (VO.mv ?_)))
   obtain ⟨x2, hx2⟩ : ∃ z_, (l)[k]? = some z_ := ⟨_, List.getElem?_eq_getElem bd⟩
   obtain ⟨gg2, oo2, ec2, ea2, hce2, hre2⟩ := h_l.elem hx2
   cases ea2
   obtain ⟨rfl, q2_0, q2_1⟩ := open_HC (x0 := x2.1) (x1 := x2.2.1) (x2 := x2.2.2) hre2
   simp only [inK] at q2_0 q2_1
   refine VO.y rfl (.ixI k rfl rfl tsl61 rfl bd) ?_
   refine VO.y rfl (.fa rfl tst52 rfl) ?_
   refine VO.y rfl (.ld1 1 rfl tk3 rfl (hce2.at1 (j := 0) rfl)) ?_
   refine VO.y rfl (.cpl rfl ⟨bd, bd⟩) ?_
   refine VO.y rfl (.ixI k rfl rfl tsl61 rfl bd) ?_
   refine VO.y rfl (.fa rfl tst52 rfl) ?_
   refine VO.upd (e := THC) (k := 1) (i := k) (x' := (-x2.1 - 1, x2.2)) 1 0 rfl rfl (.inr ⟨tk3, rfl⟩) rfl rfl rfl (OwnL.ow h_l rfl) rfl hx2 rfl (fun mi ec he => by obtain ⟨rfl, z0, z1⟩ := open_HC (x0 := x2.1) (x1 := x2.2.1) (x2 := x2.2.2) (he.rd (mle_refl _)); exact Ow.of (m := mnil) rfl (mk_HC (-x2.1 - 1) x2.2.1 x2.2.2 bdk z1)) (fun mu4 hu4 => ?_)
   have hl4 := slice_len hu4
   refine VO.k4 0 2 3 9 (outBN (outN ?_))
   refine VC.reg ?_
   refine VO.mv ?_
   refine VO.y rfl (.add (c := ((k + 1 : Nat) : Int)) rfl rfl (by omega) ⟨bd, bd⟩) ?_
   refine VO.as (VO.k4 0 2 3 9 ?_)
   exact outN ⟨⟨k + 1, (l).set k (-x2.1 - 1, x2.2), mu4⟩, ⟨by omega, by exact (over_set (f := overH) hl ‹l[k]? = some _›).2, (Ow.ownl hu4 rfl mnil)⟩, bd, ⟨⟨rfl, rfl, rfl, rfl, trivial⟩, fun _ h => Inv.sub h [0, 1]⟩⟩
 refine VC.exit (outE (outE (outBB (outN (VC.block ?_)))))
 refine VC.loop (G := (List DHC) × Mem × Nat) (fun g => [(0, .slice A0 ((g.2.2)) (c0)), (2, .int .i64 (((c0 : Nat) : Int))), (3, .int .i64 (((k : Nat) : Int))), (9, .bool (decide (((k : Nat) : Int) < ((d0.length : Nat) : Int))))]) (fun g => [(0, mout (wm W) (m0)), (1, (g.2.1))]) (fun g => (∃ j, (g.1) = d0.map overH ++ List.replicate j (99, 0, (none, 0, 0))) ∧ ((g.2.2) ≤ c0) ∧ (OwnL THC (g.2.1) mnil (.slice A0 ((g.2.2)) (c0)) (g.1))) (fun g => c0 - (g.2.2)) (l, l_m, d0.length) (⟨by (exact ⟨0, by rw [hl, List.take_of_length_le (by omega), List.drop_of_length_le (by omega)]; simp⟩), by omega, h_l⟩) ⟨⟨rfl, rfl, rfl, rfl, trivial⟩, fun _ h => h.sub [0, 1]⟩ ?_
 rintro ⟨l2, l2_m, l2_n⟩ ⟨hl2, hc, h_l2⟩
 replace hl2 : ∃ j, l2 = d0.map overH ++ List.replicate j (99, 0, (none, 0, 0)) := hl2
 replace hc : l2_n ≤ c0 := hc
 replace h_l2 : OwnL THC l2_m mnil (.slice A0 (l2_n) (c0)) l2 := h_l2
 show VC _ _ _ _ _ [(0, .slice A0 (l2_n) (c0)), (2, .int .i64 (((c0 : Nat) : Int))), (3, .int .i64 (((k : Nat) : Int))), (9, .bool (decide (((k : Nat) : Int) < ((d0.length : Nat) : Int))))] [(0, mout (wm W) (m0)), (1, l2_m)]
 have ll_l2 := slice_len (OwnL.ow h_l2 rfl)
 refine VC.seq (VC.rs (VO.mv ?_))
 refine VO.y rfl (.lenS rfl tsl61) ?_
 refine VO.mv (VO.y rfl (.lss rfl rfl) (VO.k5 0 2 3 9 25 ?_))
 refine VC.cond rfl (fun hc5 => ?_) (fun hc5 => ?_)
 refine VC.skip (outN (VC.block ?_))
 refine VC.reg ?_
 refine VO.mv ?_
 refine VO.y rfl (.bst (cs := [.int .i64 (99), .int .i64 (0), .slice none (0) (0)]) rfl tst52 tz52 rfl) ?_
 refine VO.bsl (cs := [Value.int .i64 (99), Value.int .i64 (0), Value.slice none (0) (0)]) 107 rfl rfl tsl61 tz52 rfl rfl (fun g6 => ?_)
 refine VO.inv ((109, mnil) :: _) (fun _ h => h.nilc 109) ?_
 have hxl8 := slice_len (OwnL.ow h_l2 rfl)
 refine VO.appI (e := THC) (xs := l2) (cap := c0) (A := A0) (l := l2_n) 1 109 107 rfl rfl rfl tsl61 rfl rfl rfl (OwnL.ow h_l2 rfl) (Ow.of (m := mnil) rfl (mk_HC (m := _) 99 0 (none, 0, 0) bdk bdk)) Try.underlying61 (cellsAt_one rfl rfl) bd (fun m8 ho8 => ?_)
 refine VO.as (VO.k5 0 2 3 9 25 (outBN ?_))
 exact outN ⟨⟨l2 ++ [(99, 0, (none, 0, 0))], m8, l2_n + 1⟩, ⟨by exact over_more hl2, by dsimp only; omega, (Ow.ownl ho8 rfl mnil)⟩, by (dsimp only; omega), ⟨⟨rfl, rfl, rfl, rfl, trivial⟩, fun _ h => Inv.sub h [0, 1]⟩⟩
 · refine VC.exit (outE (outE (outBB ?_)))
   have hcut0 := Ow.pre (j := d0.length) (OwnL.ow h_l2 rfl) bd
   refine ⟨_, _, res_run (rs := []) rfl .nil, fun W_ hI => out_of (l := [l2_m]) hI [1] rfl rfl (mle_refl _) (fun hS_ => ?_)⟩
   dsimp only [packV]
   have hm0_ : (d0.map overH : Ty.Den (.sl THC)) = (l2).take d0.length := by first | rfl | (obtain ⟨j, rfl⟩ := hl2; simp)
   refine ⟨?_, ?_⟩
   rotate_left
   · rw [hm0_]; exact (Ow.up hcut0 (hS_.1 _ (.head _)))
   all_goals (first | rfl | (simp [*]; done))
theorem fin0_ApartCommits_ok {P : Prop} (h : P := by first | omega | (simp only [List.length_append, List.length_nil, List.length_cons, List.length_take, List.length_drop] at *; omega) | (have h_ := flat_room ho ‹hss[_]? = some _›; have h2_ := flat_len hF; simp only [List.length_append, List.length_map] at *; omega) | (have h_ := hdr_len hF hl4 hw4 ‹l[_]? = some _› ‹was[_]? = some _›; omega)) : P := h
theorem ApartCommits_ok (W : World) {m0 : Mem} (hm : mle (m0) (wm W)) {v0 : Value} {d0 : List (List DCommit)} (h0 : Ow (.sl (.sl TCommit)) m0 [v0] d0) (e0 : d0.length ≤ 1000) (e1 : ∀ x ∈ d0, x.length ≤ 3518437200000) (e2 : d0.flatten.length ≤ 1000) (e3 : ∀ x ∈ d0, ∀ c ∈ x, c.2.2.length ≤ 3518437208800 ∧ ∀ o ∈ c.2.2, o.2.1.length ≤ 140737488400000) : CallR Try.prog 76 [v0] W (m0) (fun v m' => v = .bool true) := by
 obtain ⟨A0, c0, e0_, l0, k0⟩ := h0.slice
 subst e0_
 simp only [maxLen] at k0
 refine CallR.ofB (n := 89) hm Try.func76 rfl rfl rfl ?_
 obtain ⟨hss, ml, mo, hSp, hL, hF, hO⟩ := Ow.peelLL (e := TOp) h0
 have hlh := hF.len
 refine VC.inv _ (fun _ h => h.parts (i := 1) rfl hSp [1, 2]) ?_
 refine VC.rs (VO.as (VO.k2 0 2 (VC.rs (VO.mv ?_))))
 refine VO.y rfl (.lenS rfl tsl81) ?_
 refine VO.mks (e := (.sl TCommit)) (a := ((d0.length : Nat) : Int)) (k := d0.length) 101 rfl rfl rfl rfl tsl81 tz61 (y := []) (Ow.nil _ mnil) (by simp only [maxLen]; (exact fin0_ApartCommits_ok)) (by exact fin0_ApartCommits_ok) (by decide) (fun v1 m1 hk1 => ?_)
 obtain ⟨A1, c1, rfl, l1, k1⟩ := hk1.slice
 simp only [maxLen] at k1
 have ln1 : (List.replicate d0.length ([] : List DCommit)).length = d0.length := List.length_replicate
 refine VO.as (VO.k3 0 2 3 (VC.rs (VO.as ?_)))
 refine VO.kp [101, 1, 2, 0] [(101, m1), (1, ml), (2, mo), (0, mout (wm W) (m0))] ?_
 refine VO.k4 0 2 3 4 (VC.seq (VC.rs (VO.as (VO.k5 0 2 3 4 5 (VC.block ?_)))))
 refine VC.inv ((102, mnil) :: _) (fun _ h => h.nilc 102) ?_
 refine VC.loop (G := Nat × (List (List DCommit)) × Mem × (List Hd) × (Option Addr) × Nat × Mem) (fun g => [(3, .slice A1 ((List.replicate d0.length ([] : List DCommit)).length) (c1)), (4, .slice (g.2.2.2.2.1) ((g.2.2.2.1).length) ((g.2.2.2.2.2.1))), (5, .int .i64 ((((g.1) : Nat) : Int))), (0, .slice A0 (d0.length) (c0)), (2, .bool false), (3, .slice A1 ((List.replicate d0.length ([] : List DCommit)).length) (c1))]) (fun g => [(102, (g.2.2.2.2.2.2)), (101, (g.2.2.1)), (1, ml), (2, mo), (0, mout (wm W) (m0))]) (fun g => ((g.1) ≤ d0.length) ∧ ((g.2.1) = d0.take (g.1) ++ List.replicate (d0.length - (g.1)) []) ∧ ((g.2.2.2.1) = (hss.take (g.1)).flatten.map hdO) ∧ (Ow (.sl (.sl TCommit)) (g.2.2.1) [.slice A1 ((List.replicate d0.length ([] : List DCommit)).length) (c1)] (g.2.1)) ∧ (OwnL .hdr (g.2.2.2.2.2.2) mnil (.slice (g.2.2.2.2.1) (g.2.2.2.1).length (g.2.2.2.2.2.1)) (g.2.2.2.1))) (fun g => d0.length - (g.1)) (0, List.replicate d0.length ([] : List DCommit), m1, [], none, 0, mnil) (⟨by omega, by simp, by rfl, hk1, (OwnL.nil .hdr mnil mnil)⟩) ⟨⟨rfl, rfl, rfl, rfl, rfl, rfl, trivial⟩, fun _ h => h.sub [102, 101, 1, 2, 0]⟩ ?_
 rintro ⟨i, was, was_m, ops, ops_A, ops_c, ops_m⟩ ⟨hi, hw, ho, h_was, h_ops⟩
 replace hi : i ≤ d0.length := hi
 replace hw : was = d0.take i ++ List.replicate (d0.length - i) [] := hw
 replace ho : ops = (hss.take i).flatten.map hdO := ho
 replace h_was : Ow (.sl (.sl TCommit)) was_m [.slice A1 ((List.replicate d0.length ([] : List DCommit)).length) (c1)] was := h_was
 replace h_ops : OwnL .hdr ops_m mnil (.slice ops_A ops.length ops_c) ops := h_ops
 show VC _ _ _ _ _ [(3, .slice A1 ((List.replicate d0.length ([] : List DCommit)).length) (c1)), (4, .slice ops_A (ops.length) (ops_c)), (5, .int .i64 (((i : Nat) : Int))), (0, .slice A0 (d0.length) (c0)), (2, .bool false), (3, .slice A1 ((List.replicate d0.length ([] : List DCommit)).length) (c1))] [(102, ops_m), (101, was_m), (1, ml), (2, mo), (0, mout (wm W) (m0))]
 have ll_was := slice_len h_was
 have l_ops : ops.length ≤ ops_c := by obtain ⟨_, _, he, hl, _⟩ := h_ops.slice; simp only [Value.slice.injEq] at he; omega
 have k_ops : ops_c ≤ 9223372036854775807 := by obtain ⟨_, _, he, _, hl⟩ := h_ops.slice; simp only [Value.slice.injEq, maxLen] at he hl; omega
 refine VC.seq (VC.rs (VO.mv (VO.mv ?_)))
 refine VO.y rfl (.lenS rfl tsl81) ?_
 refine VO.y rfl (.lss rfl rfl) (VO.k6 0 2 3 4 5 15 ?_)
 refine VC.cond rfl (fun hc3 => ?_) (fun hc3 => ?_)
 · refine VC.skip (outN (VC.seq (VC.block (VC.rs (VO.mv (VO.mv (VO.mv (VO.mv ?_))))))))
   obtain ⟨x4, hx4⟩ : ∃ z_, (hss)[i]? = some z_ := ⟨_, List.getElem?_eq_getElem (by exact fin0_ApartCommits_ok)⟩
   obtain ⟨gg4, oo4, ec4, ea4, hce4, hre4⟩ := (Ow.rd hL (mle_refl _)).elem hx4
   cases ea4
   have hr4 := hre4
   obtain ⟨A4_, c4_, rfl, _⟩ := hre4
   have rr4 := Rd.room hr4
   refine VO.y rfl (.ixI i rfl rfl tsl81 rfl (by exact fin0_ApartCommits_ok)) ?_
   refine VO.y rfl (.ld1 1 rfl tk61 rfl hce4) ?_
   obtain ⟨y4, hy4, hp4⟩ := hF.get (hx4)
   have hn4 := hp4.len
   have hm4 := e1 _ (List.mem_of_getElem? hy4)
   refine VO.callN 105 rfl fnOk56 rfl (fun W hW => CopyCommits_ok W (row_rd (e := TOp) (Rd.mono hr4 (hW.at (i := 1) rfl)) (hp4.mono fun _ _ h => Pc.mono h (hW.at (i := 2) rfl))) (by exact fin0_ApartCommits_ok) (by exact fun c hc => (e3 _ (List.mem_of_getElem? ‹d0[i]? = some _›) c hc).1)) (fun v5 m5 hv5 => ?_)
   obtain ⟨s5_0, rfl, f5_0⟩ := hv5
   obtain ⟨A5_0, c5_0, eq5_0, l5_0, k5_0⟩ := f5_0.slice
   subst eq5_0
   simp only [maxLen] at k5_0
   obtain ⟨x6, hx6⟩ : ∃ z_, (was)[i]? = some z_ := ⟨_, List.getElem?_eq_getElem (by exact fin0_ApartCommits_ok)⟩
   obtain ⟨gg6, oo6, ec6, ea6, hce6, hre6⟩ := (Ow.rd h_was (mle_refl _)).elem hx6
   cases ea6
   have hr6 := hre6
   obtain ⟨A6_, c6_, rfl, _⟩ := hre6
   have rr6 := Rd.room hr6
   refine VO.y rfl (.ixI i rfl rfl tsl81 rfl (by exact fin0_ApartCommits_ok)) ?_
   refine VO.setE (e := (.sl TCommit)) (k := 1) (i := i) 101 105 rfl rfl (.inr ⟨tk61, rfl⟩) rfl rfl rfl rfl h_was rfl hx6 (x' := y4) (Ow.up f5_0 ((Seps.one (mle_refl _)).1 _ (.head _))) (fun mu7 hu7 => ?_)
   have hl7 := slice_len hu7
   refine VO.kp [102, 101, 1, 2, 0] [(102, ops_m), (101, mu7), (1, ml), (2, mo), (0, mout (wm W) (m0))] ?_
   refine VO.k6 0 2 3 4 5 15 ?_
   refine VC.reg ?_
   refine VO.mv (VO.mv (VO.mv ?_))
   refine VO.y rfl (.ixI i rfl rfl tsl81 rfl (by exact fin0_ApartCommits_ok)) ?_
   refine VO.y rfl (.ld1 1 rfl tk61 rfl hce4) ?_
   refine VO.callN 109 rfl fnOk117 rfl (fun W hW => OpsOf_ok W (Rd.mono hr4 (hW.at (i := 1) rfl)) (by exact fin0_ApartCommits_ok)) (fun v9 m9 hv9 => ?_)
   obtain ⟨s9_0, rfl, f9_0⟩ := hv9
   obtain ⟨A9_0, c9_0, eq9_0, l9_0, k9_0⟩ := f9_0.slice
   subst eq9_0
   simp only [maxLen] at k9_0
   obtain ⟨mo10, cs10, hM10, hA10, hC10⟩ := h_ops
   obtain ⟨all10, hS10, hR10⟩ := Rd.srcI (P := Try.prog) ((OwnL.rd (Ow.ownl f9_0 rfl mnil) (mle_refl _) (mle_nil _))) Try.underlying42
   refine VO.app 102 rfl rfl rfl tsl42 tz22 rfl rfl hM10 hA10 (hS10 _ 109 rfl) hR10.nice (by simp only [maxLen]; (exact fin0_ApartCommits_ok)) (by exact fin0_ApartCommits_ok) (by decide) (fun v10 m10 hN10 => ?_)
   have ho10 : OwnL .hdr m10 mnil v10 (ops ++ (x4.map hdO)) := OwnL.more hC10 hN10 (All2c.mono hR10 fun _ _ h => Rd.flat rfl h _)
   obtain ⟨A10, c10, rfl, l10, k10⟩ := ho10.slice
   simp only [maxLen] at k10
   refine VO.as (VO.k6 0 2 3 4 5 15 (outBN (outN ?_)))
   refine VC.reg ?_
   refine VO.mv ?_
   refine VO.y rfl (.add (c := ((i + 1 : Nat) : Int)) rfl rfl (by omega) ⟨by exact fin0_ApartCommits_ok, by exact fin0_ApartCommits_ok⟩) ?_
   refine VO.as (VO.k6 0 2 3 4 5 15 ?_)
   exact outN ⟨⟨i + 1, (was).set i y4, mu7, ops ++ (x4.map hdO), A10, c10, m10⟩, ⟨by omega, by exact fill_next hw ‹d0[i]? = some _›, by exact flat_next ho ‹hss[i]? = some _›, hu7, ho10⟩, by exact fin0_ApartCommits_ok, ⟨⟨rfl, rfl, rfl, rfl, rfl, rfl, trivial⟩, fun _ h => Inv.sub h [102, 101, 1, 2, 0]⟩⟩
 refine VC.exit (outE (outE (outBB (outN (VC.seq (VC.rs (VO.as ?_)))))))
 refine VO.kp [102, 101, 1, 2, 0] [(102, ops_m), (101, was_m), (1, ml), (2, mo), (0, mout (wm W) (m0))] ?_
 refine VO.k7 0 2 3 4 5 6 15 (VC.block ?_)
 refine VC.loop (G := Nat × (List (List DHC)) × Mem) (fun g => [(0, .slice A0 (d0.length) (c0)), (6, .int .i64 ((((g.1) : Nat) : Int))), (0, .slice A0 (d0.length) (c0)), (3, .slice A1 ((List.replicate d0.length ([] : List DCommit)).length) (c1)), (4, .slice ops_A (ops.length) (ops_c)), (5, .int .i64 (((i : Nat) : Int))), (15, .bool (decide (((i : Nat) : Int) < ((d0.length : Nat) : Int))))]) (fun g => [(102, ops_m), (101, was_m), (1, (g.2.2)), (2, mo), (0, mout (wm W) (m0))]) (fun g => (was = d0) ∧ ((g.1) ≤ d0.length) ∧ ((g.2.1) = (hss.take (g.1)).map (List.map overH) ++ hss.drop (g.1)) ∧ (Ow (.sl (.sl THC)) (g.2.2) [.slice A0 (d0.length) (c0)] (g.2.1))) (fun g => d0.length - (g.1)) (0, hss, ml) (⟨by exact fill_all hw (by omega), by omega, by simp, hL⟩) ⟨⟨rfl, rfl, rfl, rfl, rfl, rfl, rfl, trivial⟩, fun _ h => h.sub [102, 101, 1, 2, 0]⟩ ?_
 rintro ⟨j, l, l_m⟩ ⟨hw2, hj, hl, h_l⟩
 replace hw2 : was = d0 := hw2
 replace hj : j ≤ d0.length := hj
 replace hl : l = (hss.take j).map (List.map overH) ++ hss.drop j := hl
 replace h_l : Ow (.sl (.sl THC)) l_m [.slice A0 (d0.length) (c0)] l := h_l
 show VC _ _ _ _ _ [(0, .slice A0 (d0.length) (c0)), (6, .int .i64 (((j : Nat) : Int))), (0, .slice A0 (d0.length) (c0)), (3, .slice A1 ((List.replicate d0.length ([] : List DCommit)).length) (c1)), (4, .slice ops_A (ops.length) (ops_c)), (5, .int .i64 (((i : Nat) : Int))), (15, .bool (decide (((i : Nat) : Int) < ((d0.length : Nat) : Int))))] [(102, ops_m), (101, was_m), (1, l_m), (2, mo), (0, mout (wm W) (m0))]
 have ll_l := slice_len h_l
 refine VC.seq (VC.rs (VO.mv (VO.mv ?_)))
 refine VO.y rfl (.lenS rfl tsl81) ?_
 refine VO.y rfl (.lss rfl rfl) (VO.k7 0 3 4 5 6 15 36 ?_)
 refine VC.cond rfl (fun hc11 => ?_) (fun hc11 => ?_)
 refine VC.skip (outN (VC.seq (VC.block (VC.seq (VC.seq ?_)))))
 refine VC.regD _ 8 [(0, true), (1, true), (2, true), (3, true), (4, true), (5, true), (6, true), (7, true)] follows (by kernel_rfl) (fun _ h => h.sub [102, 101, 1, 2, 0]) ?_
 refine VD.y rfl rfl (.inl rfl) (.mv rfl) (VD.y rfl rfl (.inl rfl) (.mv rfl) ?_)
 obtain ⟨x12, hx12⟩ : ∃ z_, (l)[j]? = some z_ := ⟨_, List.getElem?_eq_getElem (by exact fin0_ApartCommits_ok)⟩
 obtain ⟨gg12, oo12, ec12, ea12, hce12, hre12⟩ := (Ow.rd h_l (mle_refl _)).elem hx12
 cases ea12
 have hr12 := hre12
 obtain ⟨A12_, c12_, rfl, _⟩ := hre12
 have rr12 := Rd.room hr12
 refine VD.y rfl rfl (.inl rfl) (.ixI j rfl rfl tsl81 rfl (by exact fin0_ApartCommits_ok)) ?_
 refine VD.y rfl rfl (.inl rfl) (.ld1 1 rfl tk61 rfl hce12) ?_
 obtain ⟨y12, hy12, hp12⟩ := hF.get ((over_set hl hx12).1)
 have hn12 := hp12.len
 have hm12 := e1 _ (List.mem_of_getElem? hy12)
 refine VD.y rfl rfl (.inl rfl) (.mv rfl) (VD.y rfl rfl (.inl rfl) (.mv rfl) ?_)
 obtain ⟨x13, hx13⟩ : ∃ z_, (was)[j]? = some z_ := ⟨_, List.getElem?_eq_getElem (by exact fin0_ApartCommits_ok)⟩
 obtain ⟨gg13, oo13, ec13, ea13, hce13, hre13⟩ := (Ow.rd h_was (mle_refl _)).elem hx13
 cases ea13
 have hr13 := hre13
 obtain ⟨A13_, c13_, rfl, _⟩ := hre13
 have rr13 := Rd.room hr13
 refine VD.y rfl rfl (.inl rfl) (.ixI j rfl rfl tsl81 rfl (by exact fin0_ApartCommits_ok)) ?_
 refine VD.y rfl rfl (.inl rfl) (.ld1 101 rfl tk61 rfl hce13) ?_
 refine VD.nil rfl ?_ rfl
 refine VO.callN 114 rfl fnOk69 rfl (fun W hW => SameCommits_ok W (row_rd (e := TOp) (Rd.mono hr12 (hW.at (i := 1) rfl)) (hp12.mono fun _ _ h => Pc.mono h (hW.at (i := 2) rfl))) (Rd.mono hr13 (hW.at (i := 101) rfl))) (fun v14 m14 hv14 => ?_)
 subst hv14
 refine VO.y rfl (.notD rfl) (VO.k8 0 3 4 5 6 15 36 48 (outN ?_))
 refine VC.cond rfl (fun hc15 => ?_) (fun hc15 => ?_)
 exact absurd (by have h_ := ‹was[j]? = some _›; rw [hw2] at h_; exact Option.some.inj (‹d0[j]? = some _›.symm.trans h_)) hc15
 refine VC.skip (outN ?_)
 refine VC.reg ?_
 refine VO.mv (VO.mv ?_)
 refine VO.y rfl (.ixI j rfl rfl tsl81 rfl (by exact fin0_ApartCommits_ok)) ?_
 refine VO.y rfl (.ld1 1 rfl tk61 rfl hce12) ?_
 obtain ⟨mr17, me17, hH17, hE17, hB17⟩ := Ow.hole h_l hx12 hce12
 refine VO.parts 1 [1, 118] rfl hH17 ?_
 refine VO.call 118 rfl fnOk118 rfl rfl (fun W hW => overCommits_ok W (hW.at (i := 118) rfl) hE17) (fun v17 m17 hv17 => ?_)
 obtain ⟨rfl, w17_0⟩ := hv17
 have wl17_0 := slice_len w17_0
 refine VO.gather (l := [mr17, m17]) 1 [1, 118] rfl (fun hg17 => ?_)
 have hL17 := Seps.back hg17 (fun hd_ => hB17 _ _ hd_ w17_0)
 have hl17 := slice_len hL17
 refine VO.kp [1, 102, 101, 2, 0] [(1, muns [mr17, m17]), (102, ops_m), (101, was_m), (2, mo), (0, mout (wm W) (m0))] ?_
 refine VO.k8 0 3 4 5 6 15 36 48 (outBN (outN ?_))
 refine VC.reg ?_
 refine VO.mv ?_
 refine VO.y rfl (.add (c := ((j + 1 : Nat) : Int)) rfl rfl (by omega) ⟨by exact fin0_ApartCommits_ok, by exact fin0_ApartCommits_ok⟩) ?_
 refine VO.as (VO.k8 0 3 4 5 6 15 36 48 ?_)
 exact outN ⟨⟨j + 1, (l).set j (x12.map overH), muns [mr17, m17]⟩, ⟨by exact hw2, by omega, by exact (over_set hl ‹l[j]? = some _›).2, hL17⟩, by exact fin0_ApartCommits_ok, ⟨⟨rfl, rfl, rfl, rfl, rfl, rfl, rfl, trivial⟩, fun _ h => Inv.sub h [102, 101, 1, 2, 0]⟩⟩
 refine VC.exit (outE (outE (outBB (outN (VC.seq (VC.rs (VO.as (VO.k8 0 3 4 5 6 7 15 36 (VC.block ?_)))))))))
 refine VC.loop (G := Nat) (fun p => [(7, .int .i64 (((p : Nat) : Int))), (0, .slice A0 (d0.length) (c0)), (3, .slice A1 ((List.replicate d0.length ([] : List DCommit)).length) (c1)), (4, .slice ops_A (ops.length) (ops_c)), (5, .int .i64 (((i : Nat) : Int))), (6, .int .i64 (((j : Nat) : Int))), (15, .bool (decide (((i : Nat) : Int) < ((d0.length : Nat) : Int)))), (36, .bool (decide (((j : Nat) : Int) < ((d0.length : Nat) : Int))))]) (fun p => [(102, ops_m), (101, was_m), (1, l_m), (2, mo), (0, mout (wm W) (m0))]) (fun p => (was = d0) ∧ (p ≤ d0.length) ∧ (l = hss.map (List.map overH))) (fun p => d0.length - p) 0 (⟨by exact hw2, by omega, by exact over_all hl (by omega)⟩) ⟨⟨rfl, rfl, rfl, rfl, rfl, rfl, rfl, rfl, trivial⟩, fun _ h => h.sub [102, 101, 1, 2, 0]⟩ ?_
 rintro p ⟨hw4, hp, hl4⟩
 refine VC.seq (VC.rs (VO.mv (VO.mv ?_)))
 refine VO.y rfl (.lenS rfl tsl81) ?_
 refine VO.y rfl (.lss rfl rfl) ?_
 refine VO.kp [102, 101, 1, 2, 0] [(102, ops_m), (101, was_m), (1, l_m), (2, mo), (0, mout (wm W) (m0))] ?_
 refine VO.k9 0 3 4 5 6 7 15 36 57 ?_
 refine VC.cond rfl (fun hc19 => ?_) (fun hc19 => ?_)
 refine VC.skip (outN (VC.seq (VC.block (VC.rs (VO.as (VO.k10 0 3 4 5 6 7 8 15 36 57 (VC.block ?_)))))))
 refine VC.loop (G := Nat) (fun k => [(8, .int .i64 (((k : Nat) : Int))), (0, .slice A0 (d0.length) (c0)), (3, .slice A1 ((List.replicate d0.length ([] : List DCommit)).length) (c1)), (4, .slice ops_A (ops.length) (ops_c)), (5, .int .i64 (((i : Nat) : Int))), (6, .int .i64 (((j : Nat) : Int))), (7, .int .i64 (((p : Nat) : Int))), (15, .bool (decide (((i : Nat) : Int) < ((d0.length : Nat) : Int)))), (36, .bool (decide (((j : Nat) : Int) < ((d0.length : Nat) : Int)))), (57, .bool (decide (((p : Nat) : Int) < ((d0.length : Nat) : Int))))]) (fun k => [(102, ops_m), (101, was_m), (1, l_m), (2, mo), (0, mout (wm W) (m0))]) (fun k => (k ≤ 9223372036854775807)) (fun k => 9223372036854775807 - k) 0 (by omega) ⟨⟨rfl, rfl, rfl, rfl, rfl, rfl, rfl, rfl, rfl, rfl, trivial⟩, fun _ h => h.sub [102, 101, 1, 2, 0]⟩ ?_
 rintro k hk
 refine VC.seq (VC.rs (VO.mv (VO.mv (VO.mv ?_))))
 obtain ⟨x20, hx20⟩ : ∃ z_, (l)[p]? = some z_ := ⟨_, List.getElem?_eq_getElem (by exact fin0_ApartCommits_ok)⟩
 obtain ⟨gg20, oo20, ec20, ea20, hce20, hre20⟩ := (Ow.rd h_l (mle_refl _)).elem hx20
 cases ea20
 have hr20 := hre20
 obtain ⟨A20_, c20_, rfl, _⟩ := hre20
 have rr20 := Rd.room hr20
 refine VO.y rfl (.ixI p rfl rfl tsl81 rfl (by exact fin0_ApartCommits_ok)) ?_
 refine VO.y rfl (.ld1 1 rfl tk61 rfl hce20) ?_
 refine VO.y rfl (.lenS rfl tsl61) ?_
 refine VO.y rfl (.lss rfl rfl) (VO.k11 0 3 4 5 6 7 8 15 36 57 66 ?_)
 refine VC.cond rfl (fun hc21 => ?_) (fun hc21 => ?_)
 refine VC.skip (outN (VC.seq (VC.block (VC.seq ?_))))
 refine VC.regD _ 17 [(0, true), (1, true), (2, true), (3, true), (4, true), (5, true), (6, true), (7, true), (8, true), (9, true), (10, true), (11, true), (12, true), (13, true), (14, true), (15, true), (16, true)] follows (by kernel_rfl) (fun _ h => h.sub [102, 101, 1, 2, 0]) ?_
 refine VD.y rfl rfl (.inl rfl) (.mv rfl) (VD.y rfl rfl (.inl rfl) (.mv rfl) ?_)
 refine VD.y rfl rfl (.inl rfl) (.ixI p rfl rfl tsl81 rfl (by exact fin0_ApartCommits_ok)) ?_
 refine VD.y rfl rfl (.inl rfl) (.ld1 1 rfl tk61 rfl hce20) ?_
 refine VD.y rfl rfl (.inl rfl) (.mv rfl) ?_
 obtain ⟨x23, hx23⟩ : ∃ z_, (x20)[k]? = some z_ := ⟨_, List.getElem?_eq_getElem (by exact fin0_ApartCommits_ok)⟩
 obtain ⟨gg23, oo23, ec23, ea23, hce23, hre23⟩ := hr20.elem hx23
 cases ea23
 obtain ⟨rfl, q23_0, q23_1⟩ := open_HC (x0 := x23.1) (x1 := x23.2.1) (x2 := x23.2.2) hre23
 simp only [inK] at q23_0 q23_1
 refine VD.y rfl rfl (.inl rfl) (.ixI k rfl rfl tsl61 rfl (by exact fin0_ApartCommits_ok)) ?_
 refine VD.y rfl rfl (.inl rfl) (.fa rfl tst52 rfl) ?_
 refine VD.y rfl rfl (.inl rfl) (.ld1 1 rfl tk3 rfl (hce23.at1 (j := 0) rfl)) ?_
 refine VD.y rfl rfl (.inl rfl) (.mv rfl) (VD.y rfl rfl (.inl rfl) (.mv rfl) ?_)
 obtain ⟨x24, hx24⟩ : ∃ z_, (was)[p]? = some z_ := ⟨_, List.getElem?_eq_getElem (by exact fin0_ApartCommits_ok)⟩
 obtain ⟨gg24, oo24, ec24, ea24, hce24, hre24⟩ := (Ow.rd h_was (mle_refl _)).elem hx24
 cases ea24
 have hr24 := hre24
 obtain ⟨A24_, c24_, rfl, _⟩ := hre24
 have rr24 := Rd.room hr24
 refine VD.y rfl rfl (.inl rfl) (.ixI p rfl rfl tsl81 rfl (by exact fin0_ApartCommits_ok)) ?_
 refine VD.y rfl rfl (.inl rfl) (.ld1 101 rfl tk61 rfl hce24) ?_
 refine VD.y rfl rfl (.inl rfl) (.mv rfl) ?_
 obtain ⟨x25, hx25⟩ : ∃ z_, (x24)[k]? = some z_ := ⟨_, List.getElem?_eq_getElem (by exact fin0_ApartCommits_ok)⟩
 obtain ⟨gg25, oo25, ec25, ea25, hce25, hre25⟩ := hr24.elem hx25
 cases ea25
 obtain ⟨q25_A2, q25_c2, rfl, q25_0, q25_1, q25_2⟩ := open_Commit (x0 := x25.1) (x1 := x25.2.1) (x2 := x25.2.2) hre25
 simp only [inK] at q25_0 q25_1
 have q25_r2 := Rd.room q25_2
 refine VD.y rfl rfl (.inl rfl) (.ixI k rfl rfl tsl61 rfl (by exact fin0_ApartCommits_ok)) ?_
 refine VD.y rfl rfl (.inl rfl) (.fa rfl tst52 rfl) ?_
 refine VD.y rfl rfl (.inl rfl) (.ld1 101 rfl tk3 rfl (hce25.at1 (j := 0) rfl)) ?_
 refine VD.y rfl rfl (.inl rfl) (.cpl rfl ⟨by exact fin0_ApartCommits_ok, by exact fin0_ApartCommits_ok⟩) ?_
 refine VD.nil rfl ?_ rfl
 refine VO.y rfl (.neq rfl rfl) ?_
 refine VO.kp [102, 101, 1, 2, 0] [(102, ops_m), (101, was_m), (1, l_m), (2, mo), (0, mout (wm W) (m0))] ?_
 refine VO.k12 0 3 4 5 6 7 8 15 36 57 66 86 (outN ?_)
 refine VC.cond rfl (fun hc26 => ?_) (fun hc26 => ?_)
 exact absurd (hdr_at hF hl4 hw4 ‹l[p]? = some _› ‹was[p]? = some _› (by assumption) (by assumption)) hc26
 refine VC.skip (outBN (outN ?_))
 refine VC.reg ?_
 refine VO.mv ?_
 refine VO.y rfl (.add (c := ((k + 1 : Nat) : Int)) rfl rfl (by omega) ⟨by exact fin0_ApartCommits_ok, by exact fin0_ApartCommits_ok⟩) ?_
 refine VO.as (VO.k12 0 3 4 5 6 7 8 15 36 57 66 86 ?_)
 exact outN ⟨k + 1, by omega, by exact fin0_ApartCommits_ok, ⟨⟨rfl, rfl, rfl, rfl, rfl, rfl, rfl, rfl, rfl, rfl, trivial⟩, fun _ h => Inv.sub h [102, 101, 1, 2, 0]⟩⟩
 refine VC.exit (outE (outE (outBB (outBN (outN ?_)))))
 refine VC.reg ?_
 refine VO.mv ?_
 refine VO.y rfl (.add (c := ((p + 1 : Nat) : Int)) rfl rfl (by omega) ⟨by exact fin0_ApartCommits_ok, by exact fin0_ApartCommits_ok⟩) ?_
 refine VO.as ?_
 refine VO.kp [102, 101, 1, 2, 0] [(102, ops_m), (101, was_m), (1, l_m), (2, mo), (0, mout (wm W) (m0))] ?_
 refine VO.k11 0 3 4 5 6 7 8 15 36 57 66 ?_
 exact outN ⟨p + 1, ⟨by exact hw4, by omega, by exact hl4⟩, by exact fin0_ApartCommits_ok, ⟨⟨rfl, rfl, rfl, rfl, rfl, rfl, rfl, rfl, trivial⟩, fun _ h => Inv.sub h [102, 101, 1, 2, 0]⟩⟩
 · refine VC.exit (outE (outE (outBB (outN (VC.rs (VO.mv ?_))))))
   refine VO.gather (l := [ops_m, mo]) 128 [102, 2] rfl (fun hg27 => ?_)
   have hops : Ow (.sl (.sl TOp)) (muns [ops_m, mo]) [Value.slice ops_A (ops.length) (ops_c)] (d0.flatten.map fun x => x.2.2) := Ow.mkOps hg27 (OwnL.ow h_ops rfl) (by have e_ : ops = hss.flatten.map hdO := (by rw [ho, List.take_of_length_le (by omega)]); rw [e_, List.map_map]; exact hO)
   refine VO.call 128 rfl fnOk39 rfl rfl (fun W hW => ApartOps_ok W (hW.at (i := 128) rfl) hops (by rw [List.length_map]; exact e2) (by exact ops_room e3)) (fun v29 m29 hv29 => ?_)
   subst hv29
   refine VO.as (VO.k10 0 2 3 4 5 6 7 15 36 57 (VC.ret ?_))
   refine ⟨_, _, res_run (rs := [.tmp 2]) rfl (.tmp rfl .nil), fun W_ hI => out_of (l := []) hI [] rfl rfl (mle_refl _) (fun hS_ => ?_)⟩
   dsimp only [packV]
   all_goals (first | rfl | (simp [*]; done))
end
section
set_option linter.unusedVariables false
set_option linter.unusedSimpArgs false
set_option maxRecDepth 4000
theorem fnOk53 : fnOk Try.prog 53 = true := by kernel_rfl
theorem fnOk54 : fnOk Try.prog 54 = true := by kernel_rfl
theorem fnOk55 : fnOk Try.prog 55 = true := by kernel_rfl
end
section
set_option linter.unusedVariables false
set_option linter.unusedSimpArgs false
set_option maxRecDepth 4000
theorem fnOk71 : fnOk Try.prog 71 = true := by kernel_rfl
end
section
set_option linter.unusedVariables false
set_option linter.unusedSimpArgs false
set_option maxRecDepth 4000
theorem fnOk116 : fnOk Try.prog 116 = true := by kernel_rfl
theorem c4Copy_ok (W : World) {v0 : List Value} {d0 : DCommit} (h0 : Rd TCommit (wm W) v0 d0) (e0 : d0.2.2.length ≤ 3518437208800) : CallR Try.prog 116 [.agg v0.toArray] W (mnil) (fun v m' => ∃ (s0 : List Value), v = .agg s0.toArray ∧ Ow TCommit m' s0 (d0)) := by
 obtain ⟨p0_A2, p0_c2, rfl, p0_0, p0_1, p0_2⟩ := open_Commit (x0 := d0.1) (x1 := d0.2.1) (x2 := d0.2.2) h0
 simp only [inK] at p0_0 p0_1
 have p0_r2 := Rd.room p0_2
 refine CallR.ofA (n := 13) Try.func116 rfl rfl rfl ?_
 refine VC.rs ?_
 refine VO.box (cs := [.int .i64 (d0.1), .int .i64 (d0.2.1), .slice p0_A2 (d0.2.2.length) (p0_c2)]) 102 rfl rfl rfl (fun g1 => ?_)
 refine VO.alloc 104 rfl tz52 (fun g3 => ?_)
 refine VO.k3 0 1 2 (VC.rs (VO.as (VO.k4 0 1 2 3 (VC.seq ?_))))
 refine VC.regD _ 8 [(0, true), (1, true), (2, true), (3, true), (4, true), (5, true), (6, true), (7, false)] follows (by kernel_rfl) (fun _ h => h.sub [104, 102, 0]) ?_
 refine VD.y rfl rfl (.inl rfl) (.fa rfl tst52 rfl) (VD.y rfl rfl (.inl rfl) (.ld1 102 rfl tk3 rfl (cellsAt_one rfl rfl)) (VD.y rfl rfl (.inl rfl) (.fa rfl tst52 rfl) (VD.y rfl rfl (.inl rfl) (.ld1 102 rfl tk3 rfl (cellsAt_one rfl rfl)) (VD.y rfl rfl (.inl rfl) (.mv rfl) (VD.y rfl rfl (.inl rfl) (.fa rfl tst52 rfl) (VD.y rfl rfl (.inl rfl) (.ld1 102 rfl tk22 rfl (cellsAt_one rfl rfl)) ?_))))))
 refine VD.inv _ (fun _ h => h.nilc 106) ?_
 obtain ⟨mo5, cs5, hM5, hA5, hC5⟩ := (OwnL.nil TOp mnil mnil)
 obtain ⟨all5, hS5, hR5⟩ := Rd.srcI (P := Try.prog) (p0_2) Try.underlying22
 refine VD.app 106 rfl rfl rfl rfl tsl22 tz49 rfl rfl hM5 hA5 (hS5 _ 0 rfl) hR5.nice bdm bd (by decide) (fun _ _ h => h.sub [104, 102, 0]) (fun v5 m5 hN5 => ?_)
 have ho5 : OwnL TOp m5 mnil v5 (d0.2.2) := OwnL.more hC5 hN5 (All2c.mono hR5 fun _ _ h => Rd.flat rfl h _)
 obtain ⟨A5, c5, rfl, l5, k5⟩ := ho5.slice
 simp only [maxLen] at k5
 refine VD.nil rfl ?_ rfl
 refine VO.y rfl (.bst (cs := [.int .i64 (d0.1), .int .i64 (d0.2.1), .slice A5 ((d0.2.2).length) (c5)]) rfl tst52 tz52 rfl) ?_
 refine VO.store (k := 3) (c' := [Value.int .i64 (d0.1), Value.int .i64 (d0.2.1), Value.slice A5 ((d0.2.2).length) (c5)]) 104 rfl rfl (.inl tk52) rfl rfl rfl rfl rfl ?_
 refine VO.kp [106, 104, 102, 0] [(106, m5), (104, mone g3 (.cells #[.int .i64 (d0.1), .int .i64 (d0.2.1), .slice A5 ((d0.2.2).length) (c5)] 52 (0, 0))), (102, mone g1 (.cells #[.int .i64 (d0.1), .int .i64 (d0.2.1), .slice p0_A2 (d0.2.2.length) (p0_c2)] 52 (0, 0))), (0, wm W)] ?_
 refine VO.k4 0 1 2 3 (outN (VC.ret ?_))
 refine ⟨_, _, res_run (rs := [.cell 2 52]) rfl (.agg 104 rfl tk52 rfl ⟨_, _, _, mone_self _ _, Nat.le_of_ble_eq_true rfl, rfl⟩ .nil), fun W_ hI => out_of (l := [m5]) hI [106] rfl rfl (mle_refl _) (fun hS_ => ?_)⟩
 dsimp only [packV]
 have he0 : (d0 : Ty.Den TCommit) = d0 := by first | rfl | (simp [*]; done)
 refine ⟨[Value.int .i64 (d0.1), Value.int .i64 (d0.2.1), Value.slice A5 ((d0.2.2).length) (c5)], ?_, ?_⟩
 rotate_left
 · rw [he0]; exact (show Ow TCommit _ _ d0 from (mkO_Commit d0.1 d0.2.1 d0.2.2 hS_ bdk bdk (OwnL.ow ho5 rfl)))
 all_goals (first | rfl | (simp [*]; done))
end
section
set_option linter.unusedVariables false
theorem take_le4 (e : Int) (l : List DCommit) (m : DMessage) : (takeOf e l m).1.length ≤ 4 := by
  by_cases h : (takeOf e l m).2 = 0
  · exact (take_len h).2
  · rw [take_bad h]; simp
end
section
set_option linter.unusedVariables false
abbrev TLMessage : Ty := .pair (.int .i64) (.pair (.int .i64) (.pair (.int .u8) (.pair (.int .i64) (.pair (.spl TStart) (.pair (.int .i64) (.pair (.int .i64) (.spl TLCommit)))))))
abbrev DLMessage := Int × Int × Int × Int × (List DStart × List DStart) × Int × Int × (List DLCommit × List DLCommit)
theorem open_LMessage {m : Mem} {cs : List Value} {x0 : Int} {x1 : Int} {x2 : Int} {x3 : Int} {x4 : List DStart × List DStart} {x5 : Int} {x6 : Int} {x7 : List DLCommit × List DLCommit} (h : Rd TLMessage m cs (x0, x1, x2, x3, x4, x5, x6, x7)) : ∃ (A4 : Option Addr), ∃ (c4 : Nat), ∃ (A7 : Option Addr), ∃ (c7 : Nat), cs = [(.int .i64 x0 : Value), .int .i64 x1, .int .u8 x2, .int .i64 x3, .slice A4 x4.1.length c4, .int .i64 x5, .int .i64 x6, .slice A7 x7.1.length c7] ∧ inK .i64 x0 ∧ inK .i64 x1 ∧ inK .u8 x2 ∧ inK .i64 x3 ∧ Rd (.spl TStart) m [.slice A4 x4.1.length c4] x4 ∧ inK .i64 x5 ∧ inK .i64 x6 ∧ Rd (.spl TLCommit) m [.slice A7 x7.1.length c7] x7 := by
  obtain ⟨p1, q1, rfl, u1, w1⟩ := Rd.pair h
  obtain ⟨rfl, z2⟩ := (show _ = _ ∧ _ from u1)
  obtain ⟨p3, q3, rfl, u3, w3⟩ := Rd.pair w1
  obtain ⟨rfl, z4⟩ := (show _ = _ ∧ _ from u3)
  obtain ⟨p5, q5, rfl, u5, w5⟩ := Rd.pair w3
  obtain ⟨rfl, z6⟩ := (show _ = _ ∧ _ from u5)
  obtain ⟨p7, q7, rfl, u7, w7⟩ := Rd.pair w5
  obtain ⟨rfl, z8⟩ := (show _ = _ ∧ _ from u7)
  obtain ⟨p9, q9, rfl, u9, w9⟩ := Rd.pair w7
  have z10 := u9
  obtain ⟨A10, c10, rfl, _⟩ := Rd.spl1 u9
  obtain ⟨p11, q11, rfl, u11, w11⟩ := Rd.pair w9
  obtain ⟨rfl, z12⟩ := (show _ = _ ∧ _ from u11)
  obtain ⟨p13, q13, rfl, u13, w13⟩ := Rd.pair w11
  obtain ⟨rfl, z14⟩ := (show _ = _ ∧ _ from u13)
  have z15 := w13
  obtain ⟨A15, c15, rfl, _⟩ := Rd.spl1 w13
  exact ⟨A10, c10, A15, c15, rfl, z2, z4, z6, z8, z10, z12, z14, z15⟩
theorem mk_LMessage {m : Mem} (x0 : Int) (x1 : Int) (x2 : Int) (x3 : Int) (x4 : List DStart × List DStart) (x5 : Int) (x6 : Int) (x7 : List DLCommit × List DLCommit) (h0 : inK .i64 x0) (h1 : inK .i64 x1) (h2 : inK .u8 x2) (h3 : inK .i64 x3) {v4 : Value} (h4 : Rd (.spl TStart) m [v4] x4) (h5 : inK .i64 x5) (h6 : inK .i64 x6) {v7 : Value} (h7 : Rd (.spl TLCommit) m [v7] x7) : Rd TLMessage m [.int .i64 x0, .int .i64 x1, .int .u8 x2, .int .i64 x3, v4, .int .i64 x5, .int .i64 x6, v7] (x0, x1, x2, x3, x4, x5, x6, x7) := (Rd.mkPair (c1 := [_]) (show Rd (.int .i64) m [_] _ from ⟨rfl, h0⟩) (Rd.mkPair (c1 := [_]) (show Rd (.int .i64) m [_] _ from ⟨rfl, h1⟩) (Rd.mkPair (c1 := [_]) (show Rd (.int .u8) m [_] _ from ⟨rfl, h2⟩) (Rd.mkPair (c1 := [_]) (show Rd (.int .i64) m [_] _ from ⟨rfl, h3⟩) (Rd.mkPair (c1 := [_]) h4 (Rd.mkPair (c1 := [_]) (show Rd (.int .i64) m [_] _ from ⟨rfl, h5⟩) (Rd.mkPair (c1 := [_]) (show Rd (.int .i64) m [_] _ from ⟨rfl, h6⟩) h7)))))))
theorem openO_LMessage {m : Mem} {cs : List Value} {x0 : Int} {x1 : Int} {x2 : Int} {x3 : Int} {x4 : List DStart × List DStart} {x5 : Int} {x6 : Int} {x7 : List DLCommit × List DLCommit} (h : Ow TLMessage m cs (x0, x1, x2, x3, x4, x5, x6, x7)) : ∃ (A4 : Option Addr), ∃ (c4 : Nat), ∃ (A7 : Option Addr), ∃ (c7 : Nat), ∃ (n4 : Mem), ∃ (n7 : Mem), cs = [(.int .i64 x0 : Value), .int .i64 x1, .int .u8 x2, .int .i64 x3, .slice A4 x4.1.length c4, .int .i64 x5, .int .i64 x6, .slice A7 x7.1.length c7] ∧ Seps m [n4, n7] ∧ inK .i64 x0 ∧ inK .i64 x1 ∧ inK .u8 x2 ∧ inK .i64 x3 ∧ Ow (.spl TStart) n4 [.slice A4 x4.1.length c4] x4 ∧ inK .i64 x5 ∧ inK .i64 x6 ∧ Ow (.spl TLCommit) n7 [.slice A7 x7.1.length c7] x7 := by
  obtain ⟨p1, q1, ma1, mb1, rfl, dj1, la1, lb1, u1, w1⟩ := Ow.pair h
  obtain ⟨rfl, z2⟩ := (show _ = _ ∧ _ from u1)
  obtain ⟨p3, q3, ma3, mb3, rfl, dj3, la3, lb3, u3, w3⟩ := Ow.pair w1
  obtain ⟨rfl, z4⟩ := (show _ = _ ∧ _ from u3)
  obtain ⟨p5, q5, ma5, mb5, rfl, dj5, la5, lb5, u5, w5⟩ := Ow.pair w3
  obtain ⟨rfl, z6⟩ := (show _ = _ ∧ _ from u5)
  obtain ⟨p7, q7, ma7, mb7, rfl, dj7, la7, lb7, u7, w7⟩ := Ow.pair w5
  obtain ⟨rfl, z8⟩ := (show _ = _ ∧ _ from u7)
  obtain ⟨p9, q9, ma9, mb9, rfl, dj9, la9, lb9, u9, w9⟩ := Ow.pair w7
  have z10 := u9
  obtain ⟨A10, c10, rfl, _⟩ := Ow.spl1 u9
  obtain ⟨p11, q11, ma11, mb11, rfl, dj11, la11, lb11, u11, w11⟩ := Ow.pair w9
  obtain ⟨rfl, z12⟩ := (show _ = _ ∧ _ from u11)
  obtain ⟨p13, q13, ma13, mb13, rfl, dj13, la13, lb13, u13, w13⟩ := Ow.pair w11
  obtain ⟨rfl, z14⟩ := (show _ = _ ∧ _ from u13)
  have z15 := w13
  obtain ⟨A15, c15, rfl, _⟩ := Ow.spl1 w13
  exact ⟨A10, c10, A15, c15, _, _, rfl, (Seps.app dj1 la1 lb1 (Seps.nil _) (Seps.app dj3 la3 lb3 (Seps.nil _) (Seps.app dj5 la5 lb5 (Seps.nil _) (Seps.app dj7 la7 lb7 (Seps.nil _) (Seps.app dj9 la9 lb9 (Seps.one (mle_refl _)) (Seps.app dj11 la11 lb11 (Seps.nil _) (Seps.app dj13 la13 lb13 (Seps.nil _) (Seps.one (mle_refl _))))))))), z2, z4, z6, z8, z10, z12, z14, z15⟩
theorem mkO_LMessage {m : Mem} {n4 n7 : Mem} (x0 : Int) (x1 : Int) (x2 : Int) (x3 : Int) (x4 : List DStart × List DStart) (x5 : Int) (x6 : Int) (x7 : List DLCommit × List DLCommit) (hS : Seps m [n4, n7]) (h0 : inK .i64 x0) (h1 : inK .i64 x1) (h2 : inK .u8 x2) (h3 : inK .i64 x3) {v4 : Value} (h4 : Ow (.spl TStart) n4 [v4] x4) (h5 : inK .i64 x5) (h6 : inK .i64 x6) {v7 : Value} (h7 : Ow (.spl TLCommit) n7 [v7] x7) : Ow TLMessage m [.int .i64 x0, .int .i64 x1, .int .u8 x2, .int .i64 x3, v4, .int .i64 x5, .int .i64 x6, v7] (x0, x1, x2, x3, x4, x5, x6, x7) := by
  obtain ⟨e1, la1, lb1, Sa1, Sb1⟩ := Seps.cut (l := []) (r := [n4, n7]) hS
  obtain ⟨e2, la2, lb2, Sa2, Sb2⟩ := Seps.cut (l := []) (r := [n4, n7]) Sb1
  obtain ⟨e3, la3, lb3, Sa3, Sb3⟩ := Seps.cut (l := []) (r := [n4, n7]) Sb2
  obtain ⟨e4, la4, lb4, Sa4, Sb4⟩ := Seps.cut (l := []) (r := [n4, n7]) Sb3
  obtain ⟨e5, la5, lb5, Sa5, Sb5⟩ := Seps.cut (l := [n4]) (r := [n7]) Sb4
  obtain ⟨e6, la6, lb6, Sa6, Sb6⟩ := Seps.cut (l := []) (r := [n7]) Sb5
  obtain ⟨e7, la7, lb7, Sa7, Sb7⟩ := Seps.cut (l := []) (r := [n7]) Sb6
  exact (Ow.mkPair (c1 := [_]) e1 la1 lb1 (show Ow (.int .i64) _ [_] _ from ⟨rfl, h0⟩) (Ow.mkPair (c1 := [_]) e2 la2 lb2 (show Ow (.int .i64) _ [_] _ from ⟨rfl, h1⟩) (Ow.mkPair (c1 := [_]) e3 la3 lb3 (show Ow (.int .u8) _ [_] _ from ⟨rfl, h2⟩) (Ow.mkPair (c1 := [_]) e4 la4 lb4 (show Ow (.int .i64) _ [_] _ from ⟨rfl, h3⟩) (Ow.mkPair (c1 := [_]) e5 la5 lb5 (h4.up (Sa5.1 _ (.head _))) (Ow.mkPair (c1 := [_]) e6 la6 lb6 (show Ow (.int .i64) _ [_] _ from ⟨rfl, h5⟩) (Ow.mkPair (c1 := [_]) e7 la7 lb7 (show Ow (.int .i64) _ [_] _ from ⟨rfl, h6⟩) (h7.up (Sb7.1 _ (.head _))))))))))
end
section
set_option linter.unusedVariables false
def prevS (l : List DStart) (k : Nat) : DStart := if k = 0 then (0, 0) else match l[k - 1]? with
  | some y => y
  | none => (0, 0)
theorem prevS_of {l : List DStart} {k : Nat} {y : DStart} (hk : 0 < k) (hy : l[((k : Int) - 1).toNat]? = some y) : prevS l k = y := by
  unfold prevS
  rw [if_neg (by omega), show k - 1 = ((k : Int) - 1).toNat by omega, hy]
theorem prevS_next {l : List DStart} {k : Nat} {x : DStart} (hx : l[k]? = some x) : prevS l (k + 1) = x := prevS_of (by omega) (by rw [show (((k + 1 : Nat) : Int) - 1).toNat = k by omega]; exact hx)
theorem step8 {l : List DStart} {en : Int} {k : Nat} {x : DStart} (hx : l[k]? = some x) (h1 : ¬ x.1 < 1) (h2 : ¬ 1048576 < x.1) (h3 : ¬ en < x.2) (h4 : k = 0 → x.2 = 1)
    (h5 : 0 < k → ∃ y, l[((k : Int) - 1).toNat]? = some y ∧ y.1 < x.1 ∧ y.2 < x.2) : sGo en (prevS l k).1 (prevS l k).2 k (l.drop k) ↔ sGo en (prevS l (k + 1)).1 (prevS l (k + 1)).2 (k + 1) (l.drop (k + 1)) := by
  rw [prevS_next hx]
  by_cases hk : k = 0
  · have := h4 hk
    have e : prevS l k = (0, 0) := if_pos hk
    rw [e]
    exact sGo_step hx (by simp only; omega) (by omega) (by simp only; omega) (by omega) h4
  · obtain ⟨y, hy, h6, h7⟩ := h5 (by omega)
    rw [prevS_of (by omega) hy]
    exact sGo_step hx h6 (by omega) h7 (by omega) h4
theorem bad8 {l : List DStart} {en : Int} {k : Nat} {x : DStart} (hs : sGo en 0 0 0 l ↔ sGo en (prevS l k).1 (prevS l k).2 k (l.drop k)) (hp : 0 ≤ (prevS l k).1) (hx : l[k]? = some x)
    (h : x.1 < 1 ∨ 1048576 < x.1 ∨ en < x.2 ∨ (k = 0 ∧ ¬ x.2 = 1) ∨ ∃ y, 0 < k ∧ l[((k : Int) - 1).toNat]? = some y ∧ (x.1 ≤ y.1 ∨ x.2 ≤ y.2)) : sCheck l en = 5 := by
  refine sCheck_bad hs hx ?_
  rcases h with h | h | h | h | ⟨y, hk, hy, h | h⟩
  · exact .inl (by omega)
  · exact .inr (.inl h)
  · exact .inr (.inr (.inr (.inl h)))
  · exact .inr (.inr (.inr (.inr h)))
  · rw [prevS_of hk hy]; exact .inl h
  · rw [prevS_of hk hy]; exact .inr (.inr (.inl h))
theorem known_yes18 {e k : Int} {m : DMessage} (h : ¬ ¬ lCheck m = 0) (h1 : ¬ m.2.1 < e) (h2 : ¬ e < m.2.1) (h3 : m.1 = 3 ∨ (m.1 = 1 ∧ m.2.2.1 = 2)) : knownOf e k m = (Max.max k m.2.2.2.1, true, 0) := by
  rw [known_yes h h1 h2 h3]
  have h' := Decidable.not_not.1 h
  have hend : 0 ≤ m.2.2.2.1 := by
    unfold lCheck at h'
    split at h'
    · rename_i hh
      rcases hh.2 with ⟨a, b⟩ | ⟨a, b⟩ | ⟨a, b⟩
      · have hc := b.2.1
        unfold sCheck at hc
        split at hc
        · rename_i hq; exact hq.1
        · cases hc
      · omega
      · exact b.1.1
    · cases h'
  exact Prod.ext (by simp only; omega) rfl
def spareS : List DStart := [(-5, 0), (-5, 1), (-5, 2)]
theorem spareS_next {out d : List DStart} {k : Nat} (h : out = d ++ spareS.take k) (hk : k < 3) : out ++ [(-5, (k : Int))] = d ++ spareS.take (k + 1) := by
  rw [h, List.append_assoc]
  congr 1
  rcases k with _ | _ | _ | k
  · rfl
  · rfl
  · rfl
  · omega
def lentM (m : DMessage) : DLMessage := (m.1, m.2.1, m.2.2.1, m.2.2.2.1, (m.2.2.2.2.1, spareS), m.2.2.2.2.2.1, m.2.2.2.2.2.2.1, (m.2.2.2.2.2.2.2.map lentC, spareC))
theorem lentM_fg (m : DMessage) : ((m.1, m.2.1, m.2.2.1, m.2.2.2.1, m.2.2.2.2.1, m.2.2.2.2.2.1, m.2.2.2.2.2.2.1, (m.2.2.2.2.2.2.2.map lentC).map fgC) : DMessage) = m := by rw [fg_lent]
theorem lent_whole (l : List DCommit) : ((l.map lentC ++ spareC).take (l.length + 3)) = l.map lentC ++ spareC := List.take_of_length_le (by rw [lent_len]; exact Nat.le_refl _)
theorem lentS_whole (l : List DStart) : ((l ++ spareS).take (l.length + 3)) = l ++ spareS := List.take_of_length_le (by simp [spareS])
theorem lentm_rd {m : Mem} {cs : List Value} {l : List DCommit} (h : Rd (.sl TLCommit) m cs (l.map lentC)) : Rd (.sl TCommit) m cs l := by
  have h2 := fgC_rd h
  rwa [fg_lent] at h2
theorem lentm_ow {m : Mem} {cs : List Value} {l : List DCommit} (h : Ow (.sl TLCommit) m cs (l.map lentC)) : Ow (.sl TCommit) m cs l := by
  have h2 := fgC_ow h
  rwa [fg_lent] at h2
theorem take_mem {e : Int} {l : List DCommit} {m : DMessage} : ∀ c ∈ (takeOf e l m).1, c ∈ m.2.2.2.2.2.2.2 := by
  intro c hc
  by_cases hz : (takeOf e l m).2 = 0
  · rw [(take_facts hz).2.2.2.2.2.2] at hc; exact List.mem_of_mem_drop hc
  · rw [take_bad hz] at hc; cases hc
theorem four_a {a b l r : List DCommit} (ha : a.length ≤ 4) (hb : b.length ≤ 4) (hl : l.length ≤ 40) (hr : r.length ≤ 40) : (∀ x ∈ [a, b, l, r], x.length ≤ 3518437200000) ∧ [a, b, l, r].flatten.length ≤ 1000 := by
  refine ⟨fun x hx => ?_, by simp only [List.flatten_cons, List.flatten_nil, List.append_nil, List.length_append]; omega⟩
  simp only [List.mem_cons, List.not_mem_nil, or_false] at hx
  rcases hx with rfl | rfl | rfl | rfl <;> omega
theorem four_b {a b l r : List DCommit} (ha : ∀ c ∈ a, c ∈ r) (hb : ∀ c ∈ b, c ∈ r) (hl : ∀ c ∈ l, c.2.2.length ≤ 40) (hr : ∀ c ∈ r, c.2.2.length ≤ 40) (hk : ∀ c ∈ l, ∀ o ∈ c.2.2, o.2.1.length ≤ 140737488400000) (hq : ∀ c ∈ r, ∀ o ∈ c.2.2, o.2.1.length ≤ 140737488400000) :
    ∀ x ∈ [a, b, l, r], ∀ c ∈ x, c.2.2.length ≤ 3518437208800 ∧ ∀ o ∈ c.2.2, o.2.1.length ≤ 140737488400000 := by
  intro x hx c hc
  simp only [List.mem_cons, List.not_mem_nil, or_false] at hx
  have : c ∈ l ∨ c ∈ r := by
    rcases hx with rfl | rfl | rfl | rfl
    · exact .inr (ha c hc)
    · exact .inr (hb c hc)
    · exact .inl hc
    · exact .inr hc
  rcases this with h | h
  · exact ⟨by have := hl c h; omega, hk c h⟩
  · exact ⟨by have := hr c h; omega, hq c h⟩
end
section
set_option linter.unusedVariables false
set_option linter.unusedSimpArgs false
set_option maxRecDepth 4000
theorem fnOk120 : fnOk Try.prog 120 = true := by kernel_rfl
theorem fnOk121 : fnOk Try.prog 121 = true := by kernel_rfl
theorem fnOk122 : fnOk Try.prog 122 = true := by kernel_rfl
theorem fnOk123 : fnOk Try.prog 123 = true := by kernel_rfl
theorem fnOk142 : fnOk Try.prog 142 = true := by kernel_rfl
theorem fnOk143 : fnOk Try.prog 143 = true := by kernel_rfl
theorem fnOk144 : fnOk Try.prog 144 = true := by kernel_rfl
theorem fnOk145 : fnOk Try.prog 145 = true := by kernel_rfl
theorem fnOk149 : fnOk Try.prog 149 = true := by kernel_rfl
theorem plain11_ok (W : World) {v0 : List Value} {d0 : DMessage} (h0 : Rd TMessage (wm W) v0 d0) : CallR Try.prog 145 [.agg v0.toArray] W (mnil) (fun v m' => v = .bool (decide (bareM d0))) := by
 obtain ⟨p0_A4, p0_c4, p0_A7, p0_c7, rfl, p0_0, p0_1, p0_2, p0_3, p0_4, p0_5, p0_6, p0_7⟩ := open_Message (x0 := d0.1) (x1 := d0.2.1) (x2 := d0.2.2.1) (x3 := d0.2.2.2.1) (x4 := d0.2.2.2.2.1) (x5 := d0.2.2.2.2.2.1) (x6 := d0.2.2.2.2.2.2.1) (x7 := d0.2.2.2.2.2.2.2) h0
 simp only [inK] at p0_0 p0_1 p0_2 p0_3
 have p0_r4 := Rd.room p0_4
 simp only [inK] at p0_5 p0_6
 have p0_r7 := Rd.room p0_7
 refine CallR.ofA (n := 33) Try.func145 rfl rfl rfl ?_
 refine VC.rs ?_
 refine VO.box (cs := [.int .i64 (d0.1), .int .i64 (d0.2.1), .int .u8 (d0.2.2.1), .int .i64 (d0.2.2.2.1), .slice p0_A4 (d0.2.2.2.2.1.length) (p0_c4), .int .i64 (d0.2.2.2.2.2.1), .int .i64 (d0.2.2.2.2.2.2.1), .slice p0_A7 (d0.2.2.2.2.2.2.2.length) (p0_c7)]) 102 rfl rfl rfl (fun g1 => ?_)
 refine VO.as (VO.k3 0 1 2 (VC.rs (VO.y rfl (.fa rfl tst72 rfl) (VO.y rfl (.ld1 102 rfl tk69 rfl (cellsAt_one rfl rfl)) (VO.y rfl (.eql rfl rfl) (VO.mv ?_))))))
 refine VO.dec (t := 6) rfl (fun hc3 => ?_) (fun hc3 => ?_)
 refine VO.gy rfl ⟨_, rfl, rfl⟩ (.fa rfl tst72 rfl) ?_
 refine VO.gy rfl ⟨_, rfl, rfl⟩ (.ld1 102 rfl tk3 rfl (cellsAt_one rfl rfl)) ?_
 refine VO.gy rfl ⟨_, rfl, rfl⟩ (.eql rfl rfl) (VO.y rfl (.pT rfl rfl) (VO.mv ?_))
 refine VO.dec (t := 11) rfl (fun hc4 => ?_) (fun hc4 => ?_)
 refine VO.gy rfl ⟨_, rfl, rfl⟩ (.fa rfl tst72 rfl) ?_
 refine VO.gy rfl ⟨_, rfl, rfl⟩ (.ld1 102 rfl tk70 rfl (cellsAt_one rfl rfl)) ?_
 refine VO.gy rfl ⟨_, rfl, rfl⟩ (.lenS rfl tsl70) ?_
 refine VO.gy rfl ⟨_, rfl, rfl⟩ (.eql rfl rfl) (VO.y rfl (.pT rfl rfl) (VO.mv ?_))
 refine VO.dec (t := 17) rfl (fun hc5 => ?_) (fun hc5 => ?_)
 refine VO.gy rfl ⟨_, rfl, rfl⟩ (.fa rfl tst72 rfl) ?_
 refine VO.gy rfl ⟨_, rfl, rfl⟩ (.ld1 102 rfl tk3 rfl (cellsAt_one rfl rfl)) ?_
 refine VO.gy rfl ⟨_, rfl, rfl⟩ (.eql rfl rfl) (VO.y rfl (.pT rfl rfl) (VO.mv ?_))
 refine VO.dec (t := 22) rfl (fun hc6 => ?_) (fun hc6 => ?_)
 refine VO.gy rfl ⟨_, rfl, rfl⟩ (.fa rfl tst72 rfl) ?_
 refine VO.gy rfl ⟨_, rfl, rfl⟩ (.ld1 102 rfl tk3 rfl (cellsAt_one rfl rfl)) ?_
 refine VO.gy rfl ⟨_, rfl, rfl⟩ (.eql rfl rfl) (VO.y rfl (.pT rfl rfl) (VO.mv ?_))
 refine VO.dec (t := 27) rfl (fun hc7 => ?_) (fun hc7 => ?_)
 · refine VO.gy rfl ⟨_, rfl, rfl⟩ (.fa rfl tst72 rfl) ?_
   refine VO.gy rfl ⟨_, rfl, rfl⟩ (.ld1 102 rfl tk61 rfl (cellsAt_one rfl rfl)) ?_
   refine VO.gy rfl ⟨_, rfl, rfl⟩ (.lenS rfl tsl61) ?_
   refine VO.gy rfl ⟨_, rfl, rfl⟩ (.eql rfl rfl) (VO.y rfl (.pT rfl rfl) (VO.as (VO.k3 0 1 2 (VC.ret ?_))))
   refine ⟨_, _, res_run (rs := [.tmp 2]) rfl (.tmp rfl .nil), fun W_ hI => out_of (l := []) hI [] rfl rfl (mle_refl _) (fun hS_ => ?_)⟩
   dsimp only [packV]
   all_goals (first | rfl | (first | exact congrArg Value.bool (decide_eq_false (by unfold bareM; omega)).symm | exact congrArg Value.bool (decide_eq_decide.2 (by unfold bareM; omega))))
 · refine VO.gN (VO.gN (VO.gN (VO.gN (VO.y rfl (.pF rfl rfl) (VO.as (VO.k3 0 1 2 (VC.ret ?_)))))))
   refine ⟨_, _, res_run (rs := [.tmp 2]) rfl (.tmp rfl .nil), fun W_ hI => out_of (l := []) hI [] rfl rfl (mle_refl _) (fun hS_ => ?_)⟩
   dsimp only [packV]
   all_goals (first | rfl | (first | exact congrArg Value.bool (decide_eq_false (by unfold bareM; omega)).symm | exact congrArg Value.bool (decide_eq_decide.2 (by unfold bareM; omega))))
 · refine VO.gN (VO.gN (VO.gN (VO.y rfl (.pF rfl rfl) (VO.mv (VO.gN (VO.gN (VO.gN (VO.gN (VO.y rfl (.pF rfl rfl) (VO.as (VO.k3 0 1 2 ?_)))))))))))
   refine VC.ret ?_
   refine ⟨_, _, res_run (rs := [.tmp 2]) rfl (.tmp rfl .nil), fun W_ hI => out_of (l := []) hI [] rfl rfl (mle_refl _) (fun hS_ => ?_)⟩
   dsimp only [packV]
   all_goals (first | rfl | (first | exact congrArg Value.bool (decide_eq_false (by unfold bareM; omega)).symm | exact congrArg Value.bool (decide_eq_decide.2 (by unfold bareM; omega))))
 · refine VO.gN (VO.gN (VO.gN (VO.y rfl (.pF rfl rfl) (VO.mv (VO.gN (VO.gN (VO.gN (VO.y rfl (.pF rfl rfl) (VO.mv (VO.gN (VO.gN ?_)))))))))))
   refine VO.gN (VO.gN (VO.y rfl (.pF rfl rfl) (VO.as (VO.k3 0 1 2 (VC.ret ?_)))))
   refine ⟨_, _, res_run (rs := [.tmp 2]) rfl (.tmp rfl .nil), fun W_ hI => out_of (l := []) hI [] rfl rfl (mle_refl _) (fun hS_ => ?_)⟩
   dsimp only [packV]
   all_goals (first | rfl | (first | exact congrArg Value.bool (decide_eq_false (by unfold bareM; omega)).symm | exact congrArg Value.bool (decide_eq_decide.2 (by unfold bareM; omega))))
 · refine VO.gN (VO.gN (VO.gN (VO.gN (VO.y rfl (.pF rfl rfl) (VO.mv (VO.gN (VO.gN (VO.gN (VO.y rfl (.pF rfl rfl) (VO.mv (VO.gN ?_)))))))))))
   refine VO.gN (VO.gN (VO.y rfl (.pF rfl rfl) (VO.mv (VO.gN (VO.gN (VO.gN (VO.gN (VO.y rfl (.pF rfl rfl) (VO.as (VO.k3 0 1 2 (VC.ret ?_)))))))))))
   refine ⟨_, _, res_run (rs := [.tmp 2]) rfl (.tmp rfl .nil), fun W_ hI => out_of (l := []) hI [] rfl rfl (mle_refl _) (fun hS_ => ?_)⟩
   dsimp only [packV]
   all_goals (first | rfl | (first | exact congrArg Value.bool (decide_eq_false (by unfold bareM; omega)).symm | exact congrArg Value.bool (decide_eq_decide.2 (by unfold bareM; omega))))
 · refine VO.gN (VO.gN (VO.gN (VO.y rfl (.pF rfl rfl) (VO.mv (VO.gN (VO.gN (VO.gN (VO.gN (VO.y rfl (.pF rfl rfl) (VO.mv (VO.gN ?_)))))))))))
   refine VO.gN (VO.gN (VO.y rfl (.pF rfl rfl) (VO.mv (VO.gN (VO.gN (VO.gN (VO.y rfl (.pF rfl rfl) (VO.mv (VO.gN (VO.gN (VO.gN ?_)))))))))))
   refine VO.gN (VO.y rfl (.pF rfl rfl) (VO.as (VO.k3 0 1 2 (VC.ret ?_))))
   refine ⟨_, _, res_run (rs := [.tmp 2]) rfl (.tmp rfl .nil), fun W_ hI => out_of (l := []) hI [] rfl rfl (mle_refl _) (fun hS_ => ?_)⟩
   dsimp only [packV]
   all_goals (first | rfl | (first | exact congrArg Value.bool (decide_eq_false (by unfold bareM; omega)).symm | exact congrArg Value.bool (decide_eq_decide.2 (by unfold bareM; omega))))
theorem fin0_sCheck8_ok {P : Prop} (h : P := by congr 1; first | exact (sCheck_arg (by omega)).symm | exact (sCheck_len ‹¬ decide _ = decide _›).symm | exact (bad8 hs hp ‹d0[k]? = some _› (by first | omega | exact .inr (.inr (.inr (.inr ⟨_, by omega, by assumption, by omega⟩))))).symm | exact (sCheck_good (by omega) (by omega) ‹¬ ¬ decide _ = decide _› (hs.2 (by rw [List.drop_of_length_le (by omega)]; trivial))).symm) : P := h
theorem sCheck8_ok (W : World) {v0 : Value} {d0 : List DStart} (h0 : Rd (.sl TStart) (wm W) [v0] d0) (d1 : Int) (h1 : inK .i64 d1) : CallR Try.prog 149 [v0, .int .i64 d1] W (mnil) (fun v m' => v = .int .i64 (sCheck d0 d1)) := by
 obtain ⟨A0, c0, rfl, l0, k0⟩ := h0.slice
 simp only [maxLen] at k0
 have h1' := h1; simp only [inK] at h1'
 refine CallR.ofA (n := 93) Try.func149 rfl rfl rfl ?_
 refine VC.rs (VO.as (VO.k3 0 1 4 (VC.seq (VC.rs (VO.mv (VO.y rfl (.lss rfl rfl) (VO.mv ?_)))))))
 refine VO.dec (t := 8) rfl (fun hc1 => ?_) (fun hc1 => ?_)
 · refine VO.gN (VO.gN (VO.y rfl (.pT rfl rfl) (VO.mv (VO.gN (VO.gN (VO.gN (VO.gN (VO.gN (VO.gN (VO.y rfl (.pT rfl rfl) (VO.k4 0 1 4 19 ?_)))))))))))
   refine VC.condT rfl (VC.rs (VO.as ?_))
   refine VO.kp [0] [(0, wm W)] ?_
   refine VO.k4 0 1 4 19 (VC.ret (outR ?_))
   refine ⟨_, _, res_run (rs := [.tmp 4]) rfl (.tmp rfl .nil), fun W_ hI => out_of (l := []) hI [] rfl rfl (mle_refl _) (fun hS_ => ?_)⟩
   dsimp only [packV]
   all_goals (first | rfl | (exact fin0_sCheck8_ok))
 refine VO.gy rfl ⟨_, rfl, rfl⟩ (.mv rfl) (VO.gy rfl ⟨_, rfl, rfl⟩ (.gtr rfl rfl) (VO.y rfl (.pF rfl rfl) (VO.mv ?_)))
 refine VO.dec (t := 12) rfl (fun hc2 => ?_) (fun hc2 => ?_)
 · refine VO.gN (VO.gN (VO.gN (VO.gN (VO.gN (VO.gN (VO.y rfl (.pT rfl rfl) (VO.k4 0 1 4 19 (VC.condT rfl (VC.rs (VO.as ?_))))))))))
   refine VO.kp [0] [(0, wm W)] ?_
   refine VO.k4 0 1 4 19 (VC.ret (outR ?_))
   refine ⟨_, _, res_run (rs := [.tmp 4]) rfl (.tmp rfl .nil), fun W_ hI => out_of (l := []) hI [] rfl rfl (mle_refl _) (fun hS_ => ?_)⟩
   dsimp only [packV]
   all_goals (first | rfl | (exact fin0_sCheck8_ok))
 refine VO.gy rfl ⟨_, rfl, rfl⟩ (.mv rfl) ?_
 refine VO.gy rfl ⟨_, rfl, rfl⟩ (.lenS rfl tsl70) ?_
 refine VO.gy rfl ⟨_, rfl, rfl⟩ (.eql rfl rfl) (VO.gy rfl ⟨_, rfl, rfl⟩ (.mv rfl) (VO.gy rfl ⟨_, rfl, rfl⟩ (.eql rfl rfl) ?_))
 refine VO.gy rfl ⟨_, rfl, rfl⟩ (.bneq rfl rfl Try.underlying4) ?_
 refine VO.y rfl (.pF rfl rfl) (VO.k4 0 1 4 19 ?_)
 refine VC.cond rfl (fun hc3 => ?_) (fun hc3 => ?_)
 · refine VC.rs (VO.as ?_)
   refine VO.kp [0] [(0, wm W)] ?_
   refine VO.k4 0 1 4 19 (VC.ret (outR ?_))
   refine ⟨_, _, res_run (rs := [.tmp 4]) rfl (.tmp rfl .nil), fun W_ hI => out_of (l := []) hI [] rfl rfl (mle_refl _) (fun hS_ => ?_)⟩
   dsimp only [packV]
   all_goals (first | rfl | (exact fin0_sCheck8_ok))
 refine VC.skip (outN (VC.seq (VC.rs (VO.as ?_))))
 refine VO.kp [0] [(0, wm W)] ?_
 refine VO.k5 0 1 4 5 19 (VC.block ?_)
 refine VC.loop (G := Nat) (fun k => [(5, .int .i64 (((k : Nat) : Int))), (0, .slice A0 (d0.length) (c0)), (1, .int .i64 (d1)), (19, .bool (decide (¬ (decide (((d0.length : Nat) : Int) = 0)) = (decide (d1 = 0)))))]) (fun k => [(0, wm W)]) (fun k => (k ≤ d0.length) ∧ (0 ≤ (prevS d0 k).1) ∧ (sGo d1 0 0 0 d0 ↔ sGo d1 (prevS d0 k).1 (prevS d0 k).2 k (d0.drop k))) (fun k => d0.length - k) 0 (⟨by omega, by exact Int.le_refl _, by exact Iff.rfl⟩) ⟨⟨rfl, rfl, rfl, rfl, trivial⟩, fun _ h => h.sub [0]⟩ ?_
 rintro k ⟨hk, hp, hs⟩
 refine VC.seq (VC.rs (VO.mv (VO.mv ?_)))
 refine VO.y rfl (.lenS rfl tsl70) ?_
 refine VO.y rfl (.lss rfl rfl) (VO.k5 0 1 5 19 23 ?_)
 refine VC.cond rfl (fun hc4 => ?_) (fun hc4 => ?_)
 refine VC.skip (outN (VC.seq (VC.block (VC.seq ?_))))
 refine VC.regD _ 63 [(0, true), (1, true), (2, true), (3, true), (4, true), (5, true), (6, true), (7, true), (8, true), (9, true), (10, true), (11, true), (12, true), (13, true), (14, true), (15, true), (16, true), (17, true), (18, true), (19, true), (20, true), (21, true), (22, true), (23, true), (24, true), (25, true), (26, true), (27, true), (28, true), (29, true), (30, true), (31, true), (32, true), (33, true), (34, true), (35, true), (36, true), (37, true), (38, true), (39, true), (40, true), (41, true), (42, true), (43, true), (44, true), (45, true), (46, true), (47, true), (48, true), (49, true), (50, true), (51, true), (52, true), (53, true), (54, true), (55, true), (56, true), (57, true), (58, true), (59, true), (60, true), (61, true), (62, true)] follows (by kernel_rfl) (fun _ h => h.sub [0]) ?_
 refine VD.y rfl rfl (.inl rfl) (.mv rfl) (VD.y rfl rfl (.inl rfl) (.mv rfl) ?_)
 obtain ⟨x5, hx5⟩ : ∃ z_, (d0)[k]? = some z_ := ⟨_, List.getElem?_eq_getElem bd⟩
 obtain ⟨gg5, oo5, ec5, ea5, hce5, hre5⟩ := h0.elem hx5
 cases ea5
 obtain ⟨rfl, q5_0, q5_1⟩ := open_Start (x0 := x5.1) (x1 := x5.2) hre5
 simp only [inK] at q5_0 q5_1
 refine VD.y rfl rfl (.inl rfl) (.ixI k rfl rfl tsl70 rfl bd) ?_
 refine VD.y rfl rfl (.inl rfl) (.fa rfl tst90 rfl) ?_
 refine VD.y rfl rfl (.inl rfl) (.ld1 0 rfl tk3 rfl (hce5.at1 (j := 0) rfl)) ?_
 refine VD.y rfl rfl (.inl rfl) (.lss rfl rfl) (VD.y rfl rfl (.inl rfl) (.mv rfl) ?_)
 refine VD.dec (s := 32) rfl (fun hc6 => ?_) (fun hc6 => ?_)
 · refine VD.gn rfl rfl (.inl ⟨_, rfl, rfl⟩) ?_
   refine VD.gn rfl rfl (.inl ⟨_, rfl, rfl⟩) ?_
   refine VD.gn rfl rfl (.inl ⟨_, rfl, rfl⟩) ?_
   refine VD.gn rfl rfl (.inl ⟨_, rfl, rfl⟩) ?_
   refine VD.gn rfl rfl (.inl ⟨_, rfl, rfl⟩) ?_
   refine VD.gn rfl rfl (.inl ⟨_, rfl, rfl⟩) ?_
   refine VD.y rfl rfl (.inl rfl) (.pT rfl rfl) (VD.y rfl rfl (.inl rfl) (.mv rfl) ?_)
   refine VD.gn rfl rfl (.inl ⟨_, rfl, rfl⟩) ?_
   refine VD.gn rfl rfl (.inl ⟨_, rfl, rfl⟩) ?_
   refine VD.gn rfl rfl (.inl ⟨_, rfl, rfl⟩) ?_
   refine VD.gn rfl rfl (.inl ⟨_, rfl, rfl⟩) ?_
   refine VD.gn rfl rfl (.inl ⟨_, rfl, rfl⟩) ?_
   refine VD.gn rfl rfl (.inl ⟨_, rfl, rfl⟩) ?_
   refine VD.gn rfl rfl (.inl ⟨_, rfl, rfl⟩) ?_
   refine VD.y rfl rfl (.inl rfl) (.pT rfl rfl) (VD.y rfl rfl (.inl rfl) (.mv rfl) ?_)
   refine VD.gn rfl rfl (.inl ⟨_, rfl, rfl⟩) ?_
   refine VD.gn rfl rfl (.inl ⟨_, rfl, rfl⟩) ?_
   refine VD.gn rfl rfl (.inl ⟨_, rfl, rfl⟩) ?_
   refine VD.gn rfl rfl (.inr ⟨_, rfl, rfl⟩) ?_
   refine VD.gn rfl rfl (.inr ⟨_, rfl, rfl⟩) ?_
   refine VD.gn rfl rfl (.inr ⟨_, rfl, rfl⟩) ?_
   refine VD.gn rfl rfl (.inr ⟨_, rfl, rfl⟩) ?_
   refine VD.gn rfl rfl (.inr ⟨_, rfl, rfl⟩) ?_
   refine VD.gn rfl rfl (.inr ⟨_, rfl, rfl⟩) ?_
   refine VD.gn rfl rfl (.inl ⟨_, rfl, rfl⟩) ?_
   refine VD.y rfl rfl (.inl rfl) (.pT rfl rfl) (VD.y rfl rfl (.inl rfl) (.mv rfl) ?_)
   refine VD.gn rfl rfl (.inl ⟨_, rfl, rfl⟩) ?_
   refine VD.gn rfl rfl (.inl ⟨_, rfl, rfl⟩) ?_
   refine VD.gn rfl rfl (.inl ⟨_, rfl, rfl⟩) ?_
   refine VD.gn rfl rfl (.inr ⟨_, rfl, rfl⟩) ?_
   refine VD.gn rfl rfl (.inr ⟨_, rfl, rfl⟩) ?_
   refine VD.gn rfl rfl (.inr ⟨_, rfl, rfl⟩) ?_
   refine VD.gn rfl rfl (.inr ⟨_, rfl, rfl⟩) ?_
   refine VD.gn rfl rfl (.inr ⟨_, rfl, rfl⟩) ?_
   refine VD.gn rfl rfl (.inr ⟨_, rfl, rfl⟩) ?_
   refine VD.gn rfl rfl (.inr ⟨_, rfl, rfl⟩) ?_
   refine VD.gn rfl rfl (.inr ⟨_, rfl, rfl⟩) ?_
   refine VD.gn rfl rfl (.inr ⟨_, rfl, rfl⟩) ?_
   refine VD.gn rfl rfl (.inr ⟨_, rfl, rfl⟩) ?_
   refine VD.gn rfl rfl (.inr ⟨_, rfl, rfl⟩) ?_
   refine VD.gn rfl rfl (.inr ⟨_, rfl, rfl⟩) ?_
   refine VD.gn rfl rfl (.inr ⟨_, rfl, rfl⟩) ?_
   refine VD.gn rfl rfl (.inr ⟨_, rfl, rfl⟩) ?_
   refine VD.gn rfl rfl (.inr ⟨_, rfl, rfl⟩) ?_
   refine VD.gn rfl rfl (.inr ⟨_, rfl, rfl⟩) ?_
   refine VD.gn rfl rfl (.inr ⟨_, rfl, rfl⟩) ?_
   refine VD.gn rfl rfl (.inr ⟨_, rfl, rfl⟩) ?_
   refine VD.gn rfl rfl (.inr ⟨_, rfl, rfl⟩) ?_
   refine VD.gn rfl rfl (.inr ⟨_, rfl, rfl⟩) ?_
   refine VD.gn rfl rfl (.inr ⟨_, rfl, rfl⟩) ?_
   refine VD.gn rfl rfl (.inr ⟨_, rfl, rfl⟩) ?_
   refine VD.gn rfl rfl (.inr ⟨_, rfl, rfl⟩) ?_
   refine VD.gn rfl rfl (.inr ⟨_, rfl, rfl⟩) ?_
   refine VD.nil rfl ?_ rfl
   refine VO.gn rfl (.inr ⟨_, rfl, rfl⟩) ?_
   refine VO.gn rfl (.inr ⟨_, rfl, rfl⟩) ?_
   refine VO.gN (VO.y rfl (.pT rfl rfl) (VO.k6 0 1 5 19 23 92 (outN (VC.condT rfl (VC.rs (VO.as ?_))))))
   refine VO.kp [0] [(0, wm W)] ?_
   refine VO.k7 0 1 4 5 19 23 92 (VC.ret (outBR (outR (outR (outBR (outR ?_))))))
   refine ⟨_, _, res_run (rs := [.tmp 4]) rfl (.tmp rfl .nil), fun W_ hI => out_of (l := []) hI [] rfl rfl (mle_refl _) (fun hS_ => ?_)⟩
   dsimp only [packV]
   all_goals (first | rfl | (exact fin0_sCheck8_ok))
 refine VD.y rfl rfl (.inr ⟨_, _, rfl, _, rfl, rfl⟩) (.mv rfl) ?_
 refine VD.y rfl rfl (.inr ⟨_, _, rfl, _, rfl, rfl⟩) (.mv rfl) ?_
 refine VD.y rfl rfl (.inr ⟨_, _, rfl, _, rfl, rfl⟩) (.ixI k rfl rfl tsl70 rfl bd) ?_
 refine VD.y rfl rfl (.inr ⟨_, _, rfl, _, rfl, rfl⟩) (.fa rfl tst90 rfl) ?_
 refine VD.y rfl rfl (.inr ⟨_, _, rfl, _, rfl, rfl⟩) (.ld1 0 rfl tk3 rfl (hce5.at1 (j := 0) rfl)) ?_
 refine VD.y rfl rfl (.inr ⟨_, _, rfl, _, rfl, rfl⟩) (.gtr rfl rfl) ?_
 refine VD.y rfl rfl (.inl rfl) (.pF rfl rfl) (VD.y rfl rfl (.inl rfl) (.mv rfl) ?_)
 refine VD.dec (s := 40) rfl (fun hc8 => ?_) (fun hc8 => ?_)
 · refine VD.gn rfl rfl (.inl ⟨_, rfl, rfl⟩) ?_
   refine VD.gn rfl rfl (.inl ⟨_, rfl, rfl⟩) ?_
   refine VD.gn rfl rfl (.inl ⟨_, rfl, rfl⟩) ?_
   refine VD.gn rfl rfl (.inl ⟨_, rfl, rfl⟩) ?_
   refine VD.gn rfl rfl (.inl ⟨_, rfl, rfl⟩) ?_
   refine VD.gn rfl rfl (.inl ⟨_, rfl, rfl⟩) ?_
   refine VD.gn rfl rfl (.inl ⟨_, rfl, rfl⟩) ?_
   refine VD.y rfl rfl (.inl rfl) (.pT rfl rfl) (VD.y rfl rfl (.inl rfl) (.mv rfl) ?_)
   refine VD.gn rfl rfl (.inl ⟨_, rfl, rfl⟩) ?_
   refine VD.gn rfl rfl (.inl ⟨_, rfl, rfl⟩) ?_
   refine VD.gn rfl rfl (.inl ⟨_, rfl, rfl⟩) ?_
   refine VD.gn rfl rfl (.inr ⟨_, rfl, rfl⟩) ?_
   refine VD.gn rfl rfl (.inr ⟨_, rfl, rfl⟩) ?_
   refine VD.gn rfl rfl (.inr ⟨_, rfl, rfl⟩) ?_
   refine VD.gn rfl rfl (.inr ⟨_, rfl, rfl⟩) ?_
   refine VD.gn rfl rfl (.inr ⟨_, rfl, rfl⟩) ?_
   refine VD.gn rfl rfl (.inr ⟨_, rfl, rfl⟩) ?_
   refine VD.gn rfl rfl (.inl ⟨_, rfl, rfl⟩) ?_
   refine VD.y rfl rfl (.inl rfl) (.pT rfl rfl) (VD.y rfl rfl (.inl rfl) (.mv rfl) ?_)
   refine VD.gn rfl rfl (.inl ⟨_, rfl, rfl⟩) ?_
   refine VD.gn rfl rfl (.inl ⟨_, rfl, rfl⟩) ?_
   refine VD.gn rfl rfl (.inl ⟨_, rfl, rfl⟩) ?_
   refine VD.gn rfl rfl (.inr ⟨_, rfl, rfl⟩) ?_
   refine VD.gn rfl rfl (.inr ⟨_, rfl, rfl⟩) ?_
   refine VD.gn rfl rfl (.inr ⟨_, rfl, rfl⟩) ?_
   refine VD.gn rfl rfl (.inr ⟨_, rfl, rfl⟩) ?_
   refine VD.gn rfl rfl (.inr ⟨_, rfl, rfl⟩) ?_
   refine VD.gn rfl rfl (.inr ⟨_, rfl, rfl⟩) ?_
   refine VD.gn rfl rfl (.inr ⟨_, rfl, rfl⟩) ?_
   refine VD.gn rfl rfl (.inr ⟨_, rfl, rfl⟩) ?_
   refine VD.gn rfl rfl (.inr ⟨_, rfl, rfl⟩) ?_
   refine VD.gn rfl rfl (.inr ⟨_, rfl, rfl⟩) ?_
   refine VD.gn rfl rfl (.inr ⟨_, rfl, rfl⟩) ?_
   refine VD.gn rfl rfl (.inr ⟨_, rfl, rfl⟩) ?_
   refine VD.gn rfl rfl (.inr ⟨_, rfl, rfl⟩) ?_
   refine VD.gn rfl rfl (.inr ⟨_, rfl, rfl⟩) ?_
   refine VD.gn rfl rfl (.inr ⟨_, rfl, rfl⟩) ?_
   refine VD.gn rfl rfl (.inr ⟨_, rfl, rfl⟩) ?_
   refine VD.gn rfl rfl (.inr ⟨_, rfl, rfl⟩) ?_
   refine VD.gn rfl rfl (.inr ⟨_, rfl, rfl⟩) ?_
   refine VD.gn rfl rfl (.inr ⟨_, rfl, rfl⟩) ?_
   refine VD.gn rfl rfl (.inr ⟨_, rfl, rfl⟩) ?_
   refine VD.gn rfl rfl (.inr ⟨_, rfl, rfl⟩) ?_
   refine VD.gn rfl rfl (.inr ⟨_, rfl, rfl⟩) ?_
   refine VD.gn rfl rfl (.inr ⟨_, rfl, rfl⟩) ?_
   refine VD.gn rfl rfl (.inr ⟨_, rfl, rfl⟩) ?_
   refine VD.nil rfl ?_ rfl
   refine VO.gn rfl (.inr ⟨_, rfl, rfl⟩) ?_
   refine VO.gn rfl (.inr ⟨_, rfl, rfl⟩) ?_
   refine VO.gN (VO.y rfl (.pT rfl rfl) (VO.k6 0 1 5 19 23 92 (outN (VC.condT rfl (VC.rs (VO.as ?_))))))
   refine VO.kp [0] [(0, wm W)] ?_
   refine VO.k7 0 1 4 5 19 23 92 (VC.ret (outBR (outR (outR (outBR (outR ?_))))))
   refine ⟨_, _, res_run (rs := [.tmp 4]) rfl (.tmp rfl .nil), fun W_ hI => out_of (l := []) hI [] rfl rfl (mle_refl _) (fun hS_ => ?_)⟩
   dsimp only [packV]
   all_goals (first | rfl | (exact fin0_sCheck8_ok))
 refine VD.y rfl rfl (.inr ⟨_, _, rfl, _, rfl, rfl⟩) (.mv rfl) ?_
 refine VD.y rfl rfl (.inr ⟨_, _, rfl, _, rfl, rfl⟩) (.mv rfl) ?_
 refine VD.y rfl rfl (.inr ⟨_, _, rfl, _, rfl, rfl⟩) (.ixI k rfl rfl tsl70 rfl bd) ?_
 refine VD.y rfl rfl (.inr ⟨_, _, rfl, _, rfl, rfl⟩) (.fa rfl tst90 rfl) ?_
 refine VD.y rfl rfl (.inr ⟨_, _, rfl, _, rfl, rfl⟩) (.ld1 0 rfl tk3 rfl (hce5.at1 (j := 1) rfl)) ?_
 refine VD.y rfl rfl (.inr ⟨_, _, rfl, _, rfl, rfl⟩) (.mv rfl) ?_
 refine VD.y rfl rfl (.inr ⟨_, _, rfl, _, rfl, rfl⟩) (.gtr rfl rfl) ?_
 refine VD.y rfl rfl (.inl rfl) (.pF rfl rfl) (VD.y rfl rfl (.inl rfl) (.mv rfl) ?_)
 refine VD.dec (s := 49) rfl (fun hc10 => ?_) (fun hc10 => ?_)
 · refine VD.gn rfl rfl (.inl ⟨_, rfl, rfl⟩) ?_
   refine VD.gn rfl rfl (.inl ⟨_, rfl, rfl⟩) ?_
   refine VD.gn rfl rfl (.inl ⟨_, rfl, rfl⟩) ?_
   refine VD.gn rfl rfl (.inr ⟨_, rfl, rfl⟩) ?_
   refine VD.gn rfl rfl (.inr ⟨_, rfl, rfl⟩) ?_
   refine VD.gn rfl rfl (.inr ⟨_, rfl, rfl⟩) ?_
   refine VD.gn rfl rfl (.inr ⟨_, rfl, rfl⟩) ?_
   refine VD.gn rfl rfl (.inr ⟨_, rfl, rfl⟩) ?_
   refine VD.gn rfl rfl (.inr ⟨_, rfl, rfl⟩) ?_
   refine VD.gn rfl rfl (.inl ⟨_, rfl, rfl⟩) ?_
   refine VD.y rfl rfl (.inl rfl) (.pT rfl rfl) (VD.y rfl rfl (.inl rfl) (.mv rfl) ?_)
   refine VD.gn rfl rfl (.inl ⟨_, rfl, rfl⟩) ?_
   refine VD.gn rfl rfl (.inl ⟨_, rfl, rfl⟩) ?_
   refine VD.gn rfl rfl (.inl ⟨_, rfl, rfl⟩) ?_
   refine VD.gn rfl rfl (.inr ⟨_, rfl, rfl⟩) ?_
   refine VD.gn rfl rfl (.inr ⟨_, rfl, rfl⟩) ?_
   refine VD.gn rfl rfl (.inr ⟨_, rfl, rfl⟩) ?_
   refine VD.gn rfl rfl (.inr ⟨_, rfl, rfl⟩) ?_
   refine VD.gn rfl rfl (.inr ⟨_, rfl, rfl⟩) ?_
   refine VD.gn rfl rfl (.inr ⟨_, rfl, rfl⟩) ?_
   refine VD.gn rfl rfl (.inr ⟨_, rfl, rfl⟩) ?_
   refine VD.gn rfl rfl (.inr ⟨_, rfl, rfl⟩) ?_
   refine VD.gn rfl rfl (.inr ⟨_, rfl, rfl⟩) ?_
   refine VD.gn rfl rfl (.inr ⟨_, rfl, rfl⟩) ?_
   refine VD.gn rfl rfl (.inr ⟨_, rfl, rfl⟩) ?_
   refine VD.gn rfl rfl (.inr ⟨_, rfl, rfl⟩) ?_
   refine VD.gn rfl rfl (.inr ⟨_, rfl, rfl⟩) ?_
   refine VD.gn rfl rfl (.inr ⟨_, rfl, rfl⟩) ?_
   refine VD.gn rfl rfl (.inr ⟨_, rfl, rfl⟩) ?_
   refine VD.gn rfl rfl (.inr ⟨_, rfl, rfl⟩) ?_
   refine VD.gn rfl rfl (.inr ⟨_, rfl, rfl⟩) ?_
   refine VD.gn rfl rfl (.inr ⟨_, rfl, rfl⟩) ?_
   refine VD.gn rfl rfl (.inr ⟨_, rfl, rfl⟩) ?_
   refine VD.gn rfl rfl (.inr ⟨_, rfl, rfl⟩) ?_
   refine VD.gn rfl rfl (.inr ⟨_, rfl, rfl⟩) ?_
   refine VD.gn rfl rfl (.inr ⟨_, rfl, rfl⟩) ?_
   refine VD.gn rfl rfl (.inr ⟨_, rfl, rfl⟩) ?_
   refine VD.gn rfl rfl (.inr ⟨_, rfl, rfl⟩) ?_
   refine VD.nil rfl ?_ rfl
   refine VO.gn rfl (.inr ⟨_, rfl, rfl⟩) ?_
   refine VO.gn rfl (.inr ⟨_, rfl, rfl⟩) ?_
   refine VO.gN (VO.y rfl (.pT rfl rfl) (VO.k6 0 1 5 19 23 92 (outN (VC.condT rfl (VC.rs (VO.as ?_))))))
   refine VO.kp [0] [(0, wm W)] ?_
   refine VO.k7 0 1 4 5 19 23 92 (VC.ret (outBR (outR (outR (outBR (outR ?_))))))
   refine ⟨_, _, res_run (rs := [.tmp 4]) rfl (.tmp rfl .nil), fun W_ hI => out_of (l := []) hI [] rfl rfl (mle_refl _) (fun hS_ => ?_)⟩
   dsimp only [packV]
   all_goals (first | rfl | (exact fin0_sCheck8_ok))
 refine VD.y rfl rfl (.inr ⟨_, _, rfl, _, rfl, rfl⟩) (.mv rfl) ?_
 refine VD.y rfl rfl (.inr ⟨_, _, rfl, _, rfl, rfl⟩) (.eql rfl rfl) ?_
 refine VD.y rfl rfl (.inr ⟨_, _, rfl, _, rfl, rfl⟩) (.mv rfl) ?_
 refine VD.dec (s := 52) rfl (fun hc11 => ?_) (fun hc11 => ?_)
 refine VD.y rfl rfl (.inr ⟨_, _, rfl, _, rfl, rfl⟩) (.mv rfl) ?_
 refine VD.y rfl rfl (.inr ⟨_, _, rfl, _, rfl, rfl⟩) (.mv rfl) ?_
 refine VD.y rfl rfl (.inr ⟨_, _, rfl, _, rfl, rfl⟩) (.ixI k rfl rfl tsl70 rfl bd) ?_
 refine VD.y rfl rfl (.inr ⟨_, _, rfl, _, rfl, rfl⟩) (.fa rfl tst90 rfl) ?_
 refine VD.y rfl rfl (.inr ⟨_, _, rfl, _, rfl, rfl⟩) (.ld1 0 rfl tk3 rfl (hce5.at1 (j := 1) rfl)) ?_
 refine VD.y rfl rfl (.inr ⟨_, _, rfl, _, rfl, rfl⟩) (.neq rfl rfl) ?_
 refine VD.y rfl rfl (.inr ⟨_, _, rfl, _, rfl, rfl⟩) (.pT rfl rfl) ?_
 refine VD.y rfl rfl (.inl rfl) (.pF rfl rfl) (VD.y rfl rfl (.inl rfl) (.mv rfl) ?_)
 refine VD.dec (s := 61) rfl (fun hc13 => ?_) (fun hc13 => ?_)
 · refine VD.gn rfl rfl (.inl ⟨_, rfl, rfl⟩) ?_
   refine VD.gn rfl rfl (.inl ⟨_, rfl, rfl⟩) ?_
   refine VD.gn rfl rfl (.inl ⟨_, rfl, rfl⟩) ?_
   refine VD.gn rfl rfl (.inr ⟨_, rfl, rfl⟩) ?_
   refine VD.gn rfl rfl (.inr ⟨_, rfl, rfl⟩) ?_
   refine VD.gn rfl rfl (.inr ⟨_, rfl, rfl⟩) ?_
   refine VD.gn rfl rfl (.inr ⟨_, rfl, rfl⟩) ?_
   refine VD.gn rfl rfl (.inr ⟨_, rfl, rfl⟩) ?_
   refine VD.gn rfl rfl (.inr ⟨_, rfl, rfl⟩) ?_
   refine VD.gn rfl rfl (.inr ⟨_, rfl, rfl⟩) ?_
   refine VD.gn rfl rfl (.inr ⟨_, rfl, rfl⟩) ?_
   refine VD.gn rfl rfl (.inr ⟨_, rfl, rfl⟩) ?_
   refine VD.gn rfl rfl (.inr ⟨_, rfl, rfl⟩) ?_
   refine VD.gn rfl rfl (.inr ⟨_, rfl, rfl⟩) ?_
   refine VD.gn rfl rfl (.inr ⟨_, rfl, rfl⟩) ?_
   refine VD.gn rfl rfl (.inr ⟨_, rfl, rfl⟩) ?_
   refine VD.gn rfl rfl (.inr ⟨_, rfl, rfl⟩) ?_
   refine VD.gn rfl rfl (.inr ⟨_, rfl, rfl⟩) ?_
   refine VD.gn rfl rfl (.inr ⟨_, rfl, rfl⟩) ?_
   refine VD.gn rfl rfl (.inr ⟨_, rfl, rfl⟩) ?_
   refine VD.gn rfl rfl (.inr ⟨_, rfl, rfl⟩) ?_
   refine VD.gn rfl rfl (.inr ⟨_, rfl, rfl⟩) ?_
   refine VD.gn rfl rfl (.inr ⟨_, rfl, rfl⟩) ?_
   refine VD.gn rfl rfl (.inr ⟨_, rfl, rfl⟩) ?_
   refine VD.gn rfl rfl (.inr ⟨_, rfl, rfl⟩) ?_
   refine VD.gn rfl rfl (.inr ⟨_, rfl, rfl⟩) ?_
   refine VD.gn rfl rfl (.inr ⟨_, rfl, rfl⟩) ?_
   refine VD.nil rfl ?_ rfl
   refine VO.gn rfl (.inr ⟨_, rfl, rfl⟩) ?_
   refine VO.gn rfl (.inr ⟨_, rfl, rfl⟩) ?_
   refine VO.gN (VO.y rfl (.pT rfl rfl) (VO.k6 0 1 5 19 23 92 (outN (VC.condT rfl (VC.rs (VO.as ?_))))))
   refine VO.kp [0] [(0, wm W)] ?_
   refine VO.k7 0 1 4 5 19 23 92 (VC.ret (outBR (outR (outR (outBR (outR ?_))))))
   refine ⟨_, _, res_run (rs := [.tmp 4]) rfl (.tmp rfl .nil), fun W_ hI => out_of (l := []) hI [] rfl rfl (mle_refl _) (fun hS_ => ?_)⟩
   dsimp only [packV]
   all_goals (first | rfl | (exact fin0_sCheck8_ok))
 refine VD.y rfl rfl (.inr ⟨_, _, rfl, _, rfl, rfl⟩) (.mv rfl) ?_
 refine VD.y rfl rfl (.inr ⟨_, _, rfl, _, rfl, rfl⟩) (.gtr rfl rfl) ?_
 refine VD.y rfl rfl (.inr ⟨_, _, rfl, _, rfl, rfl⟩) (.mv rfl) ?_
 refine VD.dec (s := 64) rfl (fun hc14 => ?_) (fun hc14 => ?_)
 refine VD.y rfl rfl (.inr ⟨_, _, rfl, _, rfl, rfl⟩) (.mv rfl) ?_
 refine VD.y rfl rfl (.inr ⟨_, _, rfl, _, rfl, rfl⟩) (.mv rfl) ?_
 refine VD.y rfl rfl (.inr ⟨_, _, rfl, _, rfl, rfl⟩) (.ixI k rfl rfl tsl70 rfl bd) ?_
 refine VD.y rfl rfl (.inr ⟨_, _, rfl, _, rfl, rfl⟩) (.fa rfl tst90 rfl) ?_
 refine VD.y rfl rfl (.inr ⟨_, _, rfl, _, rfl, rfl⟩) (.ld1 0 rfl tk3 rfl (hce5.at1 (j := 0) rfl)) ?_
 refine VD.y rfl rfl (.inr ⟨_, _, rfl, _, rfl, rfl⟩) (.mv rfl) ?_
 refine VD.y rfl rfl (.inr ⟨_, _, rfl, _, rfl, rfl⟩) (.mv rfl) ?_
 refine VD.y rfl rfl (.inr ⟨_, _, rfl, _, rfl, rfl⟩) (.sub rfl rfl rfl ⟨bd, bd⟩) ?_
 obtain ⟨x16, hx16⟩ : ∃ z_, (d0)[(((k : Nat) : Int) - 1).toNat]? = some z_ := ⟨_, List.getElem?_eq_getElem bd⟩
 obtain ⟨gg16, oo16, ec16, ea16, hce16, hre16⟩ := h0.elem hx16
 cases ea16
 obtain ⟨rfl, q16_0, q16_1⟩ := open_Start (x0 := x16.1) (x1 := x16.2) hre16
 simp only [inK] at q16_0 q16_1
 refine VD.y rfl rfl (.inr ⟨_, _, rfl, _, rfl, rfl⟩) (.ixI ((((k : Nat) : Int) - 1).toNat) rfl rfl tsl70 bd bd) ?_
 refine VD.y rfl rfl (.inr ⟨_, _, rfl, _, rfl, rfl⟩) (.fa rfl tst90 rfl) ?_
 refine VD.y rfl rfl (.inr ⟨_, _, rfl, _, rfl, rfl⟩) (.ld1 0 rfl tk3 rfl (hce16.at1 (j := 0) rfl)) ?_
 refine VD.y rfl rfl (.inr ⟨_, _, rfl, _, rfl, rfl⟩) (.leq rfl rfl) ?_
 refine VD.y rfl rfl (.inr ⟨_, _, rfl, _, rfl, rfl⟩) (.mv rfl) ?_
 refine VD.dec (s := 77) rfl (fun hc17 => ?_) (fun hc17 => ?_)
 · refine VD.gn rfl rfl (.inl ⟨_, rfl, rfl⟩) ?_
   refine VD.gn rfl rfl (.inl ⟨_, rfl, rfl⟩) ?_
   refine VD.gn rfl rfl (.inl ⟨_, rfl, rfl⟩) ?_
   refine VD.gn rfl rfl (.inl ⟨_, rfl, rfl⟩) ?_
   refine VD.gn rfl rfl (.inl ⟨_, rfl, rfl⟩) ?_
   refine VD.gn rfl rfl (.inl ⟨_, rfl, rfl⟩) ?_
   refine VD.gn rfl rfl (.inl ⟨_, rfl, rfl⟩) ?_
   refine VD.gn rfl rfl (.inl ⟨_, rfl, rfl⟩) ?_
   refine VD.gn rfl rfl (.inl ⟨_, rfl, rfl⟩) ?_
   refine VD.gn rfl rfl (.inl ⟨_, rfl, rfl⟩) ?_
   refine VD.gn rfl rfl (.inl ⟨_, rfl, rfl⟩) ?_
   refine VD.nil rfl ?_ rfl
   refine VO.gN (VO.gy rfl ⟨_, rfl, rfl⟩ (.pT rfl rfl) (VO.gy rfl ⟨_, rfl, rfl⟩ (.pT rfl rfl) (VO.y rfl (.pF rfl rfl) (VO.k6 0 1 5 19 23 92 (outN (VC.condT rfl (VC.rs (VO.as ?_))))))))
   refine VO.kp [0] [(0, wm W)] ?_
   refine VO.k7 0 1 4 5 19 23 92 (VC.ret (outBR (outR (outR (outBR (outR ?_))))))
   refine ⟨_, _, res_run (rs := [.tmp 4]) rfl (.tmp rfl .nil), fun W_ hI => out_of (l := []) hI [] rfl rfl (mle_refl _) (fun hS_ => ?_)⟩
   dsimp only [packV]
   all_goals (first | rfl | (exact fin0_sCheck8_ok))
 refine VD.y rfl rfl (.inr ⟨_, _, rfl, _, rfl, rfl⟩) (.mv rfl) ?_
 refine VD.y rfl rfl (.inr ⟨_, _, rfl, _, rfl, rfl⟩) (.mv rfl) ?_
 refine VD.y rfl rfl (.inr ⟨_, _, rfl, _, rfl, rfl⟩) (.ixI k rfl rfl tsl70 rfl bd) ?_
 refine VD.y rfl rfl (.inr ⟨_, _, rfl, _, rfl, rfl⟩) (.fa rfl tst90 rfl) ?_
 refine VD.y rfl rfl (.inr ⟨_, _, rfl, _, rfl, rfl⟩) (.ld1 0 rfl tk3 rfl (hce5.at1 (j := 1) rfl)) ?_
 refine VD.y rfl rfl (.inr ⟨_, _, rfl, _, rfl, rfl⟩) (.mv rfl) ?_
 refine VD.y rfl rfl (.inr ⟨_, _, rfl, _, rfl, rfl⟩) (.mv rfl) ?_
 refine VD.y rfl rfl (.inr ⟨_, _, rfl, _, rfl, rfl⟩) (.sub rfl rfl rfl ⟨bd, bd⟩) ?_
 refine VD.y rfl rfl (.inr ⟨_, _, rfl, _, rfl, rfl⟩) (.ixI ((((k : Nat) : Int) - 1).toNat) rfl rfl tsl70 bd bd) ?_
 refine VD.y rfl rfl (.inr ⟨_, _, rfl, _, rfl, rfl⟩) (.fa rfl tst90 rfl) ?_
 refine VD.y rfl rfl (.inr ⟨_, _, rfl, _, rfl, rfl⟩) (.ld1 0 rfl tk3 rfl (hce16.at1 (j := 1) rfl)) ?_
 refine VD.nil rfl ?_ rfl
 refine VO.gy rfl ⟨_, rfl, rfl⟩ (.leq rfl rfl) (VO.gy rfl ⟨_, rfl, rfl⟩ (.pF rfl rfl) (VO.gy rfl ⟨_, rfl, rfl⟩ (.pT rfl rfl) (VO.y rfl (.pF rfl rfl) (VO.k6 0 1 5 19 23 92 (outN ?_)))))
 refine VC.cond rfl (fun hc20 => ?_) (fun hc20 => ?_)
 · refine VC.rs (VO.as ?_)
   refine VO.kp [0] [(0, wm W)] ?_
   refine VO.k7 0 1 4 5 19 23 92 (VC.ret (outBR (outR (outR (outBR (outR ?_))))))
   refine ⟨_, _, res_run (rs := [.tmp 4]) rfl (.tmp rfl .nil), fun W_ hI => out_of (l := []) hI [] rfl rfl (mle_refl _) (fun hS_ => ?_)⟩
   dsimp only [packV]
   all_goals (first | rfl | (exact fin0_sCheck8_ok))
 refine VC.skip (outBN (outN ?_))
 refine VC.reg ?_
 refine VO.mv ?_
 refine VO.y rfl (.add (c := ((k + 1 : Nat) : Int)) rfl rfl (by omega) ⟨bd, bd⟩) ?_
 refine VO.as ?_
 refine VO.kp [0] [(0, wm W)] ?_
 refine VO.k6 0 1 5 19 23 92 ?_
 exact outN ⟨k + 1, ⟨by omega, by (rw [prevS_next ‹d0[k]? = some _›]; omega), by exact hs.trans (step8 ‹d0[k]? = some _› (by omega) (by omega) (by omega) (by omega) (by first | (intro h_; exfalso; omega) | exact fun _ => ⟨_, by assumption, by omega, by omega⟩))⟩, bd, ⟨⟨rfl, rfl, rfl, rfl, trivial⟩, fun _ h => Inv.sub h [0]⟩⟩
 refine VD.gn rfl rfl (.inl ⟨_, rfl, rfl⟩) ?_
 refine VD.gn rfl rfl (.inl ⟨_, rfl, rfl⟩) ?_
 refine VD.gn rfl rfl (.inl ⟨_, rfl, rfl⟩) ?_
 refine VD.gn rfl rfl (.inl ⟨_, rfl, rfl⟩) ?_
 refine VD.gn rfl rfl (.inl ⟨_, rfl, rfl⟩) ?_
 refine VD.gn rfl rfl (.inl ⟨_, rfl, rfl⟩) ?_
 refine VD.gn rfl rfl (.inl ⟨_, rfl, rfl⟩) ?_
 refine VD.gn rfl rfl (.inl ⟨_, rfl, rfl⟩) ?_
 refine VD.gn rfl rfl (.inl ⟨_, rfl, rfl⟩) ?_
 refine VD.gn rfl rfl (.inl ⟨_, rfl, rfl⟩) ?_
 refine VD.gn rfl rfl (.inl ⟨_, rfl, rfl⟩) ?_
 refine VD.gn rfl rfl (.inl ⟨_, rfl, rfl⟩) ?_
 refine VD.gn rfl rfl (.inl ⟨_, rfl, rfl⟩) ?_
 refine VD.gn rfl rfl (.inr ⟨_, rfl, rfl⟩) ?_
 refine VD.gn rfl rfl (.inr ⟨_, rfl, rfl⟩) ?_
 refine VD.gn rfl rfl (.inr ⟨_, rfl, rfl⟩) ?_
 refine VD.gn rfl rfl (.inr ⟨_, rfl, rfl⟩) ?_
 refine VD.gn rfl rfl (.inr ⟨_, rfl, rfl⟩) ?_
 refine VD.gn rfl rfl (.inr ⟨_, rfl, rfl⟩) ?_
 refine VD.gn rfl rfl (.inr ⟨_, rfl, rfl⟩) ?_
 refine VD.gn rfl rfl (.inr ⟨_, rfl, rfl⟩) ?_
 refine VD.gn rfl rfl (.inr ⟨_, rfl, rfl⟩) ?_
 refine VD.gn rfl rfl (.inr ⟨_, rfl, rfl⟩) ?_
 refine VD.gn rfl rfl (.inr ⟨_, rfl, rfl⟩) ?_
 refine VD.nil rfl ?_ rfl
 refine VO.gn rfl (.inr ⟨_, rfl, rfl⟩) ?_
 refine VO.gN (VO.gy rfl ⟨_, rfl, rfl⟩ (.pF rfl rfl) (VO.y rfl (.pF rfl rfl) (VO.k6 0 1 5 19 23 92 (outN (VC.condF rfl (VC.skip (outBN (outN ?_))))))))
 refine VC.reg ?_
 refine VO.mv ?_
 refine VO.y rfl (.add (c := ((k + 1 : Nat) : Int)) rfl rfl (by omega) ⟨bd, bd⟩) ?_
 refine VO.as ?_
 refine VO.kp [0] [(0, wm W)] ?_
 refine VO.k6 0 1 5 19 23 92 ?_
 exact outN ⟨k + 1, ⟨by omega, by (rw [prevS_next ‹d0[k]? = some _›]; omega), by exact hs.trans (step8 ‹d0[k]? = some _› (by omega) (by omega) (by omega) (by omega) (by first | (intro h_; exfalso; omega) | exact fun _ => ⟨_, by assumption, by omega, by omega⟩))⟩, bd, ⟨⟨rfl, rfl, rfl, rfl, trivial⟩, fun _ h => Inv.sub h [0]⟩⟩
 refine VD.gn rfl rfl (.inl ⟨_, rfl, rfl⟩) ?_
 refine VD.gn rfl rfl (.inl ⟨_, rfl, rfl⟩) ?_
 refine VD.gn rfl rfl (.inl ⟨_, rfl, rfl⟩) ?_
 refine VD.gn rfl rfl (.inl ⟨_, rfl, rfl⟩) ?_
 refine VD.gn rfl rfl (.inl ⟨_, rfl, rfl⟩) ?_
 refine VD.gn rfl rfl (.inl ⟨_, rfl, rfl⟩) ?_
 refine VD.y rfl rfl (.inr ⟨_, _, rfl, _, rfl, rfl⟩) (.pF rfl rfl) ?_
 refine VD.y rfl rfl (.inl rfl) (.pF rfl rfl) (VD.y rfl rfl (.inl rfl) (.mv rfl) ?_)
 refine VD.y rfl rfl (.inr ⟨_, _, rfl, _, rfl, rfl⟩) (.mv rfl) ?_
 refine VD.y rfl rfl (.inr ⟨_, _, rfl, _, rfl, rfl⟩) (.gtr rfl rfl) ?_
 refine VD.y rfl rfl (.inr ⟨_, _, rfl, _, rfl, rfl⟩) (.mv rfl) ?_
 refine VD.dec (s := 64) rfl (fun hc21 => ?_) (fun hc21 => ?_)
 refine VD.y rfl rfl (.inr ⟨_, _, rfl, _, rfl, rfl⟩) (.mv rfl) ?_
 refine VD.y rfl rfl (.inr ⟨_, _, rfl, _, rfl, rfl⟩) (.mv rfl) ?_
 refine VD.y rfl rfl (.inr ⟨_, _, rfl, _, rfl, rfl⟩) (.ixI k rfl rfl tsl70 rfl bd) ?_
 refine VD.y rfl rfl (.inr ⟨_, _, rfl, _, rfl, rfl⟩) (.fa rfl tst90 rfl) ?_
 refine VD.y rfl rfl (.inr ⟨_, _, rfl, _, rfl, rfl⟩) (.ld1 0 rfl tk3 rfl (hce5.at1 (j := 0) rfl)) ?_
 refine VD.y rfl rfl (.inr ⟨_, _, rfl, _, rfl, rfl⟩) (.mv rfl) ?_
 refine VD.y rfl rfl (.inr ⟨_, _, rfl, _, rfl, rfl⟩) (.mv rfl) ?_
 refine VD.y rfl rfl (.inr ⟨_, _, rfl, _, rfl, rfl⟩) (.sub rfl rfl rfl ⟨bd, bd⟩) ?_
 obtain ⟨x23, hx23⟩ : ∃ z_, (d0)[(((k : Nat) : Int) - 1).toNat]? = some z_ := ⟨_, List.getElem?_eq_getElem bd⟩
 obtain ⟨gg23, oo23, ec23, ea23, hce23, hre23⟩ := h0.elem hx23
 cases ea23
 obtain ⟨rfl, q23_0, q23_1⟩ := open_Start (x0 := x23.1) (x1 := x23.2) hre23
 simp only [inK] at q23_0 q23_1
 refine VD.y rfl rfl (.inr ⟨_, _, rfl, _, rfl, rfl⟩) (.ixI ((((k : Nat) : Int) - 1).toNat) rfl rfl tsl70 bd bd) ?_
 refine VD.y rfl rfl (.inr ⟨_, _, rfl, _, rfl, rfl⟩) (.fa rfl tst90 rfl) ?_
 refine VD.y rfl rfl (.inr ⟨_, _, rfl, _, rfl, rfl⟩) (.ld1 0 rfl tk3 rfl (hce23.at1 (j := 0) rfl)) ?_
 refine VD.y rfl rfl (.inr ⟨_, _, rfl, _, rfl, rfl⟩) (.leq rfl rfl) ?_
 refine VD.y rfl rfl (.inr ⟨_, _, rfl, _, rfl, rfl⟩) (.mv rfl) ?_
 refine VD.dec (s := 77) rfl (fun hc24 => ?_) (fun hc24 => ?_)
 · refine VD.gn rfl rfl (.inl ⟨_, rfl, rfl⟩) ?_
   refine VD.gn rfl rfl (.inl ⟨_, rfl, rfl⟩) ?_
   refine VD.gn rfl rfl (.inl ⟨_, rfl, rfl⟩) ?_
   refine VD.gn rfl rfl (.inl ⟨_, rfl, rfl⟩) ?_
   refine VD.gn rfl rfl (.inl ⟨_, rfl, rfl⟩) ?_
   refine VD.gn rfl rfl (.inl ⟨_, rfl, rfl⟩) ?_
   refine VD.gn rfl rfl (.inl ⟨_, rfl, rfl⟩) ?_
   refine VD.gn rfl rfl (.inl ⟨_, rfl, rfl⟩) ?_
   refine VD.gn rfl rfl (.inl ⟨_, rfl, rfl⟩) ?_
   refine VD.gn rfl rfl (.inl ⟨_, rfl, rfl⟩) ?_
   refine VD.gn rfl rfl (.inl ⟨_, rfl, rfl⟩) ?_
   refine VD.nil rfl ?_ rfl
   refine VO.gN (VO.gy rfl ⟨_, rfl, rfl⟩ (.pT rfl rfl) (VO.gy rfl ⟨_, rfl, rfl⟩ (.pT rfl rfl) (VO.y rfl (.pF rfl rfl) (VO.k6 0 1 5 19 23 92 (outN (VC.condT rfl (VC.rs (VO.as ?_))))))))
   refine VO.kp [0] [(0, wm W)] ?_
   refine VO.k7 0 1 4 5 19 23 92 (VC.ret (outBR (outR (outR (outBR (outR ?_))))))
   refine ⟨_, _, res_run (rs := [.tmp 4]) rfl (.tmp rfl .nil), fun W_ hI => out_of (l := []) hI [] rfl rfl (mle_refl _) (fun hS_ => ?_)⟩
   dsimp only [packV]
   all_goals (first | rfl | (exact fin0_sCheck8_ok))
 refine VD.y rfl rfl (.inr ⟨_, _, rfl, _, rfl, rfl⟩) (.mv rfl) ?_
 refine VD.y rfl rfl (.inr ⟨_, _, rfl, _, rfl, rfl⟩) (.mv rfl) ?_
 refine VD.y rfl rfl (.inr ⟨_, _, rfl, _, rfl, rfl⟩) (.ixI k rfl rfl tsl70 rfl bd) ?_
 refine VD.y rfl rfl (.inr ⟨_, _, rfl, _, rfl, rfl⟩) (.fa rfl tst90 rfl) ?_
 refine VD.y rfl rfl (.inr ⟨_, _, rfl, _, rfl, rfl⟩) (.ld1 0 rfl tk3 rfl (hce5.at1 (j := 1) rfl)) ?_
 refine VD.y rfl rfl (.inr ⟨_, _, rfl, _, rfl, rfl⟩) (.mv rfl) ?_
 refine VD.y rfl rfl (.inr ⟨_, _, rfl, _, rfl, rfl⟩) (.mv rfl) ?_
 refine VD.y rfl rfl (.inr ⟨_, _, rfl, _, rfl, rfl⟩) (.sub rfl rfl rfl ⟨bd, bd⟩) ?_
 refine VD.y rfl rfl (.inr ⟨_, _, rfl, _, rfl, rfl⟩) (.ixI ((((k : Nat) : Int) - 1).toNat) rfl rfl tsl70 bd bd) ?_
 refine VD.y rfl rfl (.inr ⟨_, _, rfl, _, rfl, rfl⟩) (.fa rfl tst90 rfl) ?_
 refine VD.y rfl rfl (.inr ⟨_, _, rfl, _, rfl, rfl⟩) (.ld1 0 rfl tk3 rfl (hce23.at1 (j := 1) rfl)) ?_
 refine VD.nil rfl ?_ rfl
 refine VO.gy rfl ⟨_, rfl, rfl⟩ (.leq rfl rfl) (VO.gy rfl ⟨_, rfl, rfl⟩ (.pF rfl rfl) (VO.gy rfl ⟨_, rfl, rfl⟩ (.pT rfl rfl) (VO.y rfl (.pF rfl rfl) (VO.k6 0 1 5 19 23 92 (outN ?_)))))
 refine VC.cond rfl (fun hc27 => ?_) (fun hc27 => ?_)
 · refine VC.rs (VO.as ?_)
   refine VO.kp [0] [(0, wm W)] ?_
   refine VO.k7 0 1 4 5 19 23 92 (VC.ret (outBR (outR (outR (outBR (outR ?_))))))
   refine ⟨_, _, res_run (rs := [.tmp 4]) rfl (.tmp rfl .nil), fun W_ hI => out_of (l := []) hI [] rfl rfl (mle_refl _) (fun hS_ => ?_)⟩
   dsimp only [packV]
   all_goals (first | rfl | (exact fin0_sCheck8_ok))
 refine VC.skip (outBN (outN ?_))
 refine VC.reg ?_
 refine VO.mv ?_
 refine VO.y rfl (.add (c := ((k + 1 : Nat) : Int)) rfl rfl (by omega) ⟨bd, bd⟩) ?_
 refine VO.as ?_
 refine VO.kp [0] [(0, wm W)] ?_
 refine VO.k6 0 1 5 19 23 92 ?_
 exact outN ⟨k + 1, ⟨by omega, by (rw [prevS_next ‹d0[k]? = some _›]; omega), by exact hs.trans (step8 ‹d0[k]? = some _› (by omega) (by omega) (by omega) (by omega) (by first | (intro h_; exfalso; omega) | exact fun _ => ⟨_, by assumption, by omega, by omega⟩))⟩, bd, ⟨⟨rfl, rfl, rfl, rfl, trivial⟩, fun _ h => Inv.sub h [0]⟩⟩
 refine VD.gn rfl rfl (.inl ⟨_, rfl, rfl⟩) ?_
 refine VD.gn rfl rfl (.inl ⟨_, rfl, rfl⟩) ?_
 refine VD.gn rfl rfl (.inl ⟨_, rfl, rfl⟩) ?_
 refine VD.gn rfl rfl (.inl ⟨_, rfl, rfl⟩) ?_
 refine VD.gn rfl rfl (.inl ⟨_, rfl, rfl⟩) ?_
 refine VD.gn rfl rfl (.inl ⟨_, rfl, rfl⟩) ?_
 refine VD.gn rfl rfl (.inl ⟨_, rfl, rfl⟩) ?_
 refine VD.gn rfl rfl (.inl ⟨_, rfl, rfl⟩) ?_
 refine VD.gn rfl rfl (.inl ⟨_, rfl, rfl⟩) ?_
 refine VD.gn rfl rfl (.inl ⟨_, rfl, rfl⟩) ?_
 refine VD.gn rfl rfl (.inl ⟨_, rfl, rfl⟩) ?_
 refine VD.gn rfl rfl (.inl ⟨_, rfl, rfl⟩) ?_
 refine VD.gn rfl rfl (.inl ⟨_, rfl, rfl⟩) ?_
 refine VD.gn rfl rfl (.inr ⟨_, rfl, rfl⟩) ?_
 refine VD.gn rfl rfl (.inr ⟨_, rfl, rfl⟩) ?_
 refine VD.gn rfl rfl (.inr ⟨_, rfl, rfl⟩) ?_
 refine VD.gn rfl rfl (.inr ⟨_, rfl, rfl⟩) ?_
 refine VD.gn rfl rfl (.inr ⟨_, rfl, rfl⟩) ?_
 refine VD.gn rfl rfl (.inr ⟨_, rfl, rfl⟩) ?_
 refine VD.gn rfl rfl (.inr ⟨_, rfl, rfl⟩) ?_
 refine VD.gn rfl rfl (.inr ⟨_, rfl, rfl⟩) ?_
 refine VD.gn rfl rfl (.inr ⟨_, rfl, rfl⟩) ?_
 refine VD.gn rfl rfl (.inr ⟨_, rfl, rfl⟩) ?_
 refine VD.gn rfl rfl (.inr ⟨_, rfl, rfl⟩) ?_
 refine VD.nil rfl ?_ rfl
 refine VO.gn rfl (.inr ⟨_, rfl, rfl⟩) ?_
 refine VO.gN (VO.gy rfl ⟨_, rfl, rfl⟩ (.pF rfl rfl) (VO.y rfl (.pF rfl rfl) (VO.k6 0 1 5 19 23 92 (outN (VC.condF rfl (VC.skip (outBN (outN ?_))))))))
 refine VC.reg ?_
 refine VO.mv ?_
 refine VO.y rfl (.add (c := ((k + 1 : Nat) : Int)) rfl rfl (by omega) ⟨bd, bd⟩) ?_
 refine VO.as ?_
 refine VO.kp [0] [(0, wm W)] ?_
 refine VO.k6 0 1 5 19 23 92 ?_
 exact outN ⟨k + 1, ⟨by omega, by (rw [prevS_next ‹d0[k]? = some _›]; omega), by exact hs.trans (step8 ‹d0[k]? = some _› (by omega) (by omega) (by omega) (by omega) (by first | (intro h_; exfalso; omega) | exact fun _ => ⟨_, by assumption, by omega, by omega⟩))⟩, bd, ⟨⟨rfl, rfl, rfl, rfl, trivial⟩, fun _ h => Inv.sub h [0]⟩⟩
 · refine VC.exit (outE (outE (outBB (outN (VC.rs (VO.as (VO.k6 0 1 4 5 19 23 (VC.ret ?_))))))))
   refine ⟨_, _, res_run (rs := [.tmp 4]) rfl (.tmp rfl .nil), fun W_ hI => out_of (l := []) hI [] rfl rfl (mle_refl _) (fun hS_ => ?_)⟩
   dsimp only [packV]
   all_goals (first | rfl | (exact fin0_sCheck8_ok))
theorem fin0_hello11_ok {P : Prop} (h : P := by first | exact congrArg Value.bool (decide_eq_false (by unfold helloM; omega)).symm | exact congrArg Value.bool (decide_eq_false (hello_last (by assumption) (by omega) (by omega))).symm | exact congrArg Value.bool (decide_eq_decide.2 (hello_iff ⟨by omega, by omega⟩ (by omega) (lastOk_good (by assumption) (by omega) (by omega)))) | exact congrArg Value.bool (decide_eq_decide.2 (hello_iff ⟨by omega, by omega⟩ (by omega) (lastOk_nil (by omega))))) : P := h
theorem hello11_ok (W : World) {v0 : List Value} {d0 : DMessage} (h0 : Rd TMessage (wm W) v0 d0) : CallR Try.prog 143 [.agg v0.toArray] W (mnil) (fun v m' => v = .bool (decide (helloM d0))) := by
 obtain ⟨p0_A4, p0_c4, p0_A7, p0_c7, rfl, p0_0, p0_1, p0_2, p0_3, p0_4, p0_5, p0_6, p0_7⟩ := open_Message (x0 := d0.1) (x1 := d0.2.1) (x2 := d0.2.2.1) (x3 := d0.2.2.2.1) (x4 := d0.2.2.2.2.1) (x5 := d0.2.2.2.2.2.1) (x6 := d0.2.2.2.2.2.2.1) (x7 := d0.2.2.2.2.2.2.2) h0
 simp only [inK] at p0_0 p0_1 p0_2 p0_3
 have p0_r4 := Rd.room p0_4
 simp only [inK] at p0_5 p0_6
 have p0_r7 := Rd.room p0_7
 refine CallR.ofA (n := 45) Try.func143 rfl rfl rfl ?_
 refine VC.rs ?_
 refine VO.box (cs := [.int .i64 (d0.1), .int .i64 (d0.2.1), .int .u8 (d0.2.2.1), .int .i64 (d0.2.2.2.1), .slice p0_A4 (d0.2.2.2.2.1.length) (p0_c4), .int .i64 (d0.2.2.2.2.2.1), .int .i64 (d0.2.2.2.2.2.2.1), .slice p0_A7 (d0.2.2.2.2.2.2.2.length) (p0_c7)]) 102 rfl rfl rfl (fun g1 => ?_)
 refine VO.as (VO.k3 0 1 2 (VC.seq (VC.rs (VO.y rfl (.fa rfl tst72 rfl) (VO.y rfl (.ld1 102 rfl tk69 rfl (cellsAt_one rfl rfl)) (VO.y rfl (.lss rfl rfl) (VO.mv ?_)))))))
 refine VO.dec (t := 7) rfl (fun hc3 => ?_) (fun hc3 => ?_)
 · refine VO.gN (VO.gN (VO.gN (VO.y rfl (.pT rfl rfl) (VO.mv (VO.gN (VO.gN (VO.gN (VO.gN (VO.gN (VO.gN (VO.y rfl (.pT rfl rfl) ?_)))))))))))
   refine VO.k4 0 1 2 19 (VC.condT rfl (VC.rs (VO.as ?_)))
   refine VO.kp [102, 0] [(102, mone g1 (.cells #[.int .i64 (d0.1), .int .i64 (d0.2.1), .int .u8 (d0.2.2.1), .int .i64 (d0.2.2.2.1), .slice p0_A4 (d0.2.2.2.2.1.length) (p0_c4), .int .i64 (d0.2.2.2.2.2.1), .int .i64 (d0.2.2.2.2.2.2.1), .slice p0_A7 (d0.2.2.2.2.2.2.2.length) (p0_c7)] 72 (0, 0))), (0, wm W)] ?_
   refine VO.k4 0 1 2 19 (VC.ret (outR ?_))
   refine ⟨_, _, res_run (rs := [.tmp 2]) rfl (.tmp rfl .nil), fun W_ hI => out_of (l := []) hI [] rfl rfl (mle_refl _) (fun hS_ => ?_)⟩
   dsimp only [packV]
   all_goals (first | rfl | (exact fin0_hello11_ok))
 refine VO.gy rfl ⟨_, rfl, rfl⟩ (.fa rfl tst72 rfl) ?_
 refine VO.gy rfl ⟨_, rfl, rfl⟩ (.ld1 102 rfl tk69 rfl (cellsAt_one rfl rfl)) ?_
 refine VO.gy rfl ⟨_, rfl, rfl⟩ (.gtr rfl rfl) (VO.y rfl (.pF rfl rfl) (VO.mv ?_))
 refine VO.dec (t := 12) rfl (fun hc4 => ?_) (fun hc4 => ?_)
 · refine VO.gN (VO.gN (VO.gN (VO.gN (VO.gN (VO.gN (VO.y rfl (.pT rfl rfl) (VO.k4 0 1 2 19 (VC.condT rfl (VC.rs (VO.as ?_))))))))))
   refine VO.kp [102, 0] [(102, mone g1 (.cells #[.int .i64 (d0.1), .int .i64 (d0.2.1), .int .u8 (d0.2.2.1), .int .i64 (d0.2.2.2.1), .slice p0_A4 (d0.2.2.2.2.1.length) (p0_c4), .int .i64 (d0.2.2.2.2.2.1), .int .i64 (d0.2.2.2.2.2.2.1), .slice p0_A7 (d0.2.2.2.2.2.2.2.length) (p0_c7)] 72 (0, 0))), (0, wm W)] ?_
   refine VO.k4 0 1 2 19 (VC.ret (outR ?_))
   refine ⟨_, _, res_run (rs := [.tmp 2]) rfl (.tmp rfl .nil), fun W_ hI => out_of (l := []) hI [] rfl rfl (mle_refl _) (fun hS_ => ?_)⟩
   dsimp only [packV]
   all_goals (first | rfl | (exact fin0_hello11_ok))
 refine VO.gy rfl ⟨_, rfl, rfl⟩ (.fa rfl tst72 rfl) ?_
 refine VO.gy rfl ⟨_, rfl, rfl⟩ (.ld1 102 rfl tk70 rfl (cellsAt_one rfl rfl)) ?_
 refine VO.gy rfl ⟨_, rfl, rfl⟩ (.fa rfl tst72 rfl) ?_
 refine VO.gy rfl ⟨_, rfl, rfl⟩ (.ld1 102 rfl tk3 rfl (cellsAt_one rfl rfl)) ?_
 refine VO.gcallN 105 rfl ⟨_, rfl, rfl⟩ fnOk149 rfl (fun W hW => sCheck8_ok W (Rd.mono p0_4 (hW.at (i := 0) rfl)) d0.2.2.2.1 bdk) (fun v5 m5 hv5 => ?_)
 subst hv5
 have hfa6 := sCheck_range d0.2.2.2.2.1 d0.2.2.2.1
 refine VO.gy rfl ⟨_, rfl, rfl⟩ (.neq rfl rfl) (VO.y rfl (.pF rfl rfl) (VO.k4 0 1 2 19 ?_))
 refine VC.cond rfl (fun hc7 => ?_) (fun hc7 => ?_)
 · refine VC.rs (VO.as ?_)
   refine VO.kp [102, 0] [(102, mone g1 (.cells #[.int .i64 (d0.1), .int .i64 (d0.2.1), .int .u8 (d0.2.2.1), .int .i64 (d0.2.2.2.1), .slice p0_A4 (d0.2.2.2.2.1.length) (p0_c4), .int .i64 (d0.2.2.2.2.2.1), .int .i64 (d0.2.2.2.2.2.2.1), .slice p0_A7 (d0.2.2.2.2.2.2.2.length) (p0_c7)] 72 (0, 0))), (0, wm W)] ?_
   refine VO.k4 0 1 2 19 (VC.ret (outR ?_))
   refine ⟨_, _, res_run (rs := [.tmp 2]) rfl (.tmp rfl .nil), fun W_ hI => out_of (l := []) hI [] rfl rfl (mle_refl _) (fun hS_ => ?_)⟩
   dsimp only [packV]
   all_goals (first | rfl | (exact fin0_hello11_ok))
 refine VC.skip (outN (VC.rs (VO.y rfl (.fa rfl tst72 rfl) (VO.y rfl (.ld1 102 rfl tk70 rfl (cellsAt_one rfl rfl)) ?_))))
 refine VO.y rfl (.lenS rfl tsl70) ?_
 refine VO.as ?_
 refine VO.kp [102, 0] [(102, mone g1 (.cells #[.int .i64 (d0.1), .int .i64 (d0.2.1), .int .u8 (d0.2.2.1), .int .i64 (d0.2.2.2.1), .slice p0_A4 (d0.2.2.2.2.1.length) (p0_c4), .int .i64 (d0.2.2.2.2.2.1), .int .i64 (d0.2.2.2.2.2.2.1), .slice p0_A7 (d0.2.2.2.2.2.2.2.length) (p0_c7)] 72 (0, 0))), (0, wm W)] ?_
 refine VO.k5 0 1 2 3 19 (VC.seq (VC.seq ?_))
 refine VC.regD _ 12 [(0, true), (1, true), (2, true), (3, true), (4, true), (5, true), (6, true), (7, true), (8, true), (9, true), (10, true), (11, true)] follows (by kernel_rfl) (fun _ h => h.sub [102, 0]) ?_
 refine VD.y rfl rfl (.inl rfl) (.mv rfl) (VD.y rfl rfl (.inl rfl) (.gtr rfl rfl) (VD.y rfl rfl (.inl rfl) (.mv rfl) ?_))
 refine VD.dec (s := 25) rfl (fun hc8 => ?_) (fun hc8 => ?_)
 refine VD.y rfl rfl (.inr ⟨_, _, rfl, _, rfl, rfl⟩) (.fa rfl tst72 rfl) ?_
 refine VD.y rfl rfl (.inr ⟨_, _, rfl, _, rfl, rfl⟩) (.ld1 102 rfl tk70 rfl (cellsAt_one rfl rfl)) ?_
 refine VD.y rfl rfl (.inr ⟨_, _, rfl, _, rfl, rfl⟩) (.mv rfl) ?_
 refine VD.y rfl rfl (.inr ⟨_, _, rfl, _, rfl, rfl⟩) (.sub rfl rfl rfl ⟨bd, bd⟩) ?_
 obtain ⟨x9, hx9⟩ : ∃ z_, (d0.2.2.2.2.1)[(((d0.2.2.2.2.1.length : Nat) : Int) - 1).toNat]? = some z_ := ⟨_, List.getElem?_eq_getElem bd⟩
 obtain ⟨gg9, oo9, ec9, ea9, hce9, hre9⟩ := p0_4.elem hx9
 cases ea9
 obtain ⟨rfl, q9_0, q9_1⟩ := open_Start (x0 := x9.1) (x1 := x9.2) hre9
 simp only [inK] at q9_0 q9_1
 refine VD.y rfl rfl (.inr ⟨_, _, rfl, _, rfl, rfl⟩) (.ixI ((((d0.2.2.2.2.1.length : Nat) : Int) - 1).toNat) rfl rfl tsl70 bd bd) ?_
 refine VD.y rfl rfl (.inr ⟨_, _, rfl, _, rfl, rfl⟩) (.fa rfl tst90 rfl) ?_
 refine VD.y rfl rfl (.inr ⟨_, _, rfl, _, rfl, rfl⟩) (.ld1 0 rfl tk3 rfl (hce9.at1 (j := 0) rfl)) ?_
 refine VD.y rfl rfl (.inr ⟨_, _, rfl, _, rfl, rfl⟩) (.fa rfl tst72 rfl) ?_
 refine VD.y rfl rfl (.inr ⟨_, _, rfl, _, rfl, rfl⟩) (.ld1 102 rfl tk3 rfl (cellsAt_one rfl rfl)) ?_
 refine VD.nil rfl ?_ rfl
 refine VO.gy rfl ⟨_, rfl, rfl⟩ (.gtr rfl rfl) (VO.y rfl (.pT rfl rfl) (VO.k6 0 1 2 3 19 36 (outN ?_)))
 refine VC.cond rfl (fun hc10 => ?_) (fun hc10 => ?_)
 · refine VC.rs (VO.as (VO.k6 0 1 2 3 19 36 (VC.ret (outR ?_))))
   refine ⟨_, _, res_run (rs := [.tmp 2]) rfl (.tmp rfl .nil), fun W_ hI => out_of (l := []) hI [] rfl rfl (mle_refl _) (fun hS_ => ?_)⟩
   dsimp only [packV]
   all_goals (first | rfl | (exact fin0_hello11_ok))
 · refine VC.skip (outN (VC.rs (VO.y rfl (.fa rfl tst72 rfl) (VO.y rfl (.ld1 102 rfl tk3 rfl (cellsAt_one rfl rfl)) (VO.y rfl (.fa rfl tst72 rfl) (VO.y rfl (.ld1 102 rfl tk3 rfl (cellsAt_one rfl rfl)) (VO.y rfl (.fa rfl tst72 rfl) (VO.y rfl (.ld1 102 rfl tk61 rfl (cellsAt_one rfl rfl)) ?_))))))))
   refine VO.y rfl (.bst (cs := [.int .i64 (0), .int .i64 (0), .int .u8 (0), .int .i64 (0), .slice none (0) (0), .int .i64 (d0.2.2.2.2.2.1), .int .i64 (d0.2.2.2.2.2.2.1), .slice p0_A7 (d0.2.2.2.2.2.2.2.length) (p0_c7)]) rfl tst72 tz72 rfl) ?_
   refine VO.callN 111 rfl fnOk145 rfl (fun W hW => plain11_ok W (mk_Message (m := wm W) 0 0 0 0 [] d0.2.2.2.2.2.1 d0.2.2.2.2.2.2.1 d0.2.2.2.2.2.2.2 bdk bdk bdk bdk (Rd.nil _ _ none 0 (Nat.zero_le _)) bdk bdk (Rd.mono p0_7 (hW.at (i := 0) rfl)))) (fun v11 m11 hv11 => ?_)
   try dsimp only at hv11
   subst hv11
   refine VO.as (VO.k6 0 1 2 3 19 36 (VC.ret ?_))
   refine ⟨_, _, res_run (rs := [.tmp 2]) rfl (.tmp rfl .nil), fun W_ hI => out_of (l := []) hI [] rfl rfl (mle_refl _) (fun hS_ => ?_)⟩
   dsimp only [packV]
   all_goals (first | rfl | (exact fin0_hello11_ok))
 · refine VD.gn rfl rfl (.inl ⟨_, rfl, rfl⟩) ?_
   refine VD.gn rfl rfl (.inl ⟨_, rfl, rfl⟩) ?_
   refine VD.gn rfl rfl (.inl ⟨_, rfl, rfl⟩) ?_
   refine VD.gn rfl rfl (.inl ⟨_, rfl, rfl⟩) ?_
   refine VD.gn rfl rfl (.inl ⟨_, rfl, rfl⟩) ?_
   refine VD.gn rfl rfl (.inl ⟨_, rfl, rfl⟩) ?_
   refine VD.gn rfl rfl (.inl ⟨_, rfl, rfl⟩) ?_
   refine VD.gn rfl rfl (.inl ⟨_, rfl, rfl⟩) ?_
   refine VD.gn rfl rfl (.inl ⟨_, rfl, rfl⟩) ?_
   refine VD.nil rfl ?_ rfl
   refine VO.gN (VO.y rfl (.pF rfl rfl) (VO.k6 0 1 2 3 19 36 (outN (VC.condF rfl (VC.skip (outN (VC.rs (VO.y rfl (.fa rfl tst72 rfl) (VO.y rfl (.ld1 102 rfl tk3 rfl (cellsAt_one rfl rfl)) (VO.y rfl (.fa rfl tst72 rfl) (VO.y rfl (.ld1 102 rfl tk3 rfl (cellsAt_one rfl rfl)) ?_)))))))))))
   refine VO.y rfl (.fa rfl tst72 rfl) (VO.y rfl (.ld1 102 rfl tk61 rfl (cellsAt_one rfl rfl)) ?_)
   refine VO.y rfl (.bst (cs := [.int .i64 (0), .int .i64 (0), .int .u8 (0), .int .i64 (0), .slice none (0) (0), .int .i64 (d0.2.2.2.2.2.1), .int .i64 (d0.2.2.2.2.2.2.1), .slice p0_A7 (d0.2.2.2.2.2.2.2.length) (p0_c7)]) rfl tst72 tz72 rfl) ?_
   refine VO.callN 112 rfl fnOk145 rfl (fun W hW => plain11_ok W (mk_Message (m := wm W) 0 0 0 0 [] d0.2.2.2.2.2.1 d0.2.2.2.2.2.2.1 d0.2.2.2.2.2.2.2 bdk bdk bdk bdk (Rd.nil _ _ none 0 (Nat.zero_le _)) bdk bdk (Rd.mono p0_7 (hW.at (i := 0) rfl)))) (fun v12 m12 hv12 => ?_)
   try dsimp only at hv12
   subst hv12
   refine VO.as (VO.k6 0 1 2 3 19 36 (VC.ret ?_))
   refine ⟨_, _, res_run (rs := [.tmp 2]) rfl (.tmp rfl .nil), fun W_ hI => out_of (l := []) hI [] rfl rfl (mle_refl _) (fun hS_ => ?_)⟩
   dsimp only [packV]
   all_goals (first | rfl | (exact fin0_hello11_ok))
theorem fin0_shipped11_ok {P : Prop} (h : P := by first | exact congrArg Value.bool (decide_eq_false (by unfold shipM; omega)).symm | exact congrArg Value.bool (decide_eq_false (ship_len (by assumption))).symm | exact congrArg Value.bool (decide_eq_false (fun e => by have := e.2.2.2.2.2.1 _ (List.mem_of_getElem? ‹_[k]? = some _›); omega)).symm | exact congrArg Value.bool (decide_eq_false (fun e => absurd (none_iff.2 e.2.2.2.2.1) (by assumption))).symm | exact congrArg Value.bool (decide_eq_decide.2 (by have ha2 := ha; rw [List.take_of_length_le (by omega)] at ha2; exact ship_iff (by omega) (by omega) ‹¬ ¬ decide _ = decide _› (by omega) (And.left (by assumption)) ha2))) : P := h
theorem shipped11_ok (W : World) {v0 : List Value} {d0 : DMessage} (h0 : Rd TMessage (wm W) v0 d0) : CallR Try.prog 144 [.agg v0.toArray] W (mnil) (fun v m' => v = .bool (decide (shipM d0))) := by
 obtain ⟨p0_A4, p0_c4, p0_A7, p0_c7, rfl, p0_0, p0_1, p0_2, p0_3, p0_4, p0_5, p0_6, p0_7⟩ := open_Message (x0 := d0.1) (x1 := d0.2.1) (x2 := d0.2.2.1) (x3 := d0.2.2.2.1) (x4 := d0.2.2.2.2.1) (x5 := d0.2.2.2.2.2.1) (x6 := d0.2.2.2.2.2.2.1) (x7 := d0.2.2.2.2.2.2.2) h0
 simp only [inK] at p0_0 p0_1 p0_2 p0_3
 have p0_r4 := Rd.room p0_4
 simp only [inK] at p0_5 p0_6
 have p0_r7 := Rd.room p0_7
 refine CallR.ofA (n := 75) Try.func144 rfl rfl rfl ?_
 refine VC.rs ?_
 refine VO.box (cs := [.int .i64 (d0.1), .int .i64 (d0.2.1), .int .u8 (d0.2.2.1), .int .i64 (d0.2.2.2.1), .slice p0_A4 (d0.2.2.2.2.1.length) (p0_c4), .int .i64 (d0.2.2.2.2.2.1), .int .i64 (d0.2.2.2.2.2.2.1), .slice p0_A7 (d0.2.2.2.2.2.2.2.length) (p0_c7)]) 102 rfl rfl rfl (fun g1 => ?_)
 refine VO.as (VO.k3 0 1 2 (VC.seq (VC.rs (VO.y rfl (.fa rfl tst72 rfl) (VO.y rfl (.ld1 102 rfl tk3 rfl (cellsAt_one rfl rfl)) (VO.y rfl (.lss rfl rfl) (VO.mv ?_)))))))
 refine VO.dec (t := 7) rfl (fun hc3 => ?_) (fun hc3 => ?_)
 · refine VO.gN (VO.gN (VO.gN (VO.y rfl (.pT rfl rfl) (VO.mv (VO.gN (VO.gN (VO.gN (VO.y rfl (.pT rfl rfl) (VO.mv (VO.gN (VO.gN ?_)))))))))))
   refine VO.gN (VO.gN (VO.gN (VO.y rfl (.pT rfl rfl) (VO.mv (VO.gN (VO.gN (VO.gN (VO.gN (VO.gN (VO.gN (VO.gN ?_)))))))))))
   refine VO.y rfl (.pT rfl rfl) (VO.mv (VO.gN (VO.gN (VO.gN (VO.gN (VO.y rfl (.pT rfl rfl) (VO.k4 0 1 2 38 (VC.condT rfl (VC.rs (VO.as ?_))))))))))
   refine VO.kp [102, 0] [(102, mone g1 (.cells #[.int .i64 (d0.1), .int .i64 (d0.2.1), .int .u8 (d0.2.2.1), .int .i64 (d0.2.2.2.1), .slice p0_A4 (d0.2.2.2.2.1.length) (p0_c4), .int .i64 (d0.2.2.2.2.2.1), .int .i64 (d0.2.2.2.2.2.2.1), .slice p0_A7 (d0.2.2.2.2.2.2.2.length) (p0_c7)] 72 (0, 0))), (0, wm W)] ?_
   refine VO.k4 0 1 2 38 (VC.ret (outR ?_))
   refine ⟨_, _, res_run (rs := [.tmp 2]) rfl (.tmp rfl .nil), fun W_ hI => out_of (l := []) hI [] rfl rfl (mle_refl _) (fun hS_ => ?_)⟩
   dsimp only [packV]
   all_goals (first | rfl | (exact fin0_shipped11_ok))
 refine VO.gy rfl ⟨_, rfl, rfl⟩ (.fa rfl tst72 rfl) ?_
 refine VO.gy rfl ⟨_, rfl, rfl⟩ (.ld1 102 rfl tk3 rfl (cellsAt_one rfl rfl)) ?_
 refine VO.gy rfl ⟨_, rfl, rfl⟩ (.gtr rfl rfl) (VO.y rfl (.pF rfl rfl) (VO.mv ?_))
 refine VO.dec (t := 12) rfl (fun hc4 => ?_) (fun hc4 => ?_)
 · refine VO.gN (VO.gN (VO.gN (VO.y rfl (.pT rfl rfl) (VO.mv (VO.gN (VO.gN (VO.gN (VO.gN (VO.gN (VO.y rfl (.pT rfl rfl) (VO.mv ?_)))))))))))
   refine VO.gN (VO.gN (VO.gN (VO.gN (VO.gN (VO.gN (VO.gN (VO.y rfl (.pT rfl rfl) (VO.mv (VO.gN (VO.gN (VO.gN ?_)))))))))))
   refine VO.gN (VO.y rfl (.pT rfl rfl) (VO.k4 0 1 2 38 (VC.condT rfl (VC.rs (VO.as ?_)))))
   refine VO.kp [102, 0] [(102, mone g1 (.cells #[.int .i64 (d0.1), .int .i64 (d0.2.1), .int .u8 (d0.2.2.1), .int .i64 (d0.2.2.2.1), .slice p0_A4 (d0.2.2.2.2.1.length) (p0_c4), .int .i64 (d0.2.2.2.2.2.1), .int .i64 (d0.2.2.2.2.2.2.1), .slice p0_A7 (d0.2.2.2.2.2.2.2.length) (p0_c7)] 72 (0, 0))), (0, wm W)] ?_
   refine VO.k4 0 1 2 38 (VC.ret (outR ?_))
   refine ⟨_, _, res_run (rs := [.tmp 2]) rfl (.tmp rfl .nil), fun W_ hI => out_of (l := []) hI [] rfl rfl (mle_refl _) (fun hS_ => ?_)⟩
   dsimp only [packV]
   all_goals (first | rfl | (exact fin0_shipped11_ok))
 refine VO.gy rfl ⟨_, rfl, rfl⟩ (.fa rfl tst72 rfl) ?_
 refine VO.gy rfl ⟨_, rfl, rfl⟩ (.ld1 102 rfl tk3 rfl (cellsAt_one rfl rfl)) ?_
 refine VO.gy rfl ⟨_, rfl, rfl⟩ (.lss rfl rfl) (VO.y rfl (.pF rfl rfl) (VO.mv ?_))
 refine VO.dec (t := 17) rfl (fun hc5 => ?_) (fun hc5 => ?_)
 · refine VO.gN (VO.gN (VO.gN (VO.gN (VO.gN (VO.y rfl (.pT rfl rfl) (VO.mv (VO.gN (VO.gN (VO.gN (VO.gN (VO.gN ?_)))))))))))
   refine VO.gN (VO.gN (VO.y rfl (.pT rfl rfl) (VO.mv (VO.gN (VO.gN (VO.gN (VO.gN (VO.y rfl (.pT rfl rfl) (VO.k4 0 1 2 38 (VC.condT rfl (VC.rs ?_)))))))))))
   refine VO.as ?_
   refine VO.kp [102, 0] [(102, mone g1 (.cells #[.int .i64 (d0.1), .int .i64 (d0.2.1), .int .u8 (d0.2.2.1), .int .i64 (d0.2.2.2.1), .slice p0_A4 (d0.2.2.2.2.1.length) (p0_c4), .int .i64 (d0.2.2.2.2.2.1), .int .i64 (d0.2.2.2.2.2.2.1), .slice p0_A7 (d0.2.2.2.2.2.2.2.length) (p0_c7)] 72 (0, 0))), (0, wm W)] ?_
   refine VO.k4 0 1 2 38 (VC.ret (outR ?_))
   refine ⟨_, _, res_run (rs := [.tmp 2]) rfl (.tmp rfl .nil), fun W_ hI => out_of (l := []) hI [] rfl rfl (mle_refl _) (fun hS_ => ?_)⟩
   dsimp only [packV]
   all_goals (first | rfl | (exact fin0_shipped11_ok))
 refine VO.gy rfl ⟨_, rfl, rfl⟩ (.fa rfl tst72 rfl) ?_
 refine VO.gy rfl ⟨_, rfl, rfl⟩ (.ld1 102 rfl tk3 rfl (cellsAt_one rfl rfl)) ?_
 refine VO.gy rfl ⟨_, rfl, rfl⟩ (.fa rfl tst72 rfl) ?_
 refine VO.gy rfl ⟨_, rfl, rfl⟩ (.ld1 102 rfl tk3 rfl (cellsAt_one rfl rfl)) ?_
 refine VO.gy rfl ⟨_, rfl, rfl⟩ (.gtr rfl rfl) (VO.y rfl (.pF rfl rfl) (VO.mv ?_))
 refine VO.dec (t := 24) rfl (fun hc6 => ?_) (fun hc6 => ?_)
 · refine VO.gN (VO.gN (VO.gN (VO.gN (VO.gN (VO.gN (VO.gN (VO.y rfl (.pT rfl rfl) (VO.mv (VO.gN (VO.gN (VO.gN ?_)))))))))))
   refine VO.gN (VO.y rfl (.pT rfl rfl) (VO.k4 0 1 2 38 (VC.condT rfl (VC.rs (VO.as ?_)))))
   refine VO.kp [102, 0] [(102, mone g1 (.cells #[.int .i64 (d0.1), .int .i64 (d0.2.1), .int .u8 (d0.2.2.1), .int .i64 (d0.2.2.2.1), .slice p0_A4 (d0.2.2.2.2.1.length) (p0_c4), .int .i64 (d0.2.2.2.2.2.1), .int .i64 (d0.2.2.2.2.2.2.1), .slice p0_A7 (d0.2.2.2.2.2.2.2.length) (p0_c7)] 72 (0, 0))), (0, wm W)] ?_
   refine VO.k4 0 1 2 38 (VC.ret (outR ?_))
   refine ⟨_, _, res_run (rs := [.tmp 2]) rfl (.tmp rfl .nil), fun W_ hI => out_of (l := []) hI [] rfl rfl (mle_refl _) (fun hS_ => ?_)⟩
   dsimp only [packV]
   all_goals (first | rfl | (exact fin0_shipped11_ok))
 refine VO.gy rfl ⟨_, rfl, rfl⟩ (.fa rfl tst72 rfl) ?_
 refine VO.gy rfl ⟨_, rfl, rfl⟩ (.ld1 102 rfl tk3 rfl (cellsAt_one rfl rfl)) ?_
 refine VO.gy rfl ⟨_, rfl, rfl⟩ (.eql rfl rfl) ?_
 refine VO.gy rfl ⟨_, rfl, rfl⟩ (.fa rfl tst72 rfl) ?_
 refine VO.gy rfl ⟨_, rfl, rfl⟩ (.ld1 102 rfl tk3 rfl (cellsAt_one rfl rfl)) ?_
 refine VO.gy rfl ⟨_, rfl, rfl⟩ (.eql rfl rfl) ?_
 refine VO.gy rfl ⟨_, rfl, rfl⟩ (.bneq rfl rfl Try.underlying4) ?_
 refine VO.y rfl (.pF rfl rfl) (VO.mv ?_)
 refine VO.dec (t := 33) rfl (fun hc7 => ?_) (fun hc7 => ?_)
 · refine VO.gN (VO.gN (VO.gN (VO.gN (VO.y rfl (.pT rfl rfl) (VO.k4 0 1 2 38 (VC.condT rfl (VC.rs (VO.as ?_))))))))
   refine VO.kp [102, 0] [(102, mone g1 (.cells #[.int .i64 (d0.1), .int .i64 (d0.2.1), .int .u8 (d0.2.2.1), .int .i64 (d0.2.2.2.1), .slice p0_A4 (d0.2.2.2.2.1.length) (p0_c4), .int .i64 (d0.2.2.2.2.2.1), .int .i64 (d0.2.2.2.2.2.2.1), .slice p0_A7 (d0.2.2.2.2.2.2.2.length) (p0_c7)] 72 (0, 0))), (0, wm W)] ?_
   refine VO.k4 0 1 2 38 (VC.ret (outR ?_))
   refine ⟨_, _, res_run (rs := [.tmp 2]) rfl (.tmp rfl .nil), fun W_ hI => out_of (l := []) hI [] rfl rfl (mle_refl _) (fun hS_ => ?_)⟩
   dsimp only [packV]
   all_goals (first | rfl | (exact fin0_shipped11_ok))
 refine VO.gy rfl ⟨_, rfl, rfl⟩ (.fa rfl tst72 rfl) ?_
 refine VO.gy rfl ⟨_, rfl, rfl⟩ (.ld1 102 rfl tk61 rfl (cellsAt_one rfl rfl)) ?_
 refine VO.gy rfl ⟨_, rfl, rfl⟩ (.lenS rfl tsl61) ?_
 refine VO.gy rfl ⟨_, rfl, rfl⟩ (.gtr rfl rfl) (VO.y rfl (.pF rfl rfl) (VO.k4 0 1 2 38 ?_))
 refine VC.cond rfl (fun hc8 => ?_) (fun hc8 => ?_)
 · refine VC.rs (VO.as ?_)
   refine VO.kp [102, 0] [(102, mone g1 (.cells #[.int .i64 (d0.1), .int .i64 (d0.2.1), .int .u8 (d0.2.2.1), .int .i64 (d0.2.2.2.1), .slice p0_A4 (d0.2.2.2.2.1.length) (p0_c4), .int .i64 (d0.2.2.2.2.2.1), .int .i64 (d0.2.2.2.2.2.2.1), .slice p0_A7 (d0.2.2.2.2.2.2.2.length) (p0_c7)] 72 (0, 0))), (0, wm W)] ?_
   refine VO.k4 0 1 2 38 (VC.ret (outR ?_))
   refine ⟨_, _, res_run (rs := [.tmp 2]) rfl (.tmp rfl .nil), fun W_ hI => out_of (l := []) hI [] rfl rfl (mle_refl _) (fun hS_ => ?_)⟩
   dsimp only [packV]
   all_goals (first | rfl | (exact fin0_shipped11_ok))
 refine VC.skip (outN (VC.seq (VC.rs (VO.as ?_))))
 refine VO.kp [102, 0] [(102, mone g1 (.cells #[.int .i64 (d0.1), .int .i64 (d0.2.1), .int .u8 (d0.2.2.1), .int .i64 (d0.2.2.2.1), .slice p0_A4 (d0.2.2.2.2.1.length) (p0_c4), .int .i64 (d0.2.2.2.2.2.1), .int .i64 (d0.2.2.2.2.2.2.1), .slice p0_A7 (d0.2.2.2.2.2.2.2.length) (p0_c7)] 72 (0, 0))), (0, wm W)] ?_
 refine VO.k5 0 1 2 3 38 (VC.block ?_)
 refine VC.loop (G := Nat) (fun k => [(3, .int .i64 (((k : Nat) : Int))), (0, .agg [.int .i64 (d0.1), .int .i64 (d0.2.1), .int .u8 (d0.2.2.1), .int .i64 (d0.2.2.2.1), .slice p0_A4 (d0.2.2.2.2.1.length) (p0_c4), .int .i64 (d0.2.2.2.2.2.1), .int .i64 (d0.2.2.2.2.2.2.1), .slice p0_A7 (d0.2.2.2.2.2.2.2.length) (p0_c7)].toArray), (1, .pointer (some ⟨g1, 0, none⟩)), (38, .bool (decide (4 < ((d0.2.2.2.2.2.2.2.length : Nat) : Int))))]) (fun k => [(102, mone g1 (.cells #[.int .i64 (d0.1), .int .i64 (d0.2.1), .int .u8 (d0.2.2.1), .int .i64 (d0.2.2.2.1), .slice p0_A4 (d0.2.2.2.2.1.length) (p0_c4), .int .i64 (d0.2.2.2.2.2.1), .int .i64 (d0.2.2.2.2.2.2.1), .slice p0_A7 (d0.2.2.2.2.2.2.2.length) (p0_c7)] 72 (0, 0))), (0, wm W)]) (fun k => (k ≤ d0.2.2.2.2.2.2.2.length) ∧ (∀ c ∈ d0.2.2.2.2.2.2.2.take k, c.1 ≤ d0.2.1)) (fun k => d0.2.2.2.2.2.2.2.length - k) 0 (⟨by omega, by simp⟩) ⟨⟨rfl, rfl, rfl, rfl, trivial⟩, fun _ h => h.sub [102, 0]⟩ ?_
 rintro k ⟨hk, ha⟩
 refine VC.seq (VC.rs (VO.mv (VO.y rfl (.fa rfl tst72 rfl) (VO.y rfl (.ld1 102 rfl tk61 rfl (cellsAt_one rfl rfl)) ?_))))
 refine VO.y rfl (.lenS rfl tsl61) ?_
 refine VO.y rfl (.lss rfl rfl) (VO.k5 0 1 3 38 43 ?_)
 refine VC.cond rfl (fun hc9 => ?_) (fun hc9 => ?_)
 refine VC.skip (outN (VC.seq (VC.block (VC.seq ?_))))
 refine VC.regD _ 8 [(0, true), (1, true), (2, true), (3, true), (4, true), (5, true), (6, true), (7, true)] follows (by kernel_rfl) (fun _ h => h.sub [102, 0]) ?_
 refine VD.y rfl rfl (.inl rfl) (.fa rfl tst72 rfl) (VD.y rfl rfl (.inl rfl) (.ld1 102 rfl tk61 rfl (cellsAt_one rfl rfl)) (VD.y rfl rfl (.inl rfl) (.mv rfl) ?_))
 obtain ⟨x10, hx10⟩ : ∃ z_, (d0.2.2.2.2.2.2.2)[k]? = some z_ := ⟨_, List.getElem?_eq_getElem bd⟩
 obtain ⟨gg10, oo10, ec10, ea10, hce10, hre10⟩ := p0_7.elem hx10
 cases ea10
 obtain ⟨q10_A2, q10_c2, rfl, q10_0, q10_1, q10_2⟩ := open_Commit (x0 := x10.1) (x1 := x10.2.1) (x2 := x10.2.2) hre10
 simp only [inK] at q10_0 q10_1
 have q10_r2 := Rd.room q10_2
 refine VD.y rfl rfl (.inl rfl) (.ixI k rfl rfl tsl61 rfl bd) ?_
 refine VD.y rfl rfl (.inl rfl) (.fa rfl tst52 rfl) ?_
 refine VD.y rfl rfl (.inl rfl) (.ld1 0 rfl tk3 rfl (hce10.at1 (j := 0) rfl)) ?_
 refine VD.y rfl rfl (.inl rfl) (.fa rfl tst72 rfl) (VD.y rfl rfl (.inl rfl) (.ld1 102 rfl tk3 rfl (cellsAt_one rfl rfl)) ?_)
 refine VD.nil rfl ?_ rfl
 refine VO.y rfl (.gtr rfl rfl) (VO.k6 0 1 3 38 43 54 (outN ?_))
 refine VC.cond rfl (fun hc11 => ?_) (fun hc11 => ?_)
 · refine VC.rs (VO.as ?_)
   refine VO.kp [102, 0] [(102, mone g1 (.cells #[.int .i64 (d0.1), .int .i64 (d0.2.1), .int .u8 (d0.2.2.1), .int .i64 (d0.2.2.2.1), .slice p0_A4 (d0.2.2.2.2.1.length) (p0_c4), .int .i64 (d0.2.2.2.2.2.1), .int .i64 (d0.2.2.2.2.2.2.1), .slice (some ⟨gg10, oo10, none⟩) (d0.2.2.2.2.2.2.2.length) (p0_c7)] 72 (0, 0))), (0, wm W)] ?_
   refine VO.k7 0 1 2 3 38 43 54 (VC.ret (outBR (outR (outR (outBR (outR ?_))))))
   refine ⟨_, _, res_run (rs := [.tmp 2]) rfl (.tmp rfl .nil), fun W_ hI => out_of (l := []) hI [] rfl rfl (mle_refl _) (fun hS_ => ?_)⟩
   dsimp only [packV]
   all_goals (first | rfl | (exact fin0_shipped11_ok))
 refine VC.skip (outBN (outN ?_))
 refine VC.reg ?_
 refine VO.mv ?_
 refine VO.y rfl (.add (c := ((k + 1 : Nat) : Int)) rfl rfl (by omega) ⟨bd, bd⟩) ?_
 refine VO.as ?_
 refine VO.kp [102, 0] [(102, mone g1 (.cells #[.int .i64 (d0.1), .int .i64 (d0.2.1), .int .u8 (d0.2.2.1), .int .i64 (d0.2.2.2.1), .slice p0_A4 (d0.2.2.2.2.1.length) (p0_c4), .int .i64 (d0.2.2.2.2.2.1), .int .i64 (d0.2.2.2.2.2.2.1), .slice (some ⟨gg10, oo10, none⟩) (d0.2.2.2.2.2.2.2.length) (p0_c7)] 72 (0, 0))), (0, wm W)] ?_
 refine VO.k6 0 1 3 38 43 54 ?_
 exact outN ⟨k + 1, ⟨by omega, by exact all_next ha ‹d0.2.2.2.2.2.2.2[k]? = some _› (by omega)⟩, bd, ⟨⟨rfl, rfl, rfl, rfl, trivial⟩, fun _ h => Inv.sub h [102, 0]⟩⟩
 refine VC.exit (outE (outE (outBB (outN (VC.rs (VO.y rfl (.fa rfl tst72 rfl) (VO.y rfl (.ld1 102 rfl tk3 rfl (cellsAt_one rfl rfl)) (VO.y rfl (.fa rfl tst72 rfl) (VO.y rfl (.ld1 102 rfl tk3 rfl (cellsAt_one rfl rfl)) ?_)))))))))
 refine VO.y rfl (.sub rfl rfl rfl ⟨bd, bd⟩) ?_
 refine VO.y rfl (.fa rfl tst72 rfl) (VO.y rfl (.ld1 102 rfl tk61 rfl (cellsAt_one rfl rfl)) ?_)
 refine VO.callN 112 rfl fnOk54 rfl (fun W hW => c4Follows_ok W d0.2.2.2.2.2.2.1 bdk (d0.2.2.2.2.2.1 - 1) bdk (Rd.mono p0_7 (hW.at (i := 0) rfl))) (fun v12 m12 hv12 => ?_)
 obtain ⟨s12_0, rfl, f12_0⟩ := hv12
 obtain ⟨rfl, q12_0_0, q12_0_1⟩ := open_Fault (x0 := (cFollows d0.2.2.2.2.2.2.1 (d0.2.2.2.2.2.1 - 1) d0.2.2.2.2.2.2.2).1) (x1 := (cFollows d0.2.2.2.2.2.2.1 (d0.2.2.2.2.2.1 - 1) d0.2.2.2.2.2.2.2).2) (f12_0.rd (mle_refl _))
 simp only [inK] at q12_0_0 q12_0_1
 refine VO.y rfl (.bst (cs := [.int .i64 (0), .int .i64 (0)]) rfl tst57 tz57 rfl) ?_
 refine VO.y rfl (.steql (p := ((cFollows d0.2.2.2.2.2.2.1 (d0.2.2.2.2.2.1 - 1) d0.2.2.2.2.2.2.2).1) = 0 ∧ ((cFollows d0.2.2.2.2.2.2.1 (d0.2.2.2.2.2.1 - 1) d0.2.2.2.2.2.2.2).2) = 0) rfl rfl (teq57 ((cFollows d0.2.2.2.2.2.2.1 (d0.2.2.2.2.2.1 - 1) d0.2.2.2.2.2.2.2).1) ((cFollows d0.2.2.2.2.2.2.1 (d0.2.2.2.2.2.1 - 1) d0.2.2.2.2.2.2.2).2)) (teq57 0 0) (by simp [ceq, ba_toList])) ?_
 refine VO.mv ?_
 refine VO.dec (t := 65) rfl (fun hc13 => ?_) (fun hc13 => ?_)
 · refine VO.gy rfl ⟨_, rfl, rfl⟩ (.fa rfl tst72 rfl) ?_
   refine VO.gy rfl ⟨_, rfl, rfl⟩ (.ld1 102 rfl tk69 rfl (cellsAt_one rfl rfl)) ?_
   refine VO.gy rfl ⟨_, rfl, rfl⟩ (.fa rfl tst72 rfl) ?_
   refine VO.gy rfl ⟨_, rfl, rfl⟩ (.ld1 102 rfl tk3 rfl (cellsAt_one rfl rfl)) ?_
   refine VO.gy rfl ⟨_, rfl, rfl⟩ (.fa rfl tst72 rfl) ?_
   refine VO.gy rfl ⟨_, rfl, rfl⟩ (.ld1 102 rfl tk70 rfl (cellsAt_one rfl rfl)) ?_
   refine VO.gy rfl ⟨_, rfl, rfl⟩ (.bst (cs := [Value.int .i64 (0), Value.int .i64 (0), Value.int .u8 (d0.2.2.1), Value.int .i64 (d0.2.2.2.1), Value.slice p0_A4 (d0.2.2.2.2.1.length) (p0_c4), Value.int .i64 (0), Value.int .i64 (0), Value.slice none (0) (0)]) rfl tst72 tz72 rfl) ?_
   refine VO.gcallN 114 rfl ⟨_, rfl, rfl⟩ fnOk145 rfl (fun W hW => plain11_ok W (mk_Message (m := wm W) 0 0 d0.2.2.1 d0.2.2.2.1 d0.2.2.2.2.1 0 0 [] bdk bdk bdk bdk (Rd.mono p0_4 (hW.at (i := 0) rfl)) bdk bdk (Rd.nil _ _ none 0 (Nat.zero_le _)))) (fun v14 m14 hv14 => ?_)
   try dsimp only at hv14
   subst hv14
   refine VO.y rfl (.pT rfl rfl) (VO.as (VO.k6 0 1 2 3 38 43 (VC.ret ?_)))
   refine ⟨_, _, res_run (rs := [.tmp 2]) rfl (.tmp rfl .nil), fun W_ hI => out_of (l := []) hI [] rfl rfl (mle_refl _) (fun hS_ => ?_)⟩
   dsimp only [packV]
   all_goals (first | rfl | (exact fin0_shipped11_ok))
 · refine VO.gN (VO.gN (VO.gN (VO.gN (VO.gN (VO.gN (VO.gN (VO.gN (VO.y rfl (.pF rfl rfl) (VO.as (VO.k6 0 1 2 3 38 43 (VC.ret ?_)))))))))))
   refine ⟨_, _, res_run (rs := [.tmp 2]) rfl (.tmp rfl .nil), fun W_ hI => out_of (l := []) hI [] rfl rfl (mle_refl _) (fun hS_ => ?_)⟩
   dsimp only [packV]
   all_goals (first | rfl | (exact fin0_shipped11_ok))
theorem fin0_check11_ok {P : Prop} (h : P := by congr 1; first | exact (lCheck_good ⟨by omega, .inl ⟨by omega, Decidable.not_not.1 ‹¬ ¬ helloM d0›⟩⟩).symm | exact (lCheck_good ⟨by omega, .inr (.inl ⟨by omega, Decidable.not_not.1 ‹¬ ¬ shipM d0›⟩)⟩).symm | exact (lCheck_good ⟨by omega, .inr (.inr ⟨by omega, (ack_iff (m := d0) ⟨by omega, by omega⟩).1 (Decidable.not_not.1 ‹¬ ¬ bareM _›)⟩)⟩).symm | exact (lCheck_bad (by rintro ⟨e0, e | e | e⟩ <;> first | omega | exact absurd e.2 (by assumption) | exact absurd ((ack_iff e.2.1).2 e.2) (by assumption) | (unfold ackM at e; omega))).symm) : P := h
theorem check11_ok (W : World) {v0 : List Value} {d0 : DMessage} (h0 : Rd TMessage (wm W) v0 d0) : CallR Try.prog 121 [.agg v0.toArray] W (mnil) (fun v m' => v = .int .i64 (lCheck d0)) := by
 obtain ⟨p0_A4, p0_c4, p0_A7, p0_c7, rfl, p0_0, p0_1, p0_2, p0_3, p0_4, p0_5, p0_6, p0_7⟩ := open_Message (x0 := d0.1) (x1 := d0.2.1) (x2 := d0.2.2.1) (x3 := d0.2.2.2.1) (x4 := d0.2.2.2.2.1) (x5 := d0.2.2.2.2.2.1) (x6 := d0.2.2.2.2.2.2.1) (x7 := d0.2.2.2.2.2.2.2) h0
 simp only [inK] at p0_0 p0_1 p0_2 p0_3
 have p0_r4 := Rd.room p0_4
 simp only [inK] at p0_5 p0_6
 have p0_r7 := Rd.room p0_7
 refine CallR.ofA (n := 50) Try.func121 rfl rfl rfl ?_
 refine VC.rs ?_
 refine VO.box (cs := [.int .i64 (d0.1), .int .i64 (d0.2.1), .int .u8 (d0.2.2.1), .int .i64 (d0.2.2.2.1), .slice p0_A4 (d0.2.2.2.2.1.length) (p0_c4), .int .i64 (d0.2.2.2.2.2.1), .int .i64 (d0.2.2.2.2.2.2.1), .slice p0_A7 (d0.2.2.2.2.2.2.2.length) (p0_c7)]) 102 rfl rfl rfl (fun g1 => ?_)
 refine VO.as (VO.k3 0 1 2 (VC.rs (VO.as (VO.k4 0 1 2 3 (VC.seq (VC.rs (VO.y rfl (.fa rfl tst72 rfl) (VO.y rfl (.ld1 102 rfl tk3 rfl (cellsAt_one rfl rfl)) ?_))))))))
 refine VO.kp [102, 0] [(102, mone g1 (.cells #[.int .i64 (d0.1), .int .i64 (d0.2.1), .int .u8 (d0.2.2.1), .int .i64 (d0.2.2.2.1), .slice p0_A4 (d0.2.2.2.2.1.length) (p0_c4), .int .i64 (d0.2.2.2.2.2.1), .int .i64 (d0.2.2.2.2.2.2.1), .slice p0_A7 (d0.2.2.2.2.2.2.2.length) (p0_c7)] 72 (0, 0))), (0, wm W)] ?_
 refine VO.k5 0 1 2 3 5 (VC.block (VC.rs (VO.y rfl (.eql rfl rfl) (VO.as (VO.k6 0 1 2 3 5 6 ?_)))))
 refine VC.cond rfl (fun hc3 => ?_) (fun hc3 => ?_)
 refine VC.reg ?_
 refine VO.y rfl (.ldA 102 rfl tk72 rfl (cellsAt_one rfl rfl)) ?_
 refine VO.callN 104 rfl fnOk143 rfl (fun W hW => hello11_ok W (Rd.mono h0 (hW.at (i := 0) rfl))) (fun v4 m4 hv4 => ?_)
 subst hv4
 refine VO.as (VO.k6 0 1 2 3 5 6 (outBN (outN (VC.seq (VC.rs (VO.mv (VO.y rfl (.notD rfl) (VO.mv ?_))))))))
 refine VO.dec (t := 40) rfl (fun hc5 => ?_) (fun hc5 => ?_)
 · refine VO.gN (VO.gN (VO.gN (VO.y rfl (.pT rfl rfl) (VO.mv (VO.gN (VO.gN (VO.gN (VO.y rfl (.pT rfl rfl) ?_))))))))
   refine VO.kp [102, 0] [(102, mone g1 (.cells #[.int .i64 (d0.1), .int .i64 (d0.2.1), .int .u8 (d0.2.2.1), .int .i64 (d0.2.2.2.1), .slice p0_A4 (d0.2.2.2.2.1.length) (p0_c4), .int .i64 (d0.2.2.2.2.2.1), .int .i64 (d0.2.2.2.2.2.2.1), .slice p0_A7 (d0.2.2.2.2.2.2.2.length) (p0_c7)] 72 (0, 0))), (0, wm W)] ?_
   refine VO.k7 0 1 2 3 5 6 49 (VC.condT rfl (VC.rs (VO.as (VO.k7 0 1 2 3 5 6 49 (VC.ret (outR ?_))))))
   refine ⟨_, _, res_run (rs := [.tmp 2]) rfl (.tmp rfl .nil), fun W_ hI => out_of (l := []) hI [] rfl rfl (mle_refl _) (fun hS_ => ?_)⟩
   dsimp only [packV]
   all_goals (first | rfl | (exact fin0_check11_ok))
 refine VO.gy rfl ⟨_, rfl, rfl⟩ (.fa rfl tst72 rfl) ?_
 refine VO.gy rfl ⟨_, rfl, rfl⟩ (.ld1 102 rfl tk3 rfl (cellsAt_one rfl rfl)) ?_
 refine VO.gy rfl ⟨_, rfl, rfl⟩ (.lss rfl rfl) (VO.y rfl (.pF rfl rfl) (VO.mv ?_))
 refine VO.dec (t := 45) rfl (fun hc6 => ?_) (fun hc6 => ?_)
 · refine VO.gN (VO.gN (VO.gN (VO.y rfl (.pT rfl rfl) ?_)))
   refine VO.kp [102, 0] [(102, mone g1 (.cells #[.int .i64 (d0.1), .int .i64 (d0.2.1), .int .u8 (d0.2.2.1), .int .i64 (d0.2.2.2.1), .slice p0_A4 (d0.2.2.2.2.1.length) (p0_c4), .int .i64 (d0.2.2.2.2.2.1), .int .i64 (d0.2.2.2.2.2.2.1), .slice p0_A7 (d0.2.2.2.2.2.2.2.length) (p0_c7)] 72 (0, 0))), (0, wm W)] ?_
   refine VO.k7 0 1 2 3 5 6 49 (VC.condT rfl (VC.rs (VO.as (VO.k7 0 1 2 3 5 6 49 (VC.ret (outR ?_))))))
   refine ⟨_, _, res_run (rs := [.tmp 2]) rfl (.tmp rfl .nil), fun W_ hI => out_of (l := []) hI [] rfl rfl (mle_refl _) (fun hS_ => ?_)⟩
   dsimp only [packV]
   all_goals (first | rfl | (exact fin0_check11_ok))
 refine VO.gy rfl ⟨_, rfl, rfl⟩ (.fa rfl tst72 rfl) ?_
 refine VO.gy rfl ⟨_, rfl, rfl⟩ (.ld1 102 rfl tk3 rfl (cellsAt_one rfl rfl)) ?_
 refine VO.gy rfl ⟨_, rfl, rfl⟩ (.gtr rfl rfl) (VO.y rfl (.pF rfl rfl) ?_)
 refine VO.kp [102, 0] [(102, mone g1 (.cells #[.int .i64 (d0.1), .int .i64 (d0.2.1), .int .u8 (d0.2.2.1), .int .i64 (d0.2.2.2.1), .slice p0_A4 (d0.2.2.2.2.1.length) (p0_c4), .int .i64 (d0.2.2.2.2.2.1), .int .i64 (d0.2.2.2.2.2.2.1), .slice p0_A7 (d0.2.2.2.2.2.2.2.length) (p0_c7)] 72 (0, 0))), (0, wm W)] ?_
 refine VO.k7 0 1 2 3 5 6 49 ?_
 refine VC.cond rfl (fun hc7 => ?_) (fun hc7 => ?_)
 · refine VC.rs (VO.as (VO.k7 0 1 2 3 5 6 49 (VC.ret (outR ?_))))
   refine ⟨_, _, res_run (rs := [.tmp 2]) rfl (.tmp rfl .nil), fun W_ hI => out_of (l := []) hI [] rfl rfl (mle_refl _) (fun hS_ => ?_)⟩
   dsimp only [packV]
   all_goals (first | rfl | (exact fin0_check11_ok))
 · refine VC.skip (outN (VC.rs (VO.as (VO.k7 0 1 2 3 5 6 49 (VC.ret ?_)))))
   refine ⟨_, _, res_run (rs := [.tmp 2]) rfl (.tmp rfl .nil), fun W_ hI => out_of (l := []) hI [] rfl rfl (mle_refl _) (fun hS_ => ?_)⟩
   dsimp only [packV]
   all_goals (first | rfl | (exact fin0_check11_ok))
 refine VC.rs (VO.y rfl (.eql rfl rfl) (VO.as (VO.k7 0 1 2 3 5 6 10 ?_)))
 refine VC.cond rfl (fun hc8 => ?_) (fun hc8 => ?_)
 refine VC.reg ?_
 refine VO.y rfl (.ldA 102 rfl tk72 rfl (cellsAt_one rfl rfl)) ?_
 refine VO.callN 109 rfl fnOk144 rfl (fun W hW => shipped11_ok W (Rd.mono h0 (hW.at (i := 0) rfl))) (fun v9 m9 hv9 => ?_)
 subst hv9
 refine VO.as ?_
 refine VO.kp [102, 0] [(102, mone g1 (.cells #[.int .i64 (d0.1), .int .i64 (d0.2.1), .int .u8 (d0.2.2.1), .int .i64 (d0.2.2.2.1), .slice p0_A4 (d0.2.2.2.2.1.length) (p0_c4), .int .i64 (d0.2.2.2.2.2.1), .int .i64 (d0.2.2.2.2.2.2.1), .slice p0_A7 (d0.2.2.2.2.2.2.2.length) (p0_c7)] 72 (0, 0))), (0, wm W)] ?_
 refine VO.k7 0 1 2 3 5 6 10 (outBN (outN (VC.seq (VC.rs (VO.mv (VO.y rfl (.notD rfl) (VO.mv ?_)))))))
 refine VO.dec (t := 40) rfl (fun hc10 => ?_) (fun hc10 => ?_)
 · refine VO.gN (VO.gN (VO.gN (VO.y rfl (.pT rfl rfl) (VO.mv (VO.gN (VO.gN (VO.gN (VO.y rfl (.pT rfl rfl) (VO.k8 0 1 2 3 5 6 10 49 (VC.condT rfl (VC.rs ?_)))))))))))
   refine VO.as (VO.k8 0 1 2 3 5 6 10 49 (VC.ret (outR ?_)))
   refine ⟨_, _, res_run (rs := [.tmp 2]) rfl (.tmp rfl .nil), fun W_ hI => out_of (l := []) hI [] rfl rfl (mle_refl _) (fun hS_ => ?_)⟩
   dsimp only [packV]
   all_goals (first | rfl | (exact fin0_check11_ok))
 refine VO.gy rfl ⟨_, rfl, rfl⟩ (.fa rfl tst72 rfl) ?_
 refine VO.gy rfl ⟨_, rfl, rfl⟩ (.ld1 102 rfl tk3 rfl (cellsAt_one rfl rfl)) ?_
 refine VO.gy rfl ⟨_, rfl, rfl⟩ (.lss rfl rfl) (VO.y rfl (.pF rfl rfl) (VO.mv ?_))
 refine VO.dec (t := 45) rfl (fun hc11 => ?_) (fun hc11 => ?_)
 · refine VO.gN (VO.gN (VO.gN (VO.y rfl (.pT rfl rfl) (VO.k8 0 1 2 3 5 6 10 49 (VC.condT rfl (VC.rs (VO.as (VO.k8 0 1 2 3 5 6 10 49 (VC.ret (outR ?_))))))))))
   refine ⟨_, _, res_run (rs := [.tmp 2]) rfl (.tmp rfl .nil), fun W_ hI => out_of (l := []) hI [] rfl rfl (mle_refl _) (fun hS_ => ?_)⟩
   dsimp only [packV]
   all_goals (first | rfl | (exact fin0_check11_ok))
 refine VO.gy rfl ⟨_, rfl, rfl⟩ (.fa rfl tst72 rfl) ?_
 refine VO.gy rfl ⟨_, rfl, rfl⟩ (.ld1 102 rfl tk3 rfl (cellsAt_one rfl rfl)) ?_
 refine VO.gy rfl ⟨_, rfl, rfl⟩ (.gtr rfl rfl) (VO.y rfl (.pF rfl rfl) (VO.k8 0 1 2 3 5 6 10 49 ?_))
 refine VC.cond rfl (fun hc12 => ?_) (fun hc12 => ?_)
 · refine VC.rs (VO.as (VO.k8 0 1 2 3 5 6 10 49 (VC.ret (outR ?_))))
   refine ⟨_, _, res_run (rs := [.tmp 2]) rfl (.tmp rfl .nil), fun W_ hI => out_of (l := []) hI [] rfl rfl (mle_refl _) (fun hS_ => ?_)⟩
   dsimp only [packV]
   all_goals (first | rfl | (exact fin0_check11_ok))
 · refine VC.skip (outN (VC.rs (VO.as (VO.k8 0 1 2 3 5 6 10 49 (VC.ret ?_)))))
   refine ⟨_, _, res_run (rs := [.tmp 2]) rfl (.tmp rfl .nil), fun W_ hI => out_of (l := []) hI [] rfl rfl (mle_refl _) (fun hS_ => ?_)⟩
   dsimp only [packV]
   all_goals (first | rfl | (exact fin0_check11_ok))
 refine VC.rs (VO.y rfl (.eql rfl rfl) (VO.as ?_))
 refine VO.kp [102, 0] [(102, mone g1 (.cells #[.int .i64 (d0.1), .int .i64 (d0.2.1), .int .u8 (d0.2.2.1), .int .i64 (d0.2.2.2.1), .slice p0_A4 (d0.2.2.2.2.1.length) (p0_c4), .int .i64 (d0.2.2.2.2.2.1), .int .i64 (d0.2.2.2.2.2.2.1), .slice p0_A7 (d0.2.2.2.2.2.2.2.length) (p0_c7)] 72 (0, 0))), (0, wm W)] ?_
 refine VO.k8 0 1 2 3 5 6 10 14 ?_
 refine VC.cond rfl (fun hc13 => ?_) (fun hc13 => ?_)
 refine VC.reg ?_
 refine VO.y rfl (.fa rfl tst72 rfl) (VO.y rfl (.ld1 102 rfl tk3 rfl (cellsAt_one rfl rfl)) (VO.y rfl (.geq rfl rfl) (VO.mv ?_)))
 refine VO.dec (t := 19) rfl (fun hc14 => ?_) (fun hc14 => ?_)
 refine VO.gy rfl ⟨_, rfl, rfl⟩ (.fa rfl tst72 rfl) ?_
 refine VO.gy rfl ⟨_, rfl, rfl⟩ (.ld1 102 rfl tk3 rfl (cellsAt_one rfl rfl)) ?_
 refine VO.gy rfl ⟨_, rfl, rfl⟩ (.leq rfl rfl) (VO.y rfl (.pT rfl rfl) (VO.mv ?_))
 refine VO.dec (t := 24) rfl (fun hc15 => ?_) (fun hc15 => ?_)
 refine VO.gy rfl ⟨_, rfl, rfl⟩ (.fa rfl tst72 rfl) ?_
 refine VO.gy rfl ⟨_, rfl, rfl⟩ (.ld1 102 rfl tk69 rfl (cellsAt_one rfl rfl)) ?_
 refine VO.gy rfl ⟨_, rfl, rfl⟩ (.fa rfl tst72 rfl) ?_
 refine VO.gy rfl ⟨_, rfl, rfl⟩ (.ld1 102 rfl tk70 rfl (cellsAt_one rfl rfl)) ?_
 refine VO.gy rfl ⟨_, rfl, rfl⟩ (.fa rfl tst72 rfl) ?_
 refine VO.gy rfl ⟨_, rfl, rfl⟩ (.ld1 102 rfl tk3 rfl (cellsAt_one rfl rfl)) ?_
 refine VO.gy rfl ⟨_, rfl, rfl⟩ (.fa rfl tst72 rfl) ?_
 refine VO.gy rfl ⟨_, rfl, rfl⟩ (.ld1 102 rfl tk3 rfl (cellsAt_one rfl rfl)) ?_
 refine VO.gy rfl ⟨_, rfl, rfl⟩ (.fa rfl tst72 rfl) ?_
 refine VO.gy rfl ⟨_, rfl, rfl⟩ (.ld1 102 rfl tk61 rfl (cellsAt_one rfl rfl)) ?_
 refine VO.gy rfl ⟨_, rfl, rfl⟩ (.bst (cs := [Value.int .i64 (0), Value.int .i64 (0), Value.int .u8 (d0.2.2.1), Value.int .i64 (0), Value.slice p0_A4 (d0.2.2.2.2.1.length) (p0_c4), Value.int .i64 (d0.2.2.2.2.2.1), Value.int .i64 (d0.2.2.2.2.2.2.1), Value.slice p0_A7 (d0.2.2.2.2.2.2.2.length) (p0_c7)]) rfl tst72 tz72 rfl) ?_
 refine VO.gcallN 116 rfl ⟨_, rfl, rfl⟩ fnOk145 rfl (fun W hW => plain11_ok W (mk_Message (m := wm W) 0 0 d0.2.2.1 0 d0.2.2.2.2.1 d0.2.2.2.2.2.1 d0.2.2.2.2.2.2.1 d0.2.2.2.2.2.2.2 bdk bdk bdk bdk (Rd.mono p0_4 (hW.at (i := 0) rfl)) bdk bdk (Rd.mono p0_7 (hW.at (i := 0) rfl)))) (fun v16 m16 hv16 => ?_)
 try dsimp only at hv16
 subst hv16
 refine VO.y rfl (.pT rfl rfl) (VO.as (VO.k8 0 1 2 3 5 6 10 14 (outBN (outN (VC.seq (VC.rs (VO.mv (VO.y rfl (.notD rfl) (VO.mv ?_)))))))))
 refine VO.dec (t := 40) rfl (fun hc17 => ?_) (fun hc17 => ?_)
 · refine VO.gN (VO.gN (VO.gN (VO.y rfl (.pT rfl rfl) (VO.mv (VO.gN (VO.gN (VO.gN (VO.y rfl (.pT rfl rfl) (VO.k9 0 1 2 3 5 6 10 14 49 (VC.condT rfl (VC.rs ?_)))))))))))
   refine VO.as ?_
   refine VO.kp [102, 0] [(102, mone g1 (.cells #[.int .i64 (d0.1), .int .i64 (d0.2.1), .int .u8 (d0.2.2.1), .int .i64 (d0.2.2.2.1), .slice p0_A4 (d0.2.2.2.2.1.length) (p0_c4), .int .i64 (d0.2.2.2.2.2.1), .int .i64 (d0.2.2.2.2.2.2.1), .slice p0_A7 (d0.2.2.2.2.2.2.2.length) (p0_c7)] 72 (0, 0))), (0, wm W)] ?_
   refine VO.k9 0 1 2 3 5 6 10 14 49 (VC.ret (outR ?_))
   refine ⟨_, _, res_run (rs := [.tmp 2]) rfl (.tmp rfl .nil), fun W_ hI => out_of (l := []) hI [] rfl rfl (mle_refl _) (fun hS_ => ?_)⟩
   dsimp only [packV]
   all_goals (first | rfl | (exact fin0_check11_ok))
 refine VO.gy rfl ⟨_, rfl, rfl⟩ (.fa rfl tst72 rfl) ?_
 refine VO.gy rfl ⟨_, rfl, rfl⟩ (.ld1 102 rfl tk3 rfl (cellsAt_one rfl rfl)) ?_
 refine VO.gy rfl ⟨_, rfl, rfl⟩ (.lss rfl rfl) (VO.y rfl (.pF rfl rfl) (VO.mv ?_))
 refine VO.dec (t := 45) rfl (fun hc18 => ?_) (fun hc18 => ?_)
 · refine VO.gN (VO.gN (VO.gN (VO.y rfl (.pT rfl rfl) (VO.k9 0 1 2 3 5 6 10 14 49 (VC.condT rfl (VC.rs (VO.as ?_)))))))
   refine VO.kp [102, 0] [(102, mone g1 (.cells #[.int .i64 (d0.1), .int .i64 (d0.2.1), .int .u8 (d0.2.2.1), .int .i64 (d0.2.2.2.1), .slice p0_A4 (d0.2.2.2.2.1.length) (p0_c4), .int .i64 (d0.2.2.2.2.2.1), .int .i64 (d0.2.2.2.2.2.2.1), .slice p0_A7 (d0.2.2.2.2.2.2.2.length) (p0_c7)] 72 (0, 0))), (0, wm W)] ?_
   refine VO.k9 0 1 2 3 5 6 10 14 49 (VC.ret (outR ?_))
   refine ⟨_, _, res_run (rs := [.tmp 2]) rfl (.tmp rfl .nil), fun W_ hI => out_of (l := []) hI [] rfl rfl (mle_refl _) (fun hS_ => ?_)⟩
   dsimp only [packV]
   all_goals (first | rfl | (exact fin0_check11_ok))
 refine VO.gy rfl ⟨_, rfl, rfl⟩ (.fa rfl tst72 rfl) ?_
 refine VO.gy rfl ⟨_, rfl, rfl⟩ (.ld1 102 rfl tk3 rfl (cellsAt_one rfl rfl)) ?_
 refine VO.gy rfl ⟨_, rfl, rfl⟩ (.gtr rfl rfl) (VO.y rfl (.pF rfl rfl) (VO.k9 0 1 2 3 5 6 10 14 49 ?_))
 refine VC.cond rfl (fun hc19 => ?_) (fun hc19 => ?_)
 · refine VC.rs (VO.as ?_)
   refine VO.kp [102, 0] [(102, mone g1 (.cells #[.int .i64 (d0.1), .int .i64 (d0.2.1), .int .u8 (d0.2.2.1), .int .i64 (d0.2.2.2.1), .slice p0_A4 (d0.2.2.2.2.1.length) (p0_c4), .int .i64 (d0.2.2.2.2.2.1), .int .i64 (d0.2.2.2.2.2.2.1), .slice p0_A7 (d0.2.2.2.2.2.2.2.length) (p0_c7)] 72 (0, 0))), (0, wm W)] ?_
   refine VO.k9 0 1 2 3 5 6 10 14 49 (VC.ret (outR ?_))
   refine ⟨_, _, res_run (rs := [.tmp 2]) rfl (.tmp rfl .nil), fun W_ hI => out_of (l := []) hI [] rfl rfl (mle_refl _) (fun hS_ => ?_)⟩
   dsimp only [packV]
   all_goals (first | rfl | (exact fin0_check11_ok))
 · refine VC.skip (outN (VC.rs (VO.as ?_)))
   refine VO.kp [102, 0] [(102, mone g1 (.cells #[.int .i64 (d0.1), .int .i64 (d0.2.1), .int .u8 (d0.2.2.1), .int .i64 (d0.2.2.2.1), .slice p0_A4 (d0.2.2.2.2.1.length) (p0_c4), .int .i64 (d0.2.2.2.2.2.1), .int .i64 (d0.2.2.2.2.2.2.1), .slice p0_A7 (d0.2.2.2.2.2.2.2.length) (p0_c7)] 72 (0, 0))), (0, wm W)] ?_
   refine VO.k9 0 1 2 3 5 6 10 14 49 (VC.ret ?_)
   refine ⟨_, _, res_run (rs := [.tmp 2]) rfl (.tmp rfl .nil), fun W_ hI => out_of (l := []) hI [] rfl rfl (mle_refl _) (fun hS_ => ?_)⟩
   dsimp only [packV]
   all_goals (first | rfl | (exact fin0_check11_ok))
 · refine VO.gN (VO.gN (VO.gN (VO.gN (VO.gN (VO.gN (VO.gN (VO.gN (VO.gN (VO.gN (VO.gN (VO.gN ?_)))))))))))
   refine VO.y rfl (.pF rfl rfl) (VO.as (VO.k8 0 1 2 3 5 6 10 14 (outBN (outN (VC.seq (VC.rs (VO.mv (VO.y rfl (.not rfl) (VO.mv (VO.gN (VO.gN ?_)))))))))))
   refine VO.gN (VO.y rfl (.pT rfl rfl) (VO.mv (VO.gN (VO.gN (VO.gN (VO.y rfl (.pT rfl rfl) (VO.k9 0 1 2 3 5 6 10 14 49 (VC.condT rfl (VC.rs (VO.as ?_))))))))))
   refine VO.kp [102, 0] [(102, mone g1 (.cells #[.int .i64 (d0.1), .int .i64 (d0.2.1), .int .u8 (d0.2.2.1), .int .i64 (d0.2.2.2.1), .slice p0_A4 (d0.2.2.2.2.1.length) (p0_c4), .int .i64 (d0.2.2.2.2.2.1), .int .i64 (d0.2.2.2.2.2.2.1), .slice p0_A7 (d0.2.2.2.2.2.2.2.length) (p0_c7)] 72 (0, 0))), (0, wm W)] ?_
   refine VO.k9 0 1 2 3 5 6 10 14 49 (VC.ret (outR ?_))
   refine ⟨_, _, res_run (rs := [.tmp 2]) rfl (.tmp rfl .nil), fun W_ hI => out_of (l := []) hI [] rfl rfl (mle_refl _) (fun hS_ => ?_)⟩
   dsimp only [packV]
   all_goals (first | rfl | (exact fin0_check11_ok))
 · refine VO.gN (VO.gN (VO.gN (VO.y rfl (.pF rfl rfl) (VO.mv (VO.gN (VO.gN (VO.gN (VO.gN (VO.gN (VO.gN (VO.gN ?_)))))))))))
   refine VO.gN (VO.gN (VO.gN (VO.gN (VO.gN (VO.y rfl (.pF rfl rfl) (VO.as (VO.k8 0 1 2 3 5 6 10 14 (outBN (outN (VC.seq (VC.rs ?_)))))))))))
   refine VO.mv (VO.y rfl (.not rfl) (VO.mv (VO.gN (VO.gN (VO.gN (VO.y rfl (.pT rfl rfl) (VO.mv (VO.gN (VO.gN (VO.gN (VO.y rfl (.pT rfl rfl) ?_)))))))))))
   refine VO.k9 0 1 2 3 5 6 10 14 49 (VC.condT rfl (VC.rs (VO.as ?_)))
   refine VO.kp [102, 0] [(102, mone g1 (.cells #[.int .i64 (d0.1), .int .i64 (d0.2.1), .int .u8 (d0.2.2.1), .int .i64 (d0.2.2.2.1), .slice p0_A4 (d0.2.2.2.2.1.length) (p0_c4), .int .i64 (d0.2.2.2.2.2.1), .int .i64 (d0.2.2.2.2.2.2.1), .slice p0_A7 (d0.2.2.2.2.2.2.2.length) (p0_c7)] 72 (0, 0))), (0, wm W)] ?_
   refine VO.k9 0 1 2 3 5 6 10 14 49 (VC.ret (outR ?_))
   refine ⟨_, _, res_run (rs := [.tmp 2]) rfl (.tmp rfl .nil), fun W_ hI => out_of (l := []) hI [] rfl rfl (mle_refl _) (fun hS_ => ?_)⟩
   dsimp only [packV]
   all_goals (first | rfl | (exact fin0_check11_ok))
 · refine VC.skip (outBN (outN (VC.seq (VC.rs (VO.mv (VO.y rfl (.not rfl) (VO.mv (VO.gN (VO.gN (VO.gN (VO.y rfl (.pT rfl rfl) ?_)))))))))))
   refine VO.mv (VO.gN (VO.gN (VO.gN (VO.y rfl (.pT rfl rfl) (VO.k9 0 1 2 3 5 6 10 14 49 (VC.condT rfl (VC.rs (VO.as (VO.k9 0 1 2 3 5 6 10 14 49 (VC.ret (outR ?_)))))))))))
   refine ⟨_, _, res_run (rs := [.tmp 2]) rfl (.tmp rfl .nil), fun W_ hI => out_of (l := []) hI [] rfl rfl (mle_refl _) (fun hS_ => ?_)⟩
   dsimp only [packV]
   all_goals (first | rfl | (exact fin0_check11_ok))
theorem fin0_fits18_ok {P : Prop} (h : P := by first | exact congrArg Value.bool (decide_eq_false (fun e => by have e2 := e.2 _ (List.mem_of_getElem? ‹d1.2.2.2.2.2.2.2[k]? = some _›) (by omega); rw [epochAt_of ‹d0[_]? = some _›] at e2; omega)).symm | exact congrArg Value.bool (decide_eq_false (fun e => by have e2 := e.1 (by omega); rw [epochAt_of ‹d0[_]? = some _›] at e2; omega)).symm | exfalso; omega | exact congrArg Value.bool (decide_eq_true (⟨fun h => by first | omega | (rw [epochAt_of ‹d0[_]? = some _›]; omega), by have ha2 := ha; rw [List.take_of_length_le (by omega)] at ha2; exact ha2⟩ : fitsM d0 d1)).symm) : P := h
theorem fin1_fits18_ok {P : Prop} (h : P := by first | omega | (simp only [List.length_append, List.length_nil, List.length_cons, List.length_take, List.length_drop] at *; omega) | (have := e1 _ (List.mem_of_getElem? ‹d1.2.2.2.2.2.2.2[k]? = some _›); omega)) : P := h
theorem fits18_ok (W : World) {v0 : Value} {d0 : List DCommit} (h0 : Rd (.sl TCommit) (wm W) [v0] d0) {v1 : List Value} {d1 : DMessage} (h1 : Rd TMessage (wm W) v1 d1) (e0 : d1.2.2.2.2.2.1 - 1 ≤ (d0.length : Int)) (e1 : ∀ c ∈ d1.2.2.2.2.2.2.2, 1 ≤ c.2.1) (e2 : 1 ≤ d1.2.2.2.2.2.1 ∧ (d1.2.2.2.2.2.2.1 = 0 ↔ d1.2.2.2.2.2.1 = 1)) : CallR Try.prog 122 [v0, .agg v1.toArray] W (mnil) (fun v m' => v = .bool (decide (fitsM d0 d1))) := by
 obtain ⟨A0, c0, rfl, l0, k0⟩ := h0.slice
 simp only [maxLen] at k0
 obtain ⟨p1_A4, p1_c4, p1_A7, p1_c7, rfl, p1_0, p1_1, p1_2, p1_3, p1_4, p1_5, p1_6, p1_7⟩ := open_Message (x0 := d1.1) (x1 := d1.2.1) (x2 := d1.2.2.1) (x3 := d1.2.2.2.1) (x4 := d1.2.2.2.2.1) (x5 := d1.2.2.2.2.2.1) (x6 := d1.2.2.2.2.2.2.1) (x7 := d1.2.2.2.2.2.2.2) h1
 simp only [inK] at p1_0 p1_1 p1_2 p1_3
 have p1_r4 := Rd.room p1_4
 simp only [inK] at p1_5 p1_6
 have p1_r7 := Rd.room p1_7
 refine CallR.ofA (n := 54) Try.func122 rfl rfl rfl ?_
 refine VC.rs ?_
 refine VO.box (cs := [.int .i64 (d1.1), .int .i64 (d1.2.1), .int .u8 (d1.2.2.1), .int .i64 (d1.2.2.2.1), .slice p1_A4 (d1.2.2.2.2.1.length) (p1_c4), .int .i64 (d1.2.2.2.2.2.1), .int .i64 (d1.2.2.2.2.2.2.1), .slice p1_A7 (d1.2.2.2.2.2.2.2.length) (p1_c7)]) 102 rfl rfl rfl (fun g1 => ?_)
 refine VO.as (VO.k4 0 1 3 4 (VC.rs (VO.as (VO.k5 0 1 3 4 5 (VC.seq (VC.rs (VO.y rfl (.fa rfl tst72 rfl) (VO.y rfl (.ld1 102 rfl tk3 rfl (cellsAt_one rfl rfl)) (VO.y rfl (.gtr rfl rfl) ?_)))))))))
 refine VO.kp [102, 0] [(102, mone g1 (.cells #[.int .i64 (d1.1), .int .i64 (d1.2.1), .int .u8 (d1.2.2.1), .int .i64 (d1.2.2.2.1), .slice p1_A4 (d1.2.2.2.2.1.length) (p1_c4), .int .i64 (d1.2.2.2.2.2.1), .int .i64 (d1.2.2.2.2.2.2.1), .slice p1_A7 (d1.2.2.2.2.2.2.2.length) (p1_c7)] 72 (0, 0))), (0, wm W)] ?_
 refine VO.k6 0 1 3 4 5 10 ?_
 refine VC.cond rfl (fun hc3 => ?_) (fun hc3 => ?_)
 refine VC.reg ?_
 refine VO.mv (VO.y rfl (.fa rfl tst72 rfl) (VO.y rfl (.ld1 102 rfl tk3 rfl (cellsAt_one rfl rfl)) ?_))
 refine VO.y rfl (.sub rfl rfl rfl ⟨by exact fin1_fits18_ok, by exact fin1_fits18_ok⟩) ?_
 obtain ⟨x4, hx4⟩ : ∃ z_, (d0)[(d1.2.2.2.2.2.1 - 2).toNat]? = some z_ := ⟨_, List.getElem?_eq_getElem (by exact fin1_fits18_ok)⟩
 obtain ⟨gg4, oo4, ec4, ea4, hce4, hre4⟩ := h0.elem hx4
 cases ea4
 obtain ⟨q4_A2, q4_c2, rfl, q4_0, q4_1, q4_2⟩ := open_Commit (x0 := x4.1) (x1 := x4.2.1) (x2 := x4.2.2) hre4
 simp only [inK] at q4_0 q4_1
 have q4_r2 := Rd.room q4_2
 refine VO.y rfl (.ixI ((d1.2.2.2.2.2.1 - 2).toNat) rfl rfl tsl61 (by exact fin1_fits18_ok) (by exact fin1_fits18_ok)) ?_
 refine VO.y rfl (.fa rfl tst52 rfl) ?_
 refine VO.y rfl (.ld1 0 rfl tk3 rfl (hce4.at1 (j := 0) rfl)) ?_
 refine VO.as (VO.k6 0 1 3 4 5 10 (outN (VC.seq (VC.rs (VO.mv (VO.y rfl (.fa rfl tst72 rfl) (VO.y rfl (.ld1 102 rfl tk3 rfl (cellsAt_one rfl rfl)) (VO.y rfl (.neq rfl rfl) (VO.k7 0 1 3 4 5 10 21 ?_)))))))))
 refine VC.cond rfl (fun hc5 => ?_) (fun hc5 => ?_)
 · refine VC.rs (VO.as ?_)
   refine VO.kp [102, 0] [(102, mone g1 (.cells #[.int .i64 (d1.1), .int .i64 (d1.2.1), .int .u8 (d1.2.2.1), .int .i64 (d1.2.2.2.1), .slice p1_A4 (d1.2.2.2.2.1.length) (p1_c4), .int .i64 (d1.2.2.2.2.2.1), .int .i64 (d1.2.2.2.2.2.2.1), .slice p1_A7 (d1.2.2.2.2.2.2.2.length) (p1_c7)] 72 (0, 0))), (0, wm W)] ?_
   refine VO.k7 0 1 3 4 5 10 21 (VC.ret (outR ?_))
   refine ⟨_, _, res_run (rs := [.tmp 4]) rfl (.tmp rfl .nil), fun W_ hI => out_of (l := []) hI [] rfl rfl (mle_refl _) (fun hS_ => ?_)⟩
   dsimp only [packV]
   all_goals (first | rfl | (exact fin0_fits18_ok))
 refine VC.skip (outN (VC.seq (VC.rs (VO.as ?_))))
 refine VO.kp [102, 0] [(102, mone g1 (.cells #[.int .i64 (d1.1), .int .i64 (d1.2.1), .int .u8 (d1.2.2.1), .int .i64 (d1.2.2.2.1), .slice p1_A4 (d1.2.2.2.2.1.length) (p1_c4), .int .i64 (d1.2.2.2.2.2.1), .int .i64 (d1.2.2.2.2.2.2.1), .slice p1_A7 (d1.2.2.2.2.2.2.2.length) (p1_c7)] 72 (0, 0))), (0, wm W)] ?_
 refine VO.k8 0 1 3 4 5 6 10 21 (VC.block ?_)
 refine VC.loop (G := Nat) (fun k => [(6, .int .i64 (((k : Nat) : Int))), (0, .slice (some ⟨gg4, oo4, none⟩) (d0.length) (c0)), (1, .agg [.int .i64 (d1.1), .int .i64 (d1.2.1), .int .u8 (d1.2.2.1), .int .i64 (d1.2.2.2.1), .slice p1_A4 (d1.2.2.2.2.1.length) (p1_c4), .int .i64 (d1.2.2.2.2.2.1), .int .i64 (d1.2.2.2.2.2.2.1), .slice p1_A7 (d1.2.2.2.2.2.2.2.length) (p1_c7)].toArray), (3, .pointer (some ⟨g1, 0, none⟩)), (5, .int .i64 (x4.1)), (10, .bool (decide (1 < d1.2.2.2.2.2.1))), (21, .bool (decide (¬ x4.1 = d1.2.2.2.2.2.2.1)))]) (fun k => [(102, mone g1 (.cells #[.int .i64 (d1.1), .int .i64 (d1.2.1), .int .u8 (d1.2.2.1), .int .i64 (d1.2.2.2.1), .slice p1_A4 (d1.2.2.2.2.1.length) (p1_c4), .int .i64 (d1.2.2.2.2.2.1), .int .i64 (d1.2.2.2.2.2.2.1), .slice p1_A7 (d1.2.2.2.2.2.2.2.length) (p1_c7)] 72 (0, 0))), (0, wm W)]) (fun k => (k ≤ d1.2.2.2.2.2.2.2.length) ∧ (∀ c ∈ d1.2.2.2.2.2.2.2.take k, c.2.1 ≤ d0.length → epochAt d0 (c.2.1 - 1) = c.1)) (fun k => d1.2.2.2.2.2.2.2.length - k) 0 (⟨by omega, by simp⟩) ⟨⟨rfl, rfl, rfl, rfl, rfl, rfl, rfl, trivial⟩, fun _ h => h.sub [102, 0]⟩ ?_
 rintro k ⟨hk, ha⟩
 refine VC.seq (VC.rs (VO.mv (VO.y rfl (.fa rfl tst72 rfl) (VO.y rfl (.ld1 102 rfl tk61 rfl (cellsAt_one rfl rfl)) ?_))))
 refine VO.y rfl (.lenS rfl tsl61) ?_
 refine VO.y rfl (.lss rfl rfl) (VO.k8 0 1 3 5 6 10 21 26 ?_)
 refine VC.cond rfl (fun hc6 => ?_) (fun hc6 => ?_)
 refine VC.skip (outN (VC.seq (VC.block (VC.rs (VO.y rfl (.fa rfl tst72 rfl) (VO.y rfl (.ld1 102 rfl tk61 rfl (cellsAt_one rfl rfl)) (VO.mv ?_)))))))
 obtain ⟨x7, hx7⟩ : ∃ z_, (d1.2.2.2.2.2.2.2)[k]? = some z_ := ⟨_, List.getElem?_eq_getElem (by exact fin1_fits18_ok)⟩
 obtain ⟨gg7, oo7, ec7, ea7, hce7, hre7⟩ := p1_7.elem hx7
 cases ea7
 obtain ⟨q7_A2, q7_c2, rfl, q7_0, q7_1, q7_2⟩ := open_Commit (x0 := x7.1) (x1 := x7.2.1) (x2 := x7.2.2) hre7
 simp only [inK] at q7_0 q7_1
 have q7_r2 := Rd.room q7_2
 refine VO.y rfl (.ixI k rfl rfl tsl61 rfl (by exact fin1_fits18_ok)) ?_
 refine VO.y rfl (.fa rfl tst52 rfl) ?_
 refine VO.y rfl (.ld1 0 rfl tk3 rfl (hce7.at1 (j := 1) rfl)) ?_
 refine VO.as (VO.k9 0 1 3 5 6 7 10 21 26 (VC.seq ?_))
 refine VC.regD _ 17 [(0, true), (1, true), (2, true), (3, true), (4, true), (5, true), (6, true), (7, true), (8, true), (9, true), (10, true), (11, true), (12, true), (13, true), (14, true), (15, true), (16, true)] follows (by kernel_rfl) (fun _ h => h.sub [102, 0]) ?_
 refine VD.y rfl rfl (.inl rfl) (.mv rfl) (VD.y rfl rfl (.inl rfl) (.mv rfl) ?_)
 refine VD.y rfl rfl (.inl rfl) (.lenS rfl tsl61) ?_
 refine VD.y rfl rfl (.inl rfl) (.leq rfl rfl) (VD.y rfl rfl (.inl rfl) (.mv rfl) ?_)
 refine VD.dec (s := 39) rfl (fun hc8 => ?_) (fun hc8 => ?_)
 refine VD.y rfl rfl (.inr ⟨_, _, rfl, _, rfl, rfl⟩) (.mv rfl) ?_
 refine VD.y rfl rfl (.inr ⟨_, _, rfl, _, rfl, rfl⟩) (.mv rfl) ?_
 refine VD.y rfl rfl (.inr ⟨_, _, rfl, _, rfl, rfl⟩) (.sub rfl rfl rfl ⟨by exact fin1_fits18_ok, by exact fin1_fits18_ok⟩) ?_
 obtain ⟨x9, hx9⟩ : ∃ z_, (d0)[(x7.2.1 - 1).toNat]? = some z_ := ⟨_, List.getElem?_eq_getElem (by exact fin1_fits18_ok)⟩
 obtain ⟨gg9, oo9, ec9, ea9, hce9, hre9⟩ := h0.elem hx9
 cases ea9
 obtain ⟨q9_A2, q9_c2, rfl, q9_0, q9_1, q9_2⟩ := open_Commit (x0 := x9.1) (x1 := x9.2.1) (x2 := x9.2.2) hre9
 simp only [inK] at q9_0 q9_1
 have q9_r2 := Rd.room q9_2
 refine VD.y rfl rfl (.inr ⟨_, _, rfl, _, rfl, rfl⟩) (.ixI ((x7.2.1 - 1).toNat) rfl rfl tsl61 (by exact fin1_fits18_ok) (by exact fin1_fits18_ok)) ?_
 refine VD.y rfl rfl (.inr ⟨_, _, rfl, _, rfl, rfl⟩) (.fa rfl tst52 rfl) ?_
 refine VD.y rfl rfl (.inr ⟨_, _, rfl, _, rfl, rfl⟩) (.ld1 0 rfl tk3 rfl (hce9.at1 (j := 0) rfl)) ?_
 refine VD.y rfl rfl (.inr ⟨_, _, rfl, _, rfl, rfl⟩) (.fa rfl tst72 rfl) ?_
 refine VD.y rfl rfl (.inr ⟨_, _, rfl, _, rfl, rfl⟩) (.ld1 102 rfl tk61 rfl (cellsAt_one rfl rfl)) ?_
 refine VD.y rfl rfl (.inr ⟨_, _, rfl, _, rfl, rfl⟩) (.mv rfl) ?_
 refine VD.y rfl rfl (.inr ⟨_, _, rfl, _, rfl, rfl⟩) (.ixI k rfl rfl tsl61 rfl (by exact fin1_fits18_ok)) ?_
 refine VD.y rfl rfl (.inr ⟨_, _, rfl, _, rfl, rfl⟩) (.fa rfl tst52 rfl) ?_
 refine VD.y rfl rfl (.inr ⟨_, _, rfl, _, rfl, rfl⟩) (.ld1 0 rfl tk3 rfl (hce7.at1 (j := 0) rfl)) ?_
 refine VD.nil rfl ?_ rfl
 refine VO.gy rfl ⟨_, rfl, rfl⟩ (.neq rfl rfl) (VO.y rfl (.pT rfl rfl) ?_)
 refine VO.kp [102, 0] [(102, mone g1 (.cells #[.int .i64 (d1.1), .int .i64 (d1.2.1), .int .u8 (d1.2.2.1), .int .i64 (d1.2.2.2.1), .slice p1_A4 (d1.2.2.2.2.1.length) (p1_c4), .int .i64 (d1.2.2.2.2.2.1), .int .i64 (d1.2.2.2.2.2.2.1), .slice (some ⟨gg7, oo7, none⟩) (d1.2.2.2.2.2.2.2.length) (p1_c7)] 72 (0, 0))), (0, wm W)] ?_
 refine VO.k10 0 1 3 5 6 7 10 21 26 53 (outN ?_)
 refine VC.cond rfl (fun hc11 => ?_) (fun hc11 => ?_)
 · refine VC.rs (VO.as (VO.k11 0 1 3 4 5 6 7 10 21 26 53 (VC.ret (outBR (outR (outR (outBR (outR ?_))))))))
   refine ⟨_, _, res_run (rs := [.tmp 4]) rfl (.tmp rfl .nil), fun W_ hI => out_of (l := []) hI [] rfl rfl (mle_refl _) (fun hS_ => ?_)⟩
   dsimp only [packV]
   all_goals (first | rfl | (exact fin0_fits18_ok))
 refine VC.skip (outBN (outN ?_))
 refine VC.reg ?_
 refine VO.mv ?_
 refine VO.y rfl (.add (c := ((k + 1 : Nat) : Int)) rfl rfl (by omega) ⟨by exact fin1_fits18_ok, by exact fin1_fits18_ok⟩) ?_
 refine VO.as (VO.k10 0 1 3 5 6 7 10 21 26 53 ?_)
 exact outN ⟨k + 1, ⟨by omega, by exact all_next ha ‹d1.2.2.2.2.2.2.2[k]? = some _› (fun h => by first | omega | (rw [epochAt_of ‹d0[_]? = some _›]; omega))⟩, by exact fin1_fits18_ok, ⟨⟨rfl, rfl, rfl, rfl, rfl, rfl, rfl, trivial⟩, fun _ h => Inv.sub h [102, 0]⟩⟩
 refine VD.gn rfl rfl (.inl ⟨_, rfl, rfl⟩) ?_
 refine VD.gn rfl rfl (.inl ⟨_, rfl, rfl⟩) ?_
 refine VD.gn rfl rfl (.inl ⟨_, rfl, rfl⟩) ?_
 refine VD.gn rfl rfl (.inl ⟨_, rfl, rfl⟩) ?_
 refine VD.gn rfl rfl (.inl ⟨_, rfl, rfl⟩) ?_
 refine VD.gn rfl rfl (.inl ⟨_, rfl, rfl⟩) ?_
 refine VD.gn rfl rfl (.inl ⟨_, rfl, rfl⟩) ?_
 refine VD.gn rfl rfl (.inl ⟨_, rfl, rfl⟩) ?_
 refine VD.gn rfl rfl (.inl ⟨_, rfl, rfl⟩) ?_
 refine VD.gn rfl rfl (.inl ⟨_, rfl, rfl⟩) ?_
 refine VD.gn rfl rfl (.inl ⟨_, rfl, rfl⟩) ?_
 refine VD.gn rfl rfl (.inl ⟨_, rfl, rfl⟩) ?_
 refine VD.nil rfl ?_ rfl
 refine VO.gN (VO.y rfl (.pF rfl rfl) ?_)
 refine VO.kp [102, 0] [(102, mone g1 (.cells #[.int .i64 (d1.1), .int .i64 (d1.2.1), .int .u8 (d1.2.2.1), .int .i64 (d1.2.2.2.1), .slice p1_A4 (d1.2.2.2.2.1.length) (p1_c4), .int .i64 (d1.2.2.2.2.2.1), .int .i64 (d1.2.2.2.2.2.2.1), .slice (some ⟨gg7, oo7, none⟩) (d1.2.2.2.2.2.2.2.length) (p1_c7)] 72 (0, 0))), (0, wm W)] ?_
 refine VO.k10 0 1 3 5 6 7 10 21 26 53 (outN (VC.condF rfl (VC.skip (outBN (outN ?_)))))
 refine VC.reg ?_
 refine VO.mv ?_
 refine VO.y rfl (.add (c := ((k + 1 : Nat) : Int)) rfl rfl (by omega) ⟨by exact fin1_fits18_ok, by exact fin1_fits18_ok⟩) ?_
 refine VO.as (VO.k10 0 1 3 5 6 7 10 21 26 53 ?_)
 exact outN ⟨k + 1, ⟨by omega, by exact all_next ha ‹d1.2.2.2.2.2.2.2[k]? = some _› (fun h => by first | omega | (rw [epochAt_of ‹d0[_]? = some _›]; omega))⟩, by exact fin1_fits18_ok, ⟨⟨rfl, rfl, rfl, rfl, rfl, rfl, rfl, trivial⟩, fun _ h => Inv.sub h [102, 0]⟩⟩
 · refine VC.exit (outE (outE (outBB (outN (VC.rs (VO.as (VO.k9 0 1 3 4 5 6 10 21 26 (VC.ret ?_))))))))
   refine ⟨_, _, res_run (rs := [.tmp 4]) rfl (.tmp rfl .nil), fun W_ hI => out_of (l := []) hI [] rfl rfl (mle_refl _) (fun hS_ => ?_)⟩
   dsimp only [packV]
   all_goals (first | rfl | (exact fin0_fits18_ok))
 refine VC.skip (outN (VC.seq (VC.rs (VO.mv (VO.y rfl (.fa rfl tst72 rfl) (VO.y rfl (.ld1 102 rfl tk3 rfl (cellsAt_one rfl rfl)) (VO.y rfl (.neq rfl rfl) (VO.k7 0 1 3 4 5 10 21 ?_))))))))
 refine VC.cond rfl (fun hc12 => ?_) (fun hc12 => ?_)
 · refine VC.rs (VO.as (VO.k7 0 1 3 4 5 10 21 (VC.ret (outR ?_))))
   refine ⟨_, _, res_run (rs := [.tmp 4]) rfl (.tmp rfl .nil), fun W_ hI => out_of (l := []) hI [] rfl rfl (mle_refl _) (fun hS_ => ?_)⟩
   dsimp only [packV]
   all_goals (first | rfl | (exact fin0_fits18_ok))
 refine VC.skip (outN (VC.seq (VC.rs (VO.as (VO.k8 0 1 3 4 5 6 10 21 (VC.block ?_))))))
 refine VC.loop (G := Nat) (fun k => [(6, .int .i64 (((k : Nat) : Int))), (0, .slice A0 (d0.length) (c0)), (1, .agg [.int .i64 (d1.1), .int .i64 (d1.2.1), .int .u8 (d1.2.2.1), .int .i64 (d1.2.2.2.1), .slice p1_A4 (d1.2.2.2.2.1.length) (p1_c4), .int .i64 (d1.2.2.2.2.2.1), .int .i64 (d1.2.2.2.2.2.2.1), .slice p1_A7 (d1.2.2.2.2.2.2.2.length) (p1_c7)].toArray), (3, .pointer (some ⟨g1, 0, none⟩)), (5, .int .i64 (0)), (10, .bool (decide (1 < d1.2.2.2.2.2.1))), (21, .bool (decide (¬ 0 = d1.2.2.2.2.2.2.1)))]) (fun k => [(102, mone g1 (.cells #[.int .i64 (d1.1), .int .i64 (d1.2.1), .int .u8 (d1.2.2.1), .int .i64 (d1.2.2.2.1), .slice p1_A4 (d1.2.2.2.2.1.length) (p1_c4), .int .i64 (d1.2.2.2.2.2.1), .int .i64 (d1.2.2.2.2.2.2.1), .slice p1_A7 (d1.2.2.2.2.2.2.2.length) (p1_c7)] 72 (0, 0))), (0, wm W)]) (fun k => (k ≤ d1.2.2.2.2.2.2.2.length) ∧ (∀ c ∈ d1.2.2.2.2.2.2.2.take k, c.2.1 ≤ d0.length → epochAt d0 (c.2.1 - 1) = c.1)) (fun k => d1.2.2.2.2.2.2.2.length - k) 0 (⟨by omega, by simp⟩) ⟨⟨rfl, rfl, rfl, rfl, rfl, rfl, rfl, trivial⟩, fun _ h => h.sub [102, 0]⟩ ?_
 rintro k ⟨hk, ha⟩
 refine VC.seq (VC.rs (VO.mv (VO.y rfl (.fa rfl tst72 rfl) (VO.y rfl (.ld1 102 rfl tk61 rfl (cellsAt_one rfl rfl)) ?_))))
 refine VO.y rfl (.lenS rfl tsl61) ?_
 refine VO.y rfl (.lss rfl rfl) ?_
 refine VO.kp [102, 0] [(102, mone g1 (.cells #[.int .i64 (d1.1), .int .i64 (d1.2.1), .int .u8 (d1.2.2.1), .int .i64 (d1.2.2.2.1), .slice p1_A4 (d1.2.2.2.2.1.length) (p1_c4), .int .i64 (d1.2.2.2.2.2.1), .int .i64 (d1.2.2.2.2.2.2.1), .slice p1_A7 (d1.2.2.2.2.2.2.2.length) (p1_c7)] 72 (0, 0))), (0, wm W)] ?_
 refine VO.k8 0 1 3 5 6 10 21 26 ?_
 refine VC.cond rfl (fun hc13 => ?_) (fun hc13 => ?_)
 refine VC.skip (outN (VC.seq (VC.block (VC.rs (VO.y rfl (.fa rfl tst72 rfl) (VO.y rfl (.ld1 102 rfl tk61 rfl (cellsAt_one rfl rfl)) (VO.mv ?_)))))))
 obtain ⟨x14, hx14⟩ : ∃ z_, (d1.2.2.2.2.2.2.2)[k]? = some z_ := ⟨_, List.getElem?_eq_getElem (by exact fin1_fits18_ok)⟩
 obtain ⟨gg14, oo14, ec14, ea14, hce14, hre14⟩ := p1_7.elem hx14
 cases ea14
 obtain ⟨q14_A2, q14_c2, rfl, q14_0, q14_1, q14_2⟩ := open_Commit (x0 := x14.1) (x1 := x14.2.1) (x2 := x14.2.2) hre14
 simp only [inK] at q14_0 q14_1
 have q14_r2 := Rd.room q14_2
 refine VO.y rfl (.ixI k rfl rfl tsl61 rfl (by exact fin1_fits18_ok)) ?_
 refine VO.y rfl (.fa rfl tst52 rfl) ?_
 refine VO.y rfl (.ld1 0 rfl tk3 rfl (hce14.at1 (j := 1) rfl)) ?_
 refine VO.as (VO.k9 0 1 3 5 6 7 10 21 26 (VC.seq ?_))
 refine VC.regD _ 17 [(0, true), (1, true), (2, true), (3, true), (4, true), (5, true), (6, true), (7, true), (8, true), (9, true), (10, true), (11, true), (12, true), (13, true), (14, true), (15, true), (16, true)] follows (by kernel_rfl) (fun _ h => h.sub [102, 0]) ?_
 refine VD.y rfl rfl (.inl rfl) (.mv rfl) (VD.y rfl rfl (.inl rfl) (.mv rfl) ?_)
 refine VD.y rfl rfl (.inl rfl) (.lenS rfl tsl61) ?_
 refine VD.y rfl rfl (.inl rfl) (.leq rfl rfl) (VD.y rfl rfl (.inl rfl) (.mv rfl) ?_)
 refine VD.dec (s := 39) rfl (fun hc15 => ?_) (fun hc15 => ?_)
 refine VD.y rfl rfl (.inr ⟨_, _, rfl, _, rfl, rfl⟩) (.mv rfl) ?_
 refine VD.y rfl rfl (.inr ⟨_, _, rfl, _, rfl, rfl⟩) (.mv rfl) ?_
 refine VD.y rfl rfl (.inr ⟨_, _, rfl, _, rfl, rfl⟩) (.sub rfl rfl rfl ⟨by exact fin1_fits18_ok, by exact fin1_fits18_ok⟩) ?_
 obtain ⟨x16, hx16⟩ : ∃ z_, (d0)[(x14.2.1 - 1).toNat]? = some z_ := ⟨_, List.getElem?_eq_getElem (by exact fin1_fits18_ok)⟩
 obtain ⟨gg16, oo16, ec16, ea16, hce16, hre16⟩ := h0.elem hx16
 cases ea16
 obtain ⟨q16_A2, q16_c2, rfl, q16_0, q16_1, q16_2⟩ := open_Commit (x0 := x16.1) (x1 := x16.2.1) (x2 := x16.2.2) hre16
 simp only [inK] at q16_0 q16_1
 have q16_r2 := Rd.room q16_2
 refine VD.y rfl rfl (.inr ⟨_, _, rfl, _, rfl, rfl⟩) (.ixI ((x14.2.1 - 1).toNat) rfl rfl tsl61 (by exact fin1_fits18_ok) (by exact fin1_fits18_ok)) ?_
 refine VD.y rfl rfl (.inr ⟨_, _, rfl, _, rfl, rfl⟩) (.fa rfl tst52 rfl) ?_
 refine VD.y rfl rfl (.inr ⟨_, _, rfl, _, rfl, rfl⟩) (.ld1 0 rfl tk3 rfl (hce16.at1 (j := 0) rfl)) ?_
 refine VD.y rfl rfl (.inr ⟨_, _, rfl, _, rfl, rfl⟩) (.fa rfl tst72 rfl) ?_
 refine VD.y rfl rfl (.inr ⟨_, _, rfl, _, rfl, rfl⟩) (.ld1 102 rfl tk61 rfl (cellsAt_one rfl rfl)) ?_
 refine VD.y rfl rfl (.inr ⟨_, _, rfl, _, rfl, rfl⟩) (.mv rfl) ?_
 refine VD.y rfl rfl (.inr ⟨_, _, rfl, _, rfl, rfl⟩) (.ixI k rfl rfl tsl61 rfl (by exact fin1_fits18_ok)) ?_
 refine VD.y rfl rfl (.inr ⟨_, _, rfl, _, rfl, rfl⟩) (.fa rfl tst52 rfl) ?_
 refine VD.y rfl rfl (.inr ⟨_, _, rfl, _, rfl, rfl⟩) (.ld1 0 rfl tk3 rfl (hce14.at1 (j := 0) rfl)) ?_
 refine VD.nil rfl ?_ rfl
 refine VO.gy rfl ⟨_, rfl, rfl⟩ (.neq rfl rfl) (VO.y rfl (.pT rfl rfl) (VO.k10 0 1 3 5 6 7 10 21 26 53 (outN ?_)))
 refine VC.cond rfl (fun hc18 => ?_) (fun hc18 => ?_)
 · refine VC.rs (VO.as ?_)
   refine VO.kp [102, 0] [(102, mone g1 (.cells #[.int .i64 (d1.1), .int .i64 (d1.2.1), .int .u8 (d1.2.2.1), .int .i64 (d1.2.2.2.1), .slice p1_A4 (d1.2.2.2.2.1.length) (p1_c4), .int .i64 (d1.2.2.2.2.2.1), .int .i64 (d1.2.2.2.2.2.2.1), .slice (some ⟨gg14, oo14, none⟩) (d1.2.2.2.2.2.2.2.length) (p1_c7)] 72 (0, 0))), (0, wm W)] ?_
   refine VO.k11 0 1 3 4 5 6 7 10 21 26 53 (VC.ret (outBR (outR (outR (outBR (outR ?_))))))
   refine ⟨_, _, res_run (rs := [.tmp 4]) rfl (.tmp rfl .nil), fun W_ hI => out_of (l := []) hI [] rfl rfl (mle_refl _) (fun hS_ => ?_)⟩
   dsimp only [packV]
   all_goals (first | rfl | (exact fin0_fits18_ok))
 refine VC.skip (outBN (outN ?_))
 refine VC.reg ?_
 refine VO.mv ?_
 refine VO.y rfl (.add (c := ((k + 1 : Nat) : Int)) rfl rfl (by omega) ⟨by exact fin1_fits18_ok, by exact fin1_fits18_ok⟩) ?_
 refine VO.as ?_
 refine VO.kp [102, 0] [(102, mone g1 (.cells #[.int .i64 (d1.1), .int .i64 (d1.2.1), .int .u8 (d1.2.2.1), .int .i64 (d1.2.2.2.1), .slice p1_A4 (d1.2.2.2.2.1.length) (p1_c4), .int .i64 (d1.2.2.2.2.2.1), .int .i64 (d1.2.2.2.2.2.2.1), .slice (some ⟨gg14, oo14, none⟩) (d1.2.2.2.2.2.2.2.length) (p1_c7)] 72 (0, 0))), (0, wm W)] ?_
 refine VO.k10 0 1 3 5 6 7 10 21 26 53 ?_
 exact outN ⟨k + 1, ⟨by omega, by exact all_next ha ‹d1.2.2.2.2.2.2.2[k]? = some _› (fun h => by first | omega | (rw [epochAt_of ‹d0[_]? = some _›]; omega))⟩, by exact fin1_fits18_ok, ⟨⟨rfl, rfl, rfl, rfl, rfl, rfl, rfl, trivial⟩, fun _ h => Inv.sub h [102, 0]⟩⟩
 refine VD.gn rfl rfl (.inl ⟨_, rfl, rfl⟩) ?_
 refine VD.gn rfl rfl (.inl ⟨_, rfl, rfl⟩) ?_
 refine VD.gn rfl rfl (.inl ⟨_, rfl, rfl⟩) ?_
 refine VD.gn rfl rfl (.inl ⟨_, rfl, rfl⟩) ?_
 refine VD.gn rfl rfl (.inl ⟨_, rfl, rfl⟩) ?_
 refine VD.gn rfl rfl (.inl ⟨_, rfl, rfl⟩) ?_
 refine VD.gn rfl rfl (.inl ⟨_, rfl, rfl⟩) ?_
 refine VD.gn rfl rfl (.inl ⟨_, rfl, rfl⟩) ?_
 refine VD.gn rfl rfl (.inl ⟨_, rfl, rfl⟩) ?_
 refine VD.gn rfl rfl (.inl ⟨_, rfl, rfl⟩) ?_
 refine VD.gn rfl rfl (.inl ⟨_, rfl, rfl⟩) ?_
 refine VD.gn rfl rfl (.inl ⟨_, rfl, rfl⟩) ?_
 refine VD.nil rfl ?_ rfl
 refine VO.gN (VO.y rfl (.pF rfl rfl) (VO.k10 0 1 3 5 6 7 10 21 26 53 (outN (VC.condF rfl (VC.skip (outBN (outN ?_)))))))
 refine VC.reg ?_
 refine VO.mv ?_
 refine VO.y rfl (.add (c := ((k + 1 : Nat) : Int)) rfl rfl (by omega) ⟨by exact fin1_fits18_ok, by exact fin1_fits18_ok⟩) ?_
 refine VO.as ?_
 refine VO.kp [102, 0] [(102, mone g1 (.cells #[.int .i64 (d1.1), .int .i64 (d1.2.1), .int .u8 (d1.2.2.1), .int .i64 (d1.2.2.2.1), .slice p1_A4 (d1.2.2.2.2.1.length) (p1_c4), .int .i64 (d1.2.2.2.2.2.1), .int .i64 (d1.2.2.2.2.2.2.1), .slice (some ⟨gg14, oo14, none⟩) (d1.2.2.2.2.2.2.2.length) (p1_c7)] 72 (0, 0))), (0, wm W)] ?_
 refine VO.k10 0 1 3 5 6 7 10 21 26 53 ?_
 exact outN ⟨k + 1, ⟨by omega, by exact all_next ha ‹d1.2.2.2.2.2.2.2[k]? = some _› (fun h => by first | omega | (rw [epochAt_of ‹d0[_]? = some _›]; omega))⟩, by exact fin1_fits18_ok, ⟨⟨rfl, rfl, rfl, rfl, rfl, rfl, rfl, trivial⟩, fun _ h => Inv.sub h [102, 0]⟩⟩
 · refine VC.exit (outE (outE (outBB (outN (VC.rs (VO.as (VO.k9 0 1 3 4 5 6 10 21 26 (VC.ret ?_))))))))
   refine ⟨_, _, res_run (rs := [.tmp 4]) rfl (.tmp rfl .nil), fun W_ hI => out_of (l := []) hI [] rfl rfl (mle_refl _) (fun hS_ => ?_)⟩
   dsimp only [packV]
   all_goals (first | rfl | (exact fin0_fits18_ok))
end
section
set_option linter.unusedVariables false
set_option linter.unusedSimpArgs false
set_option maxRecDepth 4000
theorem fin0_take18_ok {P : Prop} (h : P := by first | (rw [take_follows (fun q => absurd (none_iff.2 q) (by assumption))] <;> rfl) | (have hz_ : ¬ ¬ (cFollows 0 0 d1).1 = 0 := fun q => q (Decidable.not_not.1 ‹¬ ¬ ((cFollows 0 0 d1).1 = 0 ∧ _)›).1; first | (rw [take_check ‹¬ ¬ _› (by omega)] <;> rfl) | (rw [take_stale ‹¬ ¬ _› (by omega) (by omega) (by omega)] <;> rfl) | (rw [take_later ‹¬ ¬ _› (by omega) (by omega) (by omega) (by omega)] <;> rfl) | (rw [take_gap ‹¬ ¬ _› (by omega) (by omega) (by omega) (by omega) (by omega)] <;> rfl) | (rw [take_fork ‹¬ ¬ (cFollows 0 0 _).1 = 0› (by omega) (by omega) (by omega) (by omega) (by omega) ‹¬ fitsM _ _›] <;> rfl) | (rw [take_good ‹¬ ¬ (cFollows 0 0 _).1 = 0› (by omega) (by omega) (by omega) (by omega) (by omega) (Decidable.not_not.1 ‹¬ ¬ fitsM _ _›), ho, List.take_of_length_le (by omega)]))) : P := h
theorem fin1_take18_ok {P : Prop} (h : P := by first | (rw [take_follows (fun q => absurd (none_iff.2 q) (by assumption))] <;> rfl) | (have hz_ : ¬ ¬ (cFollows 0 0 d1).1 = 0 := fun q => q (Decidable.not_not.1 ‹¬ ¬ ((cFollows 0 0 d1).1 = 0 ∧ _)›).1; first | (rw [take_check ‹¬ ¬ _› (by omega)] <;> rfl) | (rw [take_stale ‹¬ ¬ _› (by omega) (by omega) (by omega)] <;> rfl) | (rw [take_later ‹¬ ¬ _› (by omega) (by omega) (by omega) (by omega)] <;> rfl) | (rw [take_gap ‹¬ ¬ _› (by omega) (by omega) (by omega) (by omega) (by omega)] <;> rfl) | (rw [take_fork ‹¬ ¬ (cFollows 0 0 _).1 = 0› (by omega) (by omega) (by omega) (by omega) (by omega) ‹¬ fitsM _ _›] <;> rfl) | (rw [take_good ‹¬ ¬ (cFollows 0 0 _).1 = 0› (by omega) (by omega) (by omega) (by omega) (by omega) (Decidable.not_not.1 ‹¬ ¬ fitsM _ _›)] <;> rfl))) : P := h
theorem fin2_take18_ok {P : Prop} (h : P := by first | omega | (simp only [List.length_append, List.length_nil, List.length_cons, List.length_take, List.length_drop] at *; omega) | exact ship_room (by omega) (by omega) ‹d2.2.2.2.2.2.2.2[k]? = some _› | (have := (lCheck_ship (m := d2) (by omega) (by omega)).1; omega) | (have h_ := follows_len (And.left (Decidable.not_not.1 ‹¬ ¬ ((cFollows 0 0 d1).1 = 0 ∧ _)›)) (by omega); omega)) : P := h
theorem take18_ok (W : World) (d0 : Int) (h0 : inK .i64 d0) {v1 : Value} {d1 : List DCommit} (h1 : Rd (.sl TCommit) (wm W) [v1] d1) {v2 : List Value} {d2 : DMessage} (h2 : Rd TMessage (wm W) v2 d2) : CallR Try.prog 84 [.int .i64 d0, v1, .agg v2.toArray] W (mnil) (fun v m' => ∃ (s0 : Value), v = .tuple #[s0, .int .i64 ((takeOf d0 d1 d2).2)] ∧ Ow (.sl TCommit) m' [s0] ((takeOf d0 d1 d2).1)) := by
 have h0' := h0; simp only [inK] at h0'
 obtain ⟨A1, c1, rfl, l1, k1⟩ := h1.slice
 simp only [maxLen] at k1
 obtain ⟨p2_A4, p2_c4, p2_A7, p2_c7, rfl, p2_0, p2_1, p2_2, p2_3, p2_4, p2_5, p2_6, p2_7⟩ := open_Message (x0 := d2.1) (x1 := d2.2.1) (x2 := d2.2.2.1) (x3 := d2.2.2.2.1) (x4 := d2.2.2.2.2.1) (x5 := d2.2.2.2.2.2.1) (x6 := d2.2.2.2.2.2.2.1) (x7 := d2.2.2.2.2.2.2.2) h2
 simp only [inK] at p2_0 p2_1 p2_2 p2_3
 have p2_r4 := Rd.room p2_4
 simp only [inK] at p2_5 p2_6
 have p2_r7 := Rd.room p2_7
 refine CallR.ofA (n := 76) Try.func84 rfl rfl rfl ?_
 refine VC.rs ?_
 refine VO.box (cs := [.int .i64 (d2.1), .int .i64 (d2.2.1), .int .u8 (d2.2.2.1), .int .i64 (d2.2.2.2.1), .slice p2_A4 (d2.2.2.2.2.1.length) (p2_c4), .int .i64 (d2.2.2.2.2.2.1), .int .i64 (d2.2.2.2.2.2.2.1), .slice p2_A7 (d2.2.2.2.2.2.2.2.length) (p2_c7)]) 102 rfl rfl rfl (fun g1 => ?_)
 refine VO.as (VO.as (VO.k6 0 1 2 5 6 7 (VC.rs (VO.mv ?_))))
 refine VO.callN 103 rfl fnOk54 rfl (fun W hW => c4Follows_ok W 0 (by simp only [inK]; (exact fin2_take18_ok)) 0 (by simp only [inK]; (exact fin2_take18_ok)) (Rd.mono h1 (hW.at (i := 0) rfl))) (fun v3 m3 hv3 => ?_)
 obtain ⟨s3_0, rfl, f3_0⟩ := hv3
 obtain ⟨rfl, q3_0_0, q3_0_1⟩ := open_Fault (x0 := (cFollows 0 0 d1).1) (x1 := (cFollows 0 0 d1).2) (f3_0.rd (mle_refl _))
 simp only [inK] at q3_0_0 q3_0_1
 refine VO.alloc 105 rfl tz57 (fun g4 => ?_)
 refine VO.store (k := 2) (c' := [Value.int .i64 ((cFollows 0 0 d1).1), Value.int .i64 ((cFollows 0 0 d1).2)]) 105 rfl rfl (.inl tk57) rfl rfl rfl rfl rfl ?_
 refine VO.k7 0 1 2 5 6 7 8 (VC.seq (VC.block (VC.rs (VO.y rfl (.ldA 105 rfl tk57 rfl (cellsAt_one rfl rfl)) ?_))))
 refine VO.y rfl (.bst (cs := [.int .i64 (0), .int .i64 (0)]) rfl tst57 tz57 rfl) ?_
 refine VO.y rfl (.stneq (p := ((cFollows 0 0 d1).1) = 0 ∧ ((cFollows 0 0 d1).2) = 0) rfl rfl (teq57 ((cFollows 0 0 d1).1) ((cFollows 0 0 d1).2)) (teq57 0 0) (by simp [ceq, ba_toList])) ?_
 refine VO.as ?_
 refine VO.kp [105, 102, 0] [(105, mone g4 (.cells #[.int .i64 ((cFollows 0 0 d1).1), .int .i64 ((cFollows 0 0 d1).2)] 57 (0, 0))), (102, mone g1 (.cells #[.int .i64 (d2.1), .int .i64 (d2.2.1), .int .u8 (d2.2.2.1), .int .i64 (d2.2.2.2.1), .slice p2_A4 (d2.2.2.2.2.1.length) (p2_c4), .int .i64 (d2.2.2.2.2.2.1), .int .i64 (d2.2.2.2.2.2.2.1), .slice p2_A7 (d2.2.2.2.2.2.2.2.length) (p2_c7)] 72 (0, 0))), (0, wm W)] ?_
 refine VO.k8 0 1 2 5 6 7 8 13 ?_
 refine VC.cond rfl (fun hc6 => ?_) (fun hc6 => ?_)
 · refine VC.seq ?_
   refine VC.regD _ 3 [(0, true), (1, true), (2, true)] follows (by kernel_rfl) (fun _ h => h.sub [105, 102, 0]) ?_
   refine VD.y rfl rfl (.inl rfl) (.fa rfl tst57 rfl) (VD.y rfl rfl (.inl rfl) (.ld1 105 rfl tk26 rfl (cellsAt_one rfl rfl)) (VD.y rfl rfl (.inl rfl) (.as rfl) ?_))
   refine VD.nil rfl ?_ rfl
   refine VO.as (VO.k8 0 1 2 5 6 7 8 13 (outN (VC.ret (outBR (outR ?_)))))
   refine ⟨_, _, res_run (rs := [.tmp 6, .tmp 7]) rfl (.tmp rfl (.tmp rfl .nil)), fun W_ hI => out_of (l := []) hI [] rfl rfl (mle_refl _) (fun hS_ => ?_)⟩
   dsimp only [packV]
   have he0 : ((takeOf d0 d1 d2).1 : Ty.Den (.sl TCommit)) = [] := by first | rfl | (exact fin0_take18_ok)
   refine ⟨Value.slice none (0) (0), ?_, ?_⟩
   rotate_left
   · rw [he0]; exact (Ow.nil _ _)
   all_goals (first | rfl | (exact fin1_take18_ok))
 refine VC.rs (VO.y rfl (.ldA 102 rfl tk72 rfl (cellsAt_one rfl rfl)) ?_)
 refine VO.callN 107 rfl fnOk121 rfl (fun W hW => check11_ok W (Rd.mono h2 (hW.at (i := 0) rfl))) (fun v7 m7 hv7 => ?_)
 subst hv7
 have hfa8 := lCheck_range d2
 refine VO.y rfl (.neq rfl rfl) (VO.mv ?_)
 refine VO.dec (t := 23) rfl (fun hc9 => ?_) (fun hc9 => ?_)
 · refine VO.gN (VO.gN (VO.gN (VO.y rfl (.pT rfl rfl) (VO.as (VO.k9 0 1 2 5 6 7 8 13 19 (VC.condT rfl (VC.rs (VO.as (VO.as (VO.k9 0 1 2 5 6 7 8 13 19 (VC.ret ?_)))))))))))
   refine outBR (outR ?_)
   refine ⟨_, _, res_run (rs := [.tmp 6, .tmp 7]) rfl (.tmp rfl (.tmp rfl .nil)), fun W_ hI => out_of (l := []) hI [] rfl rfl (mle_refl _) (fun hS_ => ?_)⟩
   dsimp only [packV]
   have he0 : ((takeOf d0 d1 d2).1 : Ty.Den (.sl TCommit)) = [] := by first | rfl | (exact fin0_take18_ok)
   refine ⟨Value.slice none (0) (0), ?_, ?_⟩
   rotate_left
   · rw [he0]; exact (Ow.nil _ _)
   all_goals (first | rfl | (exact fin1_take18_ok))
 refine VO.gy rfl ⟨_, rfl, rfl⟩ (.fa rfl tst72 rfl) ?_
 refine VO.gy rfl ⟨_, rfl, rfl⟩ (.ld1 102 rfl tk3 rfl (cellsAt_one rfl rfl)) ?_
 refine VO.gy rfl ⟨_, rfl, rfl⟩ (.neq rfl rfl) (VO.y rfl (.pF rfl rfl) (VO.as (VO.k9 0 1 2 5 6 7 8 13 19 ?_)))
 refine VC.cond rfl (fun hc10 => ?_) (fun hc10 => ?_)
 · refine VC.rs (VO.as (VO.as (VO.k9 0 1 2 5 6 7 8 13 19 (VC.ret (outBR (outR ?_))))))
   refine ⟨_, _, res_run (rs := [.tmp 6, .tmp 7]) rfl (.tmp rfl (.tmp rfl .nil)), fun W_ hI => out_of (l := []) hI [] rfl rfl (mle_refl _) (fun hS_ => ?_)⟩
   dsimp only [packV]
   have he0 : ((takeOf d0 d1 d2).1 : Ty.Den (.sl TCommit)) = [] := by first | rfl | (exact fin0_take18_ok)
   refine ⟨Value.slice none (0) (0), ?_, ?_⟩
   rotate_left
   · rw [he0]; exact (Ow.nil _ _)
   all_goals (first | rfl | (exact fin1_take18_ok))
 refine VC.rs (VO.y rfl (.fa rfl tst72 rfl) (VO.y rfl (.ld1 102 rfl tk3 rfl (cellsAt_one rfl rfl)) (VO.mv (VO.y rfl (.lss rfl rfl) (VO.as (VO.k10 0 1 2 5 6 7 8 13 19 28 ?_))))))
 refine VC.cond rfl (fun hc11 => ?_) (fun hc11 => ?_)
 · refine VC.rs (VO.as (VO.as ?_))
   refine VO.kp [105, 102, 0] [(105, mone g4 (.cells #[.int .i64 ((cFollows 0 0 d1).1), .int .i64 ((cFollows 0 0 d1).2)] 57 (0, 0))), (102, mone g1 (.cells #[.int .i64 (d2.1), .int .i64 (d2.2.1), .int .u8 (d2.2.2.1), .int .i64 (d2.2.2.2.1), .slice p2_A4 (d2.2.2.2.2.1.length) (p2_c4), .int .i64 (d2.2.2.2.2.2.1), .int .i64 (d2.2.2.2.2.2.2.1), .slice p2_A7 (d2.2.2.2.2.2.2.2.length) (p2_c7)] 72 (0, 0))), (0, wm W)] ?_
   refine VO.k10 0 1 2 5 6 7 8 13 19 28 (VC.ret (outBR (outR ?_)))
   refine ⟨_, _, res_run (rs := [.tmp 6, .tmp 7]) rfl (.tmp rfl (.tmp rfl .nil)), fun W_ hI => out_of (l := []) hI [] rfl rfl (mle_refl _) (fun hS_ => ?_)⟩
   dsimp only [packV]
   have he0 : ((takeOf d0 d1 d2).1 : Ty.Den (.sl TCommit)) = [] := by first | rfl | (exact fin0_take18_ok)
   refine ⟨Value.slice none (0) (0), ?_, ?_⟩
   rotate_left
   · rw [he0]; exact (Ow.nil _ _)
   all_goals (first | rfl | (exact fin1_take18_ok))
 refine VC.rs (VO.y rfl (.fa rfl tst72 rfl) (VO.y rfl (.ld1 102 rfl tk3 rfl (cellsAt_one rfl rfl)) (VO.mv (VO.y rfl (.gtr rfl rfl) (VO.as ?_)))))
 refine VO.kp [105, 102, 0] [(105, mone g4 (.cells #[.int .i64 ((cFollows 0 0 d1).1), .int .i64 ((cFollows 0 0 d1).2)] 57 (0, 0))), (102, mone g1 (.cells #[.int .i64 (d2.1), .int .i64 (d2.2.1), .int .u8 (d2.2.2.1), .int .i64 (d2.2.2.2.1), .slice p2_A4 (d2.2.2.2.2.1.length) (p2_c4), .int .i64 (d2.2.2.2.2.2.1), .int .i64 (d2.2.2.2.2.2.2.1), .slice p2_A7 (d2.2.2.2.2.2.2.2.length) (p2_c7)] 72 (0, 0))), (0, wm W)] ?_
 refine VO.k11 0 1 2 5 6 7 8 13 19 28 33 ?_
 refine VC.cond rfl (fun hc12 => ?_) (fun hc12 => ?_)
 · refine VC.rs (VO.as (VO.as (VO.k11 0 1 2 5 6 7 8 13 19 28 33 (VC.ret (outBR (outR ?_))))))
   refine ⟨_, _, res_run (rs := [.tmp 6, .tmp 7]) rfl (.tmp rfl (.tmp rfl .nil)), fun W_ hI => out_of (l := []) hI [] rfl rfl (mle_refl _) (fun hS_ => ?_)⟩
   dsimp only [packV]
   have he0 : ((takeOf d0 d1 d2).1 : Ty.Den (.sl TCommit)) = [] := by first | rfl | (exact fin0_take18_ok)
   refine ⟨Value.slice none (0) (0), ?_, ?_⟩
   rotate_left
   · rw [he0]; exact (Ow.nil _ _)
   all_goals (first | rfl | (exact fin1_take18_ok))
 refine VC.rs (VO.y rfl (.fa rfl tst72 rfl) (VO.y rfl (.ld1 102 rfl tk3 rfl (cellsAt_one rfl rfl)) (VO.mv ?_)))
 refine VO.y rfl (.lenS rfl tsl61) ?_
 refine VO.y rfl (.add (c := ((d1.length + 1 : Nat) : Int)) rfl rfl (by omega) ⟨by exact fin2_take18_ok, by exact fin2_take18_ok⟩) ?_
 refine VO.y rfl (.gtr rfl rfl) (VO.as (VO.k12 0 1 2 5 6 7 8 13 19 28 33 38 ?_))
 refine VC.cond rfl (fun hc13 => ?_) (fun hc13 => ?_)
 · refine VC.rs (VO.as (VO.as (VO.k12 0 1 2 5 6 7 8 13 19 28 33 38 (VC.ret (outBR (outR ?_))))))
   refine ⟨_, _, res_run (rs := [.tmp 6, .tmp 7]) rfl (.tmp rfl (.tmp rfl .nil)), fun W_ hI => out_of (l := []) hI [] rfl rfl (mle_refl _) (fun hS_ => ?_)⟩
   dsimp only [packV]
   have he0 : ((takeOf d0 d1 d2).1 : Ty.Den (.sl TCommit)) = [] := by first | rfl | (exact fin0_take18_ok)
   refine ⟨Value.slice none (0) (0), ?_, ?_⟩
   rotate_left
   · rw [he0]; exact (Ow.nil _ _)
   all_goals (first | rfl | (exact fin1_take18_ok))
 refine VC.rs (VO.mv (VO.y rfl (.ldA 102 rfl tk72 rfl (cellsAt_one rfl rfl)) ?_))
 refine VO.callN 114 rfl fnOk122 rfl (fun W hW => fits18_ok W (Rd.mono h1 (hW.at (i := 0) rfl)) (Rd.mono h2 (hW.at (i := 0) rfl)) (by omega) (by first | exact ship_pos (by omega) (by omega)) (by exact ⟨(lCheck_ship (by omega) (by omega)).1.1, (lCheck_ship (by omega) (by omega)).2.2.1⟩)) (fun v14 m14 hv14 => ?_)
 subst hv14
 refine VO.y rfl (.notD rfl) (VO.as (VO.k13 0 1 2 5 6 7 8 13 19 28 33 38 45 ?_))
 refine VC.cond rfl (fun hc15 => ?_) (fun hc15 => ?_)
 · refine VC.rs (VO.as (VO.as ?_))
   refine VO.kp [105, 102, 0] [(105, mone g4 (.cells #[.int .i64 ((cFollows 0 0 d1).1), .int .i64 ((cFollows 0 0 d1).2)] 57 (0, 0))), (102, mone g1 (.cells #[.int .i64 (d2.1), .int .i64 (d2.2.1), .int .u8 (d2.2.2.1), .int .i64 (d2.2.2.2.1), .slice p2_A4 (d2.2.2.2.2.1.length) (p2_c4), .int .i64 (d2.2.2.2.2.2.1), .int .i64 (d2.2.2.2.2.2.2.1), .slice p2_A7 (d2.2.2.2.2.2.2.2.length) (p2_c7)] 72 (0, 0))), (0, wm W)] ?_
   refine VO.k13 0 1 2 5 6 7 8 13 19 28 33 38 45 (VC.ret (outBR (outR ?_)))
   refine ⟨_, _, res_run (rs := [.tmp 6, .tmp 7]) rfl (.tmp rfl (.tmp rfl .nil)), fun W_ hI => out_of (l := []) hI [] rfl rfl (mle_refl _) (fun hS_ => ?_)⟩
   dsimp only [packV]
   have he0 : ((takeOf d0 d1 d2).1 : Ty.Den (.sl TCommit)) = [] := by first | rfl | (exact fin0_take18_ok)
   refine ⟨Value.slice none (0) (0), ?_, ?_⟩
   rotate_left
   · rw [he0]; exact (Ow.nil _ _)
   all_goals (first | rfl | (exact fin1_take18_ok))
 refine VC.skip (outBN (outN (VC.rs (VO.as ?_))))
 refine VO.kp [105, 102, 0] [(105, mone g4 (.cells #[.int .i64 ((cFollows 0 0 d1).1), .int .i64 ((cFollows 0 0 d1).2)] 57 (0, 0))), (102, mone g1 (.cells #[.int .i64 (d2.1), .int .i64 (d2.2.1), .int .u8 (d2.2.2.1), .int .i64 (d2.2.2.2.1), .slice p2_A4 (d2.2.2.2.2.1.length) (p2_c4), .int .i64 (d2.2.2.2.2.2.1), .int .i64 (d2.2.2.2.2.2.2.1), .slice p2_A7 (d2.2.2.2.2.2.2.2.length) (p2_c7)] 72 (0, 0))), (0, wm W)] ?_
 refine VO.k14 0 1 2 5 6 7 8 9 13 19 28 33 38 45 (VC.seq (VC.rs (VO.as (VO.k15 0 1 2 5 6 7 8 9 10 13 19 28 33 38 45 (VC.block ?_)))))
 refine VC.inv ((116, mnil) :: _) (fun _ h => h.nilc 116) ?_
 refine VC.loop (G := Nat × (List DCommit) × (Option Addr) × Nat × Mem) (fun g => [(9, .slice (g.2.2.1) ((g.2.1).length) ((g.2.2.2.1))), (10, .int .i64 ((((g.1) : Nat) : Int))), (0, .int .i64 (d0)), (1, .slice A1 (d1.length) (c1)), (2, .agg [.int .i64 (d2.1), .int .i64 (d2.2.1), .int .u8 (d2.2.2.1), .int .i64 (d2.2.2.2.1), .slice p2_A4 (d2.2.2.2.2.1.length) (p2_c4), .int .i64 (d2.2.2.2.2.2.1), .int .i64 (d2.2.2.2.2.2.2.1), .slice p2_A7 (d2.2.2.2.2.2.2.2.length) (p2_c7)].toArray), (5, .pointer (some ⟨g1, 0, none⟩)), (6, .slice none (0) (0)), (7, .int .i64 (0)), (8, .pointer (some ⟨g4, 0, none⟩)), (13, .bool (decide (¬ (((cFollows 0 0 d1).1) = 0 ∧ ((cFollows 0 0 d1).2) = 0)))), (19, .bool (decide (¬ d2.1 = 2))), (28, .bool (decide (d2.2.1 < d0))), (33, .bool (decide (d0 < d2.2.1))), (38, .bool (decide (((d1.length + 1 : Nat) : Int) < d2.2.2.2.2.2.1))), (45, .bool (decide (¬ (fitsM d1 d2))))]) (fun g => [(116, (g.2.2.2.2)), (105, mone g4 (.cells #[.int .i64 ((cFollows 0 0 d1).1), .int .i64 ((cFollows 0 0 d1).2)] 57 (0, 0))), (102, mone g1 (.cells #[.int .i64 (d2.1), .int .i64 (d2.2.1), .int .u8 (d2.2.2.1), .int .i64 (d2.2.2.2.1), .slice p2_A4 (d2.2.2.2.2.1.length) (p2_c4), .int .i64 (d2.2.2.2.2.2.1), .int .i64 (d2.2.2.2.2.2.2.1), .slice p2_A7 (d2.2.2.2.2.2.2.2.length) (p2_c7)] 72 (0, 0))), (0, wm W)]) (fun g => ((g.1) ≤ d2.2.2.2.2.2.2.2.length) ∧ ((g.2.1) = (d2.2.2.2.2.2.2.2.take (g.1)).filter (fun c => decide ((d1.length : Int) < c.2.1))) ∧ (Ow (.sl TCommit) (g.2.2.2.2) [.slice (g.2.2.1) (g.2.1).length (g.2.2.2.1)] (g.2.1))) (fun g => d2.2.2.2.2.2.2.2.length - (g.1)) (0, [], none, 0, mnil) (⟨by omega, by rfl, (Ow.nil TCommit mnil)⟩) ⟨⟨rfl, rfl, rfl, rfl, rfl, rfl, rfl, rfl, rfl, rfl, rfl, rfl, rfl, rfl, rfl, trivial⟩, fun _ h => h.sub [116, 105, 102, 0]⟩ ?_
 rintro ⟨k, out, out_A, out_c, out_m⟩ ⟨hk, ho, h_out⟩
 replace hk : k ≤ d2.2.2.2.2.2.2.2.length := hk
 replace ho : out = (d2.2.2.2.2.2.2.2.take k).filter (fun c => decide ((d1.length : Int) < c.2.1)) := ho
 replace h_out : Ow (.sl TCommit) out_m [.slice out_A out.length out_c] out := h_out
 show VC _ _ _ _ _ [(9, .slice out_A (out.length) (out_c)), (10, .int .i64 (((k : Nat) : Int))), (0, .int .i64 (d0)), (1, .slice A1 (d1.length) (c1)), (2, .agg [.int .i64 (d2.1), .int .i64 (d2.2.1), .int .u8 (d2.2.2.1), .int .i64 (d2.2.2.2.1), .slice p2_A4 (d2.2.2.2.2.1.length) (p2_c4), .int .i64 (d2.2.2.2.2.2.1), .int .i64 (d2.2.2.2.2.2.2.1), .slice p2_A7 (d2.2.2.2.2.2.2.2.length) (p2_c7)].toArray), (5, .pointer (some ⟨g1, 0, none⟩)), (6, .slice none (0) (0)), (7, .int .i64 (0)), (8, .pointer (some ⟨g4, 0, none⟩)), (13, .bool (decide (¬ (((cFollows 0 0 d1).1) = 0 ∧ ((cFollows 0 0 d1).2) = 0)))), (19, .bool (decide (¬ d2.1 = 2))), (28, .bool (decide (d2.2.1 < d0))), (33, .bool (decide (d0 < d2.2.1))), (38, .bool (decide (((d1.length + 1 : Nat) : Int) < d2.2.2.2.2.2.1))), (45, .bool (decide (¬ (fitsM d1 d2))))] [(116, out_m), (105, mone g4 (.cells #[.int .i64 ((cFollows 0 0 d1).1), .int .i64 ((cFollows 0 0 d1).2)] 57 (0, 0))), (102, mone g1 (.cells #[.int .i64 (d2.1), .int .i64 (d2.2.1), .int .u8 (d2.2.2.1), .int .i64 (d2.2.2.2.1), .slice p2_A4 (d2.2.2.2.2.1.length) (p2_c4), .int .i64 (d2.2.2.2.2.2.1), .int .i64 (d2.2.2.2.2.2.2.1), .slice p2_A7 (d2.2.2.2.2.2.2.2.length) (p2_c7)] 72 (0, 0))), (0, wm W)]
 have l_out : out.length ≤ out_c := by obtain ⟨_, _, he, hl, _⟩ := h_out.slice; simp only [Value.slice.injEq] at he; omega
 have k_out : out_c ≤ 9223372036854775807 := by obtain ⟨_, _, he, _, hl⟩ := h_out.slice; simp only [Value.slice.injEq, maxLen] at he hl; omega
 have hlo : out.length ≤ 4 := by have h4 := (lCheck_ship (m := d2) (by omega) (by omega)).2.2.2.1; have := List.length_filter_le (fun c : DCommit => decide ((d1.length : Int) < c.2.1)) (d2.2.2.2.2.2.2.2.take k); rw [ho]; simp only [List.length_take] at this; omega
 refine VC.seq (VC.rs (VO.mv (VO.y rfl (.fa rfl tst72 rfl) (VO.y rfl (.ld1 102 rfl tk61 rfl (cellsAt_one rfl rfl)) ?_))))
 refine VO.y rfl (.lenS rfl tsl61) ?_
 refine VO.y rfl (.lss rfl rfl) (VO.k16 0 1 2 5 6 7 8 9 10 13 19 28 33 38 45 54 ?_)
 refine VC.cond rfl (fun hc17 => ?_) (fun hc17 => ?_)
 refine VC.skip (outN (VC.seq (VC.block (VC.rs (VO.y rfl (.fa rfl tst72 rfl) (VO.y rfl (.ld1 102 rfl tk61 rfl (cellsAt_one rfl rfl)) (VO.mv ?_)))))))
 obtain ⟨x18, hx18⟩ : ∃ z_, (d2.2.2.2.2.2.2.2)[k]? = some z_ := ⟨_, List.getElem?_eq_getElem (by exact fin2_take18_ok)⟩
 obtain ⟨gg18, oo18, ec18, ea18, hce18, hre18⟩ := p2_7.elem hx18
 cases ea18
 obtain ⟨q18_A2, q18_c2, rfl, q18_0, q18_1, q18_2⟩ := open_Commit (x0 := x18.1) (x1 := x18.2.1) (x2 := x18.2.2) hre18
 simp only [inK] at q18_0 q18_1
 have q18_r2 := Rd.room q18_2
 refine VO.y rfl (.ixI k rfl rfl tsl61 rfl (by exact fin2_take18_ok)) ?_
 refine VO.y rfl (.fa rfl tst52 rfl) ?_
 refine VO.y rfl (.ld1 0 rfl tk3 rfl (hce18.at1 (j := 1) rfl)) ?_
 refine VO.mv ?_
 refine VO.y rfl (.lenS rfl tsl61) ?_
 refine VO.y rfl (.gtr rfl rfl) ?_
 refine VO.kp [116, 105, 102, 0] [(116, out_m), (105, mone g4 (.cells #[.int .i64 ((cFollows 0 0 d1).1), .int .i64 ((cFollows 0 0 d1).2)] 57 (0, 0))), (102, mone g1 (.cells #[.int .i64 (d2.1), .int .i64 (d2.2.1), .int .u8 (d2.2.2.1), .int .i64 (d2.2.2.2.1), .slice p2_A4 (d2.2.2.2.2.1.length) (p2_c4), .int .i64 (d2.2.2.2.2.2.1), .int .i64 (d2.2.2.2.2.2.2.1), .slice (some ⟨gg18, oo18, none⟩) (d2.2.2.2.2.2.2.2.length) (p2_c7)] 72 (0, 0))), (0, wm W)] ?_
 refine VO.k17 0 1 2 5 6 7 8 9 10 13 19 28 33 38 45 54 65 ?_
 refine VC.cond rfl (fun hc19 => ?_) (fun hc19 => ?_)
 refine VC.reg ?_
 refine VO.mv (VO.y rfl (.fa rfl tst72 rfl) (VO.y rfl (.ld1 102 rfl tk61 rfl (cellsAt_one rfl rfl)) (VO.mv ?_)))
 refine VO.y rfl (.ixI k rfl rfl tsl61 rfl (by exact fin2_take18_ok)) ?_
 refine VO.y rfl (.ldA 0 rfl tk52 rfl hce18) ?_
 refine VO.callN 121 rfl fnOk116 rfl (fun W hW => c4Copy_ok W (Rd.mono hre18 (hW.at (i := 0) rfl)) (by exact fin2_take18_ok)) (fun v21 m21 hv21 => ?_)
 obtain ⟨s21_0, rfl, f21_0⟩ := hv21
 obtain ⟨q21_0_A2, q21_0_c2, q21_0_n2, rfl, q21_0_S, q21_0_0, q21_0_1, q21_0_2⟩ := openO_Commit (x0 := x18.1) (x1 := x18.2.1) (x2 := x18.2.2) f21_0
 simp only [inK] at q21_0_0 q21_0_1
 have q21_0_r2 := q21_0_2.rm
 refine VO.inv _ (fun _ h => h.parts (i := 121) rfl q21_0_S [122]) ?_
 refine VO.bsl (cs := [Value.int .i64 (x18.1), Value.int .i64 (x18.2.1), Value.slice q21_0_A2 (x18.2.2.length) (q21_0_c2)]) 124 rfl rfl tsl61 tz52 rfl rfl (fun g23 => ?_)
 refine VO.appO (e := TCommit) 116 122 124 rfl rfl rfl tsl61 tz52 rfl rfl rfl rfl h_out (show Ow TCommit _ _ x18 from (mkO_Commit x18.1 x18.2.1 x18.2.2 (Seps.one (mle_refl _)) (by simp only [inK]; (exact fin2_take18_ok)) (by simp only [inK]; (exact fin2_take18_ok)) (OwnL.ow (Ow.ownl q21_0_2 rfl mnil) rfl))) Try.underlying61 (cellsAt_one rfl rfl) (by simp only [maxLen]; (exact fin2_take18_ok)) (by exact fin2_take18_ok) (by decide) (fun v25 m25 ho25 => ?_)
 obtain ⟨A25, c25, rfl, l25, k25⟩ := ho25.slice
 simp only [maxLen] at k25
 refine VO.as (VO.k17 0 1 2 5 6 7 8 9 10 13 19 28 33 38 45 54 65 (outBN (outN ?_)))
 refine VC.reg ?_
 refine VO.mv ?_
 refine VO.y rfl (.add (c := ((k + 1 : Nat) : Int)) rfl rfl (by omega) ⟨by exact fin2_take18_ok, by exact fin2_take18_ok⟩) ?_
 refine VO.as (VO.k17 0 1 2 5 6 7 8 9 10 13 19 28 33 38 45 54 65 ?_)
 exact outN ⟨⟨k + 1, out ++ [x18], A25, c25, m25⟩, ⟨by omega, by first | (rw [ho, filter_yes ‹d2.2.2.2.2.2.2.2[k]? = some _› (decide_eq_true (by omega))]) | (rw [ho, filter_no ‹d2.2.2.2.2.2.2.2[k]? = some _› (decide_eq_false (by omega))]), ho25⟩, by exact fin2_take18_ok, ⟨⟨rfl, rfl, rfl, rfl, rfl, rfl, rfl, rfl, rfl, rfl, rfl, rfl, rfl, rfl, rfl, trivial⟩, fun _ h => Inv.sub h [116, 105, 102, 0]⟩⟩
 refine VC.skip (outBN (outN ?_))
 refine VC.reg ?_
 refine VO.mv ?_
 refine VO.y rfl (.add (c := ((k + 1 : Nat) : Int)) rfl rfl (by omega) ⟨by exact fin2_take18_ok, by exact fin2_take18_ok⟩) ?_
 refine VO.as (VO.k17 0 1 2 5 6 7 8 9 10 13 19 28 33 38 45 54 65 ?_)
 exact outN ⟨⟨k + 1, out, out_A, out_c, out_m⟩, ⟨by omega, by first | (rw [ho, filter_yes ‹d2.2.2.2.2.2.2.2[k]? = some _› (decide_eq_true (by omega))]) | (rw [ho, filter_no ‹d2.2.2.2.2.2.2.2[k]? = some _› (decide_eq_false (by omega))]), h_out⟩, by exact fin2_take18_ok, ⟨⟨rfl, rfl, rfl, rfl, rfl, rfl, rfl, rfl, rfl, rfl, rfl, rfl, rfl, rfl, rfl, trivial⟩, fun _ h => Inv.sub h [116, 105, 102, 0]⟩⟩
 · refine VC.exit (outE (outE (outBB (outN (VC.rs (VO.mv (VO.as (VO.as ?_))))))))
   refine VO.kp [116, 105, 102, 0] [(116, out_m), (105, mone g4 (.cells #[.int .i64 ((cFollows 0 0 d1).1), .int .i64 ((cFollows 0 0 d1).2)] 57 (0, 0))), (102, mone g1 (.cells #[.int .i64 (d2.1), .int .i64 (d2.2.1), .int .u8 (d2.2.2.1), .int .i64 (d2.2.2.2.1), .slice p2_A4 (d2.2.2.2.2.1.length) (p2_c4), .int .i64 (d2.2.2.2.2.2.1), .int .i64 (d2.2.2.2.2.2.2.1), .slice p2_A7 (d2.2.2.2.2.2.2.2.length) (p2_c7)] 72 (0, 0))), (0, wm W)] ?_
   refine VO.k16 0 1 2 5 6 7 8 9 10 13 19 28 33 38 45 54 (VC.ret ?_)
   refine ⟨_, _, res_run (rs := [.tmp 6, .tmp 7]) rfl (.tmp rfl (.tmp rfl .nil)), fun W_ hI => out_of (l := [out_m]) hI [116] rfl rfl (mle_refl _) (fun hS_ => ?_)⟩
   dsimp only [packV]
   have he0 : ((takeOf d0 d1 d2).1 : Ty.Den (.sl TCommit)) = out := by first | rfl | (exact fin0_take18_ok)
   refine ⟨Value.slice out_A (out.length) (out_c), ?_, ?_⟩
   rotate_left
   · rw [he0]; exact (Ow.up h_out (hS_.1 _ (.head _)))
   all_goals (first | rfl | (exact fin1_take18_ok))
theorem fin0_known18_ok {P : Prop} (h : P := by first | (rw [known_check (by assumption)] <;> rfl) | (rw [known_stale (by assumption) (by omega)] <;> rfl) | (rw [known_later (by assumption) (by omega) (by omega)] <;> rfl) | (rw [known_yes18 (by assumption) (by omega) (by omega) (by omega)] <;> rfl) | (rw [known_no (by assumption) (by omega) (by omega) (by omega)] <;> rfl)) : P := h
theorem known18_ok (W : World) (d0 : Int) (h0 : inK .i64 d0) (d1 : Int) (h1 : inK .i64 d1) {v2 : List Value} {d2 : DMessage} (h2 : Rd TMessage (wm W) v2 d2) : CallR Try.prog 85 [.int .i64 d0, .int .i64 d1, .agg v2.toArray] W (mnil) (fun v m' => v = .tuple #[.int .i64 ((knownOf d0 d1 d2).1), .bool (decide ((knownOf d0 d1 d2).2.1 = true)), .int .i64 ((knownOf d0 d1 d2).2.2)]) := by
 have h0' := h0; simp only [inK] at h0'
 have h1' := h1; simp only [inK] at h1'
 obtain ⟨p2_A4, p2_c4, p2_A7, p2_c7, rfl, p2_0, p2_1, p2_2, p2_3, p2_4, p2_5, p2_6, p2_7⟩ := open_Message (x0 := d2.1) (x1 := d2.2.1) (x2 := d2.2.2.1) (x3 := d2.2.2.2.1) (x4 := d2.2.2.2.2.1) (x5 := d2.2.2.2.2.2.1) (x6 := d2.2.2.2.2.2.2.1) (x7 := d2.2.2.2.2.2.2.2) h2
 simp only [inK] at p2_0 p2_1 p2_2 p2_3
 have p2_r4 := Rd.room p2_4
 simp only [inK] at p2_5 p2_6
 have p2_r7 := Rd.room p2_7
 refine CallR.ofA (n := 43) Try.func85 rfl rfl rfl ?_
 refine VC.rs ?_
 refine VO.box (cs := [.int .i64 (d2.1), .int .i64 (d2.2.1), .int .u8 (d2.2.2.1), .int .i64 (d2.2.2.2.1), .slice p2_A4 (d2.2.2.2.2.1.length) (p2_c4), .int .i64 (d2.2.2.2.2.2.1), .int .i64 (d2.2.2.2.2.2.2.1), .slice p2_A7 (d2.2.2.2.2.2.2.2.length) (p2_c7)]) 102 rfl rfl rfl (fun g1 => ?_)
 refine VO.as (VO.as (VO.as (VO.k7 0 1 2 5 6 7 8 (VC.seq (VC.block (VC.rs (VO.y rfl (.ldA 102 rfl tk72 rfl (cellsAt_one rfl rfl)) ?_)))))))
 refine VO.callN 103 rfl fnOk121 rfl (fun W hW => check11_ok W (Rd.mono h2 (hW.at (i := 0) rfl))) (fun v3 m3 hv3 => ?_)
 subst hv3
 have hfa4 := lCheck_range d2
 refine VO.y rfl (.neq rfl rfl) (VO.as (VO.k8 0 1 2 5 6 7 8 9 ?_))
 refine VC.cond rfl (fun hc5 => ?_) (fun hc5 => ?_)
 · refine VC.rs (VO.as (VO.as (VO.as ?_)))
   refine VO.kp [102, 0] [(102, mone g1 (.cells #[.int .i64 (d2.1), .int .i64 (d2.2.1), .int .u8 (d2.2.2.1), .int .i64 (d2.2.2.2.1), .slice p2_A4 (d2.2.2.2.2.1.length) (p2_c4), .int .i64 (d2.2.2.2.2.2.1), .int .i64 (d2.2.2.2.2.2.2.1), .slice p2_A7 (d2.2.2.2.2.2.2.2.length) (p2_c7)] 72 (0, 0))), (0, wm W)] ?_
   refine VO.k8 0 1 2 5 6 7 8 9 (VC.ret (outBR (outR ?_)))
   refine ⟨_, _, res_run (rs := [.tmp 6, .tmp 7, .tmp 8]) rfl (.tmp rfl (.tmp rfl (.tmp rfl .nil))), fun W_ hI => out_of (l := []) hI [] rfl rfl (mle_refl _) (fun hS_ => ?_)⟩
   dsimp only [packV]
   all_goals (first | rfl | (exact fin0_known18_ok))
 refine VC.rs (VO.y rfl (.fa rfl tst72 rfl) (VO.y rfl (.ld1 102 rfl tk3 rfl (cellsAt_one rfl rfl)) (VO.mv (VO.y rfl (.lss rfl rfl) (VO.as ?_)))))
 refine VO.kp [102, 0] [(102, mone g1 (.cells #[.int .i64 (d2.1), .int .i64 (d2.2.1), .int .u8 (d2.2.2.1), .int .i64 (d2.2.2.2.1), .slice p2_A4 (d2.2.2.2.2.1.length) (p2_c4), .int .i64 (d2.2.2.2.2.2.1), .int .i64 (d2.2.2.2.2.2.2.1), .slice p2_A7 (d2.2.2.2.2.2.2.2.length) (p2_c7)] 72 (0, 0))), (0, wm W)] ?_
 refine VO.k9 0 1 2 5 6 7 8 9 13 ?_
 refine VC.cond rfl (fun hc6 => ?_) (fun hc6 => ?_)
 · refine VC.rs (VO.as (VO.as (VO.as (VO.k9 0 1 2 5 6 7 8 9 13 (VC.ret (outBR (outR ?_)))))))
   refine ⟨_, _, res_run (rs := [.tmp 6, .tmp 7, .tmp 8]) rfl (.tmp rfl (.tmp rfl (.tmp rfl .nil))), fun W_ hI => out_of (l := []) hI [] rfl rfl (mle_refl _) (fun hS_ => ?_)⟩
   dsimp only [packV]
   all_goals (first | rfl | (exact fin0_known18_ok))
 refine VC.rs (VO.y rfl (.fa rfl tst72 rfl) (VO.y rfl (.ld1 102 rfl tk3 rfl (cellsAt_one rfl rfl)) (VO.mv (VO.y rfl (.gtr rfl rfl) (VO.as (VO.k10 0 1 2 5 6 7 8 9 13 18 ?_))))))
 refine VC.cond rfl (fun hc7 => ?_) (fun hc7 => ?_)
 · refine VC.rs (VO.as (VO.as (VO.as (VO.k10 0 1 2 5 6 7 8 9 13 18 (VC.ret (outBR (outR ?_)))))))
   refine ⟨_, _, res_run (rs := [.tmp 6, .tmp 7, .tmp 8]) rfl (.tmp rfl (.tmp rfl (.tmp rfl .nil))), fun W_ hI => out_of (l := []) hI [] rfl rfl (mle_refl _) (fun hS_ => ?_)⟩
   dsimp only [packV]
   all_goals (first | rfl | (exact fin0_known18_ok))
 refine VC.rs (VO.y rfl (.fa rfl tst72 rfl) (VO.y rfl (.ld1 102 rfl tk3 rfl (cellsAt_one rfl rfl)) (VO.y rfl (.eql rfl rfl) (VO.mv ?_))))
 refine VO.dec (t := 27) rfl (fun hc8 => ?_) (fun hc8 => ?_)
 · refine VO.gN (VO.gN (VO.gN (VO.gN ?_)))
   refine VO.gn rfl (.inr ⟨_, rfl, rfl⟩) ?_
   refine VO.gn rfl (.inr ⟨_, rfl, rfl⟩) ?_
   refine VO.gn rfl (.inr ⟨_, rfl, rfl⟩) ?_
   refine VO.gN (VO.y rfl (.pT rfl rfl) (VO.as (VO.k11 0 1 2 5 6 7 8 9 13 18 23 (VC.condT rfl (VC.rs (VO.mv (VO.y rfl (.fa rfl tst72 rfl) (VO.y rfl (.ld1 102 rfl tk3 rfl (cellsAt_one rfl rfl)) (VO.y rfl (.maxM rfl rfl) (VO.as (VO.as ?_)))))))))))
   refine VO.as ?_
   refine VO.kp [102, 0] [(102, mone g1 (.cells #[.int .i64 (d2.1), .int .i64 (d2.2.1), .int .u8 (d2.2.2.1), .int .i64 (d2.2.2.2.1), .slice p2_A4 (d2.2.2.2.2.1.length) (p2_c4), .int .i64 (d2.2.2.2.2.2.1), .int .i64 (d2.2.2.2.2.2.2.1), .slice p2_A7 (d2.2.2.2.2.2.2.2.length) (p2_c7)] 72 (0, 0))), (0, wm W)] ?_
   refine VO.k11 0 1 2 5 6 7 8 9 13 18 23 (VC.ret (outBR (outR ?_)))
   refine ⟨_, _, res_run (rs := [.tmp 6, .tmp 7, .tmp 8]) rfl (.tmp rfl (.tmp rfl (.tmp rfl .nil))), fun W_ hI => out_of (l := []) hI [] rfl rfl (mle_refl _) (fun hS_ => ?_)⟩
   dsimp only [packV]
   all_goals (first | rfl | (exact fin0_known18_ok))
 refine VO.gy rfl ⟨_, rfl, rfl⟩ (.fa rfl tst72 rfl) ?_
 refine VO.gy rfl ⟨_, rfl, rfl⟩ (.ld1 102 rfl tk3 rfl (cellsAt_one rfl rfl)) ?_
 refine VO.gy rfl ⟨_, rfl, rfl⟩ (.eql rfl rfl) (VO.gy rfl ⟨_, rfl, rfl⟩ (.mv rfl) ?_)
 refine VO.dec (t := 31) rfl (fun hc9 => ?_) (fun hc9 => ?_)
 refine VO.gy rfl ⟨_, rfl, rfl⟩ (.fa rfl tst72 rfl) ?_
 refine VO.gy rfl ⟨_, rfl, rfl⟩ (.ld1 102 rfl tk69 rfl (cellsAt_one rfl rfl)) ?_
 refine VO.gy rfl ⟨_, rfl, rfl⟩ (.eql rfl rfl) (VO.gy rfl ⟨_, rfl, rfl⟩ (.pT rfl rfl) (VO.y rfl (.pF rfl rfl) (VO.as (VO.k11 0 1 2 5 6 7 8 9 13 18 23 ?_))))
 refine VC.cond rfl (fun hc10 => ?_) (fun hc10 => ?_)
 · refine VC.rs (VO.mv (VO.y rfl (.fa rfl tst72 rfl) (VO.y rfl (.ld1 102 rfl tk3 rfl (cellsAt_one rfl rfl)) (VO.y rfl (.maxM rfl rfl) (VO.as (VO.as (VO.as ?_)))))))
   refine VO.kp [102, 0] [(102, mone g1 (.cells #[.int .i64 (d2.1), .int .i64 (d2.2.1), .int .u8 (d2.2.2.1), .int .i64 (d2.2.2.2.1), .slice p2_A4 (d2.2.2.2.2.1.length) (p2_c4), .int .i64 (d2.2.2.2.2.2.1), .int .i64 (d2.2.2.2.2.2.2.1), .slice p2_A7 (d2.2.2.2.2.2.2.2.length) (p2_c7)] 72 (0, 0))), (0, wm W)] ?_
   refine VO.k11 0 1 2 5 6 7 8 9 13 18 23 (VC.ret (outBR (outR ?_)))
   refine ⟨_, _, res_run (rs := [.tmp 6, .tmp 7, .tmp 8]) rfl (.tmp rfl (.tmp rfl (.tmp rfl .nil))), fun W_ hI => out_of (l := []) hI [] rfl rfl (mle_refl _) (fun hS_ => ?_)⟩
   dsimp only [packV]
   all_goals (first | rfl | (exact fin0_known18_ok))
 · refine VC.skip (outBN (outN (VC.rs (VO.mv (VO.y rfl (.maxM rfl rfl) (VO.as (VO.as (VO.as ?_))))))))
   refine VO.kp [102, 0] [(102, mone g1 (.cells #[.int .i64 (d2.1), .int .i64 (d2.2.1), .int .u8 (d2.2.2.1), .int .i64 (d2.2.2.2.1), .slice p2_A4 (d2.2.2.2.2.1.length) (p2_c4), .int .i64 (d2.2.2.2.2.2.1), .int .i64 (d2.2.2.2.2.2.2.1), .slice p2_A7 (d2.2.2.2.2.2.2.2.length) (p2_c7)] 72 (0, 0))), (0, wm W)] ?_
   refine VO.k11 0 1 2 5 6 7 8 9 13 18 23 (VC.ret ?_)
   refine ⟨_, _, res_run (rs := [.tmp 6, .tmp 7, .tmp 8]) rfl (.tmp rfl (.tmp rfl (.tmp rfl .nil))), fun W_ hI => out_of (l := []) hI [] rfl rfl (mle_refl _) (fun hS_ => ?_)⟩
   dsimp only [packV]
   all_goals (first | rfl | (exact fin0_known18_ok))
 · refine VO.gN (VO.gN (VO.gN (VO.gy rfl ⟨_, rfl, rfl⟩ (.pF rfl rfl) (VO.y rfl (.pF rfl rfl) (VO.as (VO.k11 0 1 2 5 6 7 8 9 13 18 23 (VC.condF rfl (VC.skip (outBN (outN (VC.rs ?_)))))))))))
   refine VO.mv (VO.y rfl (.maxM rfl rfl) (VO.as (VO.as (VO.as ?_))))
   refine VO.kp [102, 0] [(102, mone g1 (.cells #[.int .i64 (d2.1), .int .i64 (d2.2.1), .int .u8 (d2.2.2.1), .int .i64 (d2.2.2.2.1), .slice p2_A4 (d2.2.2.2.2.1.length) (p2_c4), .int .i64 (d2.2.2.2.2.2.1), .int .i64 (d2.2.2.2.2.2.2.1), .slice p2_A7 (d2.2.2.2.2.2.2.2.length) (p2_c7)] 72 (0, 0))), (0, wm W)] ?_
   refine VO.k11 0 1 2 5 6 7 8 9 13 18 23 (VC.ret ?_)
   refine ⟨_, _, res_run (rs := [.tmp 6, .tmp 7, .tmp 8]) rfl (.tmp rfl (.tmp rfl (.tmp rfl .nil))), fun W_ hI => out_of (l := []) hI [] rfl rfl (mle_refl _) (fun hS_ => ?_)⟩
   dsimp only [packV]
   all_goals (first | rfl | (exact fin0_known18_ok))
theorem CopyStarts_ok (W : World) {v0 : Value} {d0 : List DStart} (h0 : Rd (.sl TStart) (wm W) [v0] d0) (e0 : d0.length ≤ 8796093020000) : CallR Try.prog 142 [v0] W (mnil) (fun v m' => ∃ (s0 : Value), v = s0 ∧ Ow (.sl TStart) m' [s0] (d0)) := by
 obtain ⟨A0, c0, rfl, l0, k0⟩ := h0.slice
 simp only [maxLen] at k0
 refine CallR.ofA (n := 6) Try.func142 rfl rfl rfl ?_
 refine VC.rs (VO.as (VO.k2 0 2 (VC.rs ?_)))
 refine VO.bsl (cs := []) 102 rfl rfl tsl70 tz90 rfl rfl (fun g1 => ?_)
 refine VO.mv ?_
 have ho4 : OwnL TStart (mone g1 (.cells [].toArray 90 (0, 0))) mnil (Value.slice (some ⟨g1, 0, none⟩) (0) (0)) [] := OwnL.lit 0 All2c.nil rfl rfl
 obtain ⟨mo3, cs3, hM3, hA3, hC3⟩ := ho4
 obtain ⟨all3, hS3, hR3⟩ := Rd.srcI (P := Try.prog) (h0) Try.underlying70
 refine VO.app 102 rfl rfl rfl tsl70 tz90 rfl rfl hM3 hA3 (hS3 _ 0 rfl) hR3.nice bdm bd (by decide) (fun v3 m3 hN3 => ?_)
 have ho3 : OwnL TStart m3 mnil v3 (d0) := OwnL.more hC3 hN3 (All2c.mono hR3 fun _ _ h => Rd.flat rfl h _)
 obtain ⟨A3, c3, rfl, l3, k3⟩ := ho3.slice
 simp only [maxLen] at k3
 refine VO.as (VO.k2 0 2 (VC.ret ?_))
 refine ⟨_, _, res_run (rs := [.tmp 2]) rfl (.tmp rfl .nil), fun W_ hI => out_of (l := [m3]) hI [102] rfl rfl (mle_refl _) (fun hS_ => ?_)⟩
 dsimp only [packV]
 have he0 : (d0 : Ty.Den (.sl TStart)) = d0 := by first | rfl | (simp [*]; done)
 refine ⟨Value.slice A3 ((d0).length) (c3), ?_, ?_⟩
 rotate_left
 · rw [he0]; exact (Ow.up (OwnL.ow ho3 rfl) (hS_.1 _ (.head _)))
 all_goals (first | rfl | (simp [*]; done))
theorem LentStarts_ok (W : World) {v0 : Value} {d0 : List DStart} (h0 : Rd (.sl TStart) (wm W) [v0] d0) (e0 : d0.length ≤ 8796093020000) : CallR Try.prog 120 [v0] W (mnil) (fun v m' => ∃ (s0 : Value), v = s0 ∧ Ow (.sl TStart) m' [s0] (d0 ++ spareS)) := by
 obtain ⟨A0, c0, rfl, l0, k0⟩ := h0.slice
 simp only [maxLen] at k0
 refine CallR.ofA (n := 17) Try.func120 rfl rfl rfl ?_
 refine VC.rs (VO.as (VO.k2 0 2 (VC.rs (VO.mv ?_))))
 refine VO.callN 101 rfl fnOk142 rfl (fun W hW => CopyStarts_ok W (Rd.mono h0 (hW.at (i := 0) rfl)) bd) (fun v1 m1 hv1 => ?_)
 obtain ⟨s1_0, rfl, f1_0⟩ := hv1
 obtain ⟨A1_0, c1_0, eq1_0, l1_0, k1_0⟩ := f1_0.slice
 subst eq1_0
 simp only [maxLen] at k1_0
 refine VO.as (VO.k3 0 2 3 (VC.seq (VC.rs (VO.as ?_))))
 refine VO.kp [101, 0] [(101, m1), (0, wm W)] ?_
 refine VO.k4 0 2 3 4 (VC.block ?_)
 refine VC.loop (G := Nat × (List DStart) × (Option Addr) × Nat × Mem) (fun g => [(3, .slice (g.2.2.1) ((g.2.1).length) ((g.2.2.2.1))), (4, .int .i64 ((((g.1) : Nat) : Int))), (0, .slice A0 (d0.length) (c0)), (2, .slice none (0) (0))]) (fun g => [(101, (g.2.2.2.2)), (0, wm W)]) (fun g => ((g.1) ≤ 3) ∧ ((g.2.1) = d0 ++ spareS.take (g.1)) ∧ (OwnL TStart (g.2.2.2.2) mnil (.slice (g.2.2.1) (g.2.1).length (g.2.2.2.1)) (g.2.1))) (fun g => 3 - (g.1)) (0, d0, A1_0, c1_0, m1) (⟨by omega, by simp, (Ow.ownl f1_0 rfl mnil)⟩) ⟨⟨rfl, rfl, rfl, rfl, trivial⟩, fun _ h => h.sub [101, 0]⟩ ?_
 rintro ⟨k, out, out_A, out_c, out_m⟩ ⟨hk, ho, h_out⟩
 replace hk : k ≤ 3 := hk
 replace ho : out = d0 ++ spareS.take k := ho
 replace h_out : OwnL TStart out_m mnil (.slice out_A out.length out_c) out := h_out
 show VC _ _ _ _ _ [(3, .slice out_A (out.length) (out_c)), (4, .int .i64 (((k : Nat) : Int))), (0, .slice A0 (d0.length) (c0)), (2, .slice none (0) (0))] [(101, out_m), (0, wm W)]
 have l_out : out.length ≤ out_c := by obtain ⟨_, _, he, hl, _⟩ := h_out.slice; simp only [Value.slice.injEq] at he; omega
 have k_out : out_c ≤ 9223372036854775807 := by obtain ⟨_, _, he, _, hl⟩ := h_out.slice; simp only [Value.slice.injEq, maxLen] at he hl; omega
 have hlo : out.length ≤ d0.length + 3 := by rw [ho]; simp [spareS]; omega
 refine VC.seq (VC.rs (VO.mv (VO.y rfl (.lss rfl rfl) (VO.k5 0 2 3 4 8 ?_))))
 refine VC.cond rfl (fun hc2 => ?_) (fun hc2 => ?_)
 refine VC.skip (outN (VC.seq (VC.block ?_)))
 refine VC.reg ?_
 refine VO.mv (VO.mv ?_)
 refine VO.y rfl (.bst (cs := [.int .i64 ((-5)), .int .i64 (((k : Nat) : Int))]) rfl tst90 tz90 rfl) ?_
 refine VO.bsl (cs := [Value.int .i64 ((-5)), Value.int .i64 (((k : Nat) : Int))]) 104 rfl rfl tsl70 tz90 rfl rfl (fun g3 => ?_)
 obtain ⟨mo5, cs5, hM5, hA5, hC5⟩ := h_out
 refine VO.app 101 rfl rfl rfl tsl70 tz90 rfl rfl hM5 hA5 (.row 104 _ _ _ 1 1 _ _ Try.underlying70 rfl (cellsAt_one rfl rfl)) (by simp [Value.oneCell']) bdm bd (by decide) (fun v5 m5 hN5 => ?_)
 have ho5 : OwnL TStart m5 mnil v5 (out ++ [((-5), ((k : Nat) : Int))]) := OwnL.one hC5 hN5 (mk_Start (m := _) (-5) ((k : Nat) : Int) bdk bdk)
 obtain ⟨A5, c5, rfl, l5, k5⟩ := ho5.slice
 simp only [maxLen] at k5
 refine VO.as (VO.k5 0 2 3 4 8 (outBN (outN ?_)))
 refine VC.reg ?_
 refine VO.mv ?_
 refine VO.y rfl (.add (c := ((k + 1 : Nat) : Int)) rfl rfl (by omega) ⟨bd, bd⟩) ?_
 refine VO.as ?_
 refine VO.kp [101, 0] [(101, m5), (0, wm W)] ?_
 refine VO.k5 0 2 3 4 8 ?_
 exact outN ⟨⟨k + 1, out ++ [((-5), ((k : Nat) : Int))], A5, c5, m5⟩, ⟨by omega, by exact spareS_next ho (by omega), ho5⟩, bd, ⟨⟨rfl, rfl, rfl, rfl, trivial⟩, fun _ h => Inv.sub h [101, 0]⟩⟩
 · refine VC.exit (outE (outE (outBB (outN (VC.rs (VO.mv (VO.as (VO.k5 0 2 3 4 8 (VC.ret ?_)))))))))
   refine ⟨_, _, res_run (rs := [.tmp 2]) rfl (.tmp rfl .nil), fun W_ hI => out_of (l := [out_m]) hI [101] rfl rfl (mle_refl _) (fun hS_ => ?_)⟩
   dsimp only [packV]
   have he0 : (d0 ++ spareS : Ty.Den (.sl TStart)) = out := by first | rfl | (have : k = 3 := (by omega); subst this; exact ho.symm)
   refine ⟨Value.slice out_A (out.length) (out_c), ?_, ?_⟩
   rotate_left
   · rw [he0]; exact (Ow.up (OwnL.ow h_out rfl) (hS_.1 _ (.head _)))
   all_goals (first | rfl | (simp [*]; done))
theorem KeptStarts_ok (W : World) {v0 : Value} {d0 : List DStart} (h0 : Rd (.sl TStart) (wm W) [v0] d0) {v1 : Value} {d1 : List DStart} (h1 : Rd (.sl TStart) (wm W) [v1] d1) (e0 : d1.length ≤ 8796093020000) : CallR Try.prog 123 [v0, v1] W (mnil) (fun v m' => v = .bool (decide (d0 = d1 ++ spareS))) := by
 obtain ⟨A0, c0, rfl, l0, k0⟩ := h0.slice
 simp only [maxLen] at k0
 obtain ⟨A1, c1, rfl, l1, k1⟩ := h1.slice
 simp only [maxLen] at k1
 refine CallR.ofA (n := 9) Try.func123 rfl rfl rfl ?_
 refine VC.rs (VO.as (VO.k3 0 1 4 (VC.rs (VO.mv (VO.mv ?_)))))
 refine VO.callN 101 rfl fnOk120 rfl (fun W hW => LentStarts_ok W (Rd.mono h1 (hW.at (i := 0) rfl)) bd) (fun v1 m1 hv1 => ?_)
 obtain ⟨s1_0, rfl, f1_0⟩ := hv1
 obtain ⟨A1_0, c1_0, eq1_0, l1_0, k1_0⟩ := f1_0.slice
 subst eq1_0
 simp only [maxLen] at k1_0
 refine VO.callN 102 rfl fnOk113 rfl (fun W hW => SameStarts_ok W (Rd.mono h0 (hW.at (i := 0) rfl)) (OwnL.rd (Ow.ownl f1_0 rfl mnil) (hW.at (i := 101) rfl) (mle_nil _))) (fun v2 m2 hv2 => ?_)
 subst hv2
 refine VO.as (VO.k3 0 1 4 (VC.ret ?_))
 refine ⟨_, _, res_run (rs := [.tmp 4]) rfl (.tmp rfl .nil), fun W_ hI => out_of (l := []) hI [] rfl rfl (mle_refl _) (fun hS_ => ?_)⟩
 dsimp only [packV]
 all_goals (first | rfl | (rfl))
theorem LentMessage_ok (W : World) {v0 : List Value} {d0 : DMessage} (h0 : Rd TMessage (wm W) v0 d0) (e0 : d0.2.2.2.2.1.length ≤ 8796093020000) (e1 : d0.2.2.2.2.2.2.2.length ≤ 3518437200000) (e2 : ∀ c ∈ d0.2.2.2.2.2.2.2, c.2.2.length ≤ 3518437208800) : CallR Try.prog 83 [.agg v0.toArray] W (mnil) (fun v m' => ∃ (s0 : List Value), v = .agg s0.toArray ∧ Ow TLMessage m' s0 (lentM d0)) := by
 obtain ⟨p0_A4, p0_c4, p0_A7, p0_c7, rfl, p0_0, p0_1, p0_2, p0_3, p0_4, p0_5, p0_6, p0_7⟩ := open_Message (x0 := d0.1) (x1 := d0.2.1) (x2 := d0.2.2.1) (x3 := d0.2.2.2.1) (x4 := d0.2.2.2.2.1) (x5 := d0.2.2.2.2.2.1) (x6 := d0.2.2.2.2.2.2.1) (x7 := d0.2.2.2.2.2.2.2) h0
 simp only [inK] at p0_0 p0_1 p0_2 p0_3
 have p0_r4 := Rd.room p0_4
 simp only [inK] at p0_5 p0_6
 have p0_r7 := Rd.room p0_7
 refine CallR.ofA (n := 20) Try.func83 rfl rfl rfl ?_
 refine VC.rs ?_
 refine VO.box (cs := [.int .i64 (d0.1), .int .i64 (d0.2.1), .int .u8 (d0.2.2.1), .int .i64 (d0.2.2.2.1), .slice p0_A4 (d0.2.2.2.2.1.length) (p0_c4), .int .i64 (d0.2.2.2.2.2.1), .int .i64 (d0.2.2.2.2.2.2.1), .slice p0_A7 (d0.2.2.2.2.2.2.2.length) (p0_c7)]) 102 rfl rfl rfl (fun g1 => ?_)
 refine VO.alloc 104 rfl tz72 (fun g3 => ?_)
 refine VO.k3 0 1 2 (VC.seq ?_)
 refine VC.regD _ 6 [(0, true), (1, true), (3, true), (4, true), (5, true), (2, false)] follows (by kernel_rfl) (fun _ h => h.sub [104, 102, 0]) ?_
 refine VD.y rfl rfl (.inl rfl) (.fa rfl tst72 rfl) (VD.y rfl rfl (.inl rfl) (.ld1 102 rfl tk70 rfl (cellsAt_one rfl rfl)) (VD.y rfl rfl (.inl rfl) (.fa rfl tst72 rfl) (VD.y rfl rfl (.inl rfl) (.ld1 102 rfl tk70 rfl (cellsAt_one rfl rfl)) ?_)))
 refine VD.y rfl rfl (.inl rfl) (.lenS rfl tsl70) ?_
 refine VD.callN 105 rfl rfl (.inl rfl) fnOk120 rfl (fun _ h => h.sub [104, 102, 0]) (fun W hW => LentStarts_ok W (Rd.mono p0_4 (hW.at (i := 0) rfl)) bd) (fun v5 m5 hv5 => ?_)
 obtain ⟨s5_0, rfl, f5_0⟩ := hv5
 obtain ⟨A5_0, c5_0, eq5_0, l5_0, k5_0⟩ := f5_0.slice
 subst eq5_0
 simp only [maxLen] at k5_0
 refine VD.nil rfl ?_ rfl
 have hs6 := (OwnL.rd (Ow.ownl f5_0 rfl mnil) (mle_refl _) (mle_nil _)).pre (j := d0.2.2.2.2.1.length) bd
 rw [List.take_left] at hs6
 refine VO.y rfl (.slHI d0.2.2.2.2.1.length rfl rfl tsl70 rfl bd) ?_
 refine VO.y rfl (.fa rfl tst72 rfl) ?_
 refine VO.store (k := 1) 102 rfl rfl (.inr ⟨tk70, rfl⟩) rfl rfl rfl rfl rfl ?_
 refine VO.k3 0 1 2 (outN (VC.seq ?_))
 refine VC.regD _ 6 [(0, true), (1, true), (3, true), (4, true), (5, true), (2, false)] follows (by kernel_rfl) (fun _ h => h.sub [105, 104, 102, 0]) ?_
 refine VD.y rfl rfl (.inl rfl) (.fa rfl tst72 rfl) (VD.y rfl rfl (.inl rfl) (.ld1 102 rfl tk61 rfl (cellsAt_one rfl rfl)) (VD.y rfl rfl (.inl rfl) (.fa rfl tst72 rfl) (VD.y rfl rfl (.inl rfl) (.ld1 102 rfl tk61 rfl (cellsAt_one rfl rfl)) ?_)))
 refine VD.y rfl rfl (.inl rfl) (.lenS rfl tsl61) ?_
 refine VD.callN 107 rfl rfl (.inl rfl) fnOk53 rfl (fun _ h => h.sub [105, 104, 102, 0]) (fun W hW => LentCommits_ok W (Rd.mono p0_7 (hW.at (i := 0) rfl)) bd (by assumption)) (fun v7 m7 hv7 => ?_)
 obtain ⟨s7_0, rfl, f7_0⟩ := hv7
 have hfa8 := lent_len d0.2.2.2.2.2.2.2
 obtain ⟨A7_0, c7_0, eq7_0, l7_0, k7_0⟩ := f7_0.slice
 subst eq7_0
 simp only [maxLen] at k7_0
 refine VD.nil rfl ?_ rfl
 have hs9 := (Ow.rd f7_0 (mle_refl _)).pre (j := d0.2.2.2.2.2.2.2.length) bd
 refine VO.y rfl (.slHI d0.2.2.2.2.2.2.2.length rfl rfl tsl61 rfl bd) ?_
 refine VO.y rfl (.fa rfl tst72 rfl) ?_
 refine VO.store (k := 1) 102 rfl rfl (.inr ⟨tk61, rfl⟩) rfl rfl rfl rfl rfl ?_
 refine VO.kp [107, 105, 104, 102, 0] [(107, m7), (105, m5), (104, mone g3 (.cells #[.int .i64 (0), .int .i64 (0), .int .u8 (0), .int .i64 (0), .slice none (0) (0), .int .i64 (0), .int .i64 (0), .slice none (0) (0)] 72 (0, 0))), (102, mone g1 (.cells #[.int .i64 (d0.1), .int .i64 (d0.2.1), .int .u8 (d0.2.2.1), .int .i64 (d0.2.2.2.1), .slice A5_0 (d0.2.2.2.2.1.length) (c5_0), .int .i64 (d0.2.2.2.2.2.1), .int .i64 (d0.2.2.2.2.2.2.1), .slice A7_0 (d0.2.2.2.2.2.2.2.length) (c7_0)] 72 (0, 0))), (0, wm W)] ?_
 refine VO.k3 0 1 2 (outN (VC.rs (VO.y rfl (.ldA 102 rfl tk72 rfl (cellsAt_one rfl rfl)) ?_)))
 refine VO.store (k := 8) 104 rfl rfl (.inl tk72) rfl rfl rfl rfl rfl ?_
 refine VO.k3 0 1 2 (VC.ret ?_)
 refine ⟨_, _, res_run (rs := [.cell 2 72]) rfl (.agg 104 rfl tk72 rfl ⟨_, _, _, mone_self _ _, Nat.le_of_ble_eq_true rfl, rfl⟩ .nil), fun W_ hI => out_of (l := [m5, m7]) hI [105, 107] rfl rfl (mle_refl _) (fun hS_ => ?_)⟩
 dsimp only [packV]
 have he0 : (lentM d0 : Ty.Den TLMessage) = (d0.1, d0.2.1, d0.2.2.1, d0.2.2.2.1, (d0.2.2.2.2.1, spareS), d0.2.2.2.2.2.1, d0.2.2.2.2.2.2.1, (d0.2.2.2.2.2.2.2.map lentC, spareC)) := by first | rfl | (simp [*]; done)
 refine ⟨[Value.int .i64 (d0.1), Value.int .i64 (d0.2.1), Value.int .u8 (d0.2.2.1), Value.int .i64 (d0.2.2.2.1), Value.slice A5_0 (d0.2.2.2.2.1.length) (c5_0), Value.int .i64 (d0.2.2.2.2.2.1), Value.int .i64 (d0.2.2.2.2.2.2.1), Value.slice A7_0 (d0.2.2.2.2.2.2.2.length) (c7_0)], ?_, ?_⟩
 rotate_left
 · rw [he0]; exact (mkO_LMessage d0.1 d0.2.1 d0.2.2.1 d0.2.2.2.1 (d0.2.2.2.2.1, spareS) d0.2.2.2.2.2.1 d0.2.2.2.2.2.2.1 (d0.2.2.2.2.2.2.2.map lentC, spareC) hS_ bdk bdk bdk bdk (Ow.mkSpl (e := TStart) (xs := d0.2.2.2.2.1) (ys := spareS) (OwnL.ow (Ow.ownl f5_0 rfl mnil) rfl) (by first | rfl | simp)) bdk bdk (Ow.mkSpl (e := TLCommit) (xs := (d0.2.2.2.2.2.2.2.map lentC)) (ys := spareC) f7_0 (by first | rfl | simp)))
 all_goals (first | rfl | (simp [*]; done))
theorem KeptMessage_ok (W : World) {v0 : List Value} {d0 : DLMessage} (h0 : Rd TLMessage (wm W) v0 d0) {v1 : List Value} {d1 : DMessage} (h1 : Rd TMessage (wm W) v1 d1) (e0 : d0 = lentM d1) (e1 : d1.2.2.2.2.1.length ≤ 8796093020000) (e2 : d1.2.2.2.2.2.2.2.length ≤ 3518437200000) (e3 : ∀ c ∈ d1.2.2.2.2.2.2.2, c.2.2.length ≤ 3518437208800) : CallR Try.prog 86 [.agg v0.toArray, .agg v1.toArray] W (mnil) (fun v m' => v = .bool true) := by
 have ea : (d0.2.2.2.2.1.1 ++ d0.2.2.2.2.1.2).length = d1.2.2.2.2.1.length + 3 := (by rw [e0]; simp [lentM, spareS]); have eb : (d0.2.2.2.2.2.2.2.1 ++ d0.2.2.2.2.2.2.2.2).length = d1.2.2.2.2.2.2.2.length + 3 := (by rw [e0]; simp [lentM, spareC])
 obtain ⟨p0_A4, p0_c4, p0_A7, p0_c7, rfl, p0_0, p0_1, p0_2, p0_3, p0_4, p0_5, p0_6, p0_7⟩ := open_LMessage (x0 := d0.1) (x1 := d0.2.1) (x2 := d0.2.2.1) (x3 := d0.2.2.2.1) (x4 := d0.2.2.2.2.1) (x5 := d0.2.2.2.2.2.1) (x6 := d0.2.2.2.2.2.2.1) (x7 := d0.2.2.2.2.2.2.2) h0
 simp only [inK] at p0_0 p0_1 p0_2 p0_3
 have p0_f4 := (Rd.full p0_4).2
 have p0_s4 := Rd.pre2 p0_f4
 have p0_r4 := Rd.room p0_f4
 simp only [inK] at p0_5 p0_6
 have p0_f7 := (Rd.full p0_7).2
 have p0_s7 := Rd.pre2 p0_f7
 have p0_r7 := Rd.room p0_f7
 obtain ⟨p1_A4, p1_c4, p1_A7, p1_c7, rfl, p1_0, p1_1, p1_2, p1_3, p1_4, p1_5, p1_6, p1_7⟩ := open_Message (x0 := d1.1) (x1 := d1.2.1) (x2 := d1.2.2.1) (x3 := d1.2.2.2.1) (x4 := d1.2.2.2.2.1) (x5 := d1.2.2.2.2.2.1) (x6 := d1.2.2.2.2.2.2.1) (x7 := d1.2.2.2.2.2.2.2) h1
 simp only [inK] at p1_0 p1_1 p1_2 p1_3
 have p1_r4 := Rd.room p1_4
 simp only [inK] at p1_5 p1_6
 have p1_r7 := Rd.room p1_7
 refine CallR.ofA (n := 31) Try.func86 rfl rfl rfl ?_
 refine VC.rs ?_
 refine VO.box (cs := [.int .i64 (d0.1), .int .i64 (d0.2.1), .int .u8 (d0.2.2.1), .int .i64 (d0.2.2.2.1), .slice p0_A4 (d0.2.2.2.2.1.1.length) (p0_c4), .int .i64 (d0.2.2.2.2.2.1), .int .i64 (d0.2.2.2.2.2.2.1), .slice p0_A7 (d0.2.2.2.2.2.2.2.1.length) (p0_c7)]) 102 rfl rfl rfl (fun g1 => ?_)
 refine VO.box (cs := [.int .i64 (d1.1), .int .i64 (d1.2.1), .int .u8 (d1.2.2.1), .int .i64 (d1.2.2.2.1), .slice p1_A4 (d1.2.2.2.2.1.length) (p1_c4), .int .i64 (d1.2.2.2.2.2.1), .int .i64 (d1.2.2.2.2.2.2.1), .slice p1_A7 (d1.2.2.2.2.2.2.2.length) (p1_c7)]) 104 rfl rfl rfl (fun g3 => ?_)
 refine VO.as (VO.k5 0 1 2 3 4 (VC.seq (VC.rs (VO.y rfl (.ldA 102 rfl tk72 rfl (cellsAt_one rfl rfl)) (VO.y rfl (.ldA 104 rfl tk72 rfl (cellsAt_one rfl rfl)) ?_)))))
 refine VO.callN 105 rfl fnOk71 rfl (fun W hW => SameMessage_ok W (mk_Message (m := wm W) d0.1 d0.2.1 d0.2.2.1 d0.2.2.2.1 d0.2.2.2.2.1.1 d0.2.2.2.2.2.1 d0.2.2.2.2.2.2.1 (d0.2.2.2.2.2.2.2.1.map fgC) bdk bdk bdk bdk (Rd.mono p0_s4 (hW.at (i := 0) rfl)) bdk bdk (fgC_rd (Rd.mono p0_s7 (hW.at (i := 0) rfl)))) (Rd.mono h1 (hW.at (i := 0) rfl))) (fun v5 m5 hv5 => ?_)
 try dsimp only at hv5
 subst hv5
 refine VO.y rfl (.notD rfl) (VO.k6 0 1 2 3 4 8 ?_)
 refine VC.cond rfl (fun hc6 => ?_) (fun hc6 => ?_)
 exact absurd (by rw [e0]; exact lentM_fg d1) hc6
 refine VC.skip (outN (VC.seq ?_))
 refine VC.regD _ 20 [(0, true), (1, true), (2, true), (3, true), (4, true), (5, true), (6, true), (7, true), (8, true), (9, false), (10, true), (11, true), (12, true), (13, true), (14, true), (15, true), (16, true), (17, true), (18, true), (19, true)] follows (by kernel_rfl) (fun _ h => h.sub [105, 104, 102, 0]) ?_
 refine VD.y rfl rfl (.inl rfl) (.fa rfl tst72 rfl) (VD.y rfl rfl (.inl rfl) (.ld1 102 rfl tk70 rfl (cellsAt_one rfl rfl)) (VD.y rfl rfl (.inl rfl) (.fa rfl tst72 rfl) (VD.y rfl rfl (.inl rfl) (.ld1 104 rfl tk70 rfl (cellsAt_one rfl rfl)) ?_)))
 refine VD.y rfl rfl (.inl rfl) (.lenS rfl tsl70) ?_
 refine VD.y rfl rfl (.inl rfl) (.add (c := ((d1.2.2.2.2.1.length + 3 : Nat) : Int)) rfl rfl (by omega) ⟨bd, bd⟩) ?_
 have hs7 := p0_f4.pre (j := (d1.2.2.2.2.1.length + 3)) bd
 refine VD.y rfl rfl (.inl rfl) (.slHI (d1.2.2.2.2.1.length + 3) rfl rfl tsl70 rfl bd) ?_
 refine VD.y rfl rfl (.inl rfl) (.fa rfl tst72 rfl) (VD.y rfl rfl (.inl rfl) (.ld1 104 rfl tk70 rfl (cellsAt_one rfl rfl)) ?_)
 refine VD.callN 108 rfl rfl (.inl rfl) fnOk123 rfl (fun _ h => h.sub [105, 104, 102, 0]) (fun W hW => KeptStarts_ok W (Rd.mono hs7 (hW.at (i := 0) rfl)) (Rd.mono p1_4 (hW.at (i := 0) rfl)) bd) (fun v8 m8 hv8 => ?_)
 subst hv8
 refine VD.y rfl rfl (.inl rfl) (.mv rfl) ?_
 refine VD.dec (s := 19) rfl (fun hc9 => ?_) (fun hc9 => ?_)
 · refine VD.y rfl rfl (.inr ⟨_, _, rfl, _, rfl, rfl⟩) (.fa rfl tst72 rfl) ?_
   refine VD.y rfl rfl (.inr ⟨_, _, rfl, _, rfl, rfl⟩) (.ld1 102 rfl tk61 rfl (cellsAt_one rfl rfl)) ?_
   refine VD.y rfl rfl (.inr ⟨_, _, rfl, _, rfl, rfl⟩) (.fa rfl tst72 rfl) ?_
   refine VD.y rfl rfl (.inr ⟨_, _, rfl, _, rfl, rfl⟩) (.ld1 104 rfl tk61 rfl (cellsAt_one rfl rfl)) ?_
   refine VD.y rfl rfl (.inr ⟨_, _, rfl, _, rfl, rfl⟩) (.lenS rfl tsl61) ?_
   refine VD.y rfl rfl (.inr ⟨_, _, rfl, _, rfl, rfl⟩) (.add (c := ((d1.2.2.2.2.2.2.2.length + 3 : Nat) : Int)) rfl rfl (by omega) ⟨bd, bd⟩) ?_
   have hs10 := p0_f7.pre (j := (d1.2.2.2.2.2.2.2.length + 3)) bd
   refine VD.y rfl rfl (.inr ⟨_, _, rfl, _, rfl, rfl⟩) (.slHI (d1.2.2.2.2.2.2.2.length + 3) rfl rfl tsl61 rfl bd) ?_
   refine VD.y rfl rfl (.inr ⟨_, _, rfl, _, rfl, rfl⟩) (.fa rfl tst72 rfl) ?_
   refine VD.y rfl rfl (.inr ⟨_, _, rfl, _, rfl, rfl⟩) (.ld1 104 rfl tk61 rfl (cellsAt_one rfl rfl)) ?_
   refine VD.nil rfl ?_ rfl
   refine VO.gcallN 111 rfl ⟨_, rfl, rfl⟩ fnOk55 rfl (fun W hW => KeptCommits_ok W (Rd.mono hs10 (hW.at (i := 0) rfl)) (Rd.mono p1_7 (hW.at (i := 0) rfl)) (by rw [e0]; exact lent_whole _) bd (by assumption)) (fun v11 m11 hv11 => ?_)
   subst hv11
   refine VO.y rfl (.pT rfl rfl) (VO.as ?_)
   refine VO.kp [104, 102, 0] [(104, mone g3 (.cells #[.int .i64 (d1.1), .int .i64 (d1.2.1), .int .u8 (d1.2.2.1), .int .i64 (d1.2.2.2.1), .slice p1_A4 (d1.2.2.2.2.1.length) (p1_c4), .int .i64 (d1.2.2.2.2.2.1), .int .i64 (d1.2.2.2.2.2.2.1), .slice p1_A7 (d1.2.2.2.2.2.2.2.length) (p1_c7)] 72 (0, 0))), (102, mone g1 (.cells #[.int .i64 (d0.1), .int .i64 (d0.2.1), .int .u8 (d0.2.2.1), .int .i64 (d0.2.2.2.1), .slice p0_A4 (d0.2.2.2.2.1.1.length) (p0_c4), .int .i64 (d0.2.2.2.2.2.1), .int .i64 (d0.2.2.2.2.2.2.1), .slice p0_A7 (d0.2.2.2.2.2.2.2.1.length) (p0_c7)] 72 (0, 0))), (0, wm W)] ?_
   refine VO.k6 0 1 2 3 4 8 (outN (VC.ret ?_))
   refine ⟨_, _, res_run (rs := [.tmp 4]) rfl (.tmp rfl .nil), fun W_ hI => out_of (l := []) hI [] rfl rfl (mle_refl _) (fun hS_ => ?_)⟩
   dsimp only [packV]
   all_goals (first | rfl | (simp [*]; done))
 exact absurd (by rw [e0]; exact lentS_whole _) hc9
end
section
set_option linter.unusedVariables false
set_option linter.unusedSimpArgs false
set_option maxRecDepth 4000
theorem fnOk76 : fnOk Try.prog 76 = true := by kernel_rfl
end
section
section
variable {P : Program} {n : Nat} {w0 : World} {σ : Env} {Ω : Ctx} {ops : Array Oper} {K : Env → Ctx → Prop}
theorem Stp.appO {e : Ty} {s x : Operand} {t xt et xe : TypeId} {b g c : Nat} {d : Option Nat} {gd : Option (Nat × Bool)} {ty : TypeId} {pos : String} {af : Array Edge} {v : Value} {xs : List e.Den} {y : e.Den} {yc z : List Value} (i j k : Nat) {m mj mk : Mem} (hsv : ev σ s = some v) (hxv : ev σ x = some (.slice (some ⟨g, 0, none⟩) 1 c)) (ht : tsl P t = some (et, e.sz, b)) (hz : tz P et = some z) (hzl : z.length = e.sz)
    (hm : cget Ω i = some m) (hj : cget (cdel Ω i) j = some mj) (hk : cget Ω k = some mk) (hown : Ow (.sl e) m [v] xs) (hy : Ow e mj yc y) (hxt : P.underlying xt = some (.slice xe)) (hc : cellsAt mk g 0 e.sz yc) (hml : xs.length + 1 ≤ maxLen) (hb : (xs.length + 1) * b ≤ 140737488355328) (hb0 : b ≠ 0) :
    Stp P n w0 σ Ω ⟨d, .call { callee := .builtin .append, args := [s, x].toArray, argTypes := [t, xt].toArray }, ty, pos, af, gd⟩ (fun v' Ω' => ∃ m', Ow (.sl e) m' [v'] (xs ++ [y]) ∧ Ω' = (i, m') :: cdel (cdel Ω i) j) :=
  fun a W he hi K' Q hK => by
    obtain ⟨m0, m1, rc, hS, hA, hL⟩ := hown.opn
    obtain ⟨q1, q2, q3, q4, _⟩ := hi.gets (ids := [i, j]) (l := [m, mj]) (by simp [cgets, hm, hj])
    have dmj : mdj m mj := by simpa using q1
    have d01 : mdj m0 m1 := by have := hS.2; simpa using this
    have l0 := hS.1 m0 (.head _)
    have l1 := hS.1 m1 (.tail _ (.head _))
    have d1j : mdj m1 mj := dmj.mono l1 (mle_refl _)
    have hnew : mdj m0 (mun m1 mj) := (mdj_un d01.symm (dmj.mono l0 (mle_refl _)).symm).symm
    have hΩ2 : Inv w0 ((i, m0) :: (j, mun m1 mj) :: cdel (cdel Ω i) j) W := by
      have hdel : Inv w0 (cdel (cdel Ω i) j) W := q4
      have f1 : ∀ p ∈ cdel (cdel Ω i) j, mdj m p.2 := fun p hp => q3 m (.head _) p hp
      have f2 : ∀ p ∈ cdel (cdel Ω i) j, mdj mj p.2 := fun p hp => q3 mj (.tail _ (.head _)) p hp
      refine ⟨hi.os, hi.tape, hi.output, hi.size, fun p hp => ?_, List.pairwise_cons.2 ⟨fun p hp => ?_, List.pairwise_cons.2 ⟨fun p hp => ?_, hdel.dj⟩⟩⟩
      · rcases List.mem_cons.1 hp with rfl | hp
        · exact l0.trans (hi.at hm)
        · rcases List.mem_cons.1 hp with rfl | hp
          · exact mun_le (l1.trans (hi.at hm)) (q2 mj (.tail _ (.head _)))
          · exact hdel.le p hp
      · rcases List.mem_cons.1 hp with rfl | hp
        · exact hnew
        · exact (f1 p hp).mono l0 (mle_refl _)
      · exact mdj_un ((f1 p hp).mono l1 (mle_refl _)) (f2 p hp)
    have hsrc : SrcW P W e.sz xt (.slice (some ⟨g, 0, none⟩) 1 c) 1 yc := by
      refine ⟨⟨_, hxt, by simp⟩, by rw [hy.len]; omega, fun W' hW => ?_, fun W' => by simp [Builtin.lenOf]⟩
      have hc2 : cellsAt (wm W') g 0 (1 * e.sz) yc := by
        rw [Nat.one_mul]
        refine hc.mono (fun q o ho => ?_)
        have := hi.at hk q o ho
        unfold wm at this ⊢
        rw [hW]; exact this
      exact firstCells_row hc2
    refine app_wp (i := i) (m := m0) (m0 := m0) he hΩ2 hsv hxv ht hz hzl (by simp [cget]) (mle_refl _) hA hsrc hy.nice hml hb hb0 fun v' m' W' hA' hi' => ?_
    have hc' : cset ((i, m0) :: (j, mun m1 mj) :: cdel (cdel Ω i) j) i m' = (i, m') :: (j, mun m1 mj) :: cdel (cdel Ω i) j := by simp [cset]
    rw [hc'] at hi'
    have hdj : mdj m' (mun m1 mj) := (List.pairwise_cons.1 hi'.dj).1 _ (.head _)
    have hall : OwAll (Ow e) (mun m1 mj) (rc ++ yc) (xs ++ [y]) := OwAll.app d1j (mle_un_left _ _) (mle_un_right d1j) hL (.one hy (mle_refl _))
    have how : Ow (.sl e) (mun m' (mun m1 mj)) [v'] (xs ++ [y]) := ⟨v', m', mun m1 mj, rc ++ yc, rfl, hdj, mle_un_left _ _, mle_un_right hdj, by simpa using hA', hall⟩
    refine hK v' ((i, mun m' (mun m1 mj)) :: cdel (cdel Ω i) j) W' ⟨_, how, rfl⟩ ?_
    refine ⟨hi'.os, hi'.tape, hi'.output, hi'.size, fun p hp => ?_, List.pairwise_cons.2 ⟨fun p hp => ?_, (List.pairwise_cons.1 (List.pairwise_cons.1 hi'.dj).2).2⟩⟩
    · rcases List.mem_cons.1 hp with rfl | hp
      · exact mun_le (hi'.le (i, m') (.head _)) (hi'.le (j, mun m1 mj) (.tail _ (.head _)))
      · exact hi'.le p (.tail _ (.tail _ hp))
    · exact mdj_un ((List.pairwise_cons.1 hi'.dj).1 p (.tail _ hp)) ((List.pairwise_cons.1 (List.pairwise_cons.1 hi'.dj).2).1 p hp)
theorem VD.appO {tt q : Nat} {ss : List (Nat × Bool)} {ΩS : Ctx} {ty : TypeId} {pos : String} {af : Array Edge} {e : Ty} {s x : Operand} {t xt et xe : TypeId} {b dd g c : Nat} {v : Value} {xs : List e.Den} {y : e.Den} {yc z : List Value} (i j k : Nat) {m mj mk : Mem} (hd : Nat.blt dd n = true) (ho : ops[q]? = some ⟨some dd, .call { callee := .builtin .append, args := [s, x].toArray, argTypes := [t, xt].toArray }, ty, pos, af, none⟩) (hsv : ev σ s = some v) (hxv : ev σ x = some (.slice (some ⟨g, 0, none⟩) 1 c)) (ht : tsl P t = some (et, e.sz, b)) (hz : tz P et = some z) (hzl : z.length = e.sz)
    (hm : cget Ω i = some m) (hj : cget (cdel Ω i) j = some mj) (hk : cget Ω k = some mk) (hown : Ow (.sl e) m [v] xs) (hy : Ow e mj yc y) (hxt : P.underlying xt = some (.slice xe)) (hc : cellsAt mk g 0 e.sz yc) (hml : xs.length + 1 ≤ maxLen) (hb : (xs.length + 1) * b ≤ 140737488355328) (hb0 : b ≠ 0) (hS : ∀ m' W, Inv w0 ((i, m') :: cdel (cdel Ω i) j) W → Inv w0 ΩS W)
    (h : ∀ v' m', Ow (.sl e) m' [v'] (xs ++ [y]) → VD P n w0 ops ΩS tt ss ((dd, v') :: σ) ((i, m') :: cdel (cdel Ω i) j) K) : VD P n w0 ops ΩS tt ((q, false) :: ss) σ Ω K :=
  VD.s (fun v => (dd, v) :: σ) ho (fun v _ he => he.put hd v) (.inl rfl) (Stp.appO i j k hsv hxv ht hz hzl hm hj hk hown hy hxt hc hml hb hb0) (fun _ _ ⟨m', _, hΩ⟩ W hW => hS m' W (by subst hΩ; exact hW)) (fun v _ ⟨m', hp, hΩ⟩ => hΩ ▸ h v m' hp)
end
end
end Go.Proofs.Ytfaknkkaegjdaaa
