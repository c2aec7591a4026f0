/- Part 3 of the proof of LStoreScript: what it needs of the library, the walks and the plain laws. Conditions: those named in each theorem. -/
import Derived.Test.YtonbpfncmlijnaaGreatLStoreScriptM2
set_option linter.unusedVariables false
set_option linter.unusedSimpArgs false
set_option maxRecDepth 4000
namespace Go.Proofs.YtonbpfncmlijnaaGreat
theorem Qm5:JE Tryz.prog 124=true:=by kernel_rfl
theorem Qq5:JE Tryz.prog 126=true:=by kernel_rfl
theorem Qq1:JE Tryz.prog 135=true:=by kernel_rfl
theorem QdQ:tar Tryz.prog 161=some (3,1):=by kernel_rfl
theorem QfX:tia Tryz.prog 161=some (3,3,1):=by kernel_rfl
theorem XI:tk Tryz.prog 92=some (some 3):=by kernel_rfl
theorem J2:tst Tryz.prog 92=some [(0,1),(1,1),(2,1)]:=by kernel_rfl
theorem QpZ:tz Tryz.prog 161=some [.int .i64 0,.int .i64 0,.int .i64 0]:=by kernel_rfl
theorem QbA:tz Tryz.prog 92=some [.int .i64 0,.int .i64 0,.slice none 0 0]:=by kernel_rfl
theorem Zv {P:Prop} (h:P:=by congr 1;first | exact (Qc0 (by omega)).symm | exact (QdV (by omega) (by omega)).symm | exact (QaD (by omega) (QjB ‹d0.2.2[k]? =some _› (by assumption))).symm | exact (QaD (by omega) (QjA ‹d0.2.2[k]? =some _› (by omega) (by assumption) (by assumption))).symm | exact (Qc1 (by omega) (by omega) (by have h_:=hu;rw [List.take_of_length_le (by omega)] at h_;exact h_)).symm):P:=h
theorem QdU (W:World) {v0:List Value} {d0:Jv} (h0:Rd YB (wm W) v0 d0):Qc Tryz.prog 124 [.agg v0.toArray] W (mnil) (fun v m'=>v= .int .i64 (QP d0)):=by
 obtain ⟨p0_A2,p0_c2,rfl,p0_0,p0_1,p0_2⟩:=ZX (x0:=d0.1) (x1:=d0.2.1) (x2:=d0.2.2) h0
 simp only [inK] at p0_0 p0_1
 refine Qc.ofA (n:=52) Tryz.func124 rfl rfl rfl ?_
 refine VC.rs ?_
 refine VO.box (cs:=[.int .i64 (d0.1),.int .i64 (d0.2.1),.slice p0_A2 (d0.2.2.length) (p0_c2)]) 102 rfl rfl rfl (fun g1=>?_)
 refine VO.as (VO.k3 0 1 2 (VC.seq (VC.rs (VO.z (.fa rfl J2 rfl) (VO.z (.ld1 102 rfl Jw rfl (Qa rfl rfl)) (VO.z (.lenS rfl QX) (VO.z (.gtr rfl rfl) (VO.k4 0 1 2 8 ?_))))))))
 refine VC.cond rfl (fun hc3=>?_) (fun hc3=>?_)
 refine VC.rs (VO.as (VO.p2 102 0 (VO.k4 0 1 2 8 (VC.ret (QK ?_)))))
 exact Yu 2 rfl (by first | rfl | exact Zv)
 refine VC.skip (Qg (VC.seq (VC.rs (VO.z (.fa rfl J2 rfl) (VO.z (.ld1 102 rfl tk3 rfl (Qa rfl rfl)) (VO.z (.lss rfl rfl) (VO.mv ?_)))))))
 refine VO.dec (t:=12) rfl (fun hc4=>?_) (fun hc4=>?_)
 refine VO.gN (VO.gN (VO.gN (VO.gN (VO.gN (VO.z (.pT rfl rfl) (VO.mv (VO.gN (VO.gN (VO.gN (VO.z (.pT rfl rfl) (VO.p2 102 0 ?_)))))))))))
 refine VO.k5 0 1 2 8 23 (VC.condT rfl (VC.rs (VO.as (VO.k5 0 1 2 8 23 (VC.ret (QK ?_))))))
 exact Yu 2 rfl (by first | rfl | exact Zv)
 refine VO.w (.fa rfl J2 rfl) (VO.w (.ld1 102 rfl tk3 rfl (Qa rfl rfl)) (VO.w (.fa rfl J2 rfl) (VO.w (.ld1 102 rfl tk3 rfl (Qa rfl rfl)) (VO.w (.lss rfl rfl) (VO.z (.pF rfl rfl) (VO.mv ?_))))))
 refine VO.dec (t:=19) rfl (fun hc5=>?_) (fun hc5=>?_)
 refine VO.gN (VO.gN (VO.gN (VO.z (.pT rfl rfl) (VO.p2 102 0 (VO.k5 0 1 2 8 23 (VC.condT rfl (VC.rs (VO.as (VO.k5 0 1 2 8 23 (VC.ret (QK ?_)))))))))))
 exact Yu 2 rfl (by first | rfl | exact Zv)
 refine VO.w (.fa rfl J2 rfl) (VO.w (.ld1 102 rfl tk3 rfl (Qa rfl rfl)) (VO.w (.gtr rfl rfl) (VO.z (.pF rfl rfl) (VO.p2 102 0 (VO.k5 0 1 2 8 23 ?_)))))
 refine VC.cond rfl (fun hc6=>?_) (fun hc6=>?_)
 refine VC.rs (VO.as (VO.k5 0 1 2 8 23 (VC.ret (QK ?_))))
 exact Yu 2 rfl (by first | rfl | exact Zv)
 refine VC.skip (Qg (VC.seq (VC.rs (VO.z (.fa rfl J2 rfl) (VO.z (.ld1 102 rfl Jw rfl (Qa rfl rfl)) (VO.z (.lenS rfl QX) (VO.mv (VO.k8 0 1 2 8 23 25 26 27 (VC.block ?_)))))))))
 refine VC.loop (G:=Nat) (fun k=>[(27,.int .i64 (((k:Nat):Int))),(0,.agg [.int .i64 (d0.1),.int .i64 (d0.2.1),.slice p0_A2 (d0.2.2.length) (p0_c2)].toArray),(1,Vp g1),(8,.bool (decide (1024 < ((d0.2.2.length:Nat):Int)))),(23,.bool (decide (1048576 < d0.2.1))),(25,.slice p0_A2 (d0.2.2.length) (p0_c2)),(26,.int .i64 (((d0.2.2.length:Nat):Int)))]) (fun k=>[(102,Qo g1 (.cells #[.int .i64 (d0.1),.int .i64 (d0.2.1),.slice p0_A2 (d0.2.2.length) (p0_c2)] 92 (0,0))),(0,wm W)]) (fun k=>(k≤d0.2.2.length)∧(Ya (d0.2.2.take k))) (fun k=>d0.2.2.length - k) 0 (⟨by omega,by exact QgJ⟩) ⟨esn,fun _ h=>h.sub [102,0]⟩ ?_
 rintro k ⟨hk,hu⟩
 refine VC.rs (VO.z (.lss rfl rfl) (VO.k8 0 1 8 23 25 26 27 28 (VC.seq ?_)))
 refine VC.cond rfl (fun hc7=>?_) (fun hc7=>?_)
 refine VC.skip (Qg (VC.seq (VC.block (VC.rs (VO.mv ?_)))))
 obtain ⟨x8,hx8⟩:∃ z_,(d0.2.2)[k]? =some z_:=⟨_,List.getElem?_eq_getElem bd⟩
 obtain ⟨gg8,oo8,ec8,ea8,hce8,hre8⟩:=p0_2.elem hx8
 cases ea8
 obtain ⟨rfl,q8_1,q8_2⟩:=Jr (x0:=x8.1) (x1:=x8.2.1) (x2:=x8.2.2) hre8
 simp only [maxLen] at q8_1
 simp only [maxLen] at q8_2
 refine VO.z (.ixI k rfl rfl QX rfl bd) ?_
 refine VO.z (.ldA 0 rfl Yx rfl hce8) ?_
 refine VO.alloc 110 rfl YX (fun g9=>?_)
 refine VO.as ?_
 refine VO.store (k:=3) (c':=[.bool x8.1,str (x8.2.1),str (x8.2.2)]) 110 rfl rfl (.inl Yx) rfl rfl rfl rfl rfl ?_
 refine VO.p3 110 102 0 (VO.k10 0 1 3 4 8 23 25 26 27 28 (VC.seq ?_))
 refine VC.regD _ 16 [(0,true),(1,false),(2,true),(3,true),(4,true),(5,true),(6,true),(7,true),(8,true),(9,true),(10,true),(11,true),(12,true),(13,true),(14,true),(15,true)] follows (by kernel_rfl) (fun _ h=>h.sub [110,102,0]) ?_
 refine VD.z rfl (.ldA 110 rfl Yx rfl (Qa rfl rfl)) ?_
 refine VD.callN 111 rfl rfl (.inl rfl) Qgm rfl (fun _ h=>h.sub [110,102,0]) (fun W hW=>Qae W (Rd.mono hre8 (hW.t 0))) (fun v11 m11 hv11=>?_)
 subst hv11
 refine VD.z rfl (.neq rfl rfl) (VD.z rfl (.mv rfl) ?_)
 refine VD.dec (s:=35) rfl (fun hc12=>?_) (fun hc12=>?_)
 refine VD.gN rfl (VD.gN rfl (VD.gN rfl ?_))
 refine VD.gn rfl rfl (.inr ⟨_,rfl,rfl⟩) ?_
 refine VD.gn rfl rfl (.inr ⟨_,rfl,rfl⟩) ?_
 refine VD.gn rfl rfl (.inr ⟨_,rfl,rfl⟩) ?_
 refine VD.gn rfl rfl (.inr ⟨_,rfl,rfl⟩) ?_
 refine VD.gn rfl rfl (.inr ⟨_,rfl,rfl⟩) ?_
 refine VD.gn rfl rfl (.inr ⟨_,rfl,rfl⟩) ?_
 refine VD.gn rfl rfl (.inr ⟨_,rfl,rfl⟩) ?_
 refine VD.gn rfl rfl (.inr ⟨_,rfl,rfl⟩) ?_
 refine VD.gn rfl rfl (.inr ⟨_,rfl,rfl⟩) ?_
 refine VD.nil rfl ?_ rfl
 refine VO.gn rfl (.inr ⟨_,rfl,rfl⟩) ?_
 refine VO.gN (VO.z (.pT rfl rfl) (VO.k11 0 1 3 4 8 23 25 26 27 28 50 (Qg (VC.condT rfl (VC.rs (VO.as (VO.k12 0 1 2 3 4 8 23 25 26 27 28 50 (VC.ret (Jf (QK (QK ?_)))))))))))
 refine Jf (QK ?_)
 exact Yu 2 rfl (by first | rfl | exact Zv)
 refine VD.w rfl (.mv rfl) (VD.w rfl (.gtr rfl rfl) (VD.w rfl (.mv rfl) ?_))
 refine VD.dec (s:=38) rfl (fun hc13=>?_) (fun hc13=>?_)
 refine VD.w rfl (.fa rfl JG rfl) (VD.w rfl (.ld1 110 rfl tk9 rfl (Qa rfl rfl)) (VD.w rfl (.fa rfl J2 rfl) (VD.w rfl (.ld1 102 rfl Jw rfl (Qa rfl rfl)) (VD.w rfl (.mv rfl) ?_))))
 refine VD.w rfl (.sub rfl rfl rfl ⟨bd,bd⟩) ?_
 obtain ⟨x14,hx14⟩:∃ z_,(d0.2.2)[(((k:Nat):Int) - 1).toNat]? =some z_:=⟨_,List.getElem?_eq_getElem bd⟩
 obtain ⟨gg14,oo14,ec14,ea14,hce14,hre14⟩:=p0_2.elem hx14
 cases ea14
 obtain ⟨rfl,q14_1,q14_2⟩:=Jr (x0:=x14.1) (x1:=x14.2.1) (x2:=x14.2.2) hre14
 simp only [maxLen] at q14_1
 simp only [maxLen] at q14_2
 refine VD.w rfl (.ixI ((((k:Nat):Int) - 1).toNat) rfl rfl QX bd bd) ?_
 refine VD.w rfl (.fa rfl JG rfl) ?_
 refine VD.w rfl (.ld1 0 rfl tk9 rfl (hce14.at1 (j:=1) rfl)) ?_
 refine VD.nil rfl ?_ rfl
 refine VO.w (.sleq rfl rfl) (VO.w (.pT rfl rfl) (VO.z (.pF rfl rfl) (VO.k11 0 1 3 4 8 23 25 26 27 28 50 (Qg ?_))))
 refine VC.cond rfl (fun hc15=>?_) (fun hc15=>?_)
 refine VC.rs (VO.as (VO.k12 0 1 2 3 4 8 23 25 26 27 28 50 (VC.ret (Jf (QK (QK (Jf (QK ?_))))))))
 exact Yu 2 rfl (by first | rfl | exact Zv)
 refine VC.skip (Jh (Qg ?_))
 refine VC.reg ?_
 refine VO.z (.add (c:=((k+1:Nat):Int)) rfl rfl Qp ⟨bd,bd⟩) ?_
 refine VO.mv (VO.k11 0 1 3 4 8 23 25 26 27 28 50 ?_)
 exact Qg ⟨k+1,⟨by omega,by exact Qeg hu ‹d0.2.2[k]? =some _› Qf (by first | exact .inl Qp | exact .inr ⟨_,by assumption,by assumption⟩)⟩,bd,⟨esn,fun _ h=>Inv.sub h [102,0]⟩⟩
 refine VD.gN rfl (VD.gN rfl (VD.gN rfl (VD.gN rfl (VD.gN rfl (VD.gN rfl (VD.gN rfl (VD.gN rfl (VD.gN rfl ?_))))))))
 refine VD.nil rfl ?_ rfl
 refine VO.gN (VO.w (.pF rfl rfl) (VO.z (.pF rfl rfl) (VO.k11 0 1 3 4 8 23 25 26 27 28 50 (Qg (VC.condF rfl (VC.skip (Jh (Qg ?_))))))))
 refine VC.reg ?_
 refine VO.z (.add (c:=((k+1:Nat):Int)) rfl rfl Qp ⟨bd,bd⟩) ?_
 refine VO.mv (VO.k11 0 1 3 4 8 23 25 26 27 28 50 ?_)
 exact Qg ⟨k+1,⟨by omega,by exact Qeg hu ‹d0.2.2[k]? =some _› Qf (by first | exact .inl Qp | exact .inr ⟨_,by assumption,by assumption⟩)⟩,bd,⟨esn,fun _ h=>Inv.sub h [102,0]⟩⟩
 refine VC.exit (JU (JU (JT (Qg (VC.rs (VO.as (VO.p2 102 0 (VO.k9 0 1 2 8 23 25 26 27 28 (VC.ret ?_)))))))))
 exact Yu 2 rfl (by first | rfl | exact Zv)
set_option maxHeartbeats 1000000 in
theorem QhP (W:World) {v0:List Value} {d0:Jv} (h0:Rd YB (wm W) v0 d0):Qc Tryz.prog 82 [.agg v0.toArray] W (mnil) (fun v m'=>∃ (s0:Value),v= .tuple #[s0,.int .i64 ((Qq d0).2)]∧Ow (.sl .byte) m' [s0] ((Qq d0).1)):=by
 have hrk:=QeX d0
 obtain ⟨p0_A2,p0_c2,rfl,p0_0,p0_1,p0_2⟩:=ZX (x0:=d0.1) (x1:=d0.2.1) (x2:=d0.2.2) h0
 simp only [inK] at p0_0 p0_1
 have p0_r2:=Rd.room p0_2
 refine Qc.ofA (n:=46) Tryz.func82 rfl rfl rfl ?_
 refine VC.rs ?_
 refine VO.box (cs:=[.int .i64 (d0.1),.int .i64 (d0.2.1),.slice p0_A2 (d0.2.2.length) (p0_c2)]) 102 rfl rfl rfl (fun g1=>?_)
 refine VO.as (VO.as (VO.k4 0 1 2 3 (VC.seq (VC.rs (VO.z (.ldA 102 rfl XI rfl (Qa rfl rfl)) ?_)))))
 refine VO.callN 103 rfl Qm5 rfl (fun W hW=>QdU W (Rd.mono h0 (hW.t 0))) (fun v3 m3 hv3=>?_)
 subst hv3
 refine VO.as (VO.k5 0 1 2 3 4 (VC.rs (VO.mv (VO.z (.neq rfl rfl) (VO.p2 102 0 (VO.k6 0 1 2 3 4 13 ?_))))))
 refine VC.cond rfl (fun hc5=>?_) (fun hc5=>?_)
 · refine VC.rs (VO.mv (VO.as (VO.as (VO.k6 0 1 2 3 4 13 (VC.ret (QK ?_))))))
   refine QcA 2 3 [] fun hS_=>?_
   dsimp only [Qu]
   have he0:((Qq d0).1:Ty.Den (.sl .byte))=[]:=by first | rfl | (first | (rw [Xe Qf] <;> rfl) | (rw [Yk Qf,hb,List.take_of_length_le Qp];simp [Qal];done))
   refine ⟨.slice none (0) (0),?_,?_⟩
   rotate_left
   · rw [he0];exact (Ow.nil _ _)
   all_goals (first | rfl | (first | (rw [Xe Qf] <;> rfl) | (rw [Yk Qf] <;> rfl)))
 refine VC.skip (Qg (VC.rs (VO.as (VO.k7 0 1 2 3 4 5 13 (VC.seq (VC.rs (VO.z (.fa rfl J2 rfl) (VO.z (.ld1 102 rfl tk3 rfl (Qa rfl rfl)) (VO.z (.fa rfl J2 rfl) (VO.z (.ld1 102 rfl tk3 rfl (Qa rfl rfl)) (VO.z (.fa rfl J2 rfl) ?_)))))))))))
 refine VO.z (.ld1 102 rfl Jw rfl (Qa rfl rfl)) (VO.z (.lenS rfl QX) ?_)
 refine VO.z (.bar (cs:=[Value.int .i64 (d0.1),Value.int .i64 (d0.2.1),Value.int .i64 (((d0.2.2.length:Nat):Int))]) rfl QdQ QpZ rfl) ?_
 refine VO.mv (VO.k9 0 1 2 3 4 5 13 22 23 (VC.block ?_))
 refine VC.rounds 4 (XM.step ?_)
 refine VC.rs (VO.z (.lss rfl rfl) (VO.p2 102 0 (VO.k10 0 1 2 3 4 5 13 22 23 24 (VC.seq ?_))))
 refine VC.condKT rfl (decide_eq_true (by decide)) ?_
 refine VC.skip (Qg (VC.seq (VC.block (VC.rs ?_))))
 refine VO.z (.ix1V rfl rfl QfX tk3 rfl rfl rfl) ?_
 refine VO.as (VO.k11 0 1 2 3 4 5 7 13 22 23 24 ?_)
 refine VC.reg ?_
 refine VO.mv (VO.mv ?_)
 refine VO.z (.cvI (c:=((d0.1).toNat:Int)) rfl ⟨_,Tryz.underlying3⟩ Tryz.underlying163 (by rw [IntWalk.u64_in _ bd];first | omega | (first | exact bd))) ?_
 refine VO.callN 106 rfl Qfo rfl (fun W hW=>QaW W (Rd.nil _ _ none 0 (Nat.zero_le _)) ((d0.1).toNat) bd bd) (fun v6 m6 hv6=>?_)
 obtain ⟨s6_0,rfl,f6_0⟩:=hv6
 have hfa7:=Z5 (x:=((d0.1).toNat)) (by first | omega | exact Qoo Qf _)
 simp only [List.nil_append] at f6_0
 obtain ⟨A6_0,c6_0,eq6_0,l6_0,k6_0⟩:=f6_0.slc
 subst eq6_0
 refine VO.as (VO.k11 0 1 2 3 4 5 7 13 22 23 24 (Jh (Qg ?_)))
 refine VC.reg ?_
 refine VO.z (.add (c:=((1:Nat):Int)) rfl rfl Qp ⟨bd,bd⟩) ?_
 refine VO.mv (VO.p3 106 102 0 (VO.k11 0 1 2 3 4 5 7 13 22 23 24 ?_))
 refine Qg (XM.step ?_)
 refine VC.rs (VO.z (.lss rfl rfl) (VO.k11 0 1 2 3 4 5 7 13 22 23 24 (VC.seq ?_)))
 refine VC.condKT rfl (decide_eq_true (by decide)) ?_
 refine VC.skip (Qg (VC.seq (VC.block (VC.rs ?_))))
 refine VO.z (.ix1V rfl rfl QfX tk3 rfl rfl rfl) ?_
 refine VO.as (VO.k11 0 1 2 3 4 5 7 13 22 23 24 ?_)
 refine VC.reg ?_
 refine VO.mv (VO.mv ?_)
 refine VO.z (.cvI (c:=((d0.2.1).toNat:Int)) rfl ⟨_,Tryz.underlying3⟩ Tryz.underlying163 (by rw [IntWalk.u64_in _ bd];first | omega | (first | exact bd))) ?_
 refine VO.callN 108 rfl Qfo rfl (fun W hW=>QaW W (Ow.rd f6_0 (hW.t 106)) ((d0.2.1).toNat) bd bd) (fun v8 m8 hv8=>?_)
 obtain ⟨s8_0,rfl,f8_0⟩:=hv8
 have hfa9:=Z5 (x:=((d0.2.1).toNat)) (by first | omega | exact Qoo Qf _)
 obtain ⟨A8_0,c8_0,eq8_0,l8_0,k8_0⟩:=f8_0.slc
 subst eq8_0
 refine VO.as (VO.p3 108 102 0 (VO.k11 0 1 2 3 4 5 7 13 22 23 24 (Jh (Qg ?_))))
 refine VC.reg ?_
 refine VO.z (.add (c:=((2:Nat):Int)) rfl rfl Qp ⟨bd,bd⟩) ?_
 refine VO.mv (VO.k11 0 1 2 3 4 5 7 13 22 23 24 ?_)
 refine Qg (XM.step ?_)
 refine VC.rs (VO.z (.lss rfl rfl) (VO.k11 0 1 2 3 4 5 7 13 22 23 24 (VC.seq ?_)))
 refine VC.condKT rfl (decide_eq_true (by decide)) ?_
 refine VC.skip (Qg (VC.seq (VC.block (VC.rs ?_))))
 refine VO.z (.ix1V rfl rfl QfX tk3 rfl rfl rfl) ?_
 refine VO.as (VO.p3 108 102 0 (VO.k11 0 1 2 3 4 5 7 13 22 23 24 ?_))
 refine VC.reg ?_
 refine VO.mv (VO.mv ?_)
 refine VO.z (.cvI rfl ⟨_,Tryz.underlying3⟩ Tryz.underlying163 (IntWalk.u64_in _ bd)) ?_
 refine VO.callN 110 rfl Qfo rfl (fun W hW=>QaW W (Ow.rd f8_0 (hW.t 108)) d0.2.2.length bd bd) (fun v10 m10 hv10=>?_)
 obtain ⟨s10_0,rfl,f10_0⟩:=hv10
 have hfa11:=Z5 (x:=d0.2.2.length) (by first | omega | exact Qoo Qf _)
 obtain ⟨A10_0,c10_0,eq10_0,l10_0,k10_0⟩:=f10_0.slc
 subst eq10_0
 refine VO.as (VO.k11 0 1 2 3 4 5 7 13 22 23 24 (Jh (Qg ?_)))
 refine VC.reg ?_
 refine VO.z (.add (c:=((3:Nat):Int)) rfl rfl Qp ⟨bd,bd⟩) ?_
 refine VO.mv (VO.k11 0 1 2 3 4 5 7 13 22 23 24 ?_)
 refine Qg (XM.step ?_)
 refine VC.rs (VO.z (.lss rfl rfl) (VO.p3 110 102 0 (VO.k11 0 1 2 3 4 5 7 13 22 23 24 (VC.seq ?_))))
 refine VC.condKF rfl (decide_eq_false (by decide)) ?_
 refine VC.exit (JU (JU (JT (Qg (VC.seq (VC.rs (VO.z (.fa rfl J2 rfl) (VO.z (.ld1 102 rfl Jw rfl (Qa rfl rfl)) (VO.z (.lenS rfl QX) (VO.mv (VO.nil ?_)))))))))))
 refine VC.block ?_
 refine VC.loop (G:=Nat × (List UInt8) × (Option Addr) × Nat × Mem) (fun g=>[(5,.slice (g.2.2.1) ((g.2.1).length) ((g.2.2.2.1))),(34,.int .i64 ((((g.1):Nat):Int))),(0,.agg [.int .i64 (d0.1),.int .i64 (d0.2.1),.slice p0_A2 (d0.2.2.length) (p0_c2)].toArray),(1,Vp g1),(2,.slice none (0) (0)),(3,.int .i64 (0)),(4,.int .i64 (QP d0)),(7,.int .i64 (((d0.2.2.length:Nat):Int))),(13,.bool (decide (¬ (QP d0)=0))),(22,.agg [.int .i64 (d0.1),.int .i64 (d0.2.1),.int .i64 (((d0.2.2.length:Nat):Int))].toArray),(23,.int .i64 (((3:Nat):Int))),(24,.bool (decide (((3:Nat):Int) < 3))),(32,.slice p0_A2 (d0.2.2.length) (p0_c2)),(33,.int .i64 (((d0.2.2.length:Nat):Int)))]) (fun g=>[(110,(g.2.2.2.2)),(102,Qo g1 (.cells #[.int .i64 (d0.1),.int .i64 (d0.2.1),.slice p0_A2 (d0.2.2.length) (p0_c2)] 92 (0,0))),(0,wm W)]) (fun g=>((g.1)≤d0.2.2.length)∧((g.2.1)=ZT d0.1.toNat++(ZT d0.2.1.toNat++ZT d0.2.2.length)++((d0.2.2.take (g.1)).map QdF).flatten)∧(Qz .byte (g.2.2.2.2) mnil (.slice (g.2.2.1) (g.2.1).length (g.2.2.2.1)) (g.2.1))) (fun g=>d0.2.2.length - (g.1)) (0,((ZT ((d0.1).toNat))++ZT ((d0.2.1).toNat))++ZT d0.2.2.length,A10_0,c10_0,m10) (⟨by omega,by simp,(Ow.ownl f10_0 rfl mnil)⟩) ⟨esn,fun _ h=>h.sub [110,102,0]⟩ ?_
 rintro ⟨k,b,b_A,b_c,b_m⟩ ⟨hk,hb,h_b⟩
 replace hk:k≤d0.2.2.length:=hk
 replace hb:b=ZT d0.1.toNat++(ZT d0.2.1.toNat++ZT d0.2.2.length)++((d0.2.2.take k).map QdF).flatten:=hb
 replace h_b:Qz .byte b_m mnil (.slice b_A b.length b_c) b:=h_b
 show VC _ _ _ _ _ [(5,.slice b_A (b.length) (b_c)),(34,.int .i64 (((k:Nat):Int))),(0,.agg [.int .i64 (d0.1),.int .i64 (d0.2.1),.slice p0_A2 (d0.2.2.length) (p0_c2)].toArray),(1,Vp g1),(2,.slice none (0) (0)),(3,.int .i64 (0)),(4,.int .i64 (QP d0)),(7,.int .i64 (((d0.2.2.length:Nat):Int))),(13,.bool (decide (¬ (QP d0)=0))),(22,.agg [.int .i64 (d0.1),.int .i64 (d0.2.1),.int .i64 (((d0.2.2.length:Nat):Int))].toArray),(23,.int .i64 (((3:Nat):Int))),(24,.bool (decide (((3:Nat):Int) < 3))),(32,.slice p0_A2 (d0.2.2.length) (p0_c2)),(33,.int .i64 (((d0.2.2.length:Nat):Int)))] [(110,b_m),(102,Qo g1 (.cells #[.int .i64 (d0.1),.int .i64 (d0.2.1),.slice p0_A2 (d0.2.2.length) (p0_c2)] 92 (0,0))),(0,wm W)]
 have l_b:b.length≤b_c:=by obtain ⟨_,_,he,hl,_⟩:=h_b.slice;simp only [Value.slice.injEq] at he;omega
 have k_b:b_c≤9223372036854775807:=by obtain ⟨_,_,he,_,hl⟩:=h_b.slice;simp only [Value.slice.injEq,maxLen] at he hl;omega
 have rk:=JP (Decidable.not_not.1 ‹¬ ¬ QP d0=0›)
 have hbl:b.length≤30+60*k:=by (have h1_:=Qes (l:=d0.2.2.take k) (fun o ho=>rk.2.2.2.2.1 o (List.mem_of_mem_take ho));have h2_:=YQ (x:=d0.1.toNat) Qp;have h3_:=YQ (x:=d0.2.1.toNat) Qp;have h4_:=YQ (x:=d0.2.2.length) Qp;rw [hb];simp only [List.length_append,List.length_take] at*;omega)
 refine VC.rs (VO.z (.lss rfl rfl) (VO.nil (VC.seq ?_)))
 refine VC.cond rfl (fun hc12=>?_) (fun hc12=>?_)
 · refine VC.skip (Qg (VC.seq (VC.block (VC.rs ?_))))
   obtain ⟨x13,hx13⟩:∃ z_,(d0.2.2)[k]? =some z_:=⟨_,List.getElem?_eq_getElem bd⟩
   obtain ⟨gg13,oo13,ec13,ea13,hce13,hre13⟩:=p0_2.elem hx13
   cases ea13
   obtain ⟨rfl,q13_1,q13_2⟩:=Jr (x0:=x13.1) (x1:=x13.2.1) (x2:=x13.2.2) hre13
   simp only [maxLen] at q13_1
   simp only [maxLen] at q13_2
   refine VO.z (.ixI k rfl rfl QX rfl bd) ?_
   refine VO.z (.ldA 0 rfl Yx rfl hce13) ?_
   refine VO.alloc 115 rfl YX (fun g14=>?_)
   refine VO.store (k:=3) (c':=[.bool x13.1,str (x13.2.1),str (x13.2.2)]) 115 rfl rfl (.inl Yx) rfl rfl rfl rfl rfl ?_
   refine VO.p4 115 110 102 0 (VO.nil ?_)
   refine VC.reg ?_
   refine VO.mv (VO.z (.ldA 115 rfl Yx rfl (Qa rfl rfl)) ?_)
   refine VO.callN 116 rfl Qq5 rfl (fun W hW=>Qi9 W (Qz.rd h_b (hW.t 110) (JW _)) (Rd.mono hre13 (hW.t 0)) bd) (fun v16 m16 hv16=>?_)
   obtain ⟨s16_0,rfl,f16_0⟩:=hv16
   obtain ⟨A16_0,c16_0,eq16_0,l16_0,k16_0⟩:=f16_0.slc
   subst eq16_0
   refine VO.mv (VO.z (.ext rfl rfl) (VO.z (.ext rfl rfl) (VO.as (VO.nil (Jh (Qg ?_))))))
   refine VC.reg ?_
   refine VO.z (.add (c:=((k+1:Nat):Int)) rfl rfl Qp ⟨bd,bd⟩) ?_
   refine VO.mv (VO.nil ?_)
   exact Qg ⟨⟨k+1,(Z6 b x13).1,A16_0,c16_0,m16⟩,⟨by omega,by (rw [hb];exact Qip ‹d0.2.2[k]? =some _› (rk.2.2.2.2.1 _ (List.mem_of_getElem? ‹d0.2.2[k]? =some _›))),(Ow.ownl f16_0 rfl mnil)⟩,bd,⟨esn,fun _ h=>Inv.sub (Inv.num h 116 110 rfl) [110,102,0]⟩⟩
 · refine VC.exit (JU (JU (JT (Qg (VC.rs (VO.mv (VO.as (VO.as (VO.p3 110 102 0 (VO.nil (VC.ret ?_)))))))))))
   refine QcA 2 3 [110] fun hS_=>?_
   dsimp only [Qu]
   exact ⟨Value.slice b_A (b.length) (b_c),(by first | rfl | (first | (rw [Xe Qf] <;> rfl) | (rw [Yk Qf] <;> rfl))),(Ow.cg (Ow.up (Qz.ow h_b rfl) (hS_.1 _ (.head _))) (by first | rfl | (first | (rw [Xe Qf] <;> rfl) | (rw [Yk Qf,hb,List.take_of_length_le Qp];simp [Qal];done))))⟩
theorem Q6 {P:Prop} (h:P:=by first | (rw [QjM (by assumption)] <;> first | rfl | done) | (rw [QjL (by assumption)] <;> first | rfl | done) | (rw [QjK (by assumption)] <;> first | rfl | done) | (rw [Ql4 (by assumption) (by assumption) (by assumption) hl (by omega) (by assumption)] <;> first | rfl | done) | (rw [Qi0 (by assumption) (by assumption) (by assumption) hl (by omega) (by omega)] <;> first | rfl | done) | (rw [QkK (by assumption) (by assumption) (by assumption) hl (by omega) (by omega) (by assumption)] <;> first | rfl | done) | (rw [Qi1 (by assumption) (by assumption) (by assumption) hl (by omega) (by omega) (by assumption)] <;> first | rfl | done)):P:=h
set_option maxHeartbeats 1000000 in
theorem QhQ (W:World) {v0:Value} {d0:List UInt8} (h0:Rd (.sl .byte) (wm W) [v0] d0):Qc Tryz.prog 101 [v0] W (mnil) (fun v m'=>∃ (s0:List Value),v= .tuple #[.agg s0.toArray,.int .i64 ((Qm d0).2)]∧Ow YB m' s0 ((Qm d0).1)):=by
 obtain ⟨A0,c0,rfl,l0,k0⟩:=h0.slc
 refine Qc.ofA (n:=74) Tryz.func101 rfl rfl rfl ?_
 refine VC.rs ?_
 refine VO.alloc 102 rfl QbA (fun g1=>?_)
 refine VO.as (VO.k3 0 2 3 (VC.rs ?_))
 refine VO.alloc 104 rfl QpZ (fun g3=>?_)
 refine VO.k4 0 2 3 4 (VC.seq (VC.rs ?_))
 refine VO.z (.bar (cs:=[Value.int .i64 (1048576),Value.int .i64 (1048576),Value.int .i64 (1024)]) rfl QdQ QpZ rfl) ?_
 refine VO.mv (VO.p3 104 102 0 (VO.k6 0 2 3 4 14 15 (VC.block ?_)))
 refine VC.rounds 4 (XM.step ?_)
 refine VC.rs (VO.z (.lss rfl rfl) (VO.k7 0 2 3 4 14 15 16 (VC.seq ?_)))
 refine VC.condKT rfl (decide_eq_true (by decide)) ?_
 refine VC.skip (Qg (VC.seq (VC.block (VC.rs (VO.mv ?_)))))
 refine VO.z (.ix1V rfl rfl QfX tk3 rfl rfl rfl) ?_
 refine VO.as (VO.as (VO.k9 0 2 3 4 5 6 14 15 16 (VC.rs (VO.mv (VO.mv ?_)))))
 refine VO.callN 105 rfl Qfm rfl (fun W hW=>QbG W (Rd.mono h0 (hW.t 0)) 1048576 bdk) (fun v5 m5 hv5=>?_)
 subst hv5
 have hfa6:=Yj d0 1048576 Qp
 refine VO.mv (VO.z (.ext rfl rfl) (VO.z (.ext rfl rfl) (VO.z (.ext rfl rfl) (VO.as (VO.as (VO.as (VO.p3 104 102 0 (VO.k12 0 2 3 4 5 6 7 8 9 14 15 16 (VC.seq (VC.rs (VO.mv ?_)))))))))))
 refine VO.z (.neq rfl rfl) (VO.nil ?_)
 refine VC.cond rfl (fun hc7=>?_) (fun hc7=>?_)
 · refine VC.rs ?_
   refine VO.z (.bst (cs:=[.int .i64 (0),.int .i64 (0),.slice none (0) (0)]) rfl J2 QbA rfl) ?_
   refine VO.store (k:=3) (c':=[.int .i64 (0),.int .i64 (0),.slice none (0) (0)]) 102 rfl rfl (.inl XI) rfl rfl rfl rfl rfl ?_
   refine VO.as (VO.nil (VC.ret (QK (Jf (QK (QK (Jf (QK ?_))))))))
   refine ⟨_,_,QE (rs:=[.cell 2 92,.tmp 3]) rfl (.agg 102 rfl XI rfl ⟨_,_,_,Qn _ _,Nat.le_of_ble_eq_true rfl,rfl⟩ (.tmp rfl .nil)),fun W_ hI=>Q2 (l:=[]) hI [] rfl rfl (Qb _) (fun hS_=>?_)⟩
   dsimp only [Qu]
   have he0:((Qm d0).1:Ty.Den YB)=(0,0,[]):=by first | rfl | (exact Q6)
   refine ⟨[.int .i64 (0),.int .i64 (0),.slice none (0) (0)],?_,?_⟩
   rotate_left
   · rw [he0];exact (Yb _ _ _ (Qt.nilAt 0 hS_) bdk bdk (Ow.nil _ _))
   all_goals (first | rfl | (exact Q6))
 refine VC.skip (Qg ?_)
 refine VC.inv _ (fun _ h=>Inv.num h 104 2104 rfl) ?_
 refine VC.regD _ 7 [(0,true),(1,true),(2,true),(3,true),(4,true),(5,true),(6,false)] follows (by kernel_rfl) (fun _ h=>h.sub [2104,102,0]) ?_
 refine VD.z rfl (.mv rfl) (VD.z rfl (.mv rfl) (VD.z rfl (.mv rfl) (VD.z rfl (.mv rfl) ?_)))
 obtain ⟨A8,hA8,hs8⟩:=h0.drop 1 (sN d0 1048576) rfl bd
 refine VD.z rfl (.slLI (sN d0 1048576) A8 rfl rfl Jz rfl hA8 bd) ?_
 refine VD.z rfl (.ixa (i:=0) (o:=0) rfl rfl QdQ rfl rfl rfl) ?_
 refine VD.storeH (k:=1) (c':=[Value.int .i64 (((sX d0 1048576:Nat):Int)),Value.int .i64 (0),Value.int .i64 (0)]) 2104 rfl rfl rfl (.inr ⟨tk3,rfl⟩) rfl rfl rfl rfl rfl (fun _ h=>h.sub [102,0]) ?_
 refine VD.nil rfl ?_ rfl
 refine VO.as (VO.nil (Jh (Qg ?_)))
 refine VC.reg ?_
 refine VO.z (.add (c:=((1:Nat):Int)) rfl rfl Qp ⟨bd,bd⟩) ?_
 refine VO.mv (VO.p3 2104 102 0 (VO.nil ?_))
 refine Qg (XM.step ?_)
 refine VC.rs (VO.z (.lss rfl rfl) (VO.nil (VC.seq ?_)))
 refine VC.condKT rfl (decide_eq_true (by decide)) ?_
 refine VC.skip (Qg (VC.seq (VC.block (VC.rs (VO.mv ?_)))))
 refine VO.z (.ix1V rfl rfl QfX tk3 rfl rfl rfl) ?_
 refine VO.as (VO.as (VO.nil (VC.rs (VO.mv (VO.mv ?_)))))
 refine VO.callN 109 rfl Qfm rfl (fun W hW=>QbG W (Rd.mono hs8 (hW.t 0)) 1048576 bdk) (fun v9 m9 hv9=>?_)
 subst hv9
 have hfa10:=Yj (d0.drop (sN d0 1048576)) 1048576 Qp
 refine VO.mv (VO.z (.ext rfl rfl) (VO.z (.ext rfl rfl) (VO.z (.ext rfl rfl) (VO.as (VO.as (VO.as (VO.p3 2104 102 0 (VO.nil (VC.seq (VC.rs (VO.mv ?_)))))))))))
 refine VO.z (.neq rfl rfl) (VO.nil ?_)
 refine VC.cond rfl (fun hc11=>?_) (fun hc11=>?_)
 · refine VC.rs ?_
   refine VO.z (.bst (cs:=[.int .i64 (0),.int .i64 (0),.slice none (0) (0)]) rfl J2 QbA rfl) ?_
   refine VO.store (k:=3) (c':=[.int .i64 (0),.int .i64 (0),.slice none (0) (0)]) 102 rfl rfl (.inl XI) rfl rfl rfl rfl rfl ?_
   refine VO.as (VO.nil (VC.ret (QK (Jf (QK (QK (Jf (QK ?_))))))))
   refine ⟨_,_,QE (rs:=[.cell 2 92,.tmp 3]) rfl (.agg 102 rfl XI rfl ⟨_,_,_,Qn _ _,Nat.le_of_ble_eq_true rfl,rfl⟩ (.tmp rfl .nil)),fun W_ hI=>Q2 (l:=[]) hI [] rfl rfl (Qb _) (fun hS_=>?_)⟩
   dsimp only [Qu]
   have he0:((Qm d0).1:Ty.Den YB)=(0,0,[]):=by first | rfl | (exact Q6)
   refine ⟨[.int .i64 (0),.int .i64 (0),.slice none (0) (0)],?_,?_⟩
   rotate_left
   · rw [he0];exact (Yb _ _ _ (Qt.nilAt 0 hS_) bdk bdk (Ow.nil _ _))
   all_goals (first | rfl | (exact Q6))
 refine VC.skip (Qg ?_)
 refine VC.regD _ 7 [(0,true),(1,true),(2,true),(3,true),(4,true),(5,true),(6,false)] follows (by kernel_rfl) (fun _ h=>h.sub [2104,102,0]) ?_
 refine VD.z rfl (.mv rfl) (VD.z rfl (.mv rfl) (VD.z rfl (.mv rfl) (VD.z rfl (.mv rfl) ?_)))
 obtain ⟨A12,hA12,hs12⟩:=hs8.drop 1 (sN (d0.drop (sN d0 1048576)) 1048576) rfl bd
 replace hs12:=Rd.relen (k:=(d0.length - (sN d0 1048576)) - (sN (d0.drop (sN d0 1048576)) 1048576)) hs12 (by simp only [List.length_drop,List.length_take];try omega)
 refine VD.z rfl (.slLI (sN (d0.drop (sN d0 1048576)) 1048576) A12 rfl rfl Jz rfl hA12 bd) ?_
 refine VD.z rfl (.ixa (i:=1) (o:=1) rfl rfl QdQ rfl rfl rfl) ?_
 refine VD.storeH (k:=1) (c':=[Value.int .i64 (((sX d0 1048576:Nat):Int)),Value.int .i64 (((sX (d0.drop (sN d0 1048576)) 1048576:Nat):Int)),Value.int .i64 (0)]) 2104 rfl rfl rfl (.inr ⟨tk3,rfl⟩) rfl rfl rfl rfl rfl (fun _ h=>h.sub [102,0]) ?_
 refine VD.nil rfl ?_ rfl
 refine VO.as (VO.nil (Jh (Qg ?_)))
 refine VC.reg ?_
 refine VO.z (.add (c:=((2:Nat):Int)) rfl rfl Qp ⟨bd,bd⟩) ?_
 refine VO.mv (VO.p3 2104 102 0 (VO.nil ?_))
 refine Qg (XM.step ?_)
 refine VC.rs (VO.z (.lss rfl rfl) (VO.nil (VC.seq ?_)))
 refine VC.condKT rfl (decide_eq_true (by decide)) ?_
 refine VC.skip (Qg (VC.seq (VC.block (VC.rs (VO.mv ?_)))))
 refine VO.z (.ix1V rfl rfl QfX tk3 rfl rfl rfl) ?_
 refine VO.as (VO.as (VO.nil (VC.rs (VO.mv (VO.mv ?_)))))
 refine VO.callN 113 rfl Qfm rfl (fun W hW=>QbG W (Rd.mono hs12 (hW.t 0)) 1024 bdk) (fun v13 m13 hv13=>?_)
 subst hv13
 have hfa14:=Yj ((d0.drop (sN d0 1048576)).drop (sN (d0.drop (sN d0 1048576)) 1048576)) 1024 Qp
 refine VO.mv (VO.z (.ext rfl rfl) (VO.z (.ext rfl rfl) (VO.z (.ext rfl rfl) (VO.as (VO.as (VO.as (VO.p3 2104 102 0 (VO.nil (VC.seq (VC.rs (VO.mv ?_)))))))))))
 refine VO.z (.neq rfl rfl) (VO.nil ?_)
 refine VC.cond rfl (fun hc15=>?_) (fun hc15=>?_)
 · refine VC.rs ?_
   refine VO.z (.bst (cs:=[.int .i64 (0),.int .i64 (0),.slice none (0) (0)]) rfl J2 QbA rfl) ?_
   refine VO.store (k:=3) (c':=[.int .i64 (0),.int .i64 (0),.slice none (0) (0)]) 102 rfl rfl (.inl XI) rfl rfl rfl rfl rfl ?_
   refine VO.as (VO.nil (VC.ret (QK (Jf (QK (QK (Jf (QK ?_))))))))
   refine ⟨_,_,QE (rs:=[.cell 2 92,.tmp 3]) rfl (.agg 102 rfl XI rfl ⟨_,_,_,Qn _ _,Nat.le_of_ble_eq_true rfl,rfl⟩ (.tmp rfl .nil)),fun W_ hI=>Q2 (l:=[]) hI [] rfl rfl (Qb _) (fun hS_=>?_)⟩
   dsimp only [Qu]
   have he0:((Qm d0).1:Ty.Den YB)=(0,0,[]):=by first | rfl | (exact Q6)
   refine ⟨[.int .i64 (0),.int .i64 (0),.slice none (0) (0)],?_,?_⟩
   rotate_left
   · rw [he0];exact (Yb _ _ _ (Qt.nilAt 0 hS_) bdk bdk (Ow.nil _ _))
   all_goals (first | rfl | (exact Q6))
 refine VC.skip (Qg ?_)
 refine VC.regD _ 7 [(0,true),(1,true),(2,true),(3,true),(4,true),(5,true),(6,false)] follows (by kernel_rfl) (fun _ h=>h.sub [2104,102,0]) ?_
 refine VD.z rfl (.mv rfl) (VD.z rfl (.mv rfl) (VD.z rfl (.mv rfl) (VD.z rfl (.mv rfl) ?_)))
 obtain ⟨A16,hA16,hs16⟩:=hs12.drop 1 (sN ((d0.drop (sN d0 1048576)).drop (sN (d0.drop (sN d0 1048576)) 1048576)) 1024) rfl bd
 replace hs16:=Rd.relen (k:=((d0.length - (sN d0 1048576)) - (sN (d0.drop (sN d0 1048576)) 1048576)) - (sN ((d0.drop (sN d0 1048576)).drop (sN (d0.drop (sN d0 1048576)) 1048576)) 1024)) hs16 (by simp only [List.length_drop,List.length_take];try omega)
 refine VD.z rfl (.slLI (sN ((d0.drop (sN d0 1048576)).drop (sN (d0.drop (sN d0 1048576)) 1048576)) 1024) A16 rfl rfl Jz rfl hA16 bd) ?_
 refine VD.z rfl (.ixa (i:=2) (o:=2) rfl rfl QdQ rfl rfl rfl) ?_
 refine VD.storeH (k:=1) (c':=[Value.int .i64 (((sX d0 1048576:Nat):Int)),Value.int .i64 (((sX (d0.drop (sN d0 1048576)) 1048576:Nat):Int)),Value.int .i64 (((sX ((d0.drop (sN d0 1048576)).drop (sN (d0.drop (sN d0 1048576)) 1048576)) 1024:Nat):Int))]) 2104 rfl rfl rfl (.inr ⟨tk3,rfl⟩) rfl rfl rfl rfl rfl (fun _ h=>h.sub [102,0]) ?_
 refine VD.nil rfl ?_ rfl
 refine VO.as (VO.nil (Jh (Qg ?_)))
 refine VC.reg ?_
 refine VO.z (.add (c:=((3:Nat):Int)) rfl rfl Qp ⟨bd,bd⟩) ?_
 refine VO.mv (VO.p3 2104 102 0 (VO.nil ?_))
 refine Qg (XM.step ?_)
 refine VC.rs (VO.z (.lss rfl rfl) (VO.nil (VC.seq ?_)))
 refine VC.condKF rfl (decide_eq_false (by decide)) ?_
 refine VC.exit (JU (JU (JT (Qg (VC.rs ?_)))))
 refine VO.z (.ixa (i:=0) (o:=0) rfl rfl QdQ rfl rfl rfl) ?_
 refine VO.z (.ld1 2104 rfl tk3 rfl (Qa rfl rfl)) ?_
 refine VO.z (.ixa (i:=1) (o:=1) rfl rfl QdQ rfl rfl rfl) ?_
 refine VO.z (.ld1 2104 rfl tk3 rfl (Qa rfl rfl)) ?_
 refine VO.z (.bst (cs:=[.int .i64 (((sX d0 1048576:Nat):Int)),.int .i64 (((sX (d0.drop (sN d0 1048576)) 1048576:Nat):Int)),.slice none (0) (0)]) rfl J2 QbA rfl) ?_
 refine VO.alloc 118 rfl QbA (fun g17=>?_)
 refine VO.store (k:=3) (c':=[.int .i64 (((sX d0 1048576:Nat):Int)),.int .i64 (((sX (d0.drop (sN d0 1048576)) 1048576:Nat):Int)),.slice none (0) (0)]) 118 rfl rfl (.inl XI) rfl rfl rfl rfl rfl ?_
 refine VO.nil (VC.seq (VC.rs ?_))
 refine VO.z (.ixa (i:=2) (o:=2) rfl rfl QdQ rfl rfl rfl) ?_
 refine VO.z (.ld1 2104 rfl tk3 rfl (Qa rfl rfl)) (VO.mv (VO.p4 118 2104 102 0 (VO.nil (VC.block ?_))))
 have hrl19:((d0.length - (sN d0 1048576)) - (sN (d0.drop (sN d0 1048576)) 1048576)) - (sN ((d0.drop (sN d0 1048576)).drop (sN (d0.drop (sN d0 1048576)) 1048576)) 1024)=(((d0.drop (sN d0 1048576)).drop (sN (d0.drop (sN d0 1048576)) 1048576)).drop (sN ((d0.drop (sN d0 1048576)).drop (sN (d0.drop (sN d0 1048576)) 1048576)) 1024)).length:=by simp only [List.length_drop,List.length_take];try omega
 rw [hrl19]
 replace hs16:=Rd.relen (k:=(((d0.drop (sN d0 1048576)).drop (sN (d0.drop (sN d0 1048576)) 1048576)).drop (sN ((d0.drop (sN d0 1048576)).drop (sN (d0.drop (sN d0 1048576)) 1048576)) 1024)).length) hs16 rfl
 refine VC.inv ((120,mnil)::_) (fun _ h=>h.nilc 120) ?_
 refine VC.loop (G:=Nat × (List UInt8) × (Option Addr) × Nat × (List DOp) × (Option Addr) × Nat × Mem) (fun g=>[(0,.slice (g.2.2.1) ((g.2.1).length) ((g.2.2.2.1))),(43,.int .i64 ((((g.1):Nat):Int))),(2,Vp g1),(4,Vp g3),(5,.int .i64 (((2:Nat):Int))),(6,.int .i64 (1024)),(7,.int .i64 (((sX ((d0.drop (sN d0 1048576)).drop (sN (d0.drop (sN d0 1048576)) 1048576)) 1024:Nat):Int))),(8,.int .i64 (((sN ((d0.drop (sN d0 1048576)).drop (sN (d0.drop (sN d0 1048576)) 1048576)) 1024:Nat):Int))),(9,.int .i64 (sE ((d0.drop (sN d0 1048576)).drop (sN (d0.drop (sN d0 1048576)) 1048576)) 1024)),(10,Vp g17),(14,.agg [.int .i64 (1048576),.int .i64 (1048576),.int .i64 (1024)].toArray),(15,.int .i64 (((3:Nat):Int))),(16,.bool (decide (((3:Nat):Int) < 3))),(27,.bool (decide (¬ (sE ((d0.drop (sN d0 1048576)).drop (sN (d0.drop (sN d0 1048576)) 1048576)) 1024)=0))),(42,.int .i64 (((sX ((d0.drop (sN d0 1048576)).drop (sN (d0.drop (sN d0 1048576)) 1048576)) 1024:Nat):Int)))]) (fun g=>[(120,(g.2.2.2.2.2.2.2)),(118,Qo g17 (.cells #[.int .i64 (((sX d0 1048576:Nat):Int)),.int .i64 (((sX (d0.drop (sN d0 1048576)) 1048576:Nat):Int)),.slice (g.2.2.2.2.2.1) ((g.2.2.2.2.1).length) ((g.2.2.2.2.2.2.1))] 92 (0,0))),(2104,Qo g3 (.cells #[.int .i64 (((sX d0 1048576:Nat):Int)),.int .i64 (((sX (d0.drop (sN d0 1048576)) 1048576:Nat):Int)),.int .i64 (((sX ((d0.drop (sN d0 1048576)).drop (sN (d0.drop (sN d0 1048576)) 1048576)) 1024:Nat):Int))] 161 (0,0))),(102,Qo g1 (.cells #[.int .i64 (0),.int .i64 (0),.slice none (0) (0)] 92 (0,0))),(0,wm W)]) (fun g=>((g.1)≤sX ((d0.drop (sN d0 1048576)).drop (sN (d0.drop (sN d0 1048576)) 1048576)) 1024)∧(YC (sX ((d0.drop (sN d0 1048576)).drop (sN (d0.drop (sN d0 1048576)) 1048576)) 1024) (((d0.drop (sN d0 1048576)).drop (sN (d0.drop (sN d0 1048576)) 1048576)).drop (sN ((d0.drop (sN d0 1048576)).drop (sN (d0.drop (sN d0 1048576)) 1048576)) 1024))=(YC (sX ((d0.drop (sN d0 1048576)).drop (sN (d0.drop (sN d0 1048576)) 1048576)) 1024 - (g.1)) (g.2.1)).map (fun q=>((g.2.2.2.2.1)++q.1,q.2)))∧((g.2.2.2.2.1).length≤(g.1))∧(Rd (.sl .byte) (wm W) [.slice (g.2.2.1) (g.2.1).length (g.2.2.2.1)] (g.2.1))∧(Qz TOp (g.2.2.2.2.2.2.2) mnil (.slice (g.2.2.2.2.2.1) (g.2.2.2.2.1).length (g.2.2.2.2.2.2.1)) (g.2.2.2.2.1))) (fun g=>sX ((d0.drop (sN d0 1048576)).drop (sN (d0.drop (sN d0 1048576)) 1048576)) 1024 - (g.1)) (0,((d0.drop (sN d0 1048576)).drop (sN (d0.drop (sN d0 1048576)) 1048576)).drop (sN ((d0.drop (sN d0 1048576)).drop (sN (d0.drop (sN d0 1048576)) 1048576)) 1024),A16,((c0 - (sN d0 1048576)) - (sN (d0.drop (sN d0 1048576)) 1048576)) - (sN ((d0.drop (sN d0 1048576)).drop (sN (d0.drop (sN d0 1048576)) 1048576)) 1024),[],none,0,mnil) (⟨by omega,by exact Qqj _ _,by simp,hs16,(Qz.nil TOp mnil mnil)⟩) ⟨esn,fun _ h=>h.sub [120,118,2104,102,0]⟩ ?_
 rintro ⟨j,b,b_A,b_c,l,l_A,l_c,l_m⟩ ⟨hj,hl,hll,h_b,h_l⟩
 replace hj:j≤sX ((d0.drop (sN d0 1048576)).drop (sN (d0.drop (sN d0 1048576)) 1048576)) 1024:=hj
 replace hl:YC (sX ((d0.drop (sN d0 1048576)).drop (sN (d0.drop (sN d0 1048576)) 1048576)) 1024) (((d0.drop (sN d0 1048576)).drop (sN (d0.drop (sN d0 1048576)) 1048576)).drop (sN ((d0.drop (sN d0 1048576)).drop (sN (d0.drop (sN d0 1048576)) 1048576)) 1024))=(YC (sX ((d0.drop (sN d0 1048576)).drop (sN (d0.drop (sN d0 1048576)) 1048576)) 1024 - j) b).map (fun q=>(l++q.1,q.2)):=hl
 replace hll:l.length≤j:=hll
 replace h_b:Rd (.sl .byte) (wm W) [.slice b_A b.length b_c] b:=h_b
 replace h_l:Qz TOp l_m mnil (.slice l_A l.length l_c) l:=h_l
 show VC _ _ _ _ _ [(0,.slice b_A (b.length) (b_c)),(43,.int .i64 (((j:Nat):Int))),(2,Vp g1),(4,Vp g3),(5,.int .i64 (((2:Nat):Int))),(6,.int .i64 (1024)),(7,.int .i64 (((sX ((d0.drop (sN d0 1048576)).drop (sN (d0.drop (sN d0 1048576)) 1048576)) 1024:Nat):Int))),(8,.int .i64 (((sN ((d0.drop (sN d0 1048576)).drop (sN (d0.drop (sN d0 1048576)) 1048576)) 1024:Nat):Int))),(9,.int .i64 (sE ((d0.drop (sN d0 1048576)).drop (sN (d0.drop (sN d0 1048576)) 1048576)) 1024)),(10,Vp g17),(14,.agg [.int .i64 (1048576),.int .i64 (1048576),.int .i64 (1024)].toArray),(15,.int .i64 (((3:Nat):Int))),(16,.bool (decide (((3:Nat):Int) < 3))),(27,.bool (decide (¬ (sE ((d0.drop (sN d0 1048576)).drop (sN (d0.drop (sN d0 1048576)) 1048576)) 1024)=0))),(42,.int .i64 (((sX ((d0.drop (sN d0 1048576)).drop (sN (d0.drop (sN d0 1048576)) 1048576)) 1024:Nat):Int)))] [(120,l_m),(118,Qo g17 (.cells #[.int .i64 (((sX d0 1048576:Nat):Int)),.int .i64 (((sX (d0.drop (sN d0 1048576)) 1048576:Nat):Int)),.slice l_A (l.length) (l_c)] 92 (0,0))),(2104,Qo g3 (.cells #[.int .i64 (((sX d0 1048576:Nat):Int)),.int .i64 (((sX (d0.drop (sN d0 1048576)) 1048576:Nat):Int)),.int .i64 (((sX ((d0.drop (sN d0 1048576)).drop (sN (d0.drop (sN d0 1048576)) 1048576)) 1024:Nat):Int))] 161 (0,0))),(102,Qo g1 (.cells #[.int .i64 (0),.int .i64 (0),.slice none (0) (0)] 92 (0,0))),(0,wm W)]
 have l_b:b.length≤b_c:=by obtain ⟨_,_,he,hl,_⟩:=h_b.slice;simp only [Value.slice.injEq] at he;omega
 have k_b:b_c≤9223372036854775807:=by obtain ⟨_,_,he,_,hl⟩:=h_b.slice;simp only [Value.slice.injEq,maxLen] at he hl;omega
 have l_l:l.length≤l_c:=by obtain ⟨_,_,he,hl,_⟩:=h_l.slice;simp only [Value.slice.injEq] at he;omega
 have k_l:l_c≤9223372036854775807:=by obtain ⟨_,_,he,_,hl⟩:=h_l.slice;simp only [Value.slice.injEq,maxLen] at he hl;omega
 refine VC.rs (VO.z (.lss rfl rfl) (VO.nil (VC.seq ?_)))
 refine VC.cond rfl (fun hc21=>?_) (fun hc21=>?_)
 refine VC.skip (Qg (VC.seq (VC.block (VC.rs (VO.mv ?_)))))
 refine VO.callN 122 rfl Qq1 rfl (fun W hW=>Qmn W (Rd.mono h_b (hW.t 0))) (fun v22 m22 hv22=>?_)
 obtain ⟨s22_0,rfl,f22_0⟩:=hv22
 have hfa23:=Qmp b
 obtain ⟨rfl,q22_0_1,q22_0_2⟩:=Jr (x0:=((Yq b).1).1) (x1:=((Yq b).1).2.1) (x2:=((Yq b).1).2.2) (f22_0.rd (Qb _))
 simp only [maxLen] at q22_0_1
 simp only [maxLen] at q22_0_2
 refine VO.mv (VO.z (.ext rfl rfl) (VO.z (.ext rfl rfl) (VO.z (.ext rfl rfl) ?_)))
 refine VO.alloc 125 rfl YX (fun g24=>?_)
 refine VO.store (k:=3) (c':=[.bool (((Yq b).1).1),str (((Yq b).1).2.1),str (((Yq b).1).2.2)]) 125 rfl rfl (.inl Yx) rfl rfl rfl rfl rfl ?_
 refine VO.as (VO.as (VO.nil (VC.seq (VC.rs (VO.mv (VO.z (.neq rfl rfl) (VO.p6 125 120 118 2104 102 0 (VO.nil ?_))))))))
 refine VC.cond rfl (fun hc26=>?_) (fun hc26=>?_)
 · refine VC.rs ?_
   refine VO.z (.bst (cs:=[.int .i64 (0),.int .i64 (0),.slice none (0) (0)]) rfl J2 QbA rfl) ?_
   refine VO.store (k:=3) (c':=[.int .i64 (0),.int .i64 (0),.slice none (0) (0)]) 102 rfl rfl (.inl XI) rfl rfl rfl rfl rfl ?_
   refine VO.as (VO.nil (VC.ret (QK (Jf (QK (QK (Jf (QK ?_))))))))
   refine ⟨_,_,QE (rs:=[.cell 2 92,.tmp 3]) rfl (.agg 102 rfl XI rfl ⟨_,_,_,Qn _ _,Nat.le_of_ble_eq_true rfl,rfl⟩ (.tmp rfl .nil)),fun W_ hI=>Q2 (l:=[]) hI [] rfl rfl (Qb _) (fun hS_=>?_)⟩
   dsimp only [Qu]
   have he0:((Qm d0).1:Ty.Den YB)=(0,0,[]):=by first | rfl | (exact Q6)
   refine ⟨[.int .i64 (0),.int .i64 (0),.slice none (0) (0)],?_,?_⟩
   rotate_left
   · rw [he0];exact (Yb _ _ _ (Qt.nilAt 0 hS_) bdk bdk (Ow.nil _ _))
   all_goals (first | rfl | (exact Q6))
 refine VC.skip (Qg ?_)
 refine VC.inv _ (fun _ h=>Inv.num h 118 2118 rfl) ?_
 refine VC.inv _ (fun _ h=>Inv.num h 2104 104 rfl) ?_
 refine VC.regD _ 10 [(0,true),(1,true),(2,true),(5,true),(6,true),(7,true),(3,false),(4,false),(8,true),(9,false)] follows (by kernel_rfl) (fun _ h=>h.sub [125,2118,104,102,0]) ?_
 refine VD.z rfl (.fa rfl J2 rfl) ?_
 refine VD.yH rfl rfl (.inl rfl) (by kernel_rfl) (.ld1 2118 rfl Jw rfl (Qa rfl rfl)) ?_
 refine VD.z rfl (.ldA 125 rfl Yx rfl (Qa rfl rfl)) (VD.z rfl (.mv rfl) (VD.z rfl (.mv rfl) ?_))
 obtain ⟨A27,hA27,hs27⟩:=h_b.drop 1 (((Yq b).2.1).toNat) rfl bd
 refine VD.z rfl (.slLI (((Yq b).2.1).toNat) A27 rfl rfl Jz bd hA27 bd) ?_
 refine VD.bsl (cs:=[.bool (((Yq b).1).1),str (((Yq b).1).2.1),str (((Yq b).1).2.2)]) 129 rfl rfl rfl QX YX rfl rfl (fun _ h=>h.sub [125,2118,104,102,0]) (fun g28=>?_)
 obtain ⟨mo30,cs30,hM30,hA30,hC30⟩:=h_l
 refine VD.app 120 rfl rfl rfl rfl QX YX rfl rfl hM30 hA30 (.row 129 _ _ _ 1 1 _ _ Tryz.underlying34 rfl (Qa rfl rfl)) (by simp [Value.oneCell']) bdm bd (by decide) (fun _ _ h=>h.sub [125,2118,104,102,0]) (fun v30 m30 hN30=>?_)
 have ho30:Qz TOp m30 mnil v30 (l++[((Yq b).1)]):=Qz.one hC30 hN30 (show Rd TOp _ _ ((Yq b).1) from (Xl (m:=_) (((Yq b).1).1) (((Yq b).1).2.1) (((Yq b).1).2.2) bdm bdm))
 obtain ⟨A30,c30,rfl,l30,k30⟩:=ho30.slc
 refine VD.z rfl (.fa rfl J2 rfl) ?_
 refine VD.storeH (k:=1) (c':=[Value.int .i64 (((sX d0 1048576:Nat):Int)),Value.int .i64 (((sX (d0.drop (sN d0 1048576)) 1048576:Nat):Int)),Value.slice A30 ((l++[((Yq b).1)]).length) (c30)]) 2118 rfl rfl rfl (.inr ⟨Jw,rfl⟩) rfl rfl rfl rfl rfl (fun _ h=>h.sub [125,104,102,0]) ?_
 refine VD.nil rfl ?_ rfl
 refine VO.as (VO.nil (Jh (Qg ?_)))
 refine VC.reg ?_
 refine VO.z (.add (c:=((j+1:Nat):Int)) rfl rfl Qp ⟨bd,bd⟩) ?_
 refine VO.mv (VO.nil ?_)
 have hrl31:b.length - (((Yq b).2.1).toNat)=(b.drop (((Yq b).2.1).toNat)).length:=by simp only [List.length_drop,List.length_take];try omega
 rw [hrl31]
 exact Qg ⟨⟨j+1,b.drop (((Yq b).2.1).toNat),A27,b_c - (((Yq b).2.1).toNat),l++[((Yq b).1)],A30,c30,m30⟩,⟨by omega,by exact QkN hl Qp Qf,by (simp only [List.length_append,List.length_cons,List.length_nil];omega),(Rd.relen hs27 rfl),ho30⟩,bd,⟨esn,fun _ h=>Inv.sub (Inv.num (Inv.num h 2118 118 rfl) 104 2104 rfl) [120,118,2104,102,0]⟩⟩
 refine VC.exit (JU (JU (JT (Qg (VC.seq (VC.rs (VO.mv (VO.z (.lenS rfl Jz) (VO.z (.gtr rfl rfl) (VO.mv ?_))))))))))
 refine VO.dec (t:=67) rfl (fun hc32=>?_) (fun hc32=>?_)
 · refine VO.gN (VO.gN (VO.gN (VO.z (.pT rfl rfl) (VO.nil (VC.condT rfl (VC.rs ?_))))))
   refine VO.z (.bst (cs:=[.int .i64 (0),.int .i64 (0),.slice none (0) (0)]) rfl J2 QbA rfl) ?_
   refine VO.store (k:=3) (c':=[.int .i64 (0),.int .i64 (0),.slice none (0) (0)]) 102 rfl rfl (.inl XI) rfl rfl rfl rfl rfl ?_
   refine VO.as (VO.p5 120 118 2104 102 0 (VO.nil (VC.ret (QK ?_))))
   refine ⟨_,_,QE (rs:=[.cell 2 92,.tmp 3]) rfl (.agg 102 rfl XI rfl ⟨_,_,_,Qn _ _,Nat.le_of_ble_eq_true rfl,rfl⟩ (.tmp rfl .nil)),fun W_ hI=>Q2 (l:=[]) hI [] rfl rfl (Qb _) (fun hS_=>?_)⟩
   dsimp only [Qu]
   have he0:((Qm d0).1:Ty.Den YB)=(0,0,[]):=by first | rfl | (exact Q6)
   refine ⟨[.int .i64 (0),.int .i64 (0),.slice none (0) (0)],?_,?_⟩
   rotate_left
   · rw [he0];exact (Yb _ _ _ (Qt.nilAt 0 hS_) bdk bdk (Ow.nil _ _))
   all_goals (first | rfl | (exact Q6))
 refine VO.w (.ldA 118 rfl XI rfl (Qa rfl rfl)) ?_
 refine VO.gcallN 133 rfl ⟨_,rfl,rfl⟩ Qm5 rfl (fun W hW=>QdU W (Qh4 (m:=wm W) ((sX d0 1048576:Nat):Int) ((sX (d0.drop (sN d0 1048576)) 1048576:Nat):Int) l bdk bdk (Qz.rd h_l (hW.t 120) (JW _)))) (fun v33 m33 hv33=>?_)
 try dsimp only at hv33
 subst hv33
 refine VO.w (.neq rfl rfl) (VO.z (.pF rfl rfl) (VO.nil ?_))
 refine VC.cond rfl (fun hc35=>?_) (fun hc35=>?_)
 · refine VC.rs ?_
   refine VO.z (.bst (cs:=[.int .i64 (0),.int .i64 (0),.slice none (0) (0)]) rfl J2 QbA rfl) ?_
   refine VO.store (k:=3) (c':=[.int .i64 (0),.int .i64 (0),.slice none (0) (0)]) 102 rfl rfl (.inl XI) rfl rfl rfl rfl rfl ?_
   refine VO.as (VO.p5 120 118 2104 102 0 (VO.nil (VC.ret (QK ?_))))
   refine ⟨_,_,QE (rs:=[.cell 2 92,.tmp 3]) rfl (.agg 102 rfl XI rfl ⟨_,_,_,Qn _ _,Nat.le_of_ble_eq_true rfl,rfl⟩ (.tmp rfl .nil)),fun W_ hI=>Q2 (l:=[]) hI [] rfl rfl (Qb _) (fun hS_=>?_)⟩
   dsimp only [Qu]
   have he0:((Qm d0).1:Ty.Den YB)=(0,0,[]):=by first | rfl | (exact Q6)
   refine ⟨[.int .i64 (0),.int .i64 (0),.slice none (0) (0)],?_,?_⟩
   rotate_left
   · rw [he0];exact (Yb _ _ _ (Qt.nilAt 0 hS_) bdk bdk (Ow.nil _ _))
   all_goals (first | rfl | (exact Q6))
 · refine VC.skip (Qg (VC.rs (VO.z (.ldA 118 rfl XI rfl (Qa rfl rfl)) ?_)))
   refine VO.store (k:=3) (c':=[.int .i64 (((sX d0 1048576:Nat):Int)),.int .i64 (((sX (d0.drop (sN d0 1048576)) 1048576:Nat):Int)),.slice l_A (l.length) (l_c)]) 102 rfl rfl (.inl XI) rfl rfl rfl rfl rfl ?_
   refine VO.as (VO.p5 120 118 2104 102 0 (VO.nil (VC.ret ?_)))
   refine ⟨_,_,QE (rs:=[.cell 2 92,.tmp 3]) rfl (.agg 102 rfl XI rfl ⟨_,_,_,Qn _ _,Nat.le_of_ble_eq_true rfl,rfl⟩ (.tmp rfl .nil)),fun W_ hI=>Q2 (l:=[l_m]) hI [120] rfl rfl (Qb _) (fun hS_=>?_)⟩
   dsimp only [Qu]
   have he0:((Qm d0).1:Ty.Den YB)=(((sX d0 1048576:Nat):Int),((sX (d0.drop (sN d0 1048576)) 1048576:Nat):Int),l):=by first | rfl | (exact Q6)
   refine ⟨[.int .i64 (((sX d0 1048576:Nat):Int)),.int .i64 (((sX (d0.drop (sN d0 1048576)) 1048576:Nat):Int)),.slice l_A (l.length) (l_c)],?_,?_⟩
   rotate_left
   · rw [he0];exact (Yb _ _ _ hS_ bdk bdk (Qz.ow h_l rfl))
   all_goals (first | rfl | (exact Q6))
theorem QqX:JE Tryz.prog 147=true:=by kernel_rfl
theorem Qgz (W:World) {v0:List Value} {d0:Qe} (h0:Rd QA (wm W) v0 d0):Qc Tryz.prog 112 [.agg v0.toArray] W (mnil) (fun v m'=>v= .int .i64 (Q0 d0)):=by
 obtain ⟨p0_A2,p0_c2,rfl,p0_0,p0_1,p0_2⟩:=Jc (x0:=d0.1) (x1:=d0.2.1) (x2:=d0.2.2) h0
 simp only [inK] at p0_0 p0_1
 refine Qc.ofA (n:=24) Tryz.func112 rfl rfl rfl ?_
 refine VC.rs ?_
 refine VO.box (cs:=[.int .i64 (d0.1),.int .i64 (d0.2.1),.slice p0_A2 (d0.2.2.length) (p0_c2)]) 102 rfl rfl rfl (fun g1=>?_)
 refine VO.as (VO.k3 0 1 2 (VC.seq (VC.rs (VO.z (.fa rfl JV rfl) (VO.z (.ld1 102 rfl tk3 rfl (Qa rfl rfl)) (VO.z (.lss rfl rfl) (VO.mv ?_)))))))
 refine VO.dec (t:=6) rfl (fun hc3=>?_) (fun hc3=>?_)
 refine VO.gN (VO.gN (VO.gN (VO.z (.pT rfl rfl) (VO.mv (VO.gN (VO.gN (VO.gN (VO.z (.pT rfl rfl) (VO.mv (VO.gN (VO.gN ?_)))))))))))
 refine VO.gN (VO.z (.pT rfl rfl) (VO.k4 0 1 2 20 (VC.condT rfl (VC.rs (VO.as (VO.p2 102 0 (VO.k4 0 1 2 20 (VC.ret (QK ?_)))))))))
 exact Yu 2 rfl (by first | rfl | (unfold Q0;congr 1;split <;> (try split) <;> first | rfl | omega))
 refine VO.w (.fa rfl JV rfl) (VO.w (.ld1 102 rfl tk3 rfl (Qa rfl rfl)) (VO.w (.gtr rfl rfl) (VO.z (.pF rfl rfl) (VO.mv ?_))))
 refine VO.dec (t:=11) rfl (fun hc4=>?_) (fun hc4=>?_)
 refine VO.gN (VO.gN (VO.gN (VO.z (.pT rfl rfl) (VO.mv (VO.gN (VO.gN (VO.gN (VO.z (.pT rfl rfl) (VO.k4 0 1 2 20 (VC.condT rfl (VC.rs ?_)))))))))))
 refine VO.as (VO.p2 102 0 (VO.k4 0 1 2 20 (VC.ret (QK ?_))))
 exact Yu 2 rfl (by first | rfl | (unfold Q0;congr 1;split <;> (try split) <;> first | rfl | omega))
 refine VO.w (.fa rfl JV rfl) (VO.w (.ld1 102 rfl tk3 rfl (Qa rfl rfl)) (VO.w (.lss rfl rfl) (VO.z (.pF rfl rfl) (VO.mv ?_))))
 refine VO.dec (t:=16) rfl (fun hc5=>?_) (fun hc5=>?_)
 refine VO.gN (VO.gN (VO.gN (VO.z (.pT rfl rfl) (VO.k4 0 1 2 20 (VC.condT rfl (VC.rs (VO.as (VO.p2 102 0 (VO.k4 0 1 2 20 (VC.ret (QK ?_)))))))))))
 exact Yu 2 rfl (by first | rfl | (unfold Q0;congr 1;split <;> (try split) <;> first | rfl | omega))
 refine VO.w (.fa rfl JV rfl) (VO.w (.ld1 102 rfl tk3 rfl (Qa rfl rfl)) (VO.w (.gtr rfl rfl) (VO.z (.pF rfl rfl) (VO.k4 0 1 2 20 ?_))))
 refine VC.cond rfl (fun hc6=>?_) (fun hc6=>?_)
 refine VC.rs (VO.as (VO.p2 102 0 (VO.k4 0 1 2 20 (VC.ret (QK ?_)))))
 exact Yu 2 rfl (by first | rfl | (unfold Q0;congr 1;split <;> (try split) <;> first | rfl | omega))
 refine VC.skip (Qg (VC.rs (VO.z (.fa rfl JV rfl) (VO.z (.ld1 102 rfl Jw rfl (Qa rfl rfl)) ?_))))
 refine VO.callN 107 rfl QqX rfl (fun W hW=>QkO W (Rd.mono p0_2 (hW.t 0))) (fun v7 m7 hv7=>?_)
 subst hv7
 refine VO.as (VO.p2 102 0 (VO.k4 0 1 2 20 (VC.ret ?_)))
 exact Yu 2 rfl (by first | rfl | (unfold Q0;congr 1;split <;> (try split) <;> first | rfl | omega))
theorem QjS (W:World) {g0:Nat} {E0:TypeId} {d0:XT} {b0_0:Value} (hm:mle (Qo g0 (.cells [(b0_0:Value),.int .i64 d0.2.1,.bool d0.2.2].toArray E0 (0,0))) (wm W)) (h0_0:Rd (.sl .byte) (Ju (wm W) (Qo g0 (.cells [(b0_0:Value),.int .i64 d0.2.1,.bool d0.2.2].toArray E0 (0,0)))) [b0_0] d0.1) (h0_1:inK .i64 d0.2.1):Qc Tryz.prog 142 [Vp g0] W (Qo g0 (.cells [(b0_0:Value),.int .i64 d0.2.1,.bool d0.2.2].toArray E0 (0,0))) (fun v m'=>v= .bool (decide (d0.2.2=false∧d0.2.1=d0.1.length))∧m'=Qo g0 (.cells [(b0_0:Value),.int .i64 d0.2.1,.bool d0.2.2].toArray E0 (0,0))∧inK .i64 d0.2.1):=by
 obtain ⟨A0_0,c0_0,rfl,l0_0,k0_0⟩:=h0_0.slc
 have h0_1':=h0_1;simp only [inK] at h0_1'
 refine Qc.ofB (n:=20) hm Tryz.func142 rfl rfl rfl ?_
 refine VC.rs (VO.as (VO.k2 0 2 (VC.seq ?_)))
 refine VC.regD _ 15 [(0,true),(1,true),(2,true),(3,true),(4,true),(5,true),(6,true),(7,true),(8,true),(9,true),(10,true),(11,true),(12,true),(13,true),(14,true)] follows (by kernel_rfl) (fun _ h=>h.sub [0,1]) ?_
 refine VD.z rfl (.mv rfl) (VD.z rfl (.nilp rfl) (VD.z rfl (.fa rfl ZP rfl) (VD.z rfl (.ld1 1 rfl tk4 rfl (Qa rfl rfl)) (VD.z rfl (.not rfl) (VD.z rfl (.mv rfl) ?_)))))
 refine VD.decBN (s:=8) rfl (fun hc1=>?_) (fun hc1=>?_)
 ·refine VD.w rfl (.mv rfl) (VD.w rfl (.nilp rfl) (VD.w rfl (.fa rfl ZP rfl) (VD.w rfl (.ld1 1 rfl tk3 rfl (Qa rfl rfl)) (VD.w rfl (.mv rfl) (VD.w rfl (.nilp rfl) (VD.w rfl (.fa rfl ZP rfl) (VD.w rfl (.ld1 1 rfl QcS rfl (Qa rfl rfl)) (VD.w rfl (.lenS rfl Jz) ?_))))))))
  refine VD.nil rfl ?_ rfl
  refine VO.w (.eql rfl rfl) (VO.z (.pT rfl rfl) (VO.as (VO.k2 0 2 (Qg (VC.ret ?_)))))
  refine XC 2 [1] fun hS_=>?_
  dsimp only [Qu]
  refine ⟨?_,?_,?_⟩
  rotate_left
  ·rw [ZA]
  ·exact (show inK .i64 _ by simp only [inK];(first | exact bd))
  all_goals (first | rfl | (simp [*];done))
 ·refine VD.gN rfl (VD.gN rfl (VD.gN rfl (VD.gN rfl (VD.gN rfl (VD.gN rfl (VD.gN rfl (VD.gN rfl (VD.gN rfl ?_))))))))
  refine VD.nil rfl ?_ rfl
  refine VO.gN (VO.z (.pF rfl rfl) (VO.as (VO.k2 0 2 (Qg (VC.ret ?_)))))
  refine XC 2 [1] fun hS_=>?_
  dsimp only [Qu]
  refine ⟨?_,?_,?_⟩
  rotate_left
  ·rw [ZA]
  ·exact (show inK .i64 _ by simp only [inK];(first | exact bd))
  all_goals (first | rfl | (simp [*];done))
abbrev ZC : Ty := .pair (.int .i64) (.pair (.int .i64) (.spl TOp))
abbrev Z7 := Int × Int × (List DOp × List DOp)
theorem QaF {m:Mem} {cs:List Value} {x0:Int} {x1:Int} {x2:List DOp × List DOp} (h:Rd ZC m cs (x0,x1,x2)):∃ (A2:Option Addr),∃ (c2:Nat),cs=[(.int .i64 x0:Value),.int .i64 x1,.slice A2 x2.1.length c2]∧inK .i64 x0∧inK .i64 x1∧Rd (.spl TOp) m [.slice A2 x2.1.length c2] x2:=by
 obtain ⟨p1,q1,rfl,u1,w1⟩:=Rd.pair h
 obtain ⟨rfl,z2⟩:=(show _=_∧_ from u1)
 obtain ⟨p3,q3,rfl,u3,w3⟩:=Rd.pair w1
 obtain ⟨rfl,z4⟩:=(show _=_∧_ from u3)
 have z5:=w3
 obtain ⟨A5,c5,rfl,_⟩:=Rd.spl1 w3
 exact ⟨A5,c5,rfl,z2,z4,z5⟩
theorem Qgf {m:Mem} (x0:Int) (x1:Int) (x2:List DOp × List DOp) (h0:inK .i64 x0) (h1:inK .i64 x1) {v2:Value} (h2:Rd (.spl TOp) m [v2] x2):Rd ZC m [.int .i64 x0,.int .i64 x1,v2] (x0,x1,x2):=(Rd.mkPair (c1:=[_]) (show Rd (.int .i64) m [_] _ from ⟨rfl,h0⟩) (Rd.mkPair (c1:=[_]) (show Rd (.int .i64) m [_] _ from ⟨rfl,h1⟩) h2))
theorem Qbm {m:Mem} {cs:List Value} {x0:Int} {x1:Int} {x2:List DOp × List DOp} (h:Ow ZC m cs (x0,x1,x2)):∃ (A2:Option Addr),∃ (c2:Nat),∃ (n2:Mem),cs=[(.int .i64 x0:Value),.int .i64 x1,.slice A2 x2.1.length c2]∧Qt m [n2]∧inK .i64 x0∧inK .i64 x1∧Ow (.spl TOp) n2 [.slice A2 x2.1.length c2] x2:=by
 obtain ⟨p1,q1,ma1,mb1,rfl,dj1,la1,lb1,u1,w1⟩:=Ow.pair h
 obtain ⟨rfl,z2⟩:=(show _=_∧_ from u1)
 obtain ⟨p3,q3,ma3,mb3,rfl,dj3,la3,lb3,u3,w3⟩:=Ow.pair w1
 obtain ⟨rfl,z4⟩:=(show _=_∧_ from u3)
 have z5:=w3
 obtain ⟨A5,c5,rfl,_⟩:=Ow.spl1 w3
 exact ⟨A5,c5,_,rfl,(Qt.app dj1 la1 lb1 (Qt.nil _) (Qt.app dj3 la3 lb3 (Qt.nil _) (Qt.one (Qb _)))),z2,z4,z5⟩
theorem QcO {m:Mem} {n2:Mem} (x0:Int) (x1:Int) (x2:List DOp × List DOp) (hS:Qt m [n2]) (h0:inK .i64 x0) (h1:inK .i64 x1) {v2:Value} (h2:Ow (.spl TOp) n2 [v2] x2):Ow ZC m [.int .i64 x0,.int .i64 x1,v2] (x0,x1,x2):=by
 obtain ⟨e1,la1,lb1,Sa1,Sb1⟩:=Qt.cut (l:=[]) (r:=[n2]) hS
 obtain ⟨e2,la2,lb2,Sa2,Sb2⟩:=Qt.cut (l:=[]) (r:=[n2]) Sb1
 exact (Ow.mkPair (c1:=[_]) e1 la1 lb1 (show Ow (.int .i64) _ [_] _ from ⟨rfl,h0⟩) (Ow.mkPair (c1:=[_]) e2 la2 lb2 (show Ow (.int .i64) _ [_] _ from ⟨rfl,h1⟩) (h2.up (Sb2.1 _ (.head _)))))
abbrev DHC := Int × Int × Hd
instance decHC : DecidableEq DHC := (@instDecidableEqProd _ _ inferInstance (@instDecidableEqProd _ _ inferInstance inferInstance))
def X4 (c : Qe) : Z7 := (c.1, c.2.1, c.2.2, Z9)
def XY : List Z7 := [(-7, 0, [], []), (-7, 0, [], []), (-7, 0, [], [])]
def fgC (c : Z7) : Qe := (c.1, c.2.1, c.2.2.1)
theorem Qrn (l:List Qe):(l.map X4).map fgC=l:=by
 rw [List.map_map];exact List.map_id l
theorem QmD (l:List Qe):((l.map X4++XY).take l.length)=l.map X4:=by
 rw [List.take_append_of_le_length (by simp),List.take_of_length_le (by simp)]
theorem QqG (l:List Qe):((l.map X4++XY).take l.length).map fgC=l:=by rw [QmD,Qrn]
theorem Qro {m:Mem} {c:List Value} {x:Z7} (h:Rd ZC m c x):Rd QA m c (fgC x):=by
 obtain ⟨A,k,rfl,z0,z1,z2⟩:=QaF (x0:=x.1) (x1:=x.2.1) (x2:=x.2.2) h
 exact YG (m:=m) _ _ _ z0 z1 (Rd.pre2 (Rd.full z2).2)
theorem fgC_rd {m:Mem} {cs:List Value} {l:List Z7} (h:Rd (.sl ZC) m cs l):Rd (.sl QA) m cs (l.map fgC):=Rd.mapL (e:=ZC) (e':=QA) fgC rfl (fun _ _ _ h=>Qro h) h
theorem QmE {m:Mem} {cs:List Value} {l:List Qe} (h:Rd (.sl ZC) m cs ((l.map X4++XY).take l.length)):Rd (.sl QA) m cs l:=by
 have h2:=fgC_rd h
 rwa [QqG] at h2
theorem Qg6 (l:List Qe):(l.map X4++XY).length=l.length+3:=by simp [XY]
theorem QmF {out:List Z7} {l0:List Qe} {k:Nat} {c:Qe} (h:out=(l0.take k).map X4) (hc:l0[k]? =some c):out++[X4 c]=(l0.take (k+1)).map X4:=by
 rw [h,Zc hc,List.map_append];rfl
theorem QiS {out d:List Z7} {k:Nat} (h:out=d++XY.take k) (hk:k < 3):out++[(-7,0,[],[])]=d++XY.take (k+1):=by
 rw [h,List.append_assoc]
 congr 1
 rcases k with _ | _ | _ | k
 ·rfl
 ·rfl
 ·rfl
 ·omega
theorem QmG {full:List Z7} {l:List Qe} {k:Nat} {x:Z7} {c:Qe} (e:full=l.map X4++XY) (hx:full[k]? =some x) (hc:l[k]? =some c):x=X4 c:=by
 obtain ⟨hk,_⟩:=List.getElem?_eq_some_iff.1 hc
 rw [e,List.getElem?_append_left (by simpa using hk),List.getElem?_map,hc] at hx
 exact (Option.some.inj hx).symm
theorem Qn4 {full:List Z7} {l:List Qe} {k:Nat} {x:Z7} (h:full=l.map X4++XY) (hk:l.length≤k) (hx:full[k]? =some x):x=(-7,0,[],[]):=by
 obtain ⟨hk2,_⟩:=List.getElem?_eq_some_iff.1 hx
 rw [h,Qg6] at hk2
 rw [h,List.getElem?_append_right (by simpa using hk),List.length_map] at hx
 have h3:k - l.length=0∨k - l.length=1∨k - l.length=2:=by omega
 rcases h3 with e | e | e <;> rw [e] at hx <;> exact (Option.some.inj hx).symm
theorem Qqw {l:List DOp} {n:Nat} (h:n=l.length):(l++Z9).take (n+3)=l++Z9:=by
 rw [List.take_of_length_le];simp [Z9];omega
theorem Qm8:JE Tryz.prog 112=true:=by kernel_rfl
theorem Qra:JE Tryz.prog 115=true:=by kernel_rfl
theorem QmT:JE Tryz.prog 65=true:=by kernel_rfl
theorem QmS:JE Tryz.prog 69=true:=by kernel_rfl
theorem fnOk70:JE Tryz.prog 70=true:=by kernel_rfl
theorem Qbq (W:World) {v0:List Value} {d0:Qe} (h0:Rd QA (wm W) v0 d0) (e0:d0.2.2.length≤3518437208800):Qc Tryz.prog 65 [.agg v0.toArray] W (mnil) (fun v m'=>∃ (s0:List Value),v= .agg s0.toArray∧Ow ZC m' s0 (X4 d0)):=by
 obtain ⟨p0_A2,p0_c2,rfl,p0_0,p0_1,p0_2⟩:=Jc (x0:=d0.1) (x1:=d0.2.1) (x2:=d0.2.2) h0
 simp only [inK] at p0_0 p0_1
 refine Qc.ofA (n:=15) Tryz.func65 rfl rfl rfl ?_
 refine VC.rs ?_
 refine VO.box (cs:=[.int .i64 (d0.1),.int .i64 (d0.2.1),.slice p0_A2 (d0.2.2.length) (p0_c2)]) 102 rfl rfl rfl (fun g1=>?_)
 refine VO.alloc 104 rfl Qba (fun g3=>?_)
 refine VO.k3 0 1 2 (VC.seq ?_)
 refine VC.regD _ 11 [(0,true),(1,true),(2,true),(3,true),(4,true),(5,true),(7,true),(8,true),(9,true),(6,false),(10,true)] follows (by kernel_rfl) (fun _ h=>h.sub [104,102,0]) ?_
 refine VD.z rfl (.fa rfl JV rfl) (VD.z rfl (.ld1 102 rfl tk3 rfl (Qa rfl rfl)) (VD.z rfl (.fa rfl JV rfl) (VD.z rfl (.ld1 102 rfl tk3 rfl (Qa rfl rfl)) (VD.z rfl (.fa rfl JV rfl) (VD.z rfl (.ld1 102 rfl Jw rfl (Qa rfl rfl)) (VD.z rfl (.fa rfl JV rfl) (VD.z rfl (.ld1 102 rfl Jw rfl (Qa rfl rfl)) (VD.z rfl (.lenS rfl QX) ?_))))))))
 refine VD.callN 105 rfl rfl (.inl rfl) Qm9 rfl (fun _ h=>h.sub [104,102,0]) (fun W hW=>QgC W (Rd.mono p0_2 (hW.t 0)) bd) (fun v5 m5 hv5=>?_)
 obtain ⟨s5_0,rfl,f5_0⟩:=hv5
 obtain ⟨A5_0,c5_0,eq5_0,l5_0,k5_0⟩:=f5_0.slc
 subst eq5_0
 have hs6:=(Ow.rd f5_0 (Qb _)).pre (j:=d0.2.2.length) bd
 rw [List.take_left] at hs6
 refine VD.z rfl (.slHI d0.2.2.length rfl rfl QX rfl bd) ?_
 refine VD.nil rfl ?_ rfl
 refine VO.z (.bst (cs:=[.int .i64 (d0.1),.int .i64 (d0.2.1),.slice A5_0 (d0.2.2.length) (c5_0)]) rfl JV Qba rfl) ?_
 refine VO.store (k:=3) (c':=[.int .i64 (d0.1),.int .i64 (d0.2.1),.slice A5_0 (d0.2.2.length) (c5_0)]) 104 rfl rfl (.inl XN) rfl rfl rfl rfl rfl ?_
 refine VO.k3 0 1 2 (Qg (VC.ret ?_))
 refine ⟨_,_,QE (rs:=[.cell 2 36]) rfl (.agg 104 rfl XN rfl ⟨_,_,_,Qn _ _,Nat.le_of_ble_eq_true rfl,rfl⟩ .nil),fun W_ hI=>Q2 (l:=[m5]) hI [105] rfl rfl (Qb _) (fun hS_=>?_)⟩
 dsimp only [Qu]
 have he0:(X4 d0:Ty.Den ZC)=(d0.1,d0.2.1,(d0.2.2,Z9)):=by first | rfl | (simp [*];done)
 refine ⟨[.int .i64 (d0.1),.int .i64 (d0.2.1),.slice A5_0 (d0.2.2.length) (c5_0)],?_,?_⟩
 rotate_left
 ·rw [he0];exact (QcO _ _ _ hS_ bdk bdk (Ow.mkSpl (e:=TOp) (xs:=d0.2.2) (ys:=Z9) f5_0 (by first | rfl | simp)))
 all_goals (first | rfl | (simp [*];done))
theorem Qbr (W:World) {v0:List Value} {d0:Z7} (h0:Rd ZC (wm W) v0 d0) {v1:List Value} {d1:Qe} (h1:Rd QA (wm W) v1 d1) (e0:d0=X4 d1) (e1:d1.2.2.length≤3518437208800):Qc Tryz.prog 69 [.agg v0.toArray,.agg v1.toArray] W (mnil) (fun v m'=>v= .bool true):=by
 have ea:=congrArg Prod.fst e0;have eb:=congrArg (fun x=>x.2.1) e0;have ec:=congrArg (fun x=>x.2.2.1) e0;have ed:=congrArg (fun x=>x.2.2.2) e0;simp only [X4] at ea eb ec ed;have el:=congrArg List.length ec;have em:=congrArg List.length ed;simp only [Z9,List.length_cons,List.length_nil] at em
 obtain ⟨p0_A2,p0_c2,rfl,p0_0,p0_1,p0_2⟩:=QaF (x0:=d0.1) (x1:=d0.2.1) (x2:=d0.2.2) h0
 simp only [inK] at p0_0 p0_1
 have p0_f2:=(Rd.full p0_2).2
 have p0_r2:=Rd.room p0_f2
 obtain ⟨p1_A2,p1_c2,rfl,p1_0,p1_1,p1_2⟩:=Jc (x0:=d1.1) (x1:=d1.2.1) (x2:=d1.2.2) h1
 simp only [inK] at p1_0 p1_1
 refine Qc.ofA (n:=38) Tryz.func69 rfl rfl rfl ?_
 refine VC.rs ?_
 refine VO.box (cs:=[.int .i64 (d0.1),.int .i64 (d0.2.1),.slice p0_A2 (d0.2.2.1.length) (p0_c2)]) 102 rfl rfl rfl (fun g1=>?_)
 refine VO.box (cs:=[.int .i64 (d1.1),.int .i64 (d1.2.1),.slice p1_A2 (d1.2.2.length) (p1_c2)]) 104 rfl rfl rfl (fun g3=>?_)
 refine VO.as (VO.k5 0 1 2 3 4 (VC.seq ?_))
 refine VC.regD _ 31 [(0,true),(1,true),(2,true),(3,true),(4,true),(5,true),(6,true),(7,true),(8,true),(9,true),(10,true),(11,true),(12,true),(13,true),(14,true),(15,true),(16,true),(17,true),(18,true),(19,true),(20,true),(21,true),(22,true),(23,true),(24,true),(25,true),(26,true),(27,true),(28,true),(29,true),(30,true)] follows (by kernel_rfl) (fun _ h=>h.sub [104,102,0]) ?_
 refine VD.z rfl (.fa rfl JV rfl) (VD.z rfl (.ld1 102 rfl tk3 rfl (Qa rfl rfl)) (VD.z rfl (.fa rfl JV rfl) (VD.z rfl (.ld1 104 rfl tk3 rfl (Qa rfl rfl)) (VD.z rfl (.eql rfl rfl) (VD.z rfl (.mv rfl) ?_)))))
 refine VD.dec (s:=10) rfl (fun hc5=>?_) (fun hc5=>?_)
 refine VD.w rfl (.fa rfl JV rfl) (VD.w rfl (.ld1 102 rfl tk3 rfl (Qa rfl rfl)) (VD.w rfl (.fa rfl JV rfl) (VD.w rfl (.ld1 104 rfl tk3 rfl (Qa rfl rfl)) (VD.w rfl (.eql rfl rfl) (VD.z rfl (.pT rfl rfl) (VD.z rfl (.mv rfl) ?_))))))
 refine VD.dec (s:=17) rfl (fun hc6=>?_) (fun hc6=>?_)
 refine VD.w rfl (.fa rfl JV rfl) (VD.w rfl (.ld1 102 rfl Jw rfl (Qa rfl rfl)) (VD.w rfl (.lenS rfl QX) (VD.w rfl (.fa rfl JV rfl) (VD.w rfl (.ld1 104 rfl Jw rfl (Qa rfl rfl)) (VD.w rfl (.lenS rfl QX) (VD.w rfl (.eql rfl rfl) (VD.z rfl (.pT rfl rfl) (VD.z rfl (.mv rfl) ?_))))))))
 refine VD.dec (s:=26) rfl (fun hc7=>?_) (fun hc7=>?_)
 refine VD.w rfl (.fa rfl JV rfl) (VD.w rfl (.ld1 102 rfl Jw rfl (Qa rfl rfl)) (VD.w rfl (.fa rfl JV rfl) (VD.w rfl (.ld1 104 rfl Jw rfl (Qa rfl rfl)) (VD.w rfl (.lenS rfl QX) ?_))))
 refine VD.w rfl (.add (c:=((d1.2.2.length+3:Nat):Int)) rfl rfl Qp ⟨bd,bd⟩) ?_
 have hs8:=p0_f2.pre (j:=(d1.2.2.length+3)) bd
 refine VD.w rfl (.slHI (d1.2.2.length+3) rfl rfl QX rfl bd) ?_
 refine VD.w rfl (.fa rfl JV rfl) (VD.w rfl (.ld1 104 rfl Jw rfl (Qa rfl rfl)) ?_)
 refine VD.nil rfl ?_ rfl
 refine VO.gcallN 109 rfl ⟨_,rfl,rfl⟩ Qra rfl (fun W hW=>Qk7 W (Rd.mono hs8 (hW.t 0)) (Rd.mono p1_2 (hW.t 0)) bd) (fun v9 m9 hv9=>?_)
 subst hv9
 refine VO.z (.pT rfl rfl) (VO.as (VO.k5 0 1 2 3 4 (Qg (VC.ret ?_))))
 exact Yu 4 rfl (by first | rfl | (exact congrArg Value.bool (decide_eq_true (by rw [ec,ed];exact Qqw Qp))))
 exact absurd (by rw [el]) hc7
 exact absurd eb hc6
 exact absurd ea hc5
theorem QY {P:Prop} (h:P:=by first | exact bd | exact e1 _ (List.mem_of_getElem? ‹d0[_]? =some _›)):P:=h
theorem Yy {k:IntKind} {x:Int} (h:inK k x:=by simp only [inK];exact QY):inK k x:=h
theorem QfP (W:World) {v0:Value} {d0:List Qe} (h0:Rd (.sl QA) (wm W) [v0] d0) (e0:d0.length≤3518437200000) (e1:∀ c∈d0,c.2.2.length≤3518437208800):Qc Tryz.prog 32 [v0] W (mnil) (fun v m'=>∃ (s0:Value),v=s0∧Ow (.sl ZC) m' [s0] (d0.map X4++XY)):=by
 obtain ⟨A0,c0,rfl,l0,k0⟩:=h0.slc
 refine Qc.ofA (n:=29) Tryz.func32 rfl rfl rfl ?_
 refine VC.rs (VO.as (VO.k2 0 2 (VC.rs (VO.as (VO.k3 0 2 3 (VC.seq (VC.rs (VO.as (VO.p1 0 (VO.k4 0 2 3 4 (VC.block ?_)))))))))))
 refine VC.inv ((101,mnil)::_) (fun _ h=>h.nilc 101) ?_
 refine VC.loop (G:=Nat × (List Z7) × (Option Addr) × Nat × Mem) (fun g=>[(3,.slice (g.2.2.1) ((g.2.1).length) ((g.2.2.2.1))),(4,.int .i64 ((((g.1):Nat):Int))),(0,.slice A0 (d0.length) (c0)),(2,.slice none (0) (0))]) (fun g=>[(101,(g.2.2.2.2)),(0,wm W)]) (fun g=>((g.1)≤d0.length)∧((g.2.1)=(d0.take (g.1)).map X4)∧(Ow (.sl ZC) (g.2.2.2.2) [.slice (g.2.2.1) (g.2.1).length (g.2.2.2.1)] (g.2.1))) (fun g=>d0.length - (g.1)) (0,[],none,0,mnil) (⟨by omega,by rfl,(Ow.nil ZC mnil)⟩) ⟨esn,fun _ h=>h.sub [101,0]⟩ ?_
 rintro ⟨k,out,out_A,out_c,out_m⟩ ⟨hk,ho,h_out⟩
 replace hk:k≤d0.length:=hk
 replace ho:out=(d0.take k).map X4:=ho
 replace h_out:Ow (.sl ZC) out_m [.slice out_A out.length out_c] out:=h_out
 show VC _ _ _ _ _ [(3,.slice out_A (out.length) (out_c)),(4,.int .i64 (((k:Nat):Int))),(0,.slice A0 (d0.length) (c0)),(2,.slice none (0) (0))] [(101,out_m),(0,wm W)]
 have l_out:out.length≤out_c:=by obtain ⟨_,_,he,hl,_⟩:=h_out.slice;simp only [Value.slice.injEq] at he;omega
 have k_out:out_c≤9223372036854775807:=by obtain ⟨_,_,he,_,hl⟩:=h_out.slice;simp only [Value.slice.injEq,maxLen] at he hl;omega
 have hlo:out.length≤k:=by rw [ho];simp;omega
 refine VC.seq (VC.rs (VO.mv (VO.mv (VO.z (.lenS rfl JS) (VO.z (.lss rfl rfl) (VO.k5 0 2 3 4 9 ?_))))))
 refine VC.cond rfl (fun hc2=>?_) (fun hc2=>?_)
 · refine VC.skip (Qg (VC.seq (VC.block ?_)))
   refine VC.reg ?_
   refine VO.mv (VO.mv (VO.mv ?_))
   obtain ⟨x3,hx3⟩:∃ z_,(d0)[k]? =some z_:=⟨_,List.getElem?_eq_getElem QY⟩
   obtain ⟨gg3,oo3,ec3,ea3,hce3,hre3⟩:=h0.elem hx3
   cases ea3
   obtain ⟨q3_A2,q3_c2,rfl,q3_0,q3_1,q3_2⟩:=Jc (x0:=x3.1) (x1:=x3.2.1) (x2:=x3.2.2) hre3
   simp only [inK] at q3_0 q3_1
   refine VO.z (.ixI k rfl rfl JS rfl QY) ?_
   refine VO.z (.ldA 0 rfl XN rfl hce3) ?_
   refine VO.callN 104 rfl QmT rfl (fun W hW=>Qbq W (Rd.mono hre3 (hW.t 0)) QY) (fun v4 m4 hv4=>?_)
   obtain ⟨s4_0,rfl,f4_0⟩:=hv4
   obtain ⟨q4_0_A2,q4_0_c2,q4_0_n2,rfl,q4_0_S,q4_0_0,q4_0_1,q4_0_2⟩:=Qbm (x0:=x3.1) (x1:=x3.2.1) (x2:=(x3.2.2,Z9)) f4_0
   simp only [inK] at q4_0_0 q4_0_1
   have q4_0_f2:=(Rd.full (q4_0_2.rd (Qb _))).2
   have q4_0_s2:=Rd.pre2 q4_0_f2
   have q4_0_r2:=Rd.room q4_0_f2
   dsimp only at q4_0_f2 q4_0_s2 q4_0_r2
   have q4_0_o2:=(Ow.full q4_0_2).2
   have q4_0_p2:=Ow.pre2 q4_0_o2
   dsimp only at q4_0_o2 q4_0_p2
   refine VO.inv _ (fun _ h=>h.parts (i:=104) rfl q4_0_S [105]) ?_
   refine VO.bsl (cs:=[.int .i64 (x3.1),.int .i64 (x3.2.1),.slice q4_0_A2 (x3.2.2.length) (q4_0_c2)]) 107 rfl rfl JS Qba rfl rfl (fun g6=>?_)
   refine VO.appO (e:=ZC) 101 105 107 rfl rfl rfl JS Qba rfl rfl rfl rfl h_out (QcO _ _ _ (Qt.one (Qb _)) Yy Yy q4_0_2) Tryz.underlying27 (Qa rfl rfl) (by simp only [maxLen];(exact QY)) QY (by decide) (fun v8 m8 ho8=>?_)
   obtain ⟨A8,c8,rfl,l8,k8⟩:=ho8.slc
   refine VO.as (VO.k5 0 2 3 4 9 (Jh (Qg ?_)))
   refine VC.reg ?_
   refine VO.mv ?_
   refine VO.z (.add (c:=((k+1:Nat):Int)) rfl rfl Qp ⟨by exact QY,by exact QY⟩) ?_
   refine VO.as (VO.p2 101 0 (VO.k5 0 2 3 4 9 ?_))
   exact Qg ⟨⟨k+1,out++[(x3.1,x3.2.1,(x3.2.2,Z9))],A8,c8,m8⟩,⟨by omega,by exact QmF ho ‹d0[k]? =some _›,ho8⟩,by exact QY,⟨esn,fun _ h=>Inv.sub h [101,0]⟩⟩
 refine VC.exit (JU (JU (JT (Qg (VC.seq (VC.rs (VO.as (VO.k6 0 2 3 4 5 9 (VC.block ?_)))))))))
 refine VC.loop (G:=Nat × (List Z7) × (Option Addr) × Nat × Mem) (fun g=>[(3,.slice (g.2.2.1) ((g.2.1).length) ((g.2.2.2.1))),(5,.int .i64 ((((g.1):Nat):Int))),(0,.slice A0 (d0.length) (c0)),(2,.slice none (0) (0)),(4,.int .i64 (((k:Nat):Int))),(9,.bool (decide (((k:Nat):Int) < ((d0.length:Nat):Int))))]) (fun g=>[(101,(g.2.2.2.2)),(0,wm W)]) (fun g=>((g.1)≤3)∧((g.2.1)=d0.map X4++XY.take (g.1))∧(Ow (.sl ZC) (g.2.2.2.2) [.slice (g.2.2.1) (g.2.1).length (g.2.2.2.1)] (g.2.1))) (fun g=>3 - (g.1)) (0,out,out_A,out_c,out_m) (⟨by omega,by (rw [ho,List.take_of_length_le Qp];simp),h_out⟩) ⟨esn,fun _ h=>h.sub [101,0]⟩ ?_
 rintro ⟨j,out,out_A,out_c,out_m⟩ ⟨hj,ho2,h_out⟩
 replace hj:j≤3:=hj
 replace ho2:out=d0.map X4++XY.take j:=ho2
 replace h_out:Ow (.sl ZC) out_m [.slice out_A out.length out_c] out:=h_out
 show VC _ _ _ _ _ [(3,.slice out_A (out.length) (out_c)),(5,.int .i64 (((j:Nat):Int))),(0,.slice A0 (d0.length) (c0)),(2,.slice none (0) (0)),(4,.int .i64 (((k:Nat):Int))),(9,.bool (decide (((k:Nat):Int) < ((d0.length:Nat):Int))))] [(101,out_m),(0,wm W)]
 have l_out:out.length≤out_c:=by obtain ⟨_,_,he,hl,_⟩:=h_out.slice;simp only [Value.slice.injEq] at he;omega
 have k_out:out_c≤9223372036854775807:=by obtain ⟨_,_,he,_,hl⟩:=h_out.slice;simp only [Value.slice.injEq,maxLen] at he hl;omega
 have hlo:out.length≤d0.length+3:=by rw [ho2];simp [XY];omega
 refine VC.seq (VC.rs (VO.mv (VO.z (.lss rfl rfl) (VO.p2 101 0 (VO.k7 0 2 3 4 5 9 21 ?_)))))
 refine VC.cond rfl (fun hc9=>?_) (fun hc9=>?_)
 refine VC.skip (Qg (VC.seq (VC.block ?_)))
 refine VC.reg ?_
 refine VO.mv ?_
 refine VO.z (.bst (cs:=[.int .i64 ((-7)),.int .i64 (0),.slice none (0) (0)]) rfl JV Qba rfl) ?_
 refine VO.bsl (cs:=[.int .i64 ((-7)),.int .i64 (0),.slice none (0) (0)]) 111 rfl rfl JS Qba rfl rfl (fun g10=>?_)
 refine VO.inv ((113,mnil)::_) (fun _ h=>h.nilc 113) ?_
 refine VO.appO (e:=ZC) 101 113 111 rfl rfl rfl JS Qba rfl rfl rfl rfl h_out (QcO _ _ _ (Qt.nilAt 0 (Qt.nil _)) Yy Yy (Ow.nilSpl _ _)) Tryz.underlying27 (Qa rfl rfl) (by simp only [maxLen];(exact QY)) QY (by decide) (fun v12 m12 ho12=>?_)
 obtain ⟨A12,c12,rfl,l12,k12⟩:=ho12.slc
 refine VO.as (VO.k7 0 2 3 4 5 9 21 (Jh (Qg ?_)))
 refine VC.reg ?_
 refine VO.mv ?_
 refine VO.z (.add (c:=((j+1:Nat):Int)) rfl rfl Qp ⟨by exact QY,by exact QY⟩) ?_
 refine VO.as (VO.k7 0 2 3 4 5 9 21 ?_)
 exact Qg ⟨⟨j+1,out++[(((-7),0,([],[])):Z7)],A12,c12,m12⟩,⟨by omega,by exact QiS ho2 Qp,ho12⟩,by exact QY,⟨esn,fun _ h=>Inv.sub h [101,0]⟩⟩
 · refine VC.exit (JU (JU (JT (Qg (VC.rs (VO.mv (VO.as (VO.k7 0 2 3 4 5 9 21 (VC.ret ?_)))))))))
   refine XC 2 [101] fun hS_=>?_
   dsimp only [Qu]
   exact ⟨Value.slice out_A (out.length) (out_c),(by first | rfl | (simp [*];done)),(Ow.cg (Ow.up h_out (hS_.1 _ (.head _))) (by first | rfl | (have:j=3:=Qp;subst this;exact ho2.symm)))⟩
theorem QN {P:Prop} (h:P:=by first | exact bd | exact QmG e0 ‹d0[_]? =some _› ‹d1[_]? =some _› | exact e2 _ (List.mem_of_getElem? ‹d1[_]? =some _›)):P:=h
theorem Yz {k:IntKind} {x:Int} (h:inK k x:=by simp only [inK];exact QN):inK k x:=h
theorem QcG (W:World) {v0:Value} {d0:List Z7} (h0:Rd (.sl ZC) (wm W) [v0] d0) {v1:Value} {d1:List Qe} (h1:Rd (.sl QA) (wm W) [v1] d1) (e0:d0=d1.map X4++XY) (e1:d1.length≤3518437200000) (e2:∀ c∈d1,c.2.2.length≤3518437208800):Qc Tryz.prog 34 [v0,v1] W (mnil) (fun v m'=>v= .bool true):=by
 have el:=congrArg List.length e0;rw [Qg6] at el
 obtain ⟨A0,c0,rfl,l0,k0⟩:=h0.slc
 obtain ⟨A1,c1,rfl,l1,k1⟩:=h1.slc
 refine Qc.ofA (n:=44) Tryz.func34 rfl rfl rfl ?_
 refine VC.rs (VO.as (VO.k3 0 1 4 (VC.seq (VC.rs (VO.mv (VO.z (.lenS rfl JS) (VO.mv (VO.z (.lenS rfl JS) ?_))))))))
 refine VO.z (.add (c:=((d1.length+3:Nat):Int)) rfl rfl Qp ⟨by exact QN,by exact QN⟩) ?_
 refine VO.z (.neq rfl rfl) (VO.k4 0 1 4 12 ?_)
 refine VC.cond rfl (fun hc1=>?_) (fun hc1=>?_)
 omega
 refine VC.skip (Qg (VC.seq (VC.rs (VO.as (VO.p1 0 (VO.k5 0 1 4 5 12 (VC.block ?_)))))))
 refine VC.loop (G:=Nat) (fun k=>[(5,.int .i64 (((k:Nat):Int))),(0,.slice A0 (d0.length) (c0)),(1,.slice A1 (d1.length) (c1)),(12,.bool (decide (¬ ((d0.length:Nat):Int)=((d1.length+3:Nat):Int))))]) (fun k=>[(0,wm W)]) (fun k=>(k≤d1.length)) (fun k=>d1.length - k) 0 Qp ⟨esn,fun _ h=>h.sub [0]⟩ ?_
 rintro k hk
 refine VC.seq (VC.rs (VO.mv (VO.mv (VO.z (.lenS rfl JS) (VO.z (.lss rfl rfl) (VO.k5 0 1 5 12 16 ?_))))))
 refine VC.cond rfl (fun hc2=>?_) (fun hc2=>?_)
 · refine VC.skip (Qg (VC.seq (VC.block (VC.seq ?_))))
   refine VC.regD _ 8 [(0,true),(1,true),(2,true),(3,true),(4,true),(5,true),(6,true),(7,true)] follows (by kernel_rfl) (fun _ h=>h.sub [0]) ?_
   refine VD.z rfl (.mv rfl) (VD.z rfl (.mv rfl) ?_)
   obtain ⟨x3,hx3⟩:∃ z_,(d0)[k]? =some z_:=⟨_,List.getElem?_eq_getElem QN⟩
   obtain ⟨gg3,oo3,ec3,ea3,hce3,hre3⟩:=h0.elem hx3
   cases ea3
   obtain ⟨q3_A2,q3_c2,rfl,q3_0,q3_1,q3_2⟩:=QaF (x0:=x3.1) (x1:=x3.2.1) (x2:=x3.2.2) hre3
   simp only [inK] at q3_0 q3_1
   have q3_f2:=(Rd.full q3_2).2
   refine VD.z rfl (.ixI k rfl rfl JS rfl QN) ?_
   refine VD.z rfl (.ldA 0 rfl XN rfl hce3) ?_
   refine VD.z rfl (.mv rfl) (VD.z rfl (.mv rfl) ?_)
   obtain ⟨x4,hx4⟩:∃ z_,(d1)[k]? =some z_:=⟨_,List.getElem?_eq_getElem QN⟩
   obtain ⟨gg4,oo4,ec4,ea4,hce4,hre4⟩:=h1.elem hx4
   cases ea4
   obtain ⟨q4_A2,q4_c2,rfl,q4_0,q4_1,q4_2⟩:=Jc (x0:=x4.1) (x1:=x4.2.1) (x2:=x4.2.2) hre4
   simp only [inK] at q4_0 q4_1
   refine VD.z rfl (.ixI k rfl rfl JS rfl QN) ?_
   refine VD.z rfl (.ldA 0 rfl XN rfl hce4) ?_
   refine VD.nil rfl ?_ rfl
   refine VO.callN 105 rfl QmS rfl (fun W hW=>Qbr W (Rd.mono hre3 (hW.t 0)) (Rd.mono hre4 (hW.t 0)) (by exact QmG e0 ‹d0[k]? =some _› ‹d1[k]? =some _›) QN) (fun v5 m5 hv5=>?_)
   subst hv5
   refine VO.z (.not rfl) (VO.k6 0 1 5 12 16 28 (Qg (VC.condF rfl (VC.skip (Jh (Qg ?_))))))
   refine VC.reg ?_
   refine VO.mv ?_
   refine VO.z (.add (c:=((k+1:Nat):Int)) rfl rfl Qp ⟨by exact QN,by exact QN⟩) ?_
   refine VO.as (VO.p1 0 (VO.k6 0 1 5 12 16 28 ?_))
   exact Qg ⟨k+1,by omega,by exact QN,⟨esn,fun _ h=>Inv.sub h [0]⟩⟩
 refine VC.exit (JU (JU (JT (Qg (VC.seq (VC.rs (VO.mv (VO.z (.lenS rfl JS) (VO.as (VO.k6 0 1 5 6 12 16 (VC.block ?_)))))))))))
 refine VC.loop (G:=Nat) (fun j=>[(6,.int .i64 (((j:Nat):Int))),(0,.slice A0 (d0.length) (c0)),(1,.slice A1 (d1.length) (c1)),(5,.int .i64 (((k:Nat):Int))),(12,.bool (decide (¬ ((d0.length:Nat):Int)=((d1.length+3:Nat):Int)))),(16,.bool (decide (((k:Nat):Int) < ((d1.length:Nat):Int))))]) (fun j=>[(0,wm W)]) (fun j=>(d1.length≤j∧j≤d0.length)) (fun j=>d0.length - j) d1.length Qp ⟨esn,fun _ h=>h.sub [0]⟩ ?_
 rintro j hj
 refine VC.seq (VC.rs (VO.mv (VO.mv (VO.z (.lenS rfl JS) (VO.z (.lss rfl rfl) (VO.p1 0 (VO.k7 0 1 5 6 12 16 34 ?_)))))))
 refine VC.cond rfl (fun hc6=>?_) (fun hc6=>?_)
 refine VC.skip (Qg (VC.seq (VC.block (VC.rs (VO.mv (VO.mv ?_))))))
 obtain ⟨x7,hx7⟩:∃ z_,(d0)[j]? =some z_:=⟨_,List.getElem?_eq_getElem QN⟩
 obtain ⟨gg7,oo7,ec7,ea7,hce7,hre7⟩:=h0.elem hx7
 cases ea7
 obtain ⟨q7_A2,q7_c2,rfl,q7_0,q7_1,q7_2⟩:=QaF (x0:=x7.1) (x1:=x7.2.1) (x2:=x7.2.2) hre7
 simp only [inK] at q7_0 q7_1
 have q7_f2:=(Rd.full q7_2).2
 have q7_s2:=Rd.pre2 q7_f2
 refine VO.z (.ixI j rfl rfl JS rfl QN) ?_
 refine VO.z (.ldA 0 rfl XN rfl hce7) ?_
 refine VO.z (.bst (cs:=[.int .i64 ((-7)),.int .i64 (0),.slice none (0) (0)]) rfl JV Qba rfl) ?_
 refine VO.callN 108 rfl fnOk70 rfl (fun W hW=>Qhn W (YG (m:=wm W) x7.1 x7.2.1 x7.2.2.1 Yz Yz (Rd.mono q7_s2 (hW.t 0))) (YG (m:=wm W) (-7) 0 [] Yz Yz (Rd.nil _ _ none 0 (Nat.zero_le _)))) (fun v8 m8 hv8=>?_)
 try dsimp only at hv8
 subst hv8
 refine VO.z (.notD rfl) (VO.k8 0 1 5 6 12 16 34 43 ?_)
 refine VC.cond rfl (fun hc9=>?_) (fun hc9=>?_)
 have h_:=Qn4 e0 hj.1 ‹d0[j]? =some _›;exact absurd (by rw [h_]) hc9
 refine VC.skip (Jh (Qg ?_))
 refine VC.reg ?_
 refine VO.mv ?_
 refine VO.z (.add (c:=((j+1:Nat):Int)) rfl rfl Qp ⟨by exact QN,by exact QN⟩) ?_
 refine VO.as (VO.k8 0 1 5 6 12 16 34 43 ?_)
 exact Qg ⟨j+1,by omega,by exact QN,⟨esn,fun _ h=>Inv.sub h [0]⟩⟩
 · refine VC.exit (JU (JU (JT (Qg (VC.rs (VO.as (VO.k8 0 1 4 5 6 12 16 34 (VC.ret ?_))))))))
   exact Yu 4 rfl (by first | rfl | (simp [*];done))
theorem Jm {P:Prop} (h:P:=by first | exact bd | (have:=Xw (by first | assumption | exact Decidable.not_not.1 (by assumption):Q0 _=0);omega)):P:=h
theorem Zq {k:IntKind} {x:Int} (h:inK k x:=by simp only [inK];exact Jm):inK k x:=h
set_option maxHeartbeats 1000000 in
theorem Xi (W:World) (d0:Int) (h0:inK .i64 d0) (d1:Int) (h1:inK .i64 d1) {v2:Value} {d2:List Qe} (h2:Rd (.sl QA) (wm W) [v2] d2):Qc Tryz.prog 66 [.int .i64 d0,.int .i64 d1,v2] W (mnil) (fun v m'=>∃ (s0:List Value),v= .agg s0.toArray∧Ow Qa7 m' s0 (Qi d0 d1 d2)):=by
 have h0':=h0;simp only [inK] at h0'
 have h1':=h1;simp only [inK] at h1'
 obtain ⟨A2,c2,rfl,l2,k2⟩:=h2.slc
 refine Qc.ofA (n:=55) Tryz.func66 rfl rfl rfl ?_
 refine VC.rs ?_
 refine VO.alloc 102 rfl QfC (fun g1=>?_)
 refine VO.k4 0 1 2 6 (VC.seq (VC.rs (VO.as (VO.k5 0 1 2 6 7 (VC.block ?_)))))
 refine VC.loop (G:=Nat × Int × Int) (fun g=>[(0,.int .i64 ((g.2.1))),(1,.int .i64 ((g.2.2))),(7,.int .i64 ((((g.1):Nat):Int))),(2,.slice A2 (d2.length) (c2)),(6,Vp g1)]) (fun g=>[(102,Qo g1 (.cells #[.int .i64 (0),.int .i64 (0)] 95 (0,0))),(0,wm W)]) (fun g=>((g.1)≤d2.length)∧(Qi d0 d1 d2=QG (g.2.1) (g.2.2) (g.1) (d2.drop (g.1)))) (fun g=>d2.length - (g.1)) (0,d0,d1) (⟨by omega,by rfl⟩) ⟨esn,fun _ h=>h.sub [102,0]⟩ ?_
 rintro ⟨k,e,nn⟩ ⟨hk,hf⟩
 replace hk:k≤d2.length:=hk
 replace hf:Qi d0 d1 d2=QG e nn k (d2.drop k):=hf
 show VC _ _ _ _ _ [(0,.int .i64 (e)),(1,.int .i64 (nn)),(7,.int .i64 (((k:Nat):Int))),(2,.slice A2 (d2.length) (c2)),(6,Vp g1)] [(102,Qo g1 (.cells #[.int .i64 (0),.int .i64 (0)] 95 (0,0))),(0,wm W)]
 refine VC.seq (VC.rs (VO.mv (VO.mv (VO.z (.lenS rfl JS) (VO.z (.lss rfl rfl) (VO.p2 102 0 (VO.k6 0 1 2 6 7 12 ?_)))))))
 refine VC.cond rfl (fun hc3=>?_) (fun hc3=>?_)
 refine VC.skip (Qg (VC.seq (VC.block (VC.rs (VO.mv (VO.mv ?_))))))
 obtain ⟨x4,hx4⟩:∃ z_,(d2)[k]? =some z_:=⟨_,List.getElem?_eq_getElem Jm⟩
 obtain ⟨gg4,oo4,ec4,ea4,hce4,hre4⟩:=h2.elem hx4
 cases ea4
 obtain ⟨q4_A2,q4_c2,rfl,q4_0,q4_1,q4_2⟩:=Jc (x0:=x4.1) (x1:=x4.2.1) (x2:=x4.2.2) hre4
 simp only [inK] at q4_0 q4_1
 refine VO.z (.ixI k rfl rfl JS rfl Jm) ?_
 refine VO.z (.ldA 0 rfl XN rfl hce4) ?_
 refine VO.callN 105 rfl Qm8 rfl (fun W hW=>Qgz W (Rd.mono hre4 (hW.t 0))) (fun v5 m5 hv5=>?_)
 subst hv5
 have hfa6:=Qd5 x4
 refine VO.as (VO.k7 0 1 2 6 7 8 12 (VC.seq (VC.rs (VO.mv (VO.z (.neq rfl rfl) (VO.k8 0 1 2 6 7 8 12 21 ?_))))))
 refine VC.cond rfl (fun hc7=>?_) (fun hc7=>?_)
 · refine VC.rs (VO.mv (VO.mv ?_))
   refine VO.z (.bst (cs:=[.int .i64 (Q0 x4),.int .i64 (((k:Nat):Int))]) rfl QaO QfC rfl) ?_
   refine VO.store (k:=2) (c':=[.int .i64 (Q0 x4),.int .i64 (((k:Nat):Int))]) 102 rfl rfl (.inl Qcr) rfl rfl rfl rfl rfl ?_
   refine VO.p2 102 0 (VO.k8 0 1 2 6 7 8 12 21 (VC.ret (QK (Jf (QK (QK (Jf (QK ?_))))))))
   refine ⟨_,_,QE (rs:=[.cell 6 95]) rfl (.agg 102 rfl Qcr rfl ⟨_,_,_,Qn _ _,Nat.le_of_ble_eq_true rfl,rfl⟩ .nil),fun W_ hI=>Q2 (l:=[]) hI [] rfl rfl (Qb _) (fun hS_=>?_)⟩
   dsimp only [Qu]
   have he0:(Qi d0 d1 d2:Ty.Den Qa7)=(Q0 x4,((k:Nat):Int)):=by first | rfl | (first | (rw [hf,List.drop_of_length_le Qp];rfl) | (rw [hf,Ym ‹d2[k]? =some _› (by first | assumption | omega)]) | (rw [hf,ZG ‹d2[k]? =some _› (by first | assumption | omega) Qp]) | (exfalso;omega))
   refine ⟨[.int .i64 (Q0 x4),.int .i64 (((k:Nat):Int))],?_,?_⟩
   rotate_left
   · rw [he0];exact (Ow.of (m:=mnil) rfl (X3 (m:=_) (Q0 x4) ((k:Nat):Int) Zq Zq))
   all_goals (first | rfl | (rfl))
 refine VC.skip (Qg (VC.seq (VC.rs (VO.mv (VO.mv ?_)))))
 refine VO.z (.ixI k rfl rfl JS rfl Jm) ?_
 refine VO.z (.fa rfl JV rfl) ?_
 refine VO.z (.ld1 0 rfl tk3 rfl (hce4.at1 (j:=1) rfl)) ?_
 refine VO.z (.sub rfl rfl rfl ⟨by exact Jm,by exact Jm⟩) ?_
 refine VO.mv (VO.z (.neq rfl rfl) (VO.mv ?_))
 refine VO.dec (t:=33) rfl (fun hc9=>?_) (fun hc9=>?_)
 · refine VO.gN (VO.gN (VO.gN (VO.gN (VO.gN (VO.gN (VO.gN (VO.z (.pT rfl rfl) (VO.p2 102 0 (VO.k9 0 1 2 6 7 8 12 21 41 (VC.condT rfl (VC.rs ?_)))))))))))
   refine VO.mv ?_
   refine VO.z (.bst (cs:=[.int .i64 (15),.int .i64 (((k:Nat):Int))]) rfl QaO QfC rfl) ?_
   refine VO.store (k:=2) (c':=[.int .i64 (15),.int .i64 (((k:Nat):Int))]) 102 rfl rfl (.inl Qcr) rfl rfl rfl rfl rfl ?_
   refine VO.k9 0 1 2 6 7 8 12 21 41 (VC.ret (QK (Jf (QK (QK (Jf (QK ?_)))))))
   refine ⟨_,_,QE (rs:=[.cell 6 95]) rfl (.agg 102 rfl Qcr rfl ⟨_,_,_,Qn _ _,Nat.le_of_ble_eq_true rfl,rfl⟩ .nil),fun W_ hI=>Q2 (l:=[]) hI [] rfl rfl (Qb _) (fun hS_=>?_)⟩
   dsimp only [Qu]
   have he0:(Qi d0 d1 d2:Ty.Den Qa7)=(15,((k:Nat):Int)):=by first | rfl | (first | (rw [hf,List.drop_of_length_le Qp];rfl) | (rw [hf,Ym ‹d2[k]? =some _› (by first | assumption | omega)]) | (rw [hf,ZG ‹d2[k]? =some _› (by first | assumption | omega) Qp]) | (exfalso;omega))
   refine ⟨[.int .i64 (15),.int .i64 (((k:Nat):Int))],?_,?_⟩
   rotate_left
   · rw [he0];exact (Ow.of (m:=mnil) rfl (X3 (m:=_) 15 ((k:Nat):Int) Zq Zq))
   all_goals (first | rfl | (rfl))
 refine VO.w (.mv rfl) (VO.w (.mv rfl) ?_)
 refine VO.w (.ixI k rfl rfl JS rfl Jm) ?_
 refine VO.w (.fa rfl JV rfl) ?_
 refine VO.w (.ld1 0 rfl tk3 rfl (hce4.at1 (j:=0) rfl)) ?_
 refine VO.w (.mv rfl) (VO.w (.lss rfl rfl) (VO.z (.pF rfl rfl) (VO.p2 102 0 (VO.k9 0 1 2 6 7 8 12 21 41 ?_))))
 refine VC.cond rfl (fun hc11=>?_) (fun hc11=>?_)
 · refine VC.rs (VO.mv ?_)
   refine VO.z (.bst (cs:=[.int .i64 (15),.int .i64 (((k:Nat):Int))]) rfl QaO QfC rfl) ?_
   refine VO.store (k:=2) (c':=[.int .i64 (15),.int .i64 (((k:Nat):Int))]) 102 rfl rfl (.inl Qcr) rfl rfl rfl rfl rfl ?_
   refine VO.k9 0 1 2 6 7 8 12 21 41 (VC.ret (QK (Jf (QK (QK (Jf (QK ?_)))))))
   refine ⟨_,_,QE (rs:=[.cell 6 95]) rfl (.agg 102 rfl Qcr rfl ⟨_,_,_,Qn _ _,Nat.le_of_ble_eq_true rfl,rfl⟩ .nil),fun W_ hI=>Q2 (l:=[]) hI [] rfl rfl (Qb _) (fun hS_=>?_)⟩
   dsimp only [Qu]
   have he0:(Qi d0 d1 d2:Ty.Den Qa7)=(15,((k:Nat):Int)):=by first | rfl | (first | (rw [hf,List.drop_of_length_le Qp];rfl) | (rw [hf,Ym ‹d2[k]? =some _› (by first | assumption | omega)]) | (rw [hf,ZG ‹d2[k]? =some _› (by first | assumption | omega) Qp]) | (exfalso;omega))
   refine ⟨[.int .i64 (15),.int .i64 (((k:Nat):Int))],?_,?_⟩
   rotate_left
   · rw [he0];exact (Ow.of (m:=mnil) rfl (X3 (m:=_) 15 ((k:Nat):Int) Zq Zq))
   all_goals (first | rfl | (rfl))
 refine VC.skip (Qg ?_)
 refine VC.regD _ 11 [(0,true),(1,true),(2,true),(3,true),(4,true),(5,true),(6,true),(7,true),(8,true),(9,true),(10,true)] follows (by kernel_rfl) (fun _ h=>h.sub [102,0]) ?_
 refine VD.z rfl (.mv rfl) (VD.z rfl (.mv rfl) ?_)
 refine VD.z rfl (.ixI k rfl rfl JS rfl Jm) ?_
 refine VD.z rfl (.fa rfl JV rfl) ?_
 refine VD.z rfl (.ld1 0 rfl tk3 rfl (hce4.at1 (j:=0) rfl)) ?_
 refine VD.z rfl (.mv rfl) (VD.z rfl (.mv rfl) ?_)
 refine VD.z rfl (.ixI k rfl rfl JS rfl Jm) ?_
 refine VD.z rfl (.fa rfl JV rfl) ?_
 refine VD.z rfl (.ld1 0 rfl tk3 rfl (hce4.at1 (j:=1) rfl)) ?_
 refine VD.z rfl (.as rfl) ?_
 refine VD.nil rfl ?_ rfl
 refine VO.as (VO.k9 0 1 2 6 7 8 12 21 41 (Jh (Qg ?_)))
 refine VC.reg ?_
 refine VO.mv ?_
 refine VO.z (.add (c:=((k+1:Nat):Int)) rfl rfl Qp ⟨by exact Jm,by exact Jm⟩) ?_
 refine VO.as (VO.k9 0 1 2 6 7 8 12 21 41 ?_)
 exact Qg ⟨⟨k+1,x4.1,x4.2.1⟩,⟨by omega,by first | (exfalso;omega) | (rw [hf,XR ‹d2[k]? =some _› (by first | assumption | omega) Qp Qp];rfl)⟩,by exact Jm,⟨esn,fun _ h=>Inv.sub h [102,0]⟩⟩
 · refine VC.exit (JU (JU (JT (Qg (VC.rs ?_)))))
   refine VO.z (.bst (cs:=[.int .i64 (0),.int .i64 (0)]) rfl QaO QfC rfl) ?_
   refine VO.store (k:=2) (c':=[.int .i64 (0),.int .i64 (0)]) 102 rfl rfl (.inl Qcr) rfl rfl rfl rfl rfl ?_
   refine VO.k6 0 1 2 6 7 12 (VC.ret ?_)
   refine ⟨_,_,QE (rs:=[.cell 6 95]) rfl (.agg 102 rfl Qcr rfl ⟨_,_,_,Qn _ _,Nat.le_of_ble_eq_true rfl,rfl⟩ .nil),fun W_ hI=>Q2 (l:=[]) hI [] rfl rfl (Qb _) (fun hS_=>?_)⟩
   dsimp only [Qu]
   have he0:(Qi d0 d1 d2:Ty.Den Qa7)=(0,0):=by first | rfl | (first | (rw [hf,List.drop_of_length_le Qp];rfl) | (rw [hf,Ym ‹d2[k]? =some _› (by first | assumption | omega)]) | (rw [hf,ZG ‹d2[k]? =some _› (by first | assumption | omega) Qp]) | (exfalso;omega))
   refine ⟨[.int .i64 (0),.int .i64 (0)],?_,?_⟩
   rotate_left
   · rw [he0];exact (Ow.of (m:=mnil) rfl (X3 (m:=_) 0 0 Zq Zq))
   all_goals (first | rfl | (rfl))
theorem Qq3:JE Tryz.prog 132=true:=by kernel_rfl
theorem Qq2:JE Tryz.prog 133=true:=by kernel_rfl
theorem Qji:JE Tryz.prog 139=true:=by kernel_rfl
theorem QcR:JE Tryz.prog 140=true:=by kernel_rfl
theorem QcQ:JE Tryz.prog 163=true:=by kernel_rfl
theorem tz180:tz Tryz.prog 180=some [.slice none 0 0,.int .i64 0,.bool false]:=by kernel_rfl
theorem Qns (W:World) {v0:Value} {d0:List UInt8} (h0:Rd (.sl .byte) (wm W) [v0] d0) (e0:d0.length≤140737488355000):Qc Tryz.prog 133 [v0] W (mnil) (fun v m'=>∃ (s0:Value),v=s0∧Ow (.sl .byte) m' [s0] (d0)):=by
 obtain ⟨A0,c0,rfl,l0,k0⟩:=h0.slc
 refine Qc.ofA (n:=8) Tryz.func133 rfl rfl rfl ?_
 refine VC.rs (VO.as (VO.k2 0 2 (VC.seq (VC.rs (VO.mv ?_)))))
 refine VO.z (.snil rfl rfl Tryz.underlying97) ?_
 refine VO.k3 0 2 4 ?_
 refine VC.cond rfl (fun hc1=>?_) (fun hc1=>?_)
 ·refine VC.rs (VO.as (VO.p1 0 (VO.k3 0 2 4 (VC.ret (QK ?_)))))
  refine XC 2 [] fun hS_=>?_
  dsimp only [Qu]
  have he0:(d0:Ty.Den (.sl .byte))=[]:=by first | rfl | (exact Qgw h0 ‹_=none›)
  refine ⟨.slice none (0) (0),?_,?_⟩
  rotate_left
  ·rw [he0];exact (Ow.nil _ _)
  all_goals (first | rfl | (simp [*];done))
 ·refine VC.skip (Qg (VC.rs ?_))
  refine VO.bsl (cs:=[]) 103 rfl rfl Jz tz5 rfl rfl (fun g2=>?_)
  refine VO.mv ?_
  have ho5:Qz .byte (Qo g2 (.cells [].toArray 5 (0,0))) mnil (Value.slice (some ⟨g2,0,none⟩) (0) (0)) []:=Qz.lit 0 Q8.nil rfl rfl
  obtain ⟨mo4,cs4,hM4,hA4,hC4⟩:=ho5
  obtain ⟨all4,hS4,hR4⟩:=Rd.srcI (P:=Tryz.prog) (h0) Tryz.underlying97
  refine VO.app 103 rfl rfl rfl Jz tz5 rfl rfl hM4 hA4 (hS4 _ 0 rfl) hR4.nice bdm bd (by decide) (fun v4 m4 hN4=>?_)
  have ho4:Qz .byte m4 mnil v4 (d0):=Qz.more hC4 hN4 (Q8.mono hR4 fun _ _ h=>Rd.flat rfl h _)
  obtain ⟨A4,c4,rfl,l4,k4⟩:=ho4.slc
  refine VO.as (VO.p2 103 0 (VO.k3 0 2 4 (VC.ret ?_)))
  refine XC 2 [103] fun hS_=>?_
  dsimp only [Qu]
  exact ⟨Value.slice A4 ((d0).length) (c4),(by first | rfl | (simp [*];done)),(Ow.cg (Ow.up (Qz.ow ho4 rfl) (hS_.1 _ (.head _))) (by first | rfl | (exact Qgw h0 ‹_=none›)))⟩
theorem Qk2 (W:World) {v0:Value} {d0:List UInt8} (h0:Rd (.sl .byte) (wm W) [v0] d0) {v1:Value} {d1:List UInt8} (h1:Rd (.sl .byte) (wm W) [v1] d1) (e0:d0.length≤140737488000000):Qc Tryz.prog 83 [v0,v1] W (mnil) (fun v m'=>∃ (s0:Value),v= .tuple #[s0,.int .i64 ((Jg d0 d1).2)]∧Ow (.sl .byte) m' [s0] ((Jg d0 d1).1)):=by
 obtain ⟨A0,c0,rfl,l0,k0⟩:=h0.slc
 obtain ⟨A1,c1,rfl,l1,k1⟩:=h1.slc
 refine Qc.ofA (n:=16) Tryz.func83 rfl rfl rfl ?_
 refine VC.rs (VO.as (VO.as (VO.k4 0 1 4 5 (VC.seq (VC.rs (VO.mv (VO.z (.lenS rfl Jz) (VO.z (.gtr rfl rfl) (VO.k5 0 1 4 5 8 ?_)))))))))
 refine VC.cond rfl (fun hc1=>?_) (fun hc1=>?_)
 ·refine VC.rs (VO.as (VO.as (VO.p1 0 (VO.k5 0 1 4 5 8 (VC.ret (QK ?_))))))
  refine QcA 4 5 [] fun hS_=>?_
  dsimp only [Qu]
  have he0:((Jg d0 d1).1:Ty.Den (.sl .byte))=[]:=by first | rfl | (first | (rw [Yg Qp] <;> rfl) | (rw [Z1 Qp] <;> first | rfl | (simp only [Qjl,List.append_assoc,Int.toNat_natCast,List.nil_append];done)))
  refine ⟨.slice none (0) (0),?_,?_⟩
  rotate_left
  ·rw [he0];exact (Ow.nil _ _)
  all_goals (first | rfl | (first | (rw [Yg Qp] <;> rfl) | (rw [Z1 Qp] <;> first | rfl | (simp only [Qjl,List.append_assoc,Int.toNat_natCast,List.nil_append];done))))
 ·refine VC.skip (Qg (VC.rs (VO.mv (VO.mv (VO.z (.lenS rfl Jz) ?_)))))
  refine VO.z (.cvI rfl ⟨_,Tryz.underlying3⟩ Tryz.underlying163 (IntWalk.u64_in _ bd)) ?_
  refine VO.callN 102 rfl Qfo rfl (fun W hW=>QaW W (Rd.mono h0 (hW.t 0)) d1.length bd bd) (fun v2 m2 hv2=>?_)
  obtain ⟨s2_0,rfl,f2_0⟩:=hv2
  have hfa3:=Z5 (x:=d1.length) (by first | omega | exact Qoo Qf _)
  obtain ⟨A2_0,c2_0,eq2_0,l2_0,k2_0⟩:=f2_0.slc
  subst eq2_0
  refine VO.mv ?_
  obtain ⟨mo4,cs4,hM4,hA4,hC4⟩:=(Ow.ownl f2_0 rfl mnil)
  obtain ⟨all4,hS4,hR4⟩:=Rd.srcI (P:=Tryz.prog) (h1) Tryz.underlying97
  refine VO.app 102 rfl rfl rfl Jz tz5 rfl rfl hM4 hA4 (hS4 _ 0 rfl) hR4.nice bdm bd (by decide) (fun v4 m4 hN4=>?_)
  have ho4:Qz .byte m4 mnil v4 ((d0++ZT d1.length)++d1):=Qz.more hC4 hN4 (Q8.mono hR4 fun _ _ h=>Rd.flat rfl h _)
  obtain ⟨A4,c4,rfl,l4,k4⟩:=ho4.slc
  refine VO.as (VO.as (VO.p2 102 0 (VO.k5 0 1 4 5 8 (VC.ret ?_))))
  refine QcA 4 5 [102] fun hS_=>?_
  dsimp only [Qu]
  exact ⟨Value.slice A4 (((d0++ZT d1.length)++d1).length) (c4),(by first | rfl | (first | (rw [Yg Qp] <;> rfl) | (rw [Z1 Qp] <;> first | rfl | (simp only [Qjl,List.append_assoc,Int.toNat_natCast,List.nil_append];done)))),(Ow.cg (Ow.up (Qz.ow ho4 rfl) (hS_.1 _ (.head _))) (by first | rfl | (first | (rw [Yg Qp] <;> rfl) | (rw [Z1 Qp] <;> first | rfl | (simp only [Qjl,List.append_assoc,Int.toNat_natCast,List.nil_append];done)))))⟩
theorem Qjn (W:World) {v0:Value} {d0:List UInt8} (h0:Rd (.sl .byte) (wm W) [v0] d0) {v1:Value} {d1:List UInt8} (h1:Rd (.sl .byte) (wm W) [v1] d1) (e0:d0.length≤140737488000000):Qc Tryz.prog 149 [v0,v1] W (mnil) (fun v m'=>∃ (s0:Value),v= .tuple #[s0,.int .i64 ((Jg d0 d1).2)]∧Ow (.sl .byte) m' [s0] ((Jg d0 d1).1)):=by
 obtain ⟨A0,c0,rfl,l0,k0⟩:=h0.slc
 obtain ⟨A1,c1,rfl,l1,k1⟩:=h1.slc
 refine Qc.ofA (n:=17) Tryz.func149 rfl rfl rfl ?_
 refine VC.rs (VO.as (VO.as (VO.k4 0 1 4 5 (VC.seq (VC.rs (VO.mv (VO.z (.lenS rfl Jz) (VO.z (.gtr rfl rfl) (VO.k5 0 1 4 5 9 ?_)))))))))
 refine VC.cond rfl (fun hc1=>?_) (fun hc1=>?_)
 ·refine VC.rs (VO.as (VO.as (VO.p1 0 (VO.k5 0 1 4 5 9 (VC.ret (QK ?_))))))
  refine QcA 4 5 [] fun hS_=>?_
  dsimp only [Qu]
  have he0:((Jg d0 d1).1:Ty.Den (.sl .byte))=[]:=by first | rfl | (first | (rw [Yg Qp] <;> rfl) | (rw [Z1 Qp] <;> first | rfl | (simp only [Qjl,List.append_assoc,Int.toNat_natCast,List.nil_append];done)))
  refine ⟨.slice none (0) (0),?_,?_⟩
  rotate_left
  ·rw [he0];exact (Ow.nil _ _)
  all_goals (first | rfl | (first | (rw [Yg Qp] <;> rfl) | (rw [Z1 Qp] <;> first | rfl | (simp only [Qjl,List.append_assoc,Int.toNat_natCast,List.nil_append];done))))
 ·refine VC.skip (Qg (VC.rs (VO.mv (VO.mv (VO.z (.lenS rfl Jz) ?_)))))
  refine VO.callN 102 rfl QcQ rfl (fun W hW=>QcJ W (Rd.mono h0 (hW.t 0)) ((d1.length:Nat):Int) bdk bd bd) (fun v2 m2 hv2=>?_)
  obtain ⟨s2_0,rfl,f2_0⟩:=hv2
  have hfa3:=Z5 (x:=((d1.length:Nat):Int).toNat) Qp
  obtain ⟨A2_0,c2_0,eq2_0,l2_0,k2_0⟩:=f2_0.slc
  subst eq2_0
  refine VO.as (VO.p2 102 0 (VO.k6 0 1 4 5 6 9 (VC.rs (VO.mv (VO.mv ?_)))))
  obtain ⟨mo4,cs4,hM4,hA4,hC4⟩:=(Ow.ownl f2_0 rfl mnil)
  obtain ⟨all4,hS4,hR4⟩:=Rd.srcI (P:=Tryz.prog) (h1) Tryz.underlying97
  refine VO.app 102 rfl rfl rfl Jz tz5 rfl rfl hM4 hA4 (hS4 _ 0 rfl) hR4.nice bdm bd (by decide) (fun v4 m4 hN4=>?_)
  have ho4:Qz .byte m4 mnil v4 ((d0++ZT ((d1.length:Nat):Int).toNat)++d1):=Qz.more hC4 hN4 (Q8.mono hR4 fun _ _ h=>Rd.flat rfl h _)
  obtain ⟨A4,c4,rfl,l4,k4⟩:=ho4.slc
  refine VO.as (VO.as (VO.k6 0 1 4 5 6 9 (VC.ret ?_)))
  refine QcA 4 5 [102] fun hS_=>?_
  dsimp only [Qu]
  exact ⟨Value.slice A4 (((d0++ZT ((d1.length:Nat):Int).toNat)++d1).length) (c4),(by first | rfl | (first | (rw [Yg Qp] <;> rfl) | (rw [Z1 Qp] <;> first | rfl | (simp only [Qjl,List.append_assoc,Int.toNat_natCast,List.nil_append];done)))),(Ow.cg (Ow.up (Qz.ow ho4 rfl) (hS_.1 _ (.head _))) (by first | rfl | (first | (rw [Yg Qp] <;> rfl) | (rw [Z1 Qp] <;> first | rfl | (simp only [Qjl,List.append_assoc,Int.toNat_natCast,List.nil_append];done)))))⟩
theorem Qne (W:World) {v0:Value} {d0:List UInt8} (h0:Rd (.sl .byte) (wm W) [v0] d0):Qc Tryz.prog 132 [v0] W (mnil) (fun v m'=>v= .tuple #[.int .i64 ((Yf d0).1),.int .i64 ((Yf d0).2.1),.bool ((Yf d0).2.2)]):=by
 obtain ⟨A0,c0,rfl,l0,k0⟩:=h0.slc
 refine Qc.ofA (n:=28) Tryz.func132 rfl rfl rfl ?_
 refine VC.rs (VO.as (VO.as (VO.as (VO.k4 0 2 3 4 (VC.rs (VO.mv ?_))))))
 refine VO.callN 101 rfl Qfm rfl (fun W hW=>QbG W (Rd.mono h0 (hW.t 0)) 131072 bdk) (fun v1 m1 hv1=>?_)
 subst hv1
 have hfa2:=Yj d0 131072 Qp
 refine VO.mv (VO.z (.ext rfl rfl) (VO.z (.ext rfl rfl) (VO.z (.ext rfl rfl) (VO.as (VO.as (VO.as (VO.k7 0 2 3 4 5 6 7 (VC.seq (VC.rs (VO.mv (VO.z (.neq rfl rfl) ?_)))))))))))
 refine VO.mv ?_
 refine VO.dec (t:=16) rfl (fun hc3=>?_) (fun hc3=>?_)
 ·refine VO.gN (VO.gN (VO.gN (VO.gN (VO.gN (VO.gN (VO.z (.pT rfl rfl) (VO.p1 0 (VO.k8 0 2 3 4 5 6 7 23 (VC.condT rfl (VC.rs (VO.as ?_)))))))))))
  refine VO.as (VO.as (VO.k8 0 2 3 4 5 6 7 23 (VC.ret (QK ?_))))
  refine Qcf 2 3 4 [] fun hS_=>?_
  dsimp only [Qu]
  all_goals (first | rfl | (first | (rw [QeC Qf] <;> rfl) | (rw [QeB Qp] <;> rfl) | (rw [QeA Qf Qp] <;> rfl)))
 refine VO.w (.mv rfl) (VO.w (.lenS rfl Jz) (VO.w (.mv rfl) ?_))
 refine VO.w (.sub rfl rfl rfl ⟨bd,bd⟩) ?_
 refine VO.w (.mv rfl) (VO.w (.lss rfl rfl) (VO.z (.pF rfl rfl) (VO.p1 0 (VO.k8 0 2 3 4 5 6 7 23 ?_))))
 refine VC.cond rfl (fun hc4=>?_) (fun hc4=>?_)
 ·refine VC.rs (VO.as (VO.as (VO.as (VO.k8 0 2 3 4 5 6 7 23 (VC.ret (QK ?_))))))
  refine Qcf 2 3 4 [] fun hS_=>?_
  dsimp only [Qu]
  all_goals (first | rfl | (first | (rw [QeC Qf] <;> rfl) | (rw [QeB Qp] <;> rfl) | (rw [QeA Qf Qp] <;> rfl)))
 ·refine VC.skip (Qg (VC.rs (VO.mv (VO.mv (VO.mv ?_)))))
  refine VO.z (.add (c:=((sN d0 131072+(sX d0 131072):Nat):Int)) rfl rfl Qp ⟨bd,bd⟩) ?_
  refine VO.as (VO.as (VO.as (VO.k8 0 2 3 4 5 6 7 23 (VC.ret ?_))))
  refine Qcf 2 3 4 [] fun hS_=>?_
  dsimp only [Qu]
  all_goals (first | rfl | (first | (rw [QeC Qf] <;> rfl) | (rw [QeB Qp] <;> rfl) | (rw [QeA Qf Qp] <;> rfl)))
theorem QoD (W:World) {v0:Value} {d0:List UInt8} (h0:Rd (.sl .byte) (wm W) [v0] d0):Qc Tryz.prog 100 [v0] W (mnil) (fun v m'=>∃ (s0:Value),v= .tuple #[s0,.int .i64 ((JJ d0).2.1),.int .i64 ((JJ d0).2.2)]∧Ow (.sl .byte) m' [s0] ((JJ d0).1)):=by
 obtain ⟨A0,c0,rfl,l0,k0⟩:=h0.slc
 refine Qc.ofA (n:=22) Tryz.func100 rfl rfl rfl ?_
 refine VC.rs (VO.as (VO.as (VO.as (VO.k4 0 2 3 4 (VC.rs (VO.mv ?_))))))
 refine VO.callN 101 rfl Qq3 rfl (fun W hW=>Qne W (Rd.mono h0 (hW.t 0))) (fun v1 m1 hv1=>?_)
 subst hv1
 have hfa2:=Qhc d0
 refine VO.mv (VO.z (.ext rfl rfl) (VO.z (.ext rfl rfl) (VO.z (.ext rfl rfl) (VO.as (VO.as (VO.as (VO.k7 0 2 3 4 5 6 7 (VC.seq (VC.rs (VO.mv (VO.z (.not rfl) ?_)))))))))))
 refine VO.p1 0 (VO.k8 0 2 3 4 5 6 7 15 ?_)
 refine VC.condBN rfl (fun hc3=>?_) (fun hc3=>?_)
 ·refine VC.rs (VO.as (VO.as (VO.as (VO.k8 0 2 3 4 5 6 7 15 (VC.ret (QK ?_))))))
  refine Qcf 2 3 4 [] fun hS_=>?_
  dsimp only [Qu]
  have he0:((JJ d0).1:Ty.Den (.sl .byte))=[]:=by first | rfl | (first | (rw [Qdj (by first | assumption | simpa using ‹_›)] <;> rfl) | (rw [Qcm (by first | assumption | simpa using ‹_›)] <;> rfl))
  refine ⟨.slice none (0) (0),?_,?_⟩
  rotate_left
  ·rw [he0];exact (Ow.nil _ _)
  all_goals (first | rfl | (first | (rw [Qdj (by first | assumption | simpa using ‹_›)] <;> rfl) | (rw [Qcm (by first | assumption | simpa using ‹_›)] <;> rfl)))
 refine VC.skip (Qg (VC.rs (VO.mv (VO.mv (VO.mv ?_)))))
 obtain ⟨A4,hA4,hs4⟩:=h0.sub' 1 (((Yf d0).1).toNat) (((Yf d0).2.1).toNat) rfl bd bd
 refine VO.z (.slI (((Yf d0).1).toNat) (((Yf d0).2.1).toNat) A4 rfl rfl rfl Jz bd bd hA4 bd bd) ?_
 refine VO.callN 105 rfl Qq2 rfl (fun W hW=>Qns W (Rd.mono hs4 (hW.t 0)) bd) (fun v5 m5 hv5=>?_)
 obtain ⟨s5_0,rfl,f5_0⟩:=hv5
 obtain ⟨A5_0,c5_0,eq5_0,l5_0,k5_0⟩:=f5_0.slc
 subst eq5_0
 refine VO.mv (VO.as (VO.as (VO.as (VO.k8 0 2 3 4 5 6 7 15 (VC.ret ?_)))))
 refine Qcf 2 3 4 [105] fun hS_=>?_
 dsimp only [Qu]
 exact ⟨Value.slice A5_0 (((d0.take (((Yf d0).2.1).toNat)).drop (((Yf d0).1).toNat)).length) (c5_0),(by first | rfl | (first | (rw [Qdj (by first | assumption | simpa using ‹_›)] <;> rfl) | (rw [Qcm (by first | assumption | simpa using ‹_›)] <;> rfl))),(Ow.cg (Ow.up f5_0 (hS_.1 _ (.head _))) (by first | rfl | (first | (rw [Qdj (by first | assumption | simpa using ‹_›)] <;> rfl) | (rw [Qcm (by first | assumption | simpa using ‹_›)] <;> rfl))))⟩
theorem Qni (W:World) {v0:Value} {d0:List UInt8} (h0:Rd (.sl .byte) (wm W) [v0] d0):Qc Tryz.prog 106 [v0] W (mnil) (fun v m'=>∃ (s0:Value),v= .tuple #[s0,.int .i64 ((JJ d0).2.1),.int .i64 ((JJ d0).2.2)]∧Ow (.sl .byte) m' [s0] ((JJ d0).1)):=by
 obtain ⟨A0,c0,rfl,l0,k0⟩:=h0.slc
 refine Qc.ofA (n:=23) Tryz.func106 rfl rfl rfl ?_
 refine VC.rs (VO.as (VO.as (VO.as (VO.k4 0 2 3 4 (VC.rs (VO.mv ?_))))))
 refine VO.z (.bst (cs:=[.slice A0 (d0.length) (c0),.int .i64 (0),.bool false]) rfl ZP tz180 rfl) ?_
 refine VO.box (cs:=[.slice A0 (d0.length) (c0),.int .i64 (0),.bool false]) 102 rfl rfl rfl (fun g1=>?_)
 refine VO.as (VO.k5 0 2 3 4 5 (VC.rs (VO.mv (VO.mv ?_))))
 refine VO.call 102 rfl QcR rfl rfl (fun W hW=>Qam W (d0:=(d0,0,false)) (hW.t 102) (Rd.mono h0 (hW.o 102 0)) bdk 131072 bdk XE) (fun v3 m3 hv3=>?_)
 try dsimp only at hv3
 obtain ⟨rfl,rfl,w3_0_1⟩:=hv3
 have hfa4:=(J9 (B:=d0) (m:=131072) (s:=(0,false)) XE Qp).1
 have hfa5:=(J9 (B:=d0) (m:=131072) (s:=(0,false)) XE Qp).1.1
 have hfa6:=(J9 (B:=d0) (m:=131072) (s:=(0,false)) XE Qp).1.2
 have hfa7:=(J9 (B:=d0) (m:=131072) (s:=(0,false)) XE Qp).2
 simp only [inK] at w3_0_1
 refine VO.call 102 rfl Qji rfl rfl (fun W hW=>QdD W (d0:=(d0,(Qh d0 131072 (0,false)).2)) (hW.t 102) (Rd.mono h0 (hW.o 102 0)) bdk ((Qh d0 131072 (0,false)).1) bdk XE bd bd) (fun v8 m8 hv8=>?_)
 try dsimp only at hv8
 obtain ⟨s8_0,p8_0,rfl,hS8,f8_0,w8_0_1⟩:=hv8
 refine VO.inv _ (fun _ h=>h.parts (i:=102) rfl hS8 [109,110]) ?_
 have hfa11:=(ZW (B:=d0) (n:=((Qh d0 131072 (0,false)).1)) (s:=((Qh d0 131072 (0,false)).2)) XE Qp).1
 have hfa12:=(ZW (B:=d0) (n:=((Qh d0 131072 (0,false)).1)) (s:=((Qh d0 131072 (0,false)).2)) XE Qp).1.1
 have hfa13:=(ZW (B:=d0) (n:=((Qh d0 131072 (0,false)).1)) (s:=((Qh d0 131072 (0,false)).2)) XE Qp).1.2
 have hfa14:=(ZW (B:=d0) (n:=((Qh d0 131072 (0,false)).1)) (s:=((Qh d0 131072 (0,false)).2)) XE Qp).2
 simp only [inK] at w8_0_1
 obtain ⟨A8_0,c8_0,eq8_0,l8_0,k8_0⟩:=f8_0.slc
 subst eq8_0
 refine VO.as (VO.p3 109 110 0 (VO.k6 0 2 3 4 5 6 (VC.seq (VC.rs (VO.mv (VO.z (.nilp rfl) (VO.z (.fa rfl ZP rfl) (VO.z (.ld1 110 rfl tk4 rfl (Qa rfl rfl)) (VO.k7 0 2 3 4 5 6 17 ?_)))))))))
 refine VC.condB rfl (fun hc15=>?_) (fun hc15=>?_)
 ·refine VC.rs (VO.as (VO.as (VO.as (VO.k7 0 2 3 4 5 6 17 (VC.ret (QK ?_))))))
  refine Qcf 2 3 4 [] fun hS_=>?_
  dsimp only [Qu]
  have he0:((JJ d0).1:Ty.Den (.sl .byte))=[]:=by first | rfl | (rw [Qdi];first | (rw [if_pos Qf] <;> rfl) | (rw [if_neg (by simp [*])] <;> rfl))
  refine ⟨.slice none (0) (0),?_,?_⟩
  rotate_left
  ·rw [he0];exact (Ow.nil _ _)
  all_goals (first | rfl | (rw [Qdi];first | (rw [if_pos Qf] <;> rfl) | (rw [if_neg (by simp [*])] <;> rfl)))
 refine VC.skip (Qg (VC.seq ?_))
 refine VC.regD _ 6 [(0,true),(1,true),(2,true),(3,true),(4,true),(5,true)] follows (by kernel_rfl) (fun _ h=>h.sub [109,110,0]) ?_
 refine VD.z rfl (.mv rfl) (VD.z rfl (.mv rfl) (VD.z rfl (.nilp rfl) (VD.z rfl (.fa rfl ZP rfl) (VD.z rfl (.ld1 110 rfl tk3 rfl (Qa rfl rfl)) (VD.z rfl (.as rfl) ?_)))))
 refine VD.nil rfl ?_ rfl
 refine VO.as (VO.as (VO.k7 0 2 3 4 5 6 17 (Qg (VC.ret ?_))))
 refine Qcf 2 3 4 [109] fun hS_=>?_
 dsimp only [Qu]
 exact ⟨Value.slice A8_0 (((Qw d0 ((Qh d0 131072 (0,false)).1) ((Qh d0 131072 (0,false)).2)).1).length) (c8_0),(by first | rfl | (rw [Qdi];first | (rw [if_pos Qf] <;> rfl) | (rw [if_neg (by simp [*])] <;> rfl))),(Ow.cg (Ow.up f8_0 (hS_.1 _ (.head _))) (by first | rfl | (rw [Qdi];first | (rw [if_pos Qf] <;> rfl) | (rw [if_neg (by simp [*])] <;> rfl))))⟩
abbrev Y7 : Ty := .pair (.int .i64) (.pair (.int .i64) (.pair (.sl .byte) (.int .i64)))
abbrev Xz := Int × Int × (List UInt8) × Int
instance Qrs : DecidableEq Xz := (@instDecidableEqProd _ _ inferInstance (@instDecidableEqProd _ _ inferInstance (@instDecidableEqProd _ _ inferInstance inferInstance)))
theorem Qbl {m:Mem} {cs:List Value} {x0:Int} {x1:Int} {x2:List UInt8} {x3:Int} (h:Rd Y7 m cs (x0,x1,x2,x3)):∃ (A2:Option Addr),∃ (c2:Nat),cs=[(.int .i64 x0:Value),.int .i64 x1,.slice A2 x2.length c2,.int .i64 x3]∧inK .i64 x0∧inK .i64 x1∧Rd (.sl .byte) m [.slice A2 x2.length c2] x2∧inK .i64 x3:=by
 obtain ⟨p1,q1,rfl,u1,w1⟩:=Rd.pair h
 obtain ⟨rfl,z2⟩:=(show _=_∧_ from u1)
 obtain ⟨p3,q3,rfl,u3,w3⟩:=Rd.pair w1
 obtain ⟨rfl,z4⟩:=(show _=_∧_ from u3)
 obtain ⟨p5,q5,rfl,u5,w5⟩:=Rd.pair w3
 have z6:=u5
 obtain ⟨A6,c6,rfl,_⟩:=Rd.slice1 u5
 obtain ⟨rfl,z7⟩:=(show _=_∧_ from w5)
 exact ⟨A6,c6,rfl,z2,z4,z6,z7⟩
theorem Qh5 {m:Mem} {n2:Mem} (x0:Int) (x1:Int) (x2:List UInt8) (x3:Int) (hS:Qt m [n2]) (h0:inK .i64 x0) (h1:inK .i64 x1) {v2:Value} (h2:Ow (.sl .byte) n2 [v2] x2) (h3:inK .i64 x3):Ow Y7 m [.int .i64 x0,.int .i64 x1,v2,.int .i64 x3] (x0,x1,x2,x3):=by
 obtain ⟨e1,la1,lb1,Sa1,Sb1⟩:=Qt.cut (l:=[]) (r:=[n2]) hS
 obtain ⟨e2,la2,lb2,Sa2,Sb2⟩:=Qt.cut (l:=[]) (r:=[n2]) Sb1
 obtain ⟨e3,la3,lb3,Sa3,Sb3⟩:=Qt.cut (l:=[n2]) (r:=[]) Sb2
 exact (Ow.mkPair (c1:=[_]) e1 la1 lb1 (show Ow (.int .i64) _ [_] _ from ⟨rfl,h0⟩) (Ow.mkPair (c1:=[_]) e2 la2 lb2 (show Ow (.int .i64) _ [_] _ from ⟨rfl,h1⟩) (Ow.mkPair (c1:=[_]) e3 la3 lb3 (h2.up (Sa3.1 _ (.head _))) (show Ow (.int .i64) _ [_] _ from ⟨rfl,h3⟩))))
abbrev QW : Ty := .pair .bool (.pair .bool (.pair .bool (.pair (.int .i64) (.pair (.int .i64) (.pair (.pair (.sl .byte) (.pair (.sl .byte) (.pair (.sl .byte) (.sl .byte)))) (.sl Y7))))))
abbrev Qx := Bool × Bool × Bool × Int × Int × ((List UInt8) × (List UInt8) × (List UInt8) × (List UInt8)) × (List Xz)
instance Qrt : DecidableEq Qx := (@instDecidableEqProd _ _ inferInstance (@instDecidableEqProd _ _ inferInstance (@instDecidableEqProd _ _ inferInstance (@instDecidableEqProd _ _ inferInstance (@instDecidableEqProd _ _ inferInstance (@instDecidableEqProd _ _ (@instDecidableEqProd _ _ inferInstance (@instDecidableEqProd _ _ inferInstance (@instDecidableEqProd _ _ inferInstance inferInstance))) inferInstance))))))
theorem QfH {m:Mem} {cs:List Value} {x0:Bool} {x1:Bool} {x2:Bool} {x3:Int} {x4:Int} {x5:List UInt8} {x6:List UInt8} {x7:List UInt8} {x8:List UInt8} {x9:List Xz} (h:Ow QW m cs (x0,x1,x2,x3,x4,(x5,x6,x7,x8),x9)):∃ (A5:Option Addr),∃ (c5:Nat),∃ (A6:Option Addr),∃ (c6:Nat),∃ (A7:Option Addr),∃ (c7:Nat),∃ (A8:Option Addr),∃ (c8:Nat),∃ (A9:Option Addr),∃ (c9:Nat),∃ (n5:Mem),∃ (n6:Mem),∃ (n7:Mem),∃ (n8:Mem),∃ (n9:Mem),cs=[(.bool x0:Value),.bool x1,.bool x2,.int .i64 x3,.int .i64 x4,.slice A5 x5.length c5,.slice A6 x6.length c6,.slice A7 x7.length c7,.slice A8 x8.length c8,.slice A9 x9.length c9]∧Qt m [n5,n6,n7,n8,n9]∧inK .i64 x3∧inK .i64 x4∧Ow (.sl .byte) n5 [.slice A5 x5.length c5] x5∧Ow (.sl .byte) n6 [.slice A6 x6.length c6] x6∧Ow (.sl .byte) n7 [.slice A7 x7.length c7] x7∧Ow (.sl .byte) n8 [.slice A8 x8.length c8] x8∧Ow (.sl Y7) n9 [.slice A9 x9.length c9] x9:=by
 obtain ⟨p1,q1,ma1,mb1,rfl,dj1,la1,lb1,u1,w1⟩:=Ow.pair h
 obtain rfl:=(show _=_ from u1)
 obtain ⟨p3,q3,ma3,mb3,rfl,dj3,la3,lb3,u3,w3⟩:=Ow.pair w1
 obtain rfl:=(show _=_ from u3)
 obtain ⟨p5,q5,ma5,mb5,rfl,dj5,la5,lb5,u5,w5⟩:=Ow.pair w3
 obtain rfl:=(show _=_ from u5)
 obtain ⟨p7,q7,ma7,mb7,rfl,dj7,la7,lb7,u7,w7⟩:=Ow.pair w5
 obtain ⟨rfl,z8⟩:=(show _=_∧_ from u7)
 obtain ⟨p9,q9,ma9,mb9,rfl,dj9,la9,lb9,u9,w9⟩:=Ow.pair w7
 obtain ⟨rfl,z10⟩:=(show _=_∧_ from u9)
 obtain ⟨p11,q11,ma11,mb11,rfl,dj11,la11,lb11,u11,w11⟩:=Ow.pair w9
 obtain ⟨p12,q12,ma12,mb12,rfl,dj12,la12,lb12,u12,w12⟩:=Ow.pair u11
 have z13:=u12
 obtain ⟨A13,c13,rfl,_⟩:=Ow.slice1 u12
 obtain ⟨p14,q14,ma14,mb14,rfl,dj14,la14,lb14,u14,w14⟩:=Ow.pair w12
 have z15:=u14
 obtain ⟨A15,c15,rfl,_⟩:=Ow.slice1 u14
 obtain ⟨p16,q16,ma16,mb16,rfl,dj16,la16,lb16,u16,w16⟩:=Ow.pair w14
 have z17:=u16
 obtain ⟨A17,c17,rfl,_⟩:=Ow.slice1 u16
 have z18:=w16
 obtain ⟨A18,c18,rfl,_⟩:=Ow.slice1 w16
 have z19:=w11
 obtain ⟨A19,c19,rfl,_⟩:=Ow.slice1 w11
 exact ⟨A13,c13,A15,c15,A17,c17,A18,c18,A19,c19,_,_,_,_,_,rfl,(Qt.app dj1 la1 lb1 (Qt.nil _) (Qt.app dj3 la3 lb3 (Qt.nil _) (Qt.app dj5 la5 lb5 (Qt.nil _) (Qt.app dj7 la7 lb7 (Qt.nil _) (Qt.app dj9 la9 lb9 (Qt.nil _) (Qt.app dj11 la11 lb11 (Qt.app dj12 la12 lb12 (Qt.one (Qb _)) (Qt.app dj14 la14 lb14 (Qt.one (Qb _)) (Qt.app dj16 la16 lb16 (Qt.one (Qb _)) (Qt.one (Qb _))))) (Qt.one (Qb _)))))))),z8,z10,z13,z15,z17,z18,z19⟩
theorem Qh6 {m:Mem} {n5 n6 n7 n8 n9:Mem} (x0:Bool) (x1:Bool) (x2:Bool) (x3:Int) (x4:Int) (x5:List UInt8) (x6:List UInt8) (x7:List UInt8) (x8:List UInt8) (x9:List Xz) (hS:Qt m [n5,n6,n7,n8,n9]) (h3:inK .i64 x3) (h4:inK .i64 x4) {v5:Value} (h5:Ow (.sl .byte) n5 [v5] x5) {v6:Value} (h6:Ow (.sl .byte) n6 [v6] x6) {v7:Value} (h7:Ow (.sl .byte) n7 [v7] x7) {v8:Value} (h8:Ow (.sl .byte) n8 [v8] x8) {v9:Value} (h9:Ow (.sl Y7) n9 [v9] x9):Ow QW m [.bool x0,.bool x1,.bool x2,.int .i64 x3,.int .i64 x4,v5,v6,v7,v8,v9] (x0,x1,x2,x3,x4,(x5,x6,x7,x8),x9):=by
 obtain ⟨e1,la1,lb1,Sa1,Sb1⟩:=Qt.cut (l:=[]) (r:=[n5,n6,n7,n8,n9]) hS
 obtain ⟨e2,la2,lb2,Sa2,Sb2⟩:=Qt.cut (l:=[]) (r:=[n5,n6,n7,n8,n9]) Sb1
 obtain ⟨e3,la3,lb3,Sa3,Sb3⟩:=Qt.cut (l:=[]) (r:=[n5,n6,n7,n8,n9]) Sb2
 obtain ⟨e4,la4,lb4,Sa4,Sb4⟩:=Qt.cut (l:=[]) (r:=[n5,n6,n7,n8,n9]) Sb3
 obtain ⟨e5,la5,lb5,Sa5,Sb5⟩:=Qt.cut (l:=[]) (r:=[n5,n6,n7,n8,n9]) Sb4
 obtain ⟨e6,la6,lb6,Sa6,Sb6⟩:=Qt.cut (l:=[n5,n6,n7,n8]) (r:=[n9]) Sb5
 obtain ⟨e7,la7,lb7,Sa7,Sb7⟩:=Qt.cut (l:=[n5]) (r:=[n6,n7,n8]) Sa6
 obtain ⟨e8,la8,lb8,Sa8,Sb8⟩:=Qt.cut (l:=[n6]) (r:=[n7,n8]) Sb7
 obtain ⟨e9,la9,lb9,Sa9,Sb9⟩:=Qt.cut (l:=[n7]) (r:=[n8]) Sb8
 exact (Ow.mkPair (c1:=[_]) e1 la1 lb1 (show Ow .bool _ [_] _ from rfl) (Ow.mkPair (c1:=[_]) e2 la2 lb2 (show Ow .bool _ [_] _ from rfl) (Ow.mkPair (c1:=[_]) e3 la3 lb3 (show Ow .bool _ [_] _ from rfl) (Ow.mkPair (c1:=[_]) e4 la4 lb4 (show Ow (.int .i64) _ [_] _ from ⟨rfl,h3⟩) (Ow.mkPair (c1:=[_]) e5 la5 lb5 (show Ow (.int .i64) _ [_] _ from ⟨rfl,h4⟩) (Ow.mkPair (c1:=[_,_,_,_]) e6 la6 lb6 (Ow.mkPair (c1:=[_]) e7 la7 lb7 (h5.up (Sa7.1 _ (.head _))) (Ow.mkPair (c1:=[_]) e8 la8 lb8 (h6.up (Sa8.1 _ (.head _))) (Ow.mkPair (c1:=[_]) e9 la9 lb9 (h7.up (Sa9.1 _ (.head _))) (h8.up (Sb9.1 _ (.head _)))))) (h9.up (Sb6.1 _ (.head _)))))))))
theorem QaR {m:Mem} {cs:List Value} {g:Nat} {x0:Bool} {x1:Bool} {x2:Bool} {x3:Int} {x4:Int} {x5:List UInt8} {x6:List UInt8} {x7:List UInt8} {x8:List UInt8} {x9:List Xz} (h:Ow (.ptr QW) m cs (g,(x0,x1,x2,x3,x4,(x5,x6,x7,x8),x9))):∃ (E:TypeId),∃ (A5:Option Addr),∃ (c5:Nat),∃ (A6:Option Addr),∃ (c6:Nat),∃ (A7:Option Addr),∃ (c7:Nat),∃ (A8:Option Addr),∃ (c8:Nat),∃ (A9:Option Addr),∃ (c9:Nat),∃ (n5:Mem),∃ (n6:Mem),∃ (n7:Mem),∃ (n8:Mem),∃ (n9:Mem),cs=[.pointer (some ⟨g,0,none⟩)]∧Qt m [Qo g (.cells [(.bool x0:Value),.bool x1,.bool x2,.int .i64 x3,.int .i64 x4,.slice A5 x5.length c5,.slice A6 x6.length c6,.slice A7 x7.length c7,.slice A8 x8.length c8,.slice A9 x9.length c9].toArray E (0,0)),n5,n6,n7,n8,n9]∧inK .i64 x3∧inK .i64 x4∧Ow (.sl .byte) n5 [.slice A5 x5.length c5] x5∧Ow (.sl .byte) n6 [.slice A6 x6.length c6] x6∧Ow (.sl .byte) n7 [.slice A7 x7.length c7] x7∧Ow (.sl .byte) n8 [.slice A8 x8.length c8] x8∧Ow (.sl Y7) n9 [.slice A9 x9.length c9] x9:=by
 obtain ⟨rfl,rc,E,m1,hd,l0,l1,h1⟩:=Ow.opnP h
 obtain ⟨A5,c5,A6,c6,A7,c7,A8,c8,A9,c9,n5,n6,n7,n8,n9,rfl,hS,f3,f4,f5,f6,f7,f8,f9⟩:=QfH h1
 exact ⟨E,A5,c5,A6,c6,A7,c7,A8,c8,A9,c9,n5,n6,n7,n8,n9,rfl,Qt.app hd l0 l1 (Qt.one (Qb _)) hS,f3,f4,f5,f6,f7,f8,f9⟩
theorem Q1 {m:Mem} {cs:List Value} {g:Nat} {x:Qx} (h:Ow (.ptr QW) m cs (g,x)):type_of% (QaR (x0:=x.1) (x1:=x.2.1) (x2:=x.2.2.1) (x3:=x.2.2.2.1) (x4:=x.2.2.2.2.1) (x5:=x.2.2.2.2.2.1.1) (x6:=x.2.2.2.2.2.1.2.1) (x7:=x.2.2.2.2.2.1.2.2.1) (x8:=x.2.2.2.2.2.1.2.2.2) (x9:=x.2.2.2.2.2.2) h):=QaR (x0:=x.1) (x1:=x.2.1) (x2:=x.2.2.1) (x3:=x.2.2.2.1) (x4:=x.2.2.2.2.1) (x5:=x.2.2.2.2.2.1.1) (x6:=x.2.2.2.2.2.1.2.1) (x7:=x.2.2.2.2.2.1.2.2.1) (x8:=x.2.2.2.2.2.1.2.2.2) (x9:=x.2.2.2.2.2.2) h
theorem ZY {m:Mem} {g:Nat} {E:TypeId} {n5 n6 n7 n8 n9:Mem}{v5:Value}{v6:Value}{v7:Value}{v8:Value}{v9:Value} (x0:Bool) (x1:Bool) (x2:Bool) (x3:Int) (x4:Int) (x5:List UInt8) (x6:List UInt8) (x7:List UInt8) (x8:List UInt8) (x9:List Xz) (hS:Qt m [Qo g (.cells [.bool x0,.bool x1,.bool x2,.int .i64 x3,.int .i64 x4,v5,v6,v7,v8,v9].toArray E (0,0)),n5,n6,n7,n8,n9]) (h3:inK .i64 x3) (h4:inK .i64 x4) (h5:Ow (.sl .byte) n5 [v5] x5) (h6:Ow (.sl .byte) n6 [v6] x6) (h7:Ow (.sl .byte) n7 [v7] x7) (h8:Ow (.sl .byte) n8 [v8] x8) (h9:Ow (.sl Y7) n9 [v9] x9):Ow (.ptr QW) m [.pointer (some ⟨g,0,none⟩)] (g,(x0,x1,x2,x3,x4,(x5,x6,x7,x8),x9)):=
 Ow.clsP hS fun hS=>Qh6 x0 x1 x2 x3 x4 x5 x6 x7 x8 x9 hS h3 h4 h5 h6 h7 h8 h9
theorem J5 {m:Mem} {g:Nat} {E:TypeId} {n5 n6 n7 n8 n9:Mem}{v5:Value}{v6:Value}{v7:Value}{v8:Value}{v9:Value} (x:Qx) (hS:Qt m [Qo g (.cells [.bool x.1,.bool x.2.1,.bool x.2.2.1,.int .i64 x.2.2.2.1,.int .i64 x.2.2.2.2.1,v5,v6,v7,v8,v9].toArray E (0,0)),n5,n6,n7,n8,n9]) (h3:inK .i64 x.2.2.2.1) (h4:inK .i64 x.2.2.2.2.1) (h5:Ow (.sl .byte) n5 [v5] x.2.2.2.2.2.1.1) (h6:Ow (.sl .byte) n6 [v6] x.2.2.2.2.2.1.2.1) (h7:Ow (.sl .byte) n7 [v7] x.2.2.2.2.2.1.2.2.1) (h8:Ow (.sl .byte) n8 [v8] x.2.2.2.2.2.1.2.2.2) (h9:Ow (.sl Y7) n9 [v9] x.2.2.2.2.2.2):Ow (.ptr QW) m [.pointer (some ⟨g,0,none⟩)] (g,x):=ZY (x.1) (x.2.1) (x.2.2.1) (x.2.2.2.1) (x.2.2.2.2.1) (x.2.2.2.2.2.1.1) (x.2.2.2.2.2.1.2.1) (x.2.2.2.2.2.1.2.2.1) (x.2.2.2.2.2.1.2.2.2) (x.2.2.2.2.2.2) hS h3 h4 h5 h6 h7 h8 h9
abbrev YP : Ty := .pair (.int .i64) (.pair .bool (.pair (.int .i64) (.sl .byte)))
abbrev Xy := Int × Bool × Int × (List UInt8)
instance Qrp : DecidableEq Xy := (@instDecidableEqProd _ _ inferInstance (@instDecidableEqProd _ _ inferInstance (@instDecidableEqProd _ _ inferInstance inferInstance)))
theorem Qbk {m:Mem} {cs:List Value} {x0:Int} {x1:Bool} {x2:Int} {x3:List UInt8} (h:Rd YP m cs (x0,x1,x2,x3)):∃ (A3:Option Addr),∃ (c3:Nat),cs=[(.int .i64 x0:Value),.bool x1,.int .i64 x2,.slice A3 x3.length c3]∧inK .i64 x0∧inK .i64 x2∧Rd (.sl .byte) m [.slice A3 x3.length c3] x3:=by
 obtain ⟨p1,q1,rfl,u1,w1⟩:=Rd.pair h
 obtain ⟨rfl,z2⟩:=(show _=_∧_ from u1)
 obtain ⟨p3,q3,rfl,u3,w3⟩:=Rd.pair w1
 obtain rfl:=(show _=_ from u3)
 obtain ⟨p5,q5,rfl,u5,w5⟩:=Rd.pair w3
 obtain ⟨rfl,z6⟩:=(show _=_∧_ from u5)
 have z7:=w5
 obtain ⟨A7,c7,rfl,_⟩:=Rd.slice1 w5
 exact ⟨A7,c7,rfl,z2,z6,z7⟩
theorem QdZ {m:Mem} {n3:Mem} (x0:Int) (x1:Bool) (x2:Int) (x3:List UInt8) (hS:Qt m [n3]) (h0:inK .i64 x0) (h2:inK .i64 x2) {v3:Value} (h3:Ow (.sl .byte) n3 [v3] x3):Ow YP m [.int .i64 x0,.bool x1,.int .i64 x2,v3] (x0,x1,x2,x3):=by
 obtain ⟨e1,la1,lb1,Sa1,Sb1⟩:=Qt.cut (l:=[]) (r:=[n3]) hS
 obtain ⟨e2,la2,lb2,Sa2,Sb2⟩:=Qt.cut (l:=[]) (r:=[n3]) Sb1
 obtain ⟨e3,la3,lb3,Sa3,Sb3⟩:=Qt.cut (l:=[]) (r:=[n3]) Sb2
 exact (Ow.mkPair (c1:=[_]) e1 la1 lb1 (show Ow (.int .i64) _ [_] _ from ⟨rfl,h0⟩) (Ow.mkPair (c1:=[_]) e2 la2 lb2 (show Ow .bool _ [_] _ from rfl) (Ow.mkPair (c1:=[_]) e3 la3 lb3 (show Ow (.int .i64) _ [_] _ from ⟨rfl,h2⟩) (h3.up (Sb3.1 _ (.head _))))))
abbrev QH : Ty := .pair .bool (.pair (.pair (.sl .byte) (.pair (.sl .byte) (.pair (.sl .byte) (.sl .byte)))) (.pair (.sl YP) (.pair .bool (.pair .bool (.pair (.int .i64) (.int .i64))))))
abbrev QD := Bool × ((List UInt8) × (List UInt8) × (List UInt8) × (List UInt8)) × (List Xy) × Bool × Bool × Int × Int
instance QpG : DecidableEq QD := (@instDecidableEqProd _ _ inferInstance (@instDecidableEqProd _ _ (@instDecidableEqProd _ _ inferInstance (@instDecidableEqProd _ _ inferInstance (@instDecidableEqProd _ _ inferInstance inferInstance))) (@instDecidableEqProd _ _ inferInstance (@instDecidableEqProd _ _ inferInstance (@instDecidableEqProd _ _ inferInstance (@instDecidableEqProd _ _ inferInstance inferInstance))))))
theorem Qe4 {m:Mem} {cs:List Value} {x0:Bool} {x1:List UInt8} {x2:List UInt8} {x3:List UInt8} {x4:List UInt8} {x5:List Xy} {x6:Bool} {x7:Bool} {x8:Int} {x9:Int} (h:Ow QH m cs (x0,(x1,x2,x3,x4),x5,x6,x7,x8,x9)):∃ (A1:Option Addr),∃ (c1:Nat),∃ (A2:Option Addr),∃ (c2:Nat),∃ (A3:Option Addr),∃ (c3:Nat),∃ (A4:Option Addr),∃ (c4:Nat),∃ (A5:Option Addr),∃ (c5:Nat),∃ (n1:Mem),∃ (n2:Mem),∃ (n3:Mem),∃ (n4:Mem),∃ (n5:Mem),cs=[(.bool x0:Value),.slice A1 x1.length c1,.slice A2 x2.length c2,.slice A3 x3.length c3,.slice A4 x4.length c4,.slice A5 x5.length c5,.bool x6,.bool x7,.int .i64 x8,.int .i64 x9]∧Qt m [n1,n2,n3,n4,n5]∧Ow (.sl .byte) n1 [.slice A1 x1.length c1] x1∧Ow (.sl .byte) n2 [.slice A2 x2.length c2] x2∧Ow (.sl .byte) n3 [.slice A3 x3.length c3] x3∧Ow (.sl .byte) n4 [.slice A4 x4.length c4] x4∧Ow (.sl YP) n5 [.slice A5 x5.length c5] x5∧inK .i64 x8∧inK .i64 x9:=by
 obtain ⟨p1,q1,ma1,mb1,rfl,dj1,la1,lb1,u1,w1⟩:=Ow.pair h
 obtain rfl:=(show _=_ from u1)
 obtain ⟨p3,q3,ma3,mb3,rfl,dj3,la3,lb3,u3,w3⟩:=Ow.pair w1
 obtain ⟨p4,q4,ma4,mb4,rfl,dj4,la4,lb4,u4,w4⟩:=Ow.pair u3
 have z5:=u4
 obtain ⟨A5,c5,rfl,_⟩:=Ow.slice1 u4
 obtain ⟨p6,q6,ma6,mb6,rfl,dj6,la6,lb6,u6,w6⟩:=Ow.pair w4
 have z7:=u6
 obtain ⟨A7,c7,rfl,_⟩:=Ow.slice1 u6
 obtain ⟨p8,q8,ma8,mb8,rfl,dj8,la8,lb8,u8,w8⟩:=Ow.pair w6
 have z9:=u8
 obtain ⟨A9,c9,rfl,_⟩:=Ow.slice1 u8
 have z10:=w8
 obtain ⟨A10,c10,rfl,_⟩:=Ow.slice1 w8
 obtain ⟨p11,q11,ma11,mb11,rfl,dj11,la11,lb11,u11,w11⟩:=Ow.pair w3
 have z12:=u11
 obtain ⟨A12,c12,rfl,_⟩:=Ow.slice1 u11
 obtain ⟨p13,q13,ma13,mb13,rfl,dj13,la13,lb13,u13,w13⟩:=Ow.pair w11
 obtain rfl:=(show _=_ from u13)
 obtain ⟨p15,q15,ma15,mb15,rfl,dj15,la15,lb15,u15,w15⟩:=Ow.pair w13
 obtain rfl:=(show _=_ from u15)
 obtain ⟨p17,q17,ma17,mb17,rfl,dj17,la17,lb17,u17,w17⟩:=Ow.pair w15
 obtain ⟨rfl,z18⟩:=(show _=_∧_ from u17)
 obtain ⟨rfl,z19⟩:=(show _=_∧_ from w17)
 exact ⟨A5,c5,A7,c7,A9,c9,A10,c10,A12,c12,_,_,_,_,_,rfl,(Qt.app dj1 la1 lb1 (Qt.nil _) (Qt.app dj3 la3 lb3 (Qt.app dj4 la4 lb4 (Qt.one (Qb _)) (Qt.app dj6 la6 lb6 (Qt.one (Qb _)) (Qt.app dj8 la8 lb8 (Qt.one (Qb _)) (Qt.one (Qb _))))) (Qt.app dj11 la11 lb11 (Qt.one (Qb _)) (Qt.app dj13 la13 lb13 (Qt.nil _) (Qt.app dj15 la15 lb15 (Qt.nil _) (Qt.app dj17 la17 lb17 (Qt.nil _) (Qt.nil _))))))),z5,z7,z9,z10,z12,z18,z19⟩
theorem Qg3 {m:Mem} {n1 n2 n3 n4 n5:Mem} (x0:Bool) (x1:List UInt8) (x2:List UInt8) (x3:List UInt8) (x4:List UInt8) (x5:List Xy) (x6:Bool) (x7:Bool) (x8:Int) (x9:Int) (hS:Qt m [n1,n2,n3,n4,n5]) {v1:Value} (h1:Ow (.sl .byte) n1 [v1] x1) {v2:Value} (h2:Ow (.sl .byte) n2 [v2] x2) {v3:Value} (h3:Ow (.sl .byte) n3 [v3] x3) {v4:Value} (h4:Ow (.sl .byte) n4 [v4] x4) {v5:Value} (h5:Ow (.sl YP) n5 [v5] x5) (h8:inK .i64 x8) (h9:inK .i64 x9):Ow QH m [.bool x0,v1,v2,v3,v4,v5,.bool x6,.bool x7,.int .i64 x8,.int .i64 x9] (x0,(x1,x2,x3,x4),x5,x6,x7,x8,x9):=by
 obtain ⟨e1,la1,lb1,Sa1,Sb1⟩:=Qt.cut (l:=[]) (r:=[n1,n2,n3,n4,n5]) hS
 obtain ⟨e2,la2,lb2,Sa2,Sb2⟩:=Qt.cut (l:=[n1,n2,n3,n4]) (r:=[n5]) Sb1
 obtain ⟨e3,la3,lb3,Sa3,Sb3⟩:=Qt.cut (l:=[n1]) (r:=[n2,n3,n4]) Sa2
 obtain ⟨e4,la4,lb4,Sa4,Sb4⟩:=Qt.cut (l:=[n2]) (r:=[n3,n4]) Sb3
 obtain ⟨e5,la5,lb5,Sa5,Sb5⟩:=Qt.cut (l:=[n3]) (r:=[n4]) Sb4
 obtain ⟨e6,la6,lb6,Sa6,Sb6⟩:=Qt.cut (l:=[n5]) (r:=[]) Sb2
 obtain ⟨e7,la7,lb7,Sa7,Sb7⟩:=Qt.cut (l:=[]) (r:=[]) Sb6
 obtain ⟨e8,la8,lb8,Sa8,Sb8⟩:=Qt.cut (l:=[]) (r:=[]) Sb7
 obtain ⟨e9,la9,lb9,Sa9,Sb9⟩:=Qt.cut (l:=[]) (r:=[]) Sb8
 exact (Ow.mkPair (c1:=[_]) e1 la1 lb1 (show Ow .bool _ [_] _ from rfl) (Ow.mkPair (c1:=[_,_,_,_]) e2 la2 lb2 (Ow.mkPair (c1:=[_]) e3 la3 lb3 (h1.up (Sa3.1 _ (.head _))) (Ow.mkPair (c1:=[_]) e4 la4 lb4 (h2.up (Sa4.1 _ (.head _))) (Ow.mkPair (c1:=[_]) e5 la5 lb5 (h3.up (Sa5.1 _ (.head _))) (h4.up (Sb5.1 _ (.head _)))))) (Ow.mkPair (c1:=[_]) e6 la6 lb6 (h5.up (Sa6.1 _ (.head _))) (Ow.mkPair (c1:=[_]) e7 la7 lb7 (show Ow .bool _ [_] _ from rfl) (Ow.mkPair (c1:=[_]) e8 la8 lb8 (show Ow .bool _ [_] _ from rfl) (Ow.mkPair (c1:=[_]) e9 la9 lb9 (show Ow (.int .i64) _ [_] _ from ⟨rfl,h8⟩) (show Ow (.int .i64) _ [_] _ from ⟨rfl,h9⟩)))))))
theorem Qao {m:Mem} {cs:List Value} {g:Nat} {x0:Bool} {x1:List UInt8} {x2:List UInt8} {x3:List UInt8} {x4:List UInt8} {x5:List Xy} {x6:Bool} {x7:Bool} {x8:Int} {x9:Int} (h:Ow (.ptr QH) m cs (g,(x0,(x1,x2,x3,x4),x5,x6,x7,x8,x9))):∃ (E:TypeId),∃ (A1:Option Addr),∃ (c1:Nat),∃ (A2:Option Addr),∃ (c2:Nat),∃ (A3:Option Addr),∃ (c3:Nat),∃ (A4:Option Addr),∃ (c4:Nat),∃ (A5:Option Addr),∃ (c5:Nat),∃ (n1:Mem),∃ (n2:Mem),∃ (n3:Mem),∃ (n4:Mem),∃ (n5:Mem),cs=[.pointer (some ⟨g,0,none⟩)]∧Qt m [Qo g (.cells [(.bool x0:Value),.slice A1 x1.length c1,.slice A2 x2.length c2,.slice A3 x3.length c3,.slice A4 x4.length c4,.slice A5 x5.length c5,.bool x6,.bool x7,.int .i64 x8,.int .i64 x9].toArray E (0,0)),n1,n2,n3,n4,n5]∧Ow (.sl .byte) n1 [.slice A1 x1.length c1] x1∧Ow (.sl .byte) n2 [.slice A2 x2.length c2] x2∧Ow (.sl .byte) n3 [.slice A3 x3.length c3] x3∧Ow (.sl .byte) n4 [.slice A4 x4.length c4] x4∧Ow (.sl YP) n5 [.slice A5 x5.length c5] x5∧inK .i64 x8∧inK .i64 x9:=by
 obtain ⟨rfl,rc,E,m1,hd,l0,l1,h1⟩:=Ow.opnP h
 obtain ⟨A1,c1,A2,c2,A3,c3,A4,c4,A5,c5,n1,n2,n3,n4,n5,rfl,hS,f1,f2,f3,f4,f5,f8,f9⟩:=Qe4 h1
 exact ⟨E,A1,c1,A2,c2,A3,c3,A4,c4,A5,c5,n1,n2,n3,n4,n5,rfl,Qt.app hd l0 l1 (Qt.one (Qb _)) hS,f1,f2,f3,f4,f5,f8,f9⟩
theorem QB {m:Mem} {cs:List Value} {g:Nat} {x:QD} (h:Ow (.ptr QH) m cs (g,x)):type_of% (Qao (x0:=x.1) (x1:=x.2.1.1) (x2:=x.2.1.2.1) (x3:=x.2.1.2.2.1) (x4:=x.2.1.2.2.2) (x5:=x.2.2.1) (x6:=x.2.2.2.1) (x7:=x.2.2.2.2.1) (x8:=x.2.2.2.2.2.1) (x9:=x.2.2.2.2.2.2) h):=Qao (x0:=x.1) (x1:=x.2.1.1) (x2:=x.2.1.2.1) (x3:=x.2.1.2.2.1) (x4:=x.2.1.2.2.2) (x5:=x.2.2.1) (x6:=x.2.2.2.1) (x7:=x.2.2.2.2.1) (x8:=x.2.2.2.2.2.1) (x9:=x.2.2.2.2.2.2) h
theorem J4 {m:Mem} {g:Nat} {E:TypeId} {n1 n2 n3 n4 n5:Mem}{v1:Value}{v2:Value}{v3:Value}{v4:Value}{v5:Value} (x0:Bool) (x1:List UInt8) (x2:List UInt8) (x3:List UInt8) (x4:List UInt8) (x5:List Xy) (x6:Bool) (x7:Bool) (x8:Int) (x9:Int) (hS:Qt m [Qo g (.cells [.bool x0,v1,v2,v3,v4,v5,.bool x6,.bool x7,.int .i64 x8,.int .i64 x9].toArray E (0,0)),n1,n2,n3,n4,n5]) (h1:Ow (.sl .byte) n1 [v1] x1) (h2:Ow (.sl .byte) n2 [v2] x2) (h3:Ow (.sl .byte) n3 [v3] x3) (h4:Ow (.sl .byte) n4 [v4] x4) (h5:Ow (.sl YP) n5 [v5] x5) (h8:inK .i64 x8) (h9:inK .i64 x9):Ow (.ptr QH) m [.pointer (some ⟨g,0,none⟩)] (g,(x0,(x1,x2,x3,x4),x5,x6,x7,x8,x9)):=
 Ow.clsP hS fun hS=>Qg3 x0 x1 x2 x3 x4 x5 x6 x7 x8 x9 hS h1 h2 h3 h4 h5 h8 h9
theorem Ji {m:Mem} {g:Nat} {E:TypeId} {n1 n2 n3 n4 n5:Mem}{v1:Value}{v2:Value}{v3:Value}{v4:Value}{v5:Value} (x:QD) (hS:Qt m [Qo g (.cells [.bool x.1,v1,v2,v3,v4,v5,.bool x.2.2.2.1,.bool x.2.2.2.2.1,.int .i64 x.2.2.2.2.2.1,.int .i64 x.2.2.2.2.2.2].toArray E (0,0)),n1,n2,n3,n4,n5]) (h1:Ow (.sl .byte) n1 [v1] x.2.1.1) (h2:Ow (.sl .byte) n2 [v2] x.2.1.2.1) (h3:Ow (.sl .byte) n3 [v3] x.2.1.2.2.1) (h4:Ow (.sl .byte) n4 [v4] x.2.1.2.2.2) (h5:Ow (.sl YP) n5 [v5] x.2.2.1) (h8:inK .i64 x.2.2.2.2.2.1) (h9:inK .i64 x.2.2.2.2.2.2):Ow (.ptr QH) m [.pointer (some ⟨g,0,none⟩)] (g,x):=J4 (x.1) (x.2.1.1) (x.2.1.2.1) (x.2.1.2.2.1) (x.2.1.2.2.2) (x.2.2.1) (x.2.2.2.1) (x.2.2.2.2.1) (x.2.2.2.2.2.1) (x.2.2.2.2.2.2) hS h1 h2 h3 h4 h5 h8 h9
abbrev Qiy := Int × Int × Int × Int × (List UInt8)
instance Qrr : DecidableEq Qiy := (@instDecidableEqProd _ _ inferInstance (@instDecidableEqProd _ _ inferInstance (@instDecidableEqProd _ _ inferInstance (@instDecidableEqProd _ _ inferInstance inferInstance))))
abbrev Dur := Qr × Qr × Qr × Qr
abbrev Xn := Xz
abbrev QS := Qx
def Qbv (q : Dur) (f : Int) : Qr := if f = 0 then q.1 else if f = 1 then q.2.1 else if f = 2 then q.2.2.1 else q.2.2.2
def Qf3 (q : Dur) (f : Int) (b : Qr) : Dur := if f = 0 then (b, q.2) else if f = 1 then (q.1, b, q.2.2) else if f = 2 then (q.1, q.2.1, b, q.2.2.2) else (q.1, q.2.1, q.2.2.1, b)
def QbX (b : Qr) (s : Xn) : Qr := if s.1 = 0 then b ++ s.2.2.1 else if s.1 = 1 then b.take s.2.2.2.toNat else b
def ZK (q : Dur) (s : Xn) : Dur := Qf3 q s.2.1 (QbX (Qbv q s.2.1) s)
def Qc9 (q : Dur) (l : List Xn) : Dur := l.foldl ZK q
def Xa (f : Int) (b : Qr) (s : Xn) : Qr := if s.2.1 = f then QbX b s else b
def Zr (q : Dur) (l : List Xn) (f : Int) : Qr := l.foldl (Xa f) (Qbv q f)
def inF (f : Int) : Prop := 0 ≤ f ∧ f < 4
instance (f : Int) : Decidable (inF f) := by unfold inF; infer_instance
theorem Qha {q:Dur} {f g:Int} {b:Qr} (hf:inF f) (hg:inF g):Qbv (Qf3 q f b) g=if f=g then b else Qbv q g:=by
 obtain ⟨h0,h1⟩:=hf;obtain ⟨h2,h3⟩:=hg
 obtain rfl | rfl | rfl | rfl:f=0∨f=1∨f=2∨f=3:=by omega
 all_goals obtain rfl | rfl | rfl | rfl:g=0∨g=1∨g=2∨g=3:=by omega
 all_goals rfl
def Qid (q : Dur) (s : Xn) : Prop := (s.1 = 0 ∨ s.1 = 1) ∧ inF s.2.1 ∧ (s.1 = 0 → 1 ≤ s.2.2.1.length ∧ s.2.2.1.length ≤ 64) ∧ (s.1 = 1 → 0 ≤ s.2.2.2 ∧ s.2.2.2 ≤ (Qbv q s.2.1).length)
def QcP : Dur → List Xn → Prop
  | _, [] => True
  | q, s :: r => Qid q s ∧ QcP (ZK q s) r
theorem Qdf : ∀ {l r : List Xn} {q : Dur}, QcP q (l ++ r) ↔ QcP q l ∧ QcP (Qc9 q l) r
  | [], r, q => by simp [QcP, Qc9]
  | s :: l, r, q => by
    show Qid q s ∧ QcP (ZK q s) (l ++ r) ↔ (Qid q s ∧ QcP (ZK q s) l) ∧ QcP (Qc9 (ZK q s) l) r
    rw [Qdf (l := l), and_assoc]
theorem Qc8 : ∀ {l : List Xn} {q : Dur} {f : Int}, QcP q l → inF f → Qbv (Qc9 q l) f = Zr q l f
  | [], q, f, _, _ => rfl
  | s :: l, q, f, h, hf => by
    show Qbv (Qc9 (ZK q s) l) f = _
    rw [Qc8 h.2 hf]
    show l.foldl (Xa f) (Qbv (ZK q s) f) = l.foldl (Xa f) (Xa f (Qbv q f) s)
    rw [ZK, Qha h.1.2.1 hf]
    unfold Xa
    split
    · rename_i he; rw [he]
    · rfl
def Xk (q : Dur) : Nat := q.1.length + q.2.1.length + q.2.2.1.length + q.2.2.2.length
def Qaj (l : List Xn) : Nat := (l.map fun s => s.2.2.1.length).sum
theorem Qb9 (s:Xn) (l:List Xn):Qaj (s::l)=s.2.2.1.length+Qaj l:=by simp [Qaj]
theorem QeQ (l r:List Xn):Qaj (l++r)=Qaj l+Qaj r:=by simp [Qaj]
theorem Qfi (q:Dur) (f:Int):(Qbv q f).length≤Xk q:=by unfold Qbv Xk;split <;> (try split) <;> (try split) <;> omega
theorem QlR {q:Dur} {f:Int} {b:Qr}:Xk (Qf3 q f b)+(Qbv q f).length=Xk q+b.length:=by
 unfold Qf3 Qbv Xk
 split
 ·dsimp only;omega
 ·split
  ·dsimp only;omega
  ·split <;> (dsimp only;omega)
theorem Qgu (b:Qr) (s:Xn):(QbX b s).length≤b.length+s.2.2.1.length:=by
 unfold QbX
 split
 ·simp
 ·split
  ·simp only [List.length_take];omega
  ·omega
theorem QkD (q:Dur) (s:Xn):Xk (ZK q s)≤Xk q+s.2.2.1.length:=by
 have:=QlR (q:=q) (f:=s.2.1) (b:=QbX (Qbv q s.2.1) s)
 have:=Qgu (Qbv q s.2.1) s
 unfold ZK
 omega
theorem Qc7 : ∀ (l : List Xn) (q : Dur), Xk (Qc9 q l) ≤ Xk q + Qaj l
  | [], q => by simp [Qc9, Qaj]
  | s :: l, q => by
    have h1 := Qc7 l (ZK q s)
    have h2 := QkD q s
    rw [Qb9]
    show Xk (Qc9 (ZK q s) l) ≤ _
    omega
theorem Qav (f : Int) : ∀ (l : List Xn) (b : Qr), (l.foldl (Xa f) b).length ≤ b.length + Qaj l
  | [], b => by simp [Qaj]
  | s :: l, b => by
    have h1 := Qav f l (Xa f b s)
    have h2 : (Xa f b s).length ≤ b.length + s.2.2.1.length := by
      unfold Xa
      split
      · exact Qgu b s
      · omega
    rw [Qb9, List.foldl_cons]; omega
theorem Qgi (q:Dur) (l:List Xn) (f:Int):(Zr q l f).length≤Xk q+Qaj l:=by
 have:=Qav f l (Qbv q f)
 have:=Qfi q f
 unfold Zr;omega
def okD (d : QS) : Prop := QcP d.2.2.2.2.2.1 d.2.2.2.2.2.2 ∧ 0 ≤ d.2.2.2.1 ∧ 0 ≤ d.2.2.2.2.1
def wD (d : QS) : Nat := Xk d.2.2.2.2.2.1 + Qaj d.2.2.2.2.2.2 + d.2.2.2.2.2.2.length + d.2.2.2.2.1.toNat
def Qe9 : QS := (true, false, false, 0, 0, ([], [], [], []), [])
theorem QdG:okD Qe9:=⟨trivial,Int.le_refl _,Int.le_refl _⟩
def Jt (d : QS) : Int := if d.1 = false then 1 else if d.2.1 = true then 6 else 0
def QM (d : QS) : QS × Bool := if d.2.2.1 = true then (if d.2.2.2.1 = 0 then ((d.1, true, d.2.2), false) else ((d.1, d.2.1, d.2.2.1, d.2.2.2.1 - 1, d.2.2.2.2.1 + 1, d.2.2.2.2.2), true)) else ((d.1, d.2.1, d.2.2.1, d.2.2.2.1, d.2.2.2.2.1 + 1, d.2.2.2.2.2), true)
def Qew (d : QS) (s : Xn) : QS := (d.1, d.2.1, d.2.2.1, d.2.2.2.1, d.2.2.2.2.1, d.2.2.2.2.2.1, d.2.2.2.2.2.2 ++ [s])
theorem Qa4 {q:Dur} {f:Int} (h:f=0):Qbv q f=q.1:=by subst h;rfl
theorem Qa3 {q:Dur} {f:Int} (h:f=1):Qbv q f=q.2.1:=by subst h;rfl
theorem Qa2 {q:Dur} {f:Int} (h:f=2):Qbv q f=q.2.2.1:=by subst h;rfl
theorem Qa1 {q:Dur} {f:Int} (h:f=3):Qbv q f=q.2.2.2:=by subst h;rfl
theorem QhG {q:Dur} {f:Int} {b:Qr} (h:f=0):Qf3 q f b=(b,q.2):=by subst h;rfl
theorem QhF {q:Dur} {f:Int} {b:Qr} (h:f=1):Qf3 q f b=(q.1,b,q.2.2):=by subst h;rfl
theorem QhE {q:Dur} {f:Int} {b:Qr} (h:f=2):Qf3 q f b=(q.1,q.2.1,b,q.2.2.2):=by subst h;rfl
theorem QhD {q:Dur} {f:Int} {b:Qr} (h:f=3):Qf3 q f b=(q.1,q.2.1,q.2.2.1,b):=by subst h;rfl
def Xp (d : QS) (k : Nat) : QS := (d.1, d.2.1, d.2.2.1, d.2.2.2.1, d.2.2.2.2.1, Qc9 d.2.2.2.2.2.1 (d.2.2.2.2.2.2.take k), d.2.2.2.2.2.2.drop k)
theorem J6 {α:Type} {l:List α} {n k:Nat} {x:α} (h:(l.take n)[k]? =some x):l[k]? =some x:=by
 rw [List.getElem?_take] at h
 split at h
 ·exact h
 ·cases h
theorem Qgt {α:Type} {l:List α} {k:Nat} {x:α} (h:l[k]? =some x):l=l.take k++x::l.drop (k+1):=by
 obtain ⟨h1,h2⟩:=List.getElem?_eq_some_iff.1 h
 rw [← h2,← List.drop_eq_getElem_cons h1,List.take_append_drop]
section
variable {q : Dur} {l : List Xn} {f : Int} {b : Qr} {k : Nat} {s : Xn}
theorem Qic (hb:b=Zr q (l.take k) f) (hs:l[k]? =some s):Xa f b s=Zr q (l.take (k+1)) f:=by
 rw [hb,Zr,Zr,List.take_add_one,hs,List.foldl_append];rfl
theorem Qeq (hb:b=Zr q (l.take k) f) (hs:l[k]? =some s) (h:s.2.1=f):QbX b s=Zr q (l.take (k+1)) f:=by
 rw [← Qic hb hs,Xa,if_pos h]
theorem Qg9 (hb:b=Zr q (l.take k) f) (hs:l[k]? =some s) (h:¬ s.2.1=f):b=Zr q (l.take (k+1)) f:=by
 rw [← Qic hb hs,Xa,if_neg h]
theorem QmM (hg:QcP q l) (hs:l[k]? =some s):Qid (Qc9 q (l.take k)) s∧QcP q (l.take k):=by
 rw [Qgt hs,Qdf] at hg
 exact ⟨hg.2.1,hg.1⟩
theorem Qj3 (hg:QcP q l) (hb:b=Zr q (l.take k) f) (hs:l[k]? =some s) (hf:inF f) (h:s.2.1=f):s.1=1→0≤s.2.2.2∧s.2.2.2≤b.length:=by
 obtain ⟨h1,h2⟩:=QmM hg hs
 intro h3
 have:=h1.2.2.2 h3
 rw [h,Qc8 h2 hf,← hb] at this
 exact this
theorem Qf2 (hs:l[k]? =some s):Qaj (l.take k)+s.2.2.1.length≤Qaj l:=by
 conv=>rhs;rw [Qgt hs]
 rw [QeQ,Qb9];omega
theorem Qib (hb:b=Zr q (l.take k) f) (hs:l[k]? =some s):b.length+s.2.2.1.length≤Xk q+Qaj l:=by
 have h1:=Qgi q (l.take k) f
 have h2:=Qf2 hs
 rw [hb];omega
theorem Je {q0:Dur} (hb:q=Qc9 q0 (l.take k)) (hs:l[k]? =some s):ZK q s=Qc9 q0 (l.take (k+1)):=by
 rw [hb,Qc9,Qc9,List.take_add_one,hs,List.foldl_append];rfl
theorem XO {q0:Dur} (hg:QcP q0 l) (hb:q=Qc9 q0 (l.take k)) (hs:l[k]? =some s):inF s.2.1∧(s.1=1→0≤s.2.2.2∧s.2.2.2≤(Qbv q s.2.1).length):=by
 obtain ⟨h1,h2⟩:=QmM hg hs
 subst hb
 exact ⟨h1.2.1,h1.2.2.2⟩
theorem XQ {q0:Dur} (hb:q=Qc9 q0 (l.take k)) (hs:l[k]? =some s):(Qbv q s.2.1).length+s.2.2.1.length≤Xk q0+Qaj l:=by
 have h1:=Qc7 (l.take k) q0
 have h2:=Qf2 hs
 have h3:=Qfi q s.2.1
 subst hb;omega
end
theorem Xx {d:QS} (h:okD d):okD (QM d).1:=by
 obtain ⟨h1,h2,h3⟩:=h
 unfold QM
 split
 ·split
  ·exact ⟨h1,h2,h3⟩
  ·exact ⟨h1,by dsimp only;omega,by dsimp only;omega⟩
 ·exact ⟨h1,h2,by dsimp only;omega⟩
theorem Qd6 {d:QS} (h:okD d):wD (QM d).1≤wD d+1:=by
 have h3:=h.2.2
 unfold QM
 split
 ·split
  ·show wD d≤_;omega
  ·simp only [wD];omega
 ·simp only [wD];omega
theorem Qb2 (d:QS):(QM d).1.1=d.1∧(QM d).1.2.2.2.2.2=d.2.2.2.2.2:=by
 unfold QM
 split
 ·split <;> exact ⟨rfl,rfl⟩
 ·exact ⟨rfl,rfl⟩
theorem QpK {d:QS} {s:Xn} (h:okD d) (hs:Qid (Qc9 d.2.2.2.2.2.1 d.2.2.2.2.2.2) s):okD (Qew d s):=
 ⟨Qdf.2 ⟨h.1,hs,trivial⟩,h.2⟩
theorem add_w (d:QS) (s:Xn):wD (Qew d s)=wD d+s.2.2.1.length+1:=by
 simp only [wD,Qew,QeQ,Qb9,List.length_append,List.length_cons,List.length_nil]
 show Xk _+(Qaj _+(s.2.2.1.length+Qaj []))+_+_=_
 simp only [Qaj,List.map_nil,List.sum_nil]
 omega
theorem QlP {d:QS} (k:Nat) (h:okD d):okD (Xp d k):=by
 obtain ⟨h1,h2⟩:=h
 rw [← List.take_append_drop k d.2.2.2.2.2.2,Qdf] at h1
 exact ⟨h1.2,h2⟩
theorem Qoa (d:QS) (k:Nat):wD (Xp d k)≤wD d:=by
 have h1:=Qc7 (d.2.2.2.2.2.2.take k) d.2.2.2.2.2.1
 have h2:Qaj d.2.2.2.2.2.2=Qaj (d.2.2.2.2.2.2.take k)+Qaj (d.2.2.2.2.2.2.drop k):=by rw [← QeQ,List.take_append_drop]
 simp only [wD,Xp,List.length_drop]
 omega
def Jq : Nat → QS → Int → Qr → QS × Int
  | 0, d, _, _ => (d, 0)
  | n + 1, d, f, b => if b.length = 0 then (d, 0) else if (QM d).2 = true then Jq n (Qew (QM d).1 (0, f, b.take 64, 0)) f (b.drop 64) else ((QM d).1, 6)
def Q7 (d : QS) (f : Int) (b : Qr) : QS × Int := if ¬ Jt d = 0 then (d, Jt d) else if ¬ inF f then (d, 2) else Jq b.length d f b
section
variable {d d' : QS} {f : Int} {b : Qr} {n m : Nat} {p : QS × Int}
theorem Qez (hp:p=Jq n d f b) (hb:b.length=0):p=(d,0):=by
 rw [hp];cases n with
 | zero=>rfl
 | succ n=>exact if_pos hb
theorem QbC (hp:p=Jq n d f b) (hn:b.length≤n) (hb:0 < b.length) (h:¬ (QM d).2=true):p=((QM d).1,6):=by
 rw [hp];cases n with
 | zero=>omega
 | succ n=>rw [Jq,if_neg (by omega),if_neg h]
theorem QfQ (hp : p = Jq n d f b) (hn : b.length ≤ n) (hb : 0 < b.length) (h : (QM d).2 = true) (hm : m = min b.length 64) : p = Jq (n - 1) (Qew (QM d).1 (0, f, b.take m, 0)) f (b.drop m) := by
  rw [hp]; cases n with
  | zero => omega
  | succ n =>
    rw [Jq, if_neg (by omega), if_pos h]
    have h1 : b.take m = b.take 64 := by
      by_cases h0 : b.length ≤ 64
      · rw [hm, List.take_of_length_le (by omega), List.take_of_length_le h0]
      · rw [hm, Nat.min_eq_right (by omega)]
    have h2 : b.drop m = b.drop 64 := by
      by_cases h0 : b.length ≤ 64
      · rw [hm, List.drop_of_length_le (by omega), List.drop_of_length_le h0]
      · rw [hm, Nat.min_eq_right (by omega)]
    rw [h1, h2]; rfl
theorem QeP (h:okD d) (hf:inF f) (hb:0 < b.length) (hm:m=min b.length 64):okD (Qew (QM d).1 (0,f,b.take m,0)):=
 QpK (Xx h) ⟨.inl rfl,hf,fun _=>by simp only [List.length_take];omega,fun h=>by cases h⟩
theorem QlK (h:okD d) (hb:0 < b.length) (hm:m=min b.length 64):wD (Qew (QM d).1 (0,f,b.take m,0))+3*(b.drop m).length≤wD d+3*b.length:=by
 have h1:=Qd6 h
 rw [add_w]
 simp only [List.length_take,List.length_drop]
 omega
theorem Qdt : ∀ (n : Nat) {d : QS} {b : Qr}, okD d → inF f → okD (Jq n d f b).1 ∧ wD (Jq n d f b).1 ≤ wD d + 3 * b.length + 1
  | 0, d, b, h, _ => ⟨h, by show wD d ≤ _; omega⟩
  | n + 1, d, b, h, hf => by
    unfold Jq
    split
    · exact ⟨h, by show wD d ≤ _; omega⟩
    · rename_i h0
      split
      · have e1 : b.take 64 = b.take (min b.length 64) := by
          by_cases h0 : b.length ≤ 64
          · rw [Nat.min_eq_left h0, List.take_of_length_le h0, List.take_of_length_le (Nat.le_refl _)]
          · rw [Nat.min_eq_right (by omega)]
        have h1 := QeP (m := min b.length 64) h hf (by omega) rfl
        have h2 := QlK (f := f) (m := min b.length 64) h (by omega) rfl
        rw [← e1] at h1 h2
        obtain ⟨k1, k2⟩ := Qdt n (b := b.drop 64) h1 hf
        simp only [List.length_drop] at h2 k2
        exact ⟨k1, by omega⟩
      · have := Qd6 h
        exact ⟨Xx h, by dsimp only; omega⟩
end
theorem Qay {d:QS} {f:Int} {b:Qr} (h:okD d):okD (Q7 d f b).1:=by
 unfold Q7;split
 ·exact h
 ·split
  ·exact h
  ·rename_i hf;exact (Qdt _ h (Decidable.not_not.1 hf)).1
theorem QiD {d:QS} {f:Int} {b:Qr} (h:okD d):wD (Q7 d f b).1≤wD d+3*b.length+1:=by
 unfold Q7;split
 ·show wD d≤_;omega
 ·split
  ·show wD d≤_;omega
  ·rename_i hf;exact (Qdt _ h (Decidable.not_not.1 hf)).2
def Qbx (d : QS) (f n : Int) : QS × Int := if ¬ Jt d = 0 then (d, Jt d) else if ¬ inF f ∨ n < 0 ∨ ((Zr d.2.2.2.2.2.1 d.2.2.2.2.2.2 f).length : Int) < n then (d, 2) else
  if (QM d).2 = true then (Qew (QM d).1 (1, f, [], n), 0) else ((QM d).1, 6)
theorem Qiq {d:QS} {f n:Int} (h:okD d):okD (Qbx d f n).1:=by
 unfold Qbx;split
 ·exact h
 ·split
  ·exact h
  ·rename_i h1
   have hf:inF f:=Decidable.byContradiction fun q=>h1 (.inl q)
   have hn:¬ n < 0:=fun q=>h1 (.inr (.inl q))
   have hl:¬ ((Zr d.2.2.2.2.2.1 d.2.2.2.2.2.2 f).length:Int) < n:=fun q=>h1 (.inr (.inr q))
   split
   ·refine QpK (Xx h) ⟨.inr rfl,hf,fun h=>(by cases h),fun _=>?_⟩
    rw [(Qb2 d).2]
    rw [Qc8 h.1 hf]
    dsimp only;omega
   ·exact Xx h
theorem cut_w {d:QS} {f n:Int} (h:okD d):wD (Qbx d f n).1≤wD d+2:=by
 have:=Qd6 h
 unfold Qbx;split
 ·show wD d≤_;omega
 ·split
  ·show wD d≤_;omega
  ·split
   ·rw [add_w];simp only [List.length_nil];omega
   ·dsimp only;omega
def Zh (d : QS) : QS × Int := if ¬ Jt d = 0 then (d, Jt d) else if (QM d).2 = true then (Xp (QM d).1 (QM d).1.2.2.2.2.2.2.length, 0) else ((QM d).1, 6)
theorem QiP {d:QS} (h:okD d):okD (Zh d).1:=by
 unfold Zh;split
 ·exact h
 ·split
  ·exact QlP _ (Xx h)
  ·exact Xx h
theorem sync_w {d:QS} (h:okD d):wD (Zh d).1≤wD d+1:=by
 have h1:=Qd6 h
 unfold Zh;split
 ·show wD d≤_;omega
 ·split
  ·have:=Qoa (QM d).1 (QM d).1.2.2.2.2.2.2.length
   dsimp only;omega
  ·dsimp only;omega
def XX (d : QS) (f : Int) : Qr × Int := if ¬ Jt d = 0 then ([], Jt d) else if ¬ inF f then ([], 2) else (Zr d.2.2.2.2.2.1 d.2.2.2.2.2.2 f, 0)
theorem Qma (d:QS) (f:Int):(XX d f).1.length≤wD d:=by
 have:=Qgi d.2.2.2.2.2.1 d.2.2.2.2.2.2 f
 unfold XX;split
 ·exact Nat.zero_le _
 ·split
  ·exact Nat.zero_le _
  ·dsimp only [wD];omega
def Zi (d : QS) (n : Int) : QS × Int := if ¬ Jt d = 0 then (d, Jt d) else if n < 0 then (d, 2) else ((d.1, d.2.1, true, n, d.2.2.2.2), 0)
theorem QmO {d:QS} {n:Int} (h:okD d):okD (Zi d n).1:=by
 unfold Zi;split
 ·exact h
 ·split
  ·exact h
  ·exact ⟨h.1,by dsimp only;omega,h.2.2⟩
theorem fuse_w (d:QS) (n:Int):wD (Zi d n).1=wD d:=by
 unfold Zi;split
 ·rfl
 ·split <;> rfl
def QoL (d : QS) : Int := if d.1 = false then 0 else d.2.2.2.2.2.2.length
def Qgv (d : QS) : Int := if d.1 = false then 0 else d.2.2.2.2.1
theorem QqH (d:QS):d.2.2.2.2.2.2.length≤wD d:=by unfold wD;omega
theorem Qds {d:QS} {f:Int} {b:Qr} (h:¬ Jt d=0):Q7 d f b=(d,Jt d):=if_pos h
theorem Qdr {d:QS} {f:Int} {b:Qr} (h:¬ ¬ Jt d=0) (h2:¬ inF f):Q7 d f b=(d,2):=by unfold Q7;rw [if_neg h,if_pos h2]
theorem Y8 {d:QS} {f:Int} {b:Qr} (h:¬ ¬ Jt d=0) (h2:¬ ¬ inF f):Q7 d f b=Jq b.length d f b:=by unfold Q7;rw [if_neg h,if_neg h2]
theorem Qkn {d:QS} {f n:Int} (h:¬ Jt d=0):Qbx d f n=(d,Jt d):=if_pos h
theorem Qco {d:QS} {f n:Int} (h:¬ ¬ Jt d=0) (h2:¬ inF f∨n < 0∨((Zr d.2.2.2.2.2.1 d.2.2.2.2.2.2 f).length:Int) < n):Qbx d f n=(d,2):=by unfold Qbx;rw [if_neg h,if_pos h2]
theorem Qkm {d:QS} {f n:Int} (h:¬ ¬ Jt d=0) (h1:¬ ¬ inF f) (h2:¬ n < 0) (h3:¬ ((Zr d.2.2.2.2.2.1 d.2.2.2.2.2.2 f).length:Int) < n) (h4:¬ ¬ (QM d).2=true):Qbx d f n=(Qew (QM d).1 (1,f,[],n),0):=by
 unfold Qbx;rw [if_neg h,if_neg (fun q=>q.elim h1 fun q=>q.elim h2 h3),if_pos (Decidable.not_not.1 h4)]
theorem QdL {d:QS} {f n:Int} (h:¬ ¬ Jt d=0) (h1:¬ ¬ inF f) (h2:¬ n < 0) (h3:¬ ((Zr d.2.2.2.2.2.1 d.2.2.2.2.2.2 f).length:Int) < n) (h4:¬ (QM d).2=true):Qbx d f n=((QM d).1,6):=by
 unfold Qbx;rw [if_neg h,if_neg (fun q=>q.elim h1 fun q=>q.elim h2 h3),if_neg h4]
theorem Y9 {d:QS} (h:¬ Jt d=0):Zh d=(d,Jt d):=if_pos h
theorem ZV {d:QS} (h:¬ ¬ Jt d=0) (h4:¬ (QM d).2=true):Zh d=((QM d).1,6):=by unfold Zh;rw [if_neg h,if_neg h4]
theorem YY {d:QS} (h:¬ ¬ Jt d=0) (h4:¬ ¬ (QM d).2=true):Zh d=(Xp (QM d).1 (QM d).1.2.2.2.2.2.2.length,0):=by unfold Zh;rw [if_neg h,if_pos (Decidable.not_not.1 h4)]
abbrev DAct := Qiy
def Qo6 (l : List DAct) : Prop := (∀ a ∈ l, a.2.2.2.2.length ≤ 400) ∧ l.length ≤ 100
instance (l : List DAct) : Decidable (Qo6 l) := by unfold Qo6; infer_instance
structure Fz (n : Int) (d : QS) : Prop where
  ok : okD d
  made : d.1 = true
  has : d.2.2.1 = true
  sum : d.2.2.2.2.1 + d.2.2.2.1 = n
  off : d.2.1 = true → d.2.2.2.1 = 0
theorem Fz.burn {n:Int} {d:QS} (h:Fz n d) (ho:d.2.1=false):Fz n (QM d).1∧((QM d).2=true↔(QM d).1.2.1=false)∧((QM d).2=true→(QM d).1.2.1=false):=by
 have hk:=Xx h.ok
 obtain ⟨h1,h2,h3,h4,h5⟩:=h
 unfold QM at hk ⊢
 rw [if_pos h3] at hk ⊢
 split
 ·rename_i h0
  rw [if_pos h0] at hk
  exact ⟨⟨hk,h2,h3,h4,fun _=>h0⟩,by simp,by simp⟩
 ·rename_i h0
  rw [if_neg h0] at hk
  exact ⟨⟨hk,h2,h3,by dsimp only;omega,fun q=>absurd (ho.symm.trans q) (by decide)⟩,by simp [ho],fun _=>ho⟩
theorem Fz.add {n:Int} {d:QS} {s:Xn} (h:Fz n d) (hk:okD (Qew d s)):Fz n (Qew d s):=⟨hk,h.made,h.has,h.sum,h.off⟩
structure Onn (d : QS) : Prop where
  ok : okD d
  made : d.1 = true
  on : d.2.1 = false
  has : d.2.2.1 = false
theorem Qor {d:QS} (h:Onn d):(Zh d).2=0∧Onn (Zh d).1∧QoL (Zh d).1=0:=by
 have hk:=QiP h.ok
 have hw:¬ ¬ Jt d=0:=by unfold Jt;rw [if_neg (by rw [h.made];decide),if_neg (by rw [h.on];decide)];decide
 have hb:QM d=((d.1,d.2.1,d.2.2.1,d.2.2.2.1,d.2.2.2.2.1+1,d.2.2.2.2.2),true):=by unfold QM;rw [if_neg (by rw [h.has];decide)]
 rw [YY hw (by rw [hb];simp)] at hk ⊢
 rw [hb] at hk ⊢
 refine ⟨rfl,⟨hk,h.made,h.on,h.has⟩,?_⟩
 show (if d.1=false then 0 else (((d.2.2.2.2.2.2.drop d.2.2.2.2.2.2.length).length:Nat):Int))=0
 simp
def leQ (p q : Dur) : Prop := ∀ f : Int, inF f → Qbv p f <+: Qbv q f
theorem leQ.trans {p q r:Dur} (h:leQ p q) (h':leQ q r):leQ p r:=fun f hf=>(h f hf).trans (h' f hf)
theorem QhY {d:QS} (h:Onn d):Jt d=0:=by unfold Jt;rw [if_neg (by rw [h.made];decide),if_neg (by rw [h.on];decide)]
theorem Qem {d:QS} (h:Onn d):QM d=((d.1,d.2.1,d.2.2.1,d.2.2.2.1,d.2.2.2.2.1+1,d.2.2.2.2.2),true):=by unfold QM;rw [if_neg (by rw [h.has];decide)]
theorem QlQ {q:Dur} {f:Int} {a b:Qr}:Qf3 (Qf3 q f a) f b=Qf3 q f b:=by
 unfold Qf3;split
 ·rfl
 ·split
  ·rfl
  ·split <;> rfl
theorem QeR {q:Dur} {f:Int}:Qf3 q f (Qbv q f)=q:=by
 unfold Qf3 Qbv;split
 ·rfl
 ·split
  ·rfl
  ·split <;> rfl
def begB (b a : Qr) : Prop := a.length ≤ b.length ∧ b.take a.length = a
instance (b a : Qr) : Decidable (begB b a) := by unfold begB; infer_instance
abbrev Qex := Int × Int × (List Qe)
instance QrI : DecidableEq Qex := (@instDecidableEqProd _ _ inferInstance (@instDecidableEqProd _ _ inferInstance inferInstance))
def hB1 (B : Qr) : Qr := B.drop (sN B 1048576)
def hB2 (B : Qr) : Qr := (hB1 B).drop (sN (hB1 B) 1048576)
abbrev hR1 (B : Qr) : Int × RS := Qh B 1048576 (0, false)
abbrev hR2 (B : Qr) : Int × RS := Qh B 1048576 (hR1 B).2
abbrev hR3 (B : Qr) : Int × RS := Qh B 1048576 (hR2 B).2
theorem QmP {e n:Int} {l:List Qe} (h:¬ ((Qi e n l).1=0∧(Qi e n l).2=0)):¬ (Qi e n l).1=0:=fun q=>h (Qou.2 q)
abbrev QnI := Xy
abbrev ZR := QD
def JY (r : QnI) : Xn := (if r.2.1 = true then 1 else 0, r.1, r.2.2.2, r.2.2.1)
def Qi6 (s : Xn) : QnI := (s.2.1, decide (s.1 = 1), s.2.2.2, s.2.2.1)
@[simp] theorem QjP (r : QnI) : Qi6 (JY r) = r := by obtain ⟨f, c, t, b⟩ := r; cases c <;> rfl
theorem Qn3 {s:Xn} (h:s.1=0∨s.1=1):JY (Qi6 s)=s:=by
 obtain ⟨k,f,b,t⟩:=s
 rcases h with h | h <;> (dsimp only at h;subst h;rfl)
@[simp] theorem Qga (l : List QnI) : (l.map JY).map Qi6 = l := by
  rw [List.map_map]
  conv => rhs; rw [← List.map_id l]
  congr 1; funext r; exact QjP r
@[simp] theorem comp_rs : Qi6 ∘ JY = id := funext QjP
theorem QfY:∀ {l:List Xn} {q:Dur},QcP q l→(l.map Qi6).map JY=l
 | [],_,_=>rfl
 | s::l,q,h=>by rw [List.map_cons,List.map_cons,Qn3 h.1.1,QfY h.2]
def Qk (r : ZR) : QS := (r.1, !r.2.2.2.1, r.2.2.2.2.1, if r.2.2.2.2.1 = true then r.2.2.2.2.2.1 else 0, r.2.2.2.2.2.2, r.2.1, r.2.2.1.map JY)
def toR (d : QS) (x : Int) : ZR := (d.1, d.2.2.2.2.2.1, d.2.2.2.2.2.2.map Qi6, !d.2.1, d.2.2.1, if d.2.2.1 = true then d.2.2.2.1 else x, d.2.2.2.2.1)
def nf (d : QS) : Prop := d.2.2.1 = false → d.2.2.2.1 = 0
theorem Xs {d:QS} {x:Int} (h:okD d) (hn:nf d):Qk (toR d x)=d:=by
 obtain ⟨m,o,f,n,c,q,l⟩:=d
 have h1:=QfY h.1
 unfold nf at hn
 dsimp only at h1 hn
 unfold Qk toR
 dsimp only
 rw [h1]
 cases f
 ·simp [hn rfl]
 ·simp
theorem Zf (r:ZR):toR (Qk r) r.2.2.2.2.2.1=r:=by
 obtain ⟨m,q,l,o,h,n,c⟩:=r
 unfold Qk toR
 dsimp only
 rw [Qga]
 cases h <;> simp
theorem YF (r:ZR):nf (Qk r):=by
 unfold nf Qk
 dsimp only
 intro h;rw [h];rfl
def okR (r : ZR) : Prop := okD (Qk r)
theorem QjV {d:QS} {x:Int} (h:okD d) (hn:nf d):okR (toR d x):=by unfold okR;rw [Xs h hn];exact h
section
variable {d : QS}
theorem XV (h:nf d):nf (QM d).1:=by
 unfold QM
 split
 ·split
  ·exact h
  ·rename_i h1 _;intro q;exact absurd (h1.symm.trans q) (by decide)
 ·exact h
theorem Qpd {s:Xn} (h:nf d):nf (Qew d s):=h
theorem Qmu {k:Nat} (h:nf d):nf (Xp d k):=h
theorem nf_go {f : Int} : ∀ (n : Nat) {d : QS} {b : Qr}, nf d → nf (Jq n d f b).1
  | 0, d, b, h => h
  | n + 1, d, b, h => by
    unfold Jq
    split
    · exact h
    · split
      · exact nf_go n (Qpd (XV h))
      · exact XV h
theorem Qcj {f:Int} {b:Qr} (h:nf d):nf (Q7 d f b).1:=by
 unfold Q7;split
 ·exact h
 ·split
  ·exact h
  ·exact nf_go _ h
theorem QhZ {f n:Int} (h:nf d):nf (Qbx d f n).1:=by
 unfold Qbx;split
 ·exact h
 ·split
  ·exact h
  ·split
   ·exact Qpd (XV h)
   ·exact XV h
theorem Qqz (h:nf d):nf (Zh d).1:=by
 unfold Zh;split
 ·exact h
 ·split
  ·exact Qmu (XV h)
  ·exact XV h
theorem QqA {n:Int} (h:nf d):nf (Zi d n).1:=by
 unfold Zi;split
 ·exact h
 ·split
  ·exact h
  ·intro q;cases q
end
def Qhf (b : Qr) (r : QnI) : Qr := if r.2.1 = true then b.take r.2.2.1.toNat else b ++ r.2.2.2
theorem ZO (b:Qr) (r:QnI):Qhf b r=QbX b (JY r):=by
 obtain ⟨f,c,t,y⟩:=r
 cases c <;> rfl
theorem JF {l:List QnI} {k:Nat} {r:QnI} (h:l[k]? =some r):(l.map JY)[k]? =some (JY r):=by rw [List.getElem?_map,h];rfl
def QfN (d : QS) (n : Nat) : QS := (d.1, d.2.1, d.2.2.1, d.2.2.2.1, d.2.2.2.2.1, Qc9 d.2.2.2.2.2.1 (d.2.2.2.2.2.2.take n), d.2.2.2.2.2.2)
def QiA : ZR := (true, ([], [], [], []), [], true, false, 0, 0)
theorem QbV:Qk QiA=Qe9:=rfl
theorem Ye {r:QnI} {i:Int} (h:r.1=i):(JY r).2.1=i:=h
theorem QlL {r:QnI} (h:r.2.1=true):(JY r).1=1:=if_pos h
theorem QaZ {r:ZR} (h:r.2.2.2.2.1=true) (h0:r.2.2.2.2.2.1=0):toR (QM (Qk r)).1 r.2.2.2.2.2.1=(r.1,r.2.1,r.2.2.1,false,r.2.2.2.2.1,r.2.2.2.2.2.1,r.2.2.2.2.2.2)∧(QM (Qk r)).2=false:=by
 obtain ⟨m,q,l,o,f,n,c⟩:=r
 dsimp only at h h0
 subst h;subst h0
 simp [QM,Qk,toR]
theorem Qa0 {r:ZR} (h:r.2.2.2.2.1=true) (h0:¬ r.2.2.2.2.2.1=0):toR (QM (Qk r)).1 r.2.2.2.2.2.1=(r.1,r.2.1,r.2.2.1,r.2.2.2.1,r.2.2.2.2.1,r.2.2.2.2.2.1 - 1,r.2.2.2.2.2.2+1)∧(QM (Qk r)).2=true:=by
 obtain ⟨m,q,l,o,f,n,c⟩:=r
 dsimp only at h h0
 subst h
 simp [QM,Qk,toR,h0]
theorem Qab {r:ZR} (h:r.2.2.2.2.1=false):toR (QM (Qk r)).1 r.2.2.2.2.2.1=(r.1,r.2.1,r.2.2.1,r.2.2.2.1,r.2.2.2.2.1,r.2.2.2.2.2.1,r.2.2.2.2.2.2+1)∧(QM (Qk r)).2=true:=by
 obtain ⟨m,q,l,o,f,n,c⟩:=r
 dsimp only at h
 subst h
 simp [QM,Qk,toR]
theorem QcV {X D:QS} {x:Int} (h:X.2.2.1=D.2.2.1):toR X (toR D x).2.2.2.2.2.1=toR X x:=by
 unfold toR
 dsimp only
 rw [h]
 cases D.2.2.1 <;> simp
theorem QgA (d:QS):(QM d).1.2.2.1=d.2.2.1:=by
 unfold QM
 split
 ·split <;> rfl
 ·rfl
theorem Qfz {D:QS} {x:Int}:toR (QM D).1 (toR D x).2.2.2.2.2.1=toR (QM D).1 x:=QcV (QgA D)
theorem X8 {b:Bool} (h:¬ ¬ (if b=true then (0:Int) else 6)=0):b=true:=by cases b <;> simp_all
theorem Zj {b:Bool} (h:¬ (if b=true then (0:Int) else 6)=0):¬ b=true:=by cases b <;> simp_all
theorem Qol {l:Qr} {a M:Nat} (h:M=min l.length (a+64)):(l.take M).drop a=(l.drop a).take 64:=by
 rw [List.drop_take,h]
 by_cases h0:l.length≤a+64
 ·rw [Nat.min_eq_left h0,List.take_of_length_le (by simp),List.take_of_length_le (by simp;omega)]
 ·rw [Nat.min_eq_right (by omega)];congr 1;omega
theorem QgQ (b:Qr):b.take 64=b.take (min b.length 64):=by
 by_cases h0:b.length≤64
 ·rw [Nat.min_eq_left h0,List.take_of_length_le h0,List.take_of_length_le (Nat.le_refl _)]
 ·rw [Nat.min_eq_right (by omega)]
theorem Qkk (b:Qr):b.drop 64=b.drop (min b.length 64):=by
 by_cases h0:b.length≤64
 ·rw [Nat.min_eq_left h0,List.drop_of_length_le h0,List.drop_of_length_le (Nat.le_refl _)]
 ·rw [Nat.min_eq_right (by omega)]
section
variable {r : ZR} {D : QS} {x f : Int} {p q : Qr}
theorem QiY (hr:r=toR D x) (hfr:Qk r=D) (hp:p=q):
  (((toR (QM (Qk r)).1 r.2.2.2.2.2.1).1,(toR (QM (Qk r)).1 r.2.2.2.2.2.1).2.1,(toR (QM (Qk r)).1 r.2.2.2.2.2.1).2.2.1++[(f,false,0,p)],(toR (QM (Qk r)).1 r.2.2.2.2.2.1).2.2.2):ZR)=toR (Qew (QM D).1 (0,f,q,0)) x:=by
 rw [hfr,hr,Qfz,hp]
 unfold toR Qew
 dsimp only
 rw [List.map_append]
 rfl
theorem Qmd {n:Int} (hr:r=toR D x) (hfr:Qk r=D):
  (((toR (QM (Qk r)).1 r.2.2.2.2.2.1).1,(toR (QM (Qk r)).1 r.2.2.2.2.2.1).2.1,(toR (QM (Qk r)).1 r.2.2.2.2.2.1).2.2.1++[(f,true,n,[])],(toR (QM (Qk r)).1 r.2.2.2.2.2.1).2.2.2):ZR)=toR (Qew (QM D).1 (1,f,[],n)) x:=by
 rw [hfr,hr,Qfz]
 unfold toR Qew
 dsimp only
 rw [List.map_append]
 rfl
theorem QkJ (hr:r=toR D x) (hfr:Qk r=D):toR (QM D).1 x=toR (QM (Qk r)).1 r.2.2.2.2.2.1:=by rw [hfr,hr,Qfz]
end
section
variable {D : QS} {f : Int} {l : Qr} {a n : Nat} {P : QS × Int}
theorem Ql3 (h:okD D) (hn:nf D) (hf:inF f) (hb:0 < (l.drop a).length):okD (Qew (QM D).1 (0,f,(l.drop a).take 64,0))∧nf (Qew (QM D).1 (0,f,(l.drop a).take 64,0)):=by
 refine ⟨?_,XV hn⟩
 rw [QgQ];exact QeP h hf hb rfl
theorem QiX (hp:P=Jq n D f (l.drop a)) (hn:(l.drop a).length≤n) (hb:0 < (l.drop a).length) (h:(QM D).2=true):P=Jq (n - 1) (Qew (QM D).1 (0,f,(l.drop a).take 64,0)) f (l.drop (a+64)):=by
 rw [QfQ hp hn hb h rfl,← QgQ,← Qkk,List.drop_drop]
theorem Qof (h:okD D) (hb:0 < (l.drop a).length):wD (Qew (QM D).1 (0,f,(l.drop a).take 64,0))+3*(l.drop (a+64)).length≤wD D+3*(l.drop a).length:=by
 rw [← List.drop_drop,QgQ,Qkk];exact QlK h hb rfl
end
theorem Qjt {r:ZR} (h:okD (Qk r)):(toR (QM (Qk r)).1 r.2.2.2.2.2.1).2.2.1.length≤wD (Qk r)+1:=by
 have h1:=Qd6 h
 have h2:=QqH (QM (Qk r)).1
 show (((QM (Qk r)).1.2.2.2.2.2.2).map Qi6).length≤_
 rw [List.length_map];omega
theorem QdB {X:QS} {x:Int} (h:okD X) (hn:nf X) {n:Nat} (hl:n=(toR X x).2.2.1.length):
  (((toR (QfN (Qk (toR X x)) n) (toR X x).2.2.2.2.2.1).1,(toR (QfN (Qk (toR X x)) n) (toR X x).2.2.2.2.2.1).2.1,[],(toR (QfN (Qk (toR X x)) n) (toR X x).2.2.2.2.2.1).2.2.2):ZR)=toR (Xp X X.2.2.2.2.2.2.length) x:=by
 have hl2:n=X.2.2.2.2.2.2.length:=by rw [hl];exact List.length_map ..
 rw [Xs h hn,QcV (X:=QfN X n) (D:=X) rfl,hl2]
 unfold toR QfN Xp
 dsimp only
 rw [List.drop_length,List.map_nil]
theorem QmJ {r:ZR} {n k:Nat} {b0 b1 b2 b3:Qr} (hb:(b0,b1,b2,b3)=Qc9 r.2.1 ((r.2.2.1.map JY).take k)) (hk:k=n∨(k≤n∧r.2.2.1.length≤k)):
  toR (QfN (Qk r) n) r.2.2.2.2.2.1=(r.1,(b0,b1,b2,b3),r.2.2.1,r.2.2.2.1,r.2.2.2.2.1,r.2.2.2.2.2.1,r.2.2.2.2.2.2):=by
 have h:Qc9 r.2.1 ((r.2.2.1.map JY).take n)=(b0,b1,b2,b3):=by
  rw [hb]
  rcases hk with rfl | ⟨h1,h2⟩
  ·rfl
  ·rw [List.take_of_length_le (by rw [List.length_map];omega),List.take_of_length_le (by rw [List.length_map];omega)]
 obtain ⟨m,q,l,o,f,x,c⟩:=r
 dsimp only at h
 unfold toR QfN Qk
 dsimp only
 rw [h,Qga]
 cases f <;> simp
theorem Qoh {r:ZR} {f:Int} {b:Qr} (h:okR r):okR (toR (Q7 (Qk r) f b).1 r.2.2.2.2.2.1):=QjV (Qay h) (Qcj (YF r))
theorem Qog {r:ZR} {f:Int} {b:Qr} (h:okR r):wD (Qk (toR (Q7 (Qk r) f b).1 r.2.2.2.2.2.1))≤wD (Qk r)+3*b.length+1:=by rw [Xs (Qay h) (Qcj (YF r))];exact QiD h
theorem ro_cut {r:ZR} {f n:Int} (h:okR r):okR (toR (Qbx (Qk r) f n).1 r.2.2.2.2.2.1):=QjV (Qiq h) (QhZ (YF r))
theorem rw_cut {r:ZR} {f n:Int} (h:okR r):wD (Qk (toR (Qbx (Qk r) f n).1 r.2.2.2.2.2.1))≤wD (Qk r)+2:=by rw [Xs (Qiq h) (QhZ (YF r))];exact cut_w h
theorem Qqg {r:ZR}  (h:okR r):okR (toR (QM (Qk r)).1 r.2.2.2.2.2.1):=QjV (Xx h) (XV (YF r))
theorem Qqe {r:ZR}  (h:okR r):wD (Qk (toR (QM (Qk r)).1 r.2.2.2.2.2.1))≤wD (Qk r)+1:=by rw [Xs (Xx h) (XV (YF r))];exact Qd6 h
section
variable {d : QS} {f n : Int} {b : Qr}
theorem Qmb {f:Int} (h:Jt d=0) (hf:inF f):XX d f=(Zr d.2.2.2.2.2.1 d.2.2.2.2.2.2 f,0):=by
 unfold XX;rw [if_neg (by rw [h];decide),if_neg (Decidable.not_not.2 hf)]
theorem Qdw:(Zh d).1.2.2.1=d.2.2.1:=by
 unfold Zh;split
 ·rfl
 ·split <;> exact QgA d
theorem Qpi : ∀ (n : Nat) {d : QS} {b : Qr}, (Jq n d f b).2 = 0 ∨ (Jq n d f b).2 = 6
  | 0, d, b => .inl rfl
  | n + 1, d, b => by
    unfold Jq
    split
    · exact .inl rfl
    · split
      · exact Qpi n
      · exact .inr rfl
end
def Qhh (d : QS) : Dur := Qc9 d.2.2.2.2.2.1 d.2.2.2.2.2.2
theorem QoP {d:QS} {f:Int} (h:okD d) (hf:inF f):Zr d.2.2.2.2.2.1 d.2.2.2.2.2.2 f=Qbv (Qhh d) f:=(Qc8 h.1 hf).symm
theorem Qnq (d:QS) (s:Xn):Qhh (Qew d s)=ZK (Qhh d) s:=by
 show Qc9 d.2.2.2.2.2.1 (d.2.2.2.2.2.2++[s])=_
 rw [Qc9,List.foldl_append];rfl
theorem Qkp (d:QS):Qhh (QM d).1=Qhh d:=by unfold Qhh;rw [(Qb2 d).2]
theorem Qkj (d:QS):(QM d).1.2.2.2.2.2.1=d.2.2.2.2.2.1:=by rw [(Qb2 d).2]
theorem Qar (d:QS):(QM d).1.1=d.1:=(Qb2 d).1
theorem QoO {d:QS} (f:Int):(Qbv (Qhh d) f).length≤wD d:=by
 have h1:=Qc7 d.2.2.2.2.2.2 d.2.2.2.2.2.1
 have h2:=Qfi (Qhh d) f
 unfold Qhh at h2 ⊢;unfold wD;omega
section
variable {d : QS} {f n base : Int} {b : Qr} {s : Qex}
theorem on_go (hf : inF f) : ∀ (k : Nat) {d : QS} {b : Qr}, b.length ≤ k → Onn d → (Jq k d f b).2 = 0 ∧ Onn (Jq k d f b).1 ∧ Qhh (Jq k d f b).1 = Qf3 (Qhh d) f (Qbv (Qhh d) f ++ b) ∧ (Jq k d f b).1.2.2.2.2.2.1 = d.2.2.2.2.2.1
  | 0, d, b, hk, h => by
    rw [List.eq_nil_of_length_eq_zero (Nat.le_zero.1 hk), List.append_nil, QeR]; exact ⟨rfl, h, rfl, rfl⟩
  | k + 1, d, b, hk, h => by
    unfold Jq
    split
    · rename_i h0
      rw [List.eq_nil_of_length_eq_zero h0, List.append_nil, QeR]; exact ⟨rfl, h, rfl, rfl⟩
    · rename_i h0
      rw [if_pos (by rw [Qem h])]
      have e1 : b.take 64 = b.take (min b.length 64) := by
        by_cases h0 : b.length ≤ 64
        · rw [Nat.min_eq_left h0, List.take_of_length_le h0, List.take_of_length_le (Nat.le_refl _)]
        · rw [Nat.min_eq_right (by omega)]
      have hs := QeP (m := min b.length 64) h.ok hf (by omega) rfl
      rw [← e1] at hs
      have ho : Onn (Qew (QM d).1 (0, f, b.take 64, 0)) := by
        rw [Qem h] at hs ⊢; exact ⟨hs, h.made, h.on, h.has⟩
      obtain ⟨k1, k2, k3, k4⟩ := on_go hf k (b := b.drop 64) (by simp only [List.length_drop]; omega) ho
      refine ⟨k1, k2, ?_, by rw [k4]; exact Qkj d⟩
      rw [k3, Qnq, Qkp, ZK, Qha hf hf, if_pos rfl, QlQ, QbX, if_pos rfl, List.append_assoc, List.take_append_drop]
theorem Qos (h:Onn d) (hf:inF f):(Q7 d f b).2=0∧Onn (Q7 d f b).1∧Qhh (Q7 d f b).1=Qf3 (Qhh d) f (Qbv (Qhh d) f++b)∧(Q7 d f b).1.2.2.2.2.2.1=d.2.2.2.2.2.1:=by
 rw [Y8 (by rw [QhY h];decide) (Decidable.not_not.2 hf)]
 exact on_go hf _ (Nat.le_refl _) h
theorem Qqx (h:Onn d):(Zh d).2=0∧Onn (Zh d).1∧(Zh d).1.2.2.2.2.2.1=Qhh d∧(Zh d).1.2.2.2.2.2.2=[]:=by
 obtain ⟨h1,h2,h3⟩:=Qor h
 have e:Zh d=(Xp (QM d).1 (QM d).1.2.2.2.2.2.2.length,0):=YY (by rw [QhY h];decide) (by rw [Qem h];simp)
 refine ⟨h1,h2,?_,?_⟩ <;> rw [e,Qem h]
 ·show Qc9 d.2.2.2.2.2.1 (d.2.2.2.2.2.2.take d.2.2.2.2.2.2.length)=_
  rw [List.take_length];rfl
 ·show d.2.2.2.2.2.2.drop d.2.2.2.2.2.2.length=[]
  rw [List.drop_length]
theorem Qko (h:d.2.2.2.2.2.2=[]):Qhh d=d.2.2.2.2.2.1:=by unfold Qhh;rw [h];rfl
end
structure Pg (d : QS) (A S : Dur) : Prop where
  ok : okD d
  made : d.1 = true
  all : ∀ s ∈ d.2.2.2.2.2.2, s.1 = 0 ∧ inF s.2.1
  dur : d.2.2.2.2.2.1 = S
  ends : Qhh d = A
section
variable {d : QS} {A S : Dur} {f n k t : Int} {b : Qr}
theorem Pg.right (h:Pg d A S) (ho:d.2.1=false):Jt d=0:=by unfold Jt;rw [if_neg (by rw [h.made];decide),if_neg (by rw [ho];decide)]
theorem Qqu (h:Onn d) (hn:d.2.2.2.2.2.2=[]):Pg d d.2.2.2.2.2.1 d.2.2.2.2.2.1:=⟨h.ok,h.made,(by rw [hn];intro s q;cases q),rfl,Qko hn⟩
theorem Qcp (d:QS):((QM d).2=true∧(QM d).1.2.1=d.2.1)∨((QM d).2=false∧(QM d).1.2.1=true):=by
 unfold QM
 split
 ·split
  ·exact .inr ⟨rfl,rfl⟩
  ·exact .inl ⟨rfl,rfl⟩
 ·exact .inl ⟨rfl,rfl⟩
theorem Pg.burn (h:Pg d A S):Pg (QM d).1 A S:=⟨Xx h.ok,by rw [Qar];exact h.made,by rw [(Qb2 d).2];exact h.all,by rw [Qkj];exact h.dur,by rw [Qkp];exact h.ends⟩
theorem pg_go (hf : inF f) : ∀ (k : Nat) {d : QS} {A : Dur} {b : Qr}, b.length ≤ k → Pg d A S → d.2.1 = false →
    ∃ p, p <+: b ∧ Pg (Jq k d f b).1 (Qf3 A f (Qbv A f ++ p)) S ∧ (((Jq k d f b).2 = 0 ∧ p = b ∧ (Jq k d f b).1.2.1 = false) ∨ ((Jq k d f b).2 = 6 ∧ (Jq k d f b).1.2.1 = true))
  | 0, d, A, b, hk, h, ho => by
    obtain rfl := List.eq_nil_of_length_eq_zero (Nat.le_zero.1 hk)
    exact ⟨[], List.prefix_refl _, by rw [List.append_nil, QeR]; exact h, .inl ⟨rfl, rfl, ho⟩⟩
  | k + 1, d, A, b, hk, h, ho => by
    unfold Jq
    split
    · rename_i h0
      obtain rfl := List.eq_nil_of_length_eq_zero h0
      exact ⟨[], List.prefix_refl _, by rw [List.append_nil, QeR]; exact h, .inl ⟨rfl, rfl, ho⟩⟩
    · rename_i h0
      rcases Qcp d with ⟨hb, hb2⟩ | ⟨hb, hb2⟩
      · rw [if_pos hb]
        have e1 : b.take 64 = b.take (min b.length 64) := by
          by_cases h0 : b.length ≤ 64
          · rw [Nat.min_eq_left h0, List.take_of_length_le h0, List.take_of_length_le (Nat.le_refl _)]
          · rw [Nat.min_eq_right (by omega)]
        have hs := QeP (m := min b.length 64) h.ok hf (by omega) rfl
        rw [← e1] at hs
        have hb3 := h.burn
        have hA : Pg (Qew (QM d).1 (0, f, b.take 64, 0)) (Qf3 A f (Qbv A f ++ b.take 64)) S := by
          refine ⟨hs, hb3.made, fun s hs' => ?_, hb3.dur, ?_⟩
          · rcases List.mem_append.1 hs' with q | q
            · exact hb3.all s q
            · simp only [List.mem_cons, List.not_mem_nil, or_false] at q; subst q; exact ⟨rfl, hf⟩
          · rw [Qnq, hb3.ends]; rfl
        obtain ⟨p, k1, k2, k3⟩ := pg_go hf k (b := b.drop 64) (by simp only [List.length_drop]; omega) hA (hb2.trans ho)
        refine ⟨b.take 64 ++ p, ?_, ?_, ?_⟩
        · obtain ⟨q, hq⟩ := k1
          exact ⟨q, by rw [List.append_assoc, hq, List.take_append_drop]⟩
        · rw [Qha hf hf, if_pos rfl, QlQ, List.append_assoc] at k2; exact k2
        · rcases k3 with ⟨q1, q2, q3⟩ | q
          · exact .inl ⟨q1, by rw [q2, List.take_append_drop], q3⟩
          · exact .inr q
      · rw [if_neg (by rw [hb]; decide)]
        exact ⟨[], List.nil_prefix, by rw [List.append_nil, QeR]; exact h.burn, .inr ⟨rfl, hb2⟩⟩
theorem Qom (h:Pg d A S) (ho:d.2.1=false) (hf:inF f):
  ∃ p,p <+:b∧Pg (Q7 d f b).1 (Qf3 A f (Qbv A f++p)) S∧(((Q7 d f b).2=0∧p=b∧(Q7 d f b).1.2.1=false)∨((Q7 d f b).2=6∧(Q7 d f b).1.2.1=true)):=by
 rw [Y8 (by rw [h.right ho];decide) (Decidable.not_not.2 hf)]
 exact pg_go hf _ (Nat.le_refl _) h ho
theorem Qqt (h:Pg d A S) (ho:d.2.1=false):((Zh d).2=0∧Pg (Zh d).1 A A∧(Zh d).1.2.1=false∧(Zh d).1.2.2.2.2.2.2=[])∨((Zh d).2=6∧Pg (Zh d).1 A S∧(Zh d).1.2.1=true):=by
 have hk:=QiP h.ok
 have hb:=h.burn
 rcases Qcp d with ⟨b1,b2⟩ | ⟨b1,b2⟩
 ·left
  rw [YY (by rw [h.right ho];decide) (by rw [b1];simp)] at hk ⊢
  have e:(Xp (QM d).1 (QM d).1.2.2.2.2.2.2.length).2.2.2.2.2.2=[]:=List.drop_length
  have e2:(Xp (QM d).1 (QM d).1.2.2.2.2.2.2.length).2.2.2.2.2.1=A:=by
   show Qc9 (QM d).1.2.2.2.2.2.1 ((QM d).1.2.2.2.2.2.2.take (QM d).1.2.2.2.2.2.2.length)=A
   rw [List.take_length];exact hb.ends
  exact ⟨rfl,⟨hk,hb.made,(by rw [e];intro s q;cases q),e2,by rw [Qko e];exact e2⟩,b2.trans ho,e⟩
 ·right
  rw [ZV (by rw [h.right ho];decide) (by rw [b1];decide)] at hk ⊢
  exact ⟨rfl,hb,b2⟩
end
def Tw (d : QS) (r : ZR) : Prop := okD d ∧ Qk r = d
theorem Tw.keep {d d':QS} {r:ZR} {x:Int} (h:Tw d r) (hk:okD d') (hn:nf d'):Tw d' (toR d' x):=⟨hk,Xs hk hn⟩
def Qo5 (s : Qex) : Prop := (∀ c ∈ s.2.2, c.2.2.length ≤ 40) ∧ s.2.2.length ≤ 40
instance (s : Qex) : Decidable (Qo5 s) := by unfold Qo5; infer_instance
def logOk (ep n : Int) (B : Qr) : Prop := (JJ B).2.2 = 0 ∧ (Qnu (JJ B).1).2 = 0 ∧ (Qi ep n [(Qnu (JJ B).1).1]).1 = 0
instance (ep n : Int) (B : Qr) : Decidable (logOk ep n B) := by unfold logOk; infer_instance
def onD (d : QS) : Prop := d.1 = true ∧ d.2.1 = false
instance (d : QS) : Decidable (onD d) := by unfold onD; infer_instance
def QbI (d : QS) (f n : Int) : QS × Int := if ((Zr d.2.2.2.2.2.1 d.2.2.2.2.2.2 f).length : Int) = n then (d, 0) else if ¬ (Qbx d f n).2 = 0 then Qbx d f n else Zh (Qbx d f n).1
section
variable {d : QS} {br : Bool} {l l' : List Qe} {c : Qe} {q : QS × Int} {to n most : Int}
theorem Qci (h:onD d):Jt d=0:=by unfold Jt;rw [if_neg (by rw [h.1];decide),if_neg (by rw [h.2];decide)]
theorem Qas {k:Nat} {x:Qe} {e:Int} (hx:l[k]? =some x) (h0:(k:Int)+1=l.length):Qat e l=x.1:=by
 unfold Qat;rw [List.getLast?_eq_getElem?,show l.length - 1=k by omega,hx]
end
def Qy (l : List Jv) : Int := match l.getLast? with
  | some r => r.2.1
  | none => 0
def Qdm : Int → List Jv → Prop
  | _, [] => True
  | e, r :: l => QP r = 0 ∧ r.1 = e + 1 ∧ Qdm r.2.1 l
def okU (l : List Jv) : Prop := Qdm 0 l
def XF (r : Jv) : Qr := Qjl (Qal r)
def QaQ (l : List Jv) : Qr := (l.map XF).flatten
section
variable {l : List Jv} {r x : Jv} {e : Int} {k : Nat}
theorem Xb (h:¬ ¬ (l.length:Int)=0):Qy l=0:=by rw [List.eq_nil_of_length_eq_zero (show l.length=0 by omega)];rfl
theorem QdK (hx:l[k]? =some x) (h:k+1=l.length):Qy l=x.2.1:=by
 unfold Qy;rw [List.getLast?_eq_getElem?,show l.length - 1=k by omega,hx]
theorem Qfv:Qy (l++[r])=r.2.1:=by unfold Qy;rw [List.getLast?_append];rfl
theorem Qiv : ∀ {l : List Jv} {e : Int}, Qdm e (l ++ [r]) ↔ Qdm e l ∧ QP r = 0 ∧ r.1 = (match l.getLast? with | some x => x.2.1 | none => e) + 1
  | [], e => by simp [Qdm]
  | x :: l, e => by
    have h : (match (x :: l).getLast? with | some x => x.2.1 | none => e) = (match l.getLast? with | some y => y.2.1 | none => x.2.1) := by
      cases l with
      | nil => rfl
      | cons y l => rw [List.getLast?_cons_cons]; cases h : (y :: l).getLast? <;> simp_all
    rw [h, List.cons_append, Qdm, Qiv, Qdm]; exact ⟨fun h => ⟨⟨h.1, h.2.1, h.2.2.1⟩, h.2.2.2⟩, fun h => ⟨h.1.1, h.1.2.1, h.1.2.2, h.2⟩⟩
theorem QaS:okU []:=trivial
theorem Qen (h:okU l) (hc:QP r=0) (he:r.1=Qy l+1):okU (l++[r]):=Qiv.2 ⟨h,hc,he⟩
theorem QaT : ∀ {l : List Jv} {e : Int}, Qdm e l → ∀ r ∈ l, QP r = 0
  | [], _, _, _, h => by cases h
  | x :: l, e, h, r, hr => by
    rcases List.mem_cons.1 hr with rfl | hr
    · exact h.1
    · exact QaT h.2.2 r hr
theorem Qiu : ∀ {l : List Jv} {e : Int}, Qdm e l → e + l.length ≤ (match l.getLast? with | some x => x.2.1 | none => e)
  | [], e, _ => by simp
  | x :: l, e, h => by
    have h0 := JP h.1
    have h1 := Qiu h.2.2
    have h2 : (match (x :: l).getLast? with | some x => x.2.1 | none => e) = (match l.getLast? with | some y => y.2.1 | none => x.2.1) := by
      cases l with
      | nil => rfl
      | cons y l => rw [List.getLast?_cons_cons]; cases h : (y :: l).getLast? <;> simp_all
    rw [h2]; have h3 := h.2.1; rw [List.length_cons]; omega
theorem Za (h:okU l):(l.length:Int)≤Qy l∧0≤Qy l∧Qy l≤1048576:=by
 have h1:=Qiu h
 have h2:Qy l≤1048576:=by
  unfold Qy
  cases he:l.getLast? with
  | none=>decide
  | some x=>exact (JP (QaT h x (List.mem_of_getLast? he))).2.2.2.1
 have h3:(l.length:Int)≤Qy l:=by have:=h1;rw [Int.zero_add] at this;exact this
 exact ⟨h3,by omega,h2⟩
theorem QbR (h:okU l) (hx:l[k]? =some x):x.2.2.length≤1024:=(JP (QaT h x (List.mem_of_getElem? hx))).1
theorem Qg0 (h:okU l):∀ c∈l,c.2.2.length≤1024:=fun c hc=>(JP (QaT h c hc)).1
end
def QaP (e : Int) (B : Qr) : Prop := (JJ B).2.2 = 0 ∧ (Qm (JJ B).1).2 = 0 ∧ (Qm (JJ B).1).1.1 = e + 1
instance (e : Int) (B : Qr) : Decidable (QaP e B) := by unfold QaP; infer_instance
def QiZ : Nat → Qr → List Jv → Int → List Jv × Int
  | 0, _, l, a => (l, a)
  | k + 1, B, l, a => if QaP (Qy l) (B.drop a.toNat) then QiZ k B (l ++ [(Qm (JJ (B.drop a.toNat)).1).1]) (a + (JJ (B.drop a.toNat)).2.1) else (l, a)
def Qea (B : Qr) : List Jv × Int := QiZ B.length B [] 0
def QhR (B : Qr) (l : List Jv) (a : Int) : Prop := 0 ≤ a ∧ a ≤ B.length ∧ okU l ∧ ∃ n : Nat, (B.length : Int) - a ≤ n ∧ Qea B = QiZ n B l a
section
variable {B : Qr} {l : List Jv} {a e : Int}
theorem Ql5 (B:Qr):QhR B [] 0:=⟨Int.le_refl _,Int.natCast_nonneg _,QaS,B.length,by omega,rfl⟩
theorem QcZ (h:QaP e B):1≤(JJ B).2.1∧(JJ B).2.1≤B.length:=by
 have:=XS B
 exact ⟨this.2.2.2.2.1 h.1,this.2.1⟩
theorem Zu (h:QhR B l a) (hn:¬ QaP (Qy l) (B.drop a.toNat)):Qea B=(l,a):=by
 obtain ⟨_,_,_,n,_,h2⟩:=h
 rw [h2];cases n with
 | zero=>rfl
 | succ n=>exact if_neg hn
theorem Qf8 (h:QhR B l a) (ho:QaP (Qy l) (B.drop a.toNat)):QhR B (l++[(Qm (JJ (B.drop a.toNat)).1).1]) (a+(JJ (B.drop a.toNat)).2.1):=by
 obtain ⟨h0,h1,h3,n,hn,h2⟩:=h
 have hp:=QcZ ho
 rw [List.length_drop] at hp
 refine ⟨by omega,by omega,Qen h3 (QeW ho.2.1) ho.2.2,n - 1,by omega,?_⟩
 rw [h2];cases n with
 | zero=>omega
 | succ n=>exact if_pos ho
theorem Qek (he:e=Qy l) (h1:¬ ¬ (JJ B).2.2=0) (h2:¬ ¬ (Qm (JJ B).1).2=0) (h3:¬ ¬ (Qm (JJ B).1).1.1=e+1):QaP (Qy l) B:=⟨Decidable.not_not.1 h1,Decidable.not_not.1 h2,by rw [← he];exact Decidable.not_not.1 h3⟩
theorem QdA (h:¬ (JJ B).2.2=0):¬ QaP (Qy l) B:=fun q=>h q.1
theorem Qdz (h:¬ (Qm (JJ B).1).2=0):¬ QaP (Qy l) B:=fun q=>h q.2.1
theorem Qdy (he:e=Qy l) (h:¬ (Qm (JJ B).1).1.1=e+1):¬ QaP (Qy l) B:=fun q=>h (by rw [he];exact q.2.2)
theorem Qf7 : ∀ {k : Nat} {l : List Jv} {a : Int}, okU l → 0 ≤ a → a ≤ B.length → okU (QiZ k B l a).1 ∧ 0 ≤ (QiZ k B l a).2 ∧ (QiZ k B l a).2 ≤ B.length
  | 0, l, a, h, h0, h1 => ⟨h, h0, h1⟩
  | k + 1, l, a, h, h0, h1 => by
    unfold QiZ; split
    · rename_i ho
      have hp := QcZ ho
      rw [List.length_drop] at hp
      exact Qf7 (Qen h (QeW ho.2.1) ho.2.2) (by omega) (by omega)
    · exact ⟨h, h0, h1⟩
theorem Qqf (B:Qr):okU (Qea B).1∧0≤(Qea B).2∧(Qea B).2≤B.length:=Qf7 QaS (Int.le_refl _) (by omega)
theorem QeV (B:Qr):0≤(Qea B).2∧(Qea B).2≤B.length∧(Qea B).1.length≤1048576:=by
 have h:=Qqf B;have h2:=Za h.1
 exact ⟨h.2.1,h.2.2,by omega⟩
end
def QpX (d : QS) : QS × Int := if ¬ Jt d = 0 then (d, Jt d) else QbI d 2 (Qea (XX d 2).1).2
abbrev USt := QS × Bool × List Jv
def QJ (d : QS) (br : Bool) (l : List Jv) (x : Jv) : USt × Int :=
  if br = true ∨ ¬ onD d then ((d, true, l), 6) else if ¬ QP x = 0 then ((d, br, l), QP x) else if ¬ x.1 = Qy l + 1 then ((d, br, l), 15)
  else if ¬ (Q7 d 2 (XF x)).2 = 0 then (((Q7 d 2 (XF x)).1, true, l), (Q7 d 2 (XF x)).2)
  else if ¬ (Zh (Q7 d 2 (XF x)).1).2 = 0 then (((Zh (Q7 d 2 (XF x)).1).1, true, l), (Zh (Q7 d 2 (XF x)).1).2)
  else (((Zh (Q7 d 2 (XF x)).1).1, br, l ++ [x]), 0)
section
variable {d : QS} {br : Bool} {l : List Jv} {x : Jv}
theorem Qdh (h:br=true∨¬ onD d):QJ d br l x=((d,true,l),6):=if_pos h
theorem Qil (h:¬ (br=true∨¬ onD d)) (h2:¬ (Qq x).2=0):QJ d br l x=((d,br,l),(Qq x).2):=by
 have e:(Qq x).2=QP x:=by unfold Qq;split <;> (rename_i q;first | exact q.symm | rfl)
 rw [e] at h2 ⊢;unfold QJ;rw [if_neg h,if_pos h2]
theorem QaK (h2:¬ ¬ (Qq x).2=0):QP x=0∧Qq x=(Qal x,0):=by
 have e:(Qq x).2=QP x:=by unfold Qq;split <;> (rename_i q;first | exact q.symm | rfl)
 rw [e] at h2
 exact ⟨Decidable.not_not.1 h2,Yk h2⟩
theorem Qft (h:¬ (br=true∨¬ onD d)) (h2:¬ ¬ (Qq x).2=0) (h3:¬ x.1=Qy l+1):QJ d br l x=((d,br,l),15):=by
 unfold QJ;rw [if_neg h,if_neg (Decidable.not_not.2 (QaK h2).1),if_pos h3]
theorem QbW (h2:¬ ¬ (Qq x).2=0):Jg [] (Qq x).1=(XF x,0):=by
 have h:=QaK h2
 have:=QeY h.1
 rw [h.2,Z1 (by dsimp only;omega)];rfl
theorem Qgc (h:QP x=0):(XF x).length≤61510∧1≤(XF x).length:=by
 have:=QeY h
 have h2:=Qkg (r:=Qal x) (by omega)
 exact ⟨by unfold XF;omega,QoE _⟩
theorem Qki (h2:¬ ¬ (Qq x).2=0):(Jg [] (Qq x).1).1.length≤61510:=by rw [QbW h2];exact (Qgc (QaK h2).1).1
theorem Qfs (h:¬ (br=true∨¬ onD d)) (h2:¬ ¬ (Qq x).2=0) (h3:¬ ¬ x.1=Qy l+1) (h4:¬ (Q7 d 2 (Jg [] (Qq x).1).1).2=0):
  QJ d br l x=(((Q7 d 2 (Jg [] (Qq x).1).1).1,true,l),(Q7 d 2 (Jg [] (Qq x).1).1).2):=by
 rw [QbW h2] at h4 ⊢;unfold QJ;rw [if_neg h,if_neg (Decidable.not_not.2 (QaK h2).1),if_neg h3,if_pos h4]
theorem Qgq (h:¬ (br=true∨¬ onD d)) (h2:¬ ¬ (Qq x).2=0) (h3:¬ ¬ x.1=Qy l+1) (h4:(Q7 d 2 (Jg [] (Qq x).1).1).2=0) (h5:¬ (Zh (Q7 d 2 (Jg [] (Qq x).1).1).1).2=0):
  QJ d br l x=(((Zh (Q7 d 2 (Jg [] (Qq x).1).1).1).1,true,l),(Zh (Q7 d 2 (Jg [] (Qq x).1).1).1).2):=by
 rw [QbW h2] at h4 h5 ⊢;unfold QJ;rw [if_neg h,if_neg (Decidable.not_not.2 (QaK h2).1),if_neg h3,if_neg (Decidable.not_not.2 h4),if_pos h5]
theorem Qgr (h:¬ (br=true∨¬ onD d)) (h2:¬ ¬ (Qq x).2=0) (h3:¬ ¬ x.1=Qy l+1) (h4:(Q7 d 2 (Jg [] (Qq x).1).1).2=0) (h5:¬ ¬ (Zh (Q7 d 2 (Jg [] (Qq x).1).1).1).2=0):
  QJ d br l x=(((Zh (Q7 d 2 (Jg [] (Qq x).1).1).1).1,br,l++[x]),0):=by
 rw [QbW h2] at h4 h5 ⊢;unfold QJ;rw [if_neg h,if_neg (Decidable.not_not.2 (QaK h2).1),if_neg h3,if_neg (Decidable.not_not.2 h4),if_neg h5]
theorem Qnc (h:okU l):okU (QJ d br l x).1.2.2:=by
 unfold QJ;split
 ·exact h
 ·split
  ·exact h
  ·split
   ·exact h
   ·split
    ·exact h
    ·split
     ·exact h
     ·rename_i h2 h3 _ _;exact Qen h (Decidable.not_not.1 h2) (Decidable.not_not.1 h3)
theorem QoC (h:okD d):okD (QJ d br l x).1.1:=by
 unfold QJ;split
 ·exact h
 ·split
  ·exact h
  ·split
   ·exact h
   ·split
    ·exact Qay h
    ·split <;> exact QiP (Qay h)
theorem Qrj (h:okD d):wD (QJ d br l x).1.1≤wD d+184600:=by
 unfold QJ;split
 ·dsimp only;omega
 ·split
  ·dsimp only;omega
  ·rename_i h0;split
   ·dsimp only;omega
   ·have h1:=QiD (f:=2) (b:=XF x) h
    have h2:=(Qgc (Decidable.not_not.1 h0)).1
    have h3:=sync_w (Qay (f:=2) (b:=XF x) h)
    split
    ·dsimp only;omega
    ·split <;> (dsimp only;omega)
end
theorem Qri:JE Tryz.prog 100=true:=by kernel_rfl
theorem Qrh:JE Tryz.prog 101=true:=by kernel_rfl
theorem XH:tsl Tryz.prog 45=some (92,3,40):=by kernel_rfl
theorem YV {P:Prop} (h:P:=by first | exact congrArg Prod.fst (Zu hl (QdA (by assumption))) | exact (congrArg Prod.fst (Zu hl (QdA (by assumption)))).symm | (rw [Zu hl (QdA (by assumption))];done) | exact congrArg Prod.fst (Zu hl (Qdz (by assumption))) | exact (congrArg Prod.fst (Zu hl (Qdz (by assumption)))).symm | (rw [Zu hl (Qdz (by assumption))];done) | exact congrArg Prod.fst (Zu hl (Qdy hen (by assumption))) | exact (congrArg Prod.fst (Zu hl (Qdy hen (by assumption)))).symm | (rw [Zu hl (Qdy hen (by assumption))];done)):P:=h
set_option maxHeartbeats 4000000 in
theorem QnT (W:World) {v0:Value} {d0:List UInt8} (h0:Rd (.sl .byte) (wm W) [v0] d0) (e0:d0.length≤140737488355000):Qc Tryz.prog 52 [v0] W (mnil) (fun v m'=>∃ (s0:Value),v= .tuple #[s0,.int .i64 ((Qea d0).2)]∧Ow (.sl YB) m' [s0] ((Qea d0).1)):=by
 obtain ⟨A0,c0,rfl,l0,k0⟩:=h0.slc
 refine Qc.ofA (n:=46) Tryz.func52 rfl rfl rfl ?_
 refine VC.rs (VO.as (VO.as (VO.k3 0 2 3 (VC.rs (VO.as (VO.k4 0 2 3 4 (VC.rs (VO.as (VO.as (VO.p1 0 (VO.k6 0 2 3 4 5 6 ?_)))))))))))
 refine VC.seq (VC.block ?_)
 refine VC.inv ((101,mnil)::_) (fun _ h=>h.nilc 101) ?_
 refine VC.loop (G:=(List Jv) × (Option Addr) × Nat × Mem × Int × Int) (fun g=>[(4,.slice (g.2.1) ((g.1).length) ((g.2.2.1))),(5,.int .i64 ((g.2.2.2.2.2))),(6,.int .i64 ((g.2.2.2.2.1))),(0,.slice A0 (d0.length) (c0)),(2,.slice none (0) (0)),(3,.int .i64 (0))]) (fun g=>[(101,(g.2.2.2.1)),(0,wm W)]) (fun g=>(QhR d0 (g.1) (g.2.2.2.2.1))∧((g.2.2.2.2.2)=Qy (g.1))∧(Ow (.sl YB) (g.2.2.2.1) [.slice (g.2.1) (g.1).length (g.2.2.1)] (g.1))) (fun g=>((d0.length:Int) - (g.2.2.2.2.1)).toNat) ([],none,0,mnil,0,0) (⟨by exact Ql5 d0,by rfl,(Ow.nil YB mnil)⟩) ⟨esn,fun _ h=>h.sub [101,0]⟩ ?_
 rintro ⟨l,l_A,l_c,l_m,at_,en⟩ ⟨hl,hen,h_l⟩
 replace hl:QhR d0 l at_:=hl
 replace hen:en=Qy l:=hen
 replace h_l:Ow (.sl YB) l_m [.slice l_A l.length l_c] l:=h_l
 show VC _ _ _ _ _ [(4,.slice l_A (l.length) (l_c)),(5,.int .i64 (en)),(6,.int .i64 (at_)),(0,.slice A0 (d0.length) (c0)),(2,.slice none (0) (0)),(3,.int .i64 (0))] [(101,l_m),(0,wm W)]
 have l_l:l.length≤l_c:=by obtain ⟨_,_,he,hl,_⟩:=h_l.slice;simp only [Value.slice.injEq] at he;omega
 have k_l:l_c≤9223372036854775807:=by obtain ⟨_,_,he,_,hl⟩:=h_l.slice;simp only [Value.slice.injEq,maxLen] at he hl;omega
 have hat0:=hl.1;have hat1:=hl.2.1
 have hrb:=XS (d0.drop at_.toNat)
 have hll:=Za hl.2.2.1
 refine VC.block (VC.rs (VO.mv (VO.mv ?_)))
 obtain ⟨A2,hA2,hs2⟩:=h0.drop 1 ((at_).toNat) rfl bd
 refine VO.z (.slLI ((at_).toNat) A2 rfl rfl Jz bd hA2 bd) ?_
 refine VO.callN 103 rfl Qri rfl (fun W hW=>QoD W (Rd.mono hs2 (hW.t 0))) (fun v3 m3 hv3=>?_)
 obtain ⟨s3_0,rfl,f3_0⟩:=hv3
 have hfa4:=XS (d0.drop ((at_).toNat))
 obtain ⟨A3_0,c3_0,eq3_0,l3_0,k3_0⟩:=f3_0.slc
 subst eq3_0
 refine VO.mv (VO.z (.ext rfl rfl) (VO.z (.ext rfl rfl) (VO.z (.ext rfl rfl) (VO.as (VO.as (VO.as (VO.k9 0 2 3 4 5 6 7 8 9 (VC.seq (VC.rs (VO.mv (VO.z (.neq rfl rfl) ?_)))))))))))
 refine VO.k10 0 2 3 4 5 6 7 8 9 20 ?_
 refine VC.cond rfl (fun hc5=>?_) (fun hc5=>?_)
 refine VC.exit (JU ?_)
 refine QhV rfl ?_
 refine JU (JT (Qg (VC.rs (VO.mv (VO.mv (VO.as (VO.as (VO.p3 103 101 0 (VO.k10 0 2 3 4 5 6 7 8 9 20 (VC.ret ?_))))))))))
 refine QcA 2 3 [101] fun hS_=>?_
 dsimp only [Qu]
 exact ⟨Value.slice l_A (l.length) (l_c),(by first | rfl | exact YV),(Ow.cg (Ow.up h_l (hS_.1 _ (.head _))) (by first | rfl | exact YV))⟩
 refine VC.skip (Qg (VC.rs (VO.mv ?_)))
 refine VO.callN 106 rfl Qrh rfl (fun W hW=>QhQ W (Ow.rd f3_0 (hW.t 103))) (fun v6 m6 hv6=>?_)
 obtain ⟨s6_0,rfl,f6_0⟩:=hv6
 have hfa7:=QcD ((JJ (d0.drop ((at_).toNat))).1)
 obtain ⟨q6_0_A2,q6_0_c2,q6_0_n2,rfl,q6_0_S,q6_0_0,q6_0_1,q6_0_2⟩:=QbQ (x0:=((Qm ((JJ (d0.drop ((at_).toNat))).1)).1).1) (x1:=((Qm ((JJ (d0.drop ((at_).toNat))).1)).1).2.1) (x2:=((Qm ((JJ (d0.drop ((at_).toNat))).1)).1).2.2) f6_0
 simp only [inK] at q6_0_0 q6_0_1
 refine VO.inv _ (fun _ h=>h.parts (i:=106) rfl q6_0_S [108]) ?_
 refine VO.mv (VO.z (.ext rfl rfl) (VO.z (.ext rfl rfl) ?_))
 refine VO.alloc 110 rfl QbA (fun g9=>?_)
 refine VO.store (k:=3) (c':=[.int .i64 (((Qm ((JJ (d0.drop ((at_).toNat))).1)).1).1),.int .i64 (((Qm ((JJ (d0.drop ((at_).toNat))).1)).1).2.1),.slice q6_0_A2 ((((Qm ((JJ (d0.drop ((at_).toNat))).1)).1).2.2).length) (q6_0_c2)]) 110 rfl rfl (.inl XI) rfl rfl rfl rfl rfl ?_
 refine VO.as (VO.p5 110 108 103 101 0 (VO.k11 0 2 3 4 5 6 7 8 9 10 20 (VC.seq (VC.rs (VO.mv (VO.z (.neq rfl rfl) (VO.mv ?_)))))))
 refine VO.dec (t:=28) rfl (fun hc11=>?_) (fun hc11=>?_)
 refine VO.gN (VO.gN (VO.gN (VO.gN (VO.gN (VO.z (.pT rfl rfl) (VO.k12 0 2 3 4 5 6 7 8 9 10 20 34 (VC.condT rfl (VC.exit (JU ?_)))))))))
 refine QhV rfl ?_
 refine JU (JT (Qg (VC.rs (VO.mv (VO.mv (VO.as (VO.as (VO.k12 0 2 3 4 5 6 7 8 9 10 20 34 (VC.ret ?_)))))))))
 refine QcA 2 3 [101] fun hS_=>?_
 dsimp only [Qu]
 exact ⟨Value.slice l_A (l.length) (l_c),(by first | rfl | exact YV),(Ow.cg (Ow.up h_l (hS_.1 _ (.head _))) (by first | rfl | exact YV))⟩
 refine VO.w (.fa rfl J2 rfl) (VO.w (.ld1 110 rfl tk3 rfl (Qa rfl rfl)) (VO.w (.mv rfl) ?_))
 refine VO.w (.add rfl rfl rfl ⟨bd,bd⟩) ?_
 refine VO.w (.neq rfl rfl) (VO.z (.pF rfl rfl) (VO.k12 0 2 3 4 5 6 7 8 9 10 20 34 ?_))
 refine VC.cond rfl (fun hc12=>?_) (fun hc12=>?_)
 refine VC.exit (JU ?_)
 refine QhV rfl ?_
 refine JU (JT (Qg (VC.rs (VO.mv (VO.mv (VO.as (VO.as (VO.k12 0 2 3 4 5 6 7 8 9 10 20 34 (VC.ret ?_)))))))))
 refine QcA 2 3 [101] fun hS_=>?_
 dsimp only [Qu]
 exact ⟨Value.slice l_A (l.length) (l_c),(by first | rfl | exact YV),(Ow.cg (Ow.up h_l (hS_.1 _ (.head _))) (by first | rfl | exact YV))⟩
 refine VC.skip (Qg ?_)
 refine VC.regD _ 11 [(0,true),(1,true),(4,true),(5,true),(6,true),(7,true),(8,true),(2,false),(3,false),(9,true),(10,true)] follows (by kernel_rfl) (fun _ h=>h.sub [110,103,0]) ?_
 refine VD.z rfl (.mv rfl) (VD.z rfl (.ldA 110 rfl XI rfl (Qa rfl rfl)) (VD.z rfl (.fa rfl J2 rfl) (VD.z rfl (.ld1 110 rfl tk3 rfl (Qa rfl rfl)) (VD.z rfl (.mv rfl) (VD.z rfl (.mv rfl) ?_)))))
 refine VD.z rfl (.add rfl rfl rfl ⟨bd,bd⟩) ?_
 refine VD.bsl (cs:=[.int .i64 (((Qm ((JJ (d0.drop ((at_).toNat))).1)).1).1),.int .i64 (((Qm ((JJ (d0.drop ((at_).toNat))).1)).1).2.1),.slice q6_0_A2 ((((Qm ((JJ (d0.drop ((at_).toNat))).1)).1).2.2).length) (q6_0_c2)]) 114 rfl rfl rfl XH QbA rfl rfl (fun _ h=>h.sub [110,103,0]) (fun g13=>?_)
 refine VD.appO (e:=YB) 101 108 114 rfl rfl rfl rfl XH QbA rfl rfl rfl rfl h_l (show Ow YB _ _ ((Qm ((JJ (d0.drop ((at_).toNat))).1)).1) from (Yb (((Qm ((JJ (d0.drop ((at_).toNat))).1)).1).1) (((Qm ((JJ (d0.drop ((at_).toNat))).1)).1).2.1) (((Qm ((JJ (d0.drop ((at_).toNat))).1)).1).2.2) (Qt.one (Qb _)) bdk bdk q6_0_2)) Tryz.underlying45 (Qa rfl rfl) bdm bd (by decide) (fun _ _ h=>h.sub [110,103,0]) (fun v15 m15 ho15=>?_)
 obtain ⟨A15,c15,rfl,l15,k15⟩:=ho15.slc
 refine VD.z rfl (.as rfl) (VD.z rfl (.as rfl) ?_)
 refine VD.nil rfl ?_ rfl
 refine VO.as (VO.k12 0 2 3 4 5 6 7 8 9 10 20 34 (Jh ?_))
 exact Qg ⟨⟨l++[((Qm ((JJ (d0.drop ((at_).toNat))).1)).1)],A15,c15,m15,at_+((JJ (d0.drop ((at_).toNat))).2.1),((Qm ((JJ (d0.drop ((at_).toNat))).1)).1).2.1⟩,⟨by exact Qf8 hl (Qek hen Qf Qf Qf),by exact Qfv.symm,ho15⟩,by (have h_:=QcZ (Qek hen Qf Qf Qf);simp only [List.length_drop] at*;omega),⟨esn,fun _ h=>Inv.sub h [101,0]⟩⟩
theorem QmR:JE Tryz.prog 79=true:=by kernel_rfl
theorem ZU:tst Tryz.prog 101=some [(0,1),(1,1),(2,1),(3,1),(4,1),(5,4),(9,1)]:=by kernel_rfl
theorem QeI:tst Tryz.prog 148=some [(0,1),(1,1),(2,1),(3,1)]:=by kernel_rfl
theorem tz101:tz Tryz.prog 101=some [.bool false,.bool false,.bool false,.int .i64 0,.int .i64 0,.slice none 0 0,.slice none 0 0,.slice none 0 0,.slice none 0 0,.slice none 0 0]:=by kernel_rfl
theorem Qnp (W:World):Qc Tryz.prog 18 [] W (mnil) (fun v m'=>∃ (s0:Nat),v=Vp s0∧Ow (.ptr QW) m' [Vp s0] (s0,Qe9)):=by
 refine Qc.ofA (n:=3) Tryz.func18 rfl rfl rfl ?_
 refine VC.rs (VO.as (VO.k1 0 (VC.rs ?_)))
 refine VO.z (.bst (cs:=[.bool true,.bool false,.bool false,.int .i64 (0),.int .i64 (0),.slice none (0) (0),.slice none (0) (0),.slice none (0) (0),.slice none (0) (0),.slice none (0) (0)]) rfl ZU tz101 rfl) ?_
 refine VO.box (cs:=[.bool true,.bool false,.bool false,.int .i64 (0),.int .i64 (0),.slice none (0) (0),.slice none (0) (0),.slice none (0) (0),.slice none (0) (0),.slice none (0) (0)]) 102 rfl rfl rfl (fun g1=>?_)
 refine VO.as (VO.k1 0 (VC.ret ?_))
 refine XC 0 [102] fun hS_=>?_
 dsimp only [Qu]
 have he0:(Qe9:Qx)=(true,false,false,0,0,([],[],[],[]),[]):=by first | rfl | (simp [*];done)
 refine ⟨g1,?_,?_⟩
 rotate_left
 ·rw [he0];exact (ZY _ _ _ _ _ _ _ _ _ _ (Qt.nilAt 5 (Qt.nilAt 4 (Qt.nilAt 3 (Qt.nilAt 2 (Qt.nilAt 1 hS_))))) bdk bdk (Ow.nil _ _) (Ow.nil _ _) (Ow.nil _ _) (Ow.nil _ _) (Ow.nil _ _))
 all_goals (first | rfl | (simp [*];done))
theorem QpH (W:World) (d0:Int) (h0:inK .i64 d0):Qc Tryz.prog 98 [.int .i64 d0] W (mnil) (fun v m'=>v= .bool (decide (inF d0))):=by
 have h0':=h0;simp only [inK] at h0'
 refine Qc.ofA (n:=9) Tryz.func98 rfl rfl rfl ?_
 refine VC.rs (VO.as (VO.k2 0 2 (VC.rs (VO.mv (VO.z (.geq rfl rfl) (VO.mv ?_))))))
 refine VO.dec (t:=5) rfl (fun hc1=>?_) (fun hc1=>?_)
 refine VO.w (.mv rfl) (VO.w (.lss rfl rfl) (VO.z (.pT rfl rfl) (VO.as (VO.k2 0 2 (VC.ret ?_)))))
 exact Yu 2 rfl (by first | rfl | (simp [inF, *]))
 refine VO.gN (VO.gN (VO.z (.pF rfl rfl) (VO.as (VO.k2 0 2 (VC.ret ?_)))))
 exact Yu 2 rfl (by first | rfl | (simp [inF, *]))
theorem Qhg (W:World) {m0:Mem} (hm:mle (m0) (wm W)) {g0:Nat} {d0:Qx} (h0:Ow (.ptr QW) m0 [Vp g0] (g0,d0)):Qc Tryz.prog 79 [Vp g0] W (m0) (fun v m'=>v= .bool (decide (d0.1=false))∧Ow (.ptr QW) m' [Vp g0] (g0,d0)):=by
 refine Qc.ofB (n:=12) hm Tryz.func79 rfl rfl rfl ?_
 refine VC.rs (VO.as (VO.k2 0 2 (VC.rs (VO.mv ?_))))
 refine VO.z (.pnil rfl rfl Tryz.underlying44 rfl) ?_
 refine VO.mv (VO.w (.mv rfl) (VO.w (.nilp rfl) (VO.w (.fa rfl ZU rfl) ?_)))
 obtain ⟨q1_E,q1_A5,q1_c5,q1_A6,q1_c6,q1_A7,q1_c7,q1_A8,q1_c8,q1_A9,q1_c9,q1_n5,q1_n6,q1_n7,q1_n8,q1_n9,_,q1_S,q1_3,q1_4,q1_5,q1_6,q1_7,q1_8,q1_9⟩:=Q1 h0
 simp only [inK] at q1_3 q1_4
 refine VO.inv _ (fun _ h=>h.parts (i:=1) rfl q1_S [107,102,103,104,105,106]) ?_
 refine VO.w (.ld1 107 rfl tk4 rfl (Qa rfl rfl)) (VO.w (.not rfl) (VO.z (.pF rfl rfl) (VO.as ?_)))
 refine VO.clsP 108 [107,102,103,104,105,106] rfl (fun hg8=>(J5 d0 hg8 bdk bdk q1_5 q1_6 q1_7 q1_8 q1_9)) (fun mc8 ho8=>?_)
 refine VO.k2 0 2 (VC.ret ?_)
 exact ZD 2 108 rfl ho8 (by first | rfl | (simp [*];done)) (by first | rfl | (cases d0.1 <;> rfl))
theorem Qdk (W:World) {m0:Mem} (hm:mle (m0) (wm W)) {g0:Nat} {d0:Qx} (h0:Ow (.ptr QW) m0 [Vp g0] (g0,d0)):Qc Tryz.prog 63 [Vp g0] W (m0) (fun v m'=>v= .int .i64 (Jt d0)∧Ow (.ptr QW) m' [Vp g0] (g0,d0)):=by
 refine Qc.ofB (n:=11) hm Tryz.func63 rfl rfl rfl ?_
 refine VC.rs (VO.as (VO.k2 0 2 (VC.seq (VC.block (VC.rs (VO.mv ?_))))))
 refine VO.call 1 rfl QmR rfl rfl (fun W hW=>Qhg W (hW.t 1) h0) (fun v1 m1 hv1=>?_)
 obtain ⟨rfl,w1_0⟩:=hv1
 refine VO.as (VO.k3 0 2 3 ?_)
 refine VC.cond rfl (fun hc2=>?_) (fun hc2=>?_)
 ·refine VC.rs (VO.as (VO.p2 1 0 (VO.k3 0 2 3 (VC.ret (Jf (QK ?_))))))
  exact ZD 2 1 rfl w1_0 (by first | rfl | (simp [*];done)) (by first | rfl | (simp [Jt, *]))
 refine VC.rs (VO.mv (VO.z (.nilp rfl) (VO.z (.fa rfl ZU rfl) ?_)))
 obtain ⟨q3_E,q3_A5,q3_c5,q3_A6,q3_c6,q3_A7,q3_c7,q3_A8,q3_c8,q3_A9,q3_c9,q3_n5,q3_n6,q3_n7,q3_n8,q3_n9,_,q3_S,q3_3,q3_4,q3_5,q3_6,q3_7,q3_8,q3_9⟩:=Q1 w1_0
 simp only [inK] at q3_3 q3_4
 refine VO.inv _ (fun _ h=>h.parts (i:=1) rfl q3_S [109,104,105,106,107,108]) ?_
 refine VO.z (.ld1 109 rfl tk4 rfl (Qa rfl rfl)) (VO.as ?_)
 refine VO.clsP 110 [109,104,105,106,107,108] rfl (fun hg10=>(J5 d0 hg10 bdk bdk q3_5 q3_6 q3_7 q3_8 q3_9)) (fun mc10 ho10=>?_)
 refine VO.p2 110 0 (VO.k4 0 2 3 6 ?_)
 refine VC.condB rfl (fun hc11=>?_) (fun hc11=>?_)
 ·refine VC.rs (VO.as (VO.k4 0 2 3 6 (VC.ret (Jf (QK ?_)))))
  exact ZD 2 110 rfl ho10 (by first | rfl | (simp [*];done)) (by first | rfl | (simp [Jt, *]))
 ·refine VC.skip (Jh (Qg (VC.rs (VO.as (VO.k4 0 2 3 6 (VC.ret ?_))))))
  exact ZD 2 110 rfl ho10 (by first | rfl | (simp [*];done)) (by first | rfl | (simp [Jt, *]))
theorem Qkl (W:World) {m0:Mem} (hm:mle (m0) (wm W)) {g0:Nat} {d0:Qx} (h0:Ow (.ptr QW) m0 [Vp g0] (g0,d0)) (e0:okD d0) (e1:wD d0≤2*1000000000000):Qc Tryz.prog 102 [Vp g0] W (m0) (fun v m'=>v= .bool (decide ((QM d0).2=true))∧Ow (.ptr QW) m' [Vp g0] (g0,(QM d0).1)):=by
 obtain ⟨hg,hfu,hst⟩:=e0;simp only [wD] at e1
 refine Qc.ofB (n:=29) hm Tryz.func102 rfl rfl rfl ?_
 refine VC.rs (VO.as (VO.k2 0 2 (VC.seq (VC.rs (VO.mv (VO.z (.nilp rfl) (VO.z (.fa rfl ZU rfl) ?_)))))))
 obtain ⟨q1_E,q1_A5,q1_c5,q1_A6,q1_c6,q1_A7,q1_c7,q1_A8,q1_c8,q1_A9,q1_c9,q1_n5,q1_n6,q1_n7,q1_n8,q1_n9,_,q1_S,q1_3,q1_4,q1_5,q1_6,q1_7,q1_8,q1_9⟩:=Q1 h0
 simp only [inK] at q1_3 q1_4
 refine VO.inv _ (fun _ h=>h.parts (i:=1) rfl q1_S [107,102,103,104,105,106]) ?_
 refine VO.z (.ld1 107 rfl tk4 rfl (Qa rfl rfl)) ?_
 refine VO.clsP 108 [107,102,103,104,105,106] rfl (fun hg8=>(J5 d0 hg8 bdk bdk q1_5 q1_6 q1_7 q1_8 q1_9)) (fun mc8 ho8=>?_)
 refine VO.k3 0 2 6 ?_
 refine VC.condB rfl (fun hc9=>?_) (fun hc9=>?_)
 refine VC.seq (VC.rs (VO.mv (VO.z (.nilp rfl) (VO.z (.fa rfl ZU rfl) ?_))))
 obtain ⟨q10_E,q10_A5,q10_c5,q10_A6,q10_c6,q10_A7,q10_c7,q10_A8,q10_c8,q10_A9,q10_c9,q10_n5,q10_n6,q10_n7,q10_n8,q10_n9,_,q10_S,q10_3,q10_4,q10_5,q10_6,q10_7,q10_8,q10_9⟩:=Q1 ho8
 simp only [inK] at q10_3 q10_4
 refine VO.inv _ (fun _ h=>h.parts (i:=108) rfl q10_S [116,111,112,113,114,115]) ?_
 refine VO.z (.ld1 116 rfl tk3 rfl (Qa rfl rfl)) (VO.z (.eql rfl rfl) ?_)
 refine VO.clsP 117 [116,111,112,113,114,115] rfl (fun hg17=>(J5 d0 hg17 bdk bdk q10_5 q10_6 q10_7 q10_8 q10_9)) (fun mc17 ho17=>?_)
 refine VO.p2 117 0 (VO.k4 0 2 6 11 ?_)
 refine VC.cond rfl (fun hc18=>?_) (fun hc18=>?_)
 ·refine VC.rs (VO.mv (VO.z (.nilp rfl) (VO.z (.fa rfl ZU rfl) ?_)))
  obtain ⟨q19_E,q19_A5,q19_c5,q19_A6,q19_c6,q19_A7,q19_c7,q19_A8,q19_c8,q19_A9,q19_c9,q19_n5,q19_n6,q19_n7,q19_n8,q19_n9,_,q19_S,q19_3,q19_4,q19_5,q19_6,q19_7,q19_8,q19_9⟩:=Q1 ho17
  simp only [inK] at q19_3 q19_4
  refine VO.inv _ (fun _ h=>h.parts (i:=117) rfl q19_S [125,120,121,122,123,124]) ?_
  refine VO.s1 125 tk4 ?_
  refine VO.clsP 126 [125,120,121,122,123,124] rfl (fun hg26=>(ZY _ _ _ _ _ _ _ _ _ _ hg26 bdk bdk q19_5 q19_6 q19_7 q19_8 q19_9)) (fun mc26 ho26=>?_)
  refine VO.k4 0 2 6 11 (VC.rs (VO.as (VO.k4 0 2 6 11 (VC.ret (QK (QK ?_))))))
  refine XC 2 [126] fun hS_=>?_
  dsimp only [Qu]
  have hm0_:((QM d0).1:Qx)=(d0.1,true,d0.2.2):=by first | rfl | (simp [QM, *];done)
  refine ⟨?_,?_⟩
  rotate_left
  ·rw [hm0_];exact (Ow.up ho26 (hS_.1 _ (.head _)))
  all_goals (first | rfl | (simp [QM, *];done))
 ·refine VC.skip (Qg ?_)
  refine VC.reg ?_
  refine VO.mv (VO.z (.nilp rfl) (VO.z (.fa rfl ZU rfl) ?_))
  obtain ⟨q27_E,q27_A5,q27_c5,q27_A6,q27_c6,q27_A7,q27_c7,q27_A8,q27_c8,q27_A9,q27_c9,q27_n5,q27_n6,q27_n7,q27_n8,q27_n9,_,q27_S,q27_3,q27_4,q27_5,q27_6,q27_7,q27_8,q27_9⟩:=Q1 ho17
  simp only [inK] at q27_3 q27_4
  refine VO.inv _ (fun _ h=>h.parts (i:=117) rfl q27_S [133,128,129,130,131,132]) ?_
  refine VO.z (.ld1 133 rfl tk3 rfl (Qa rfl rfl)) ?_
  refine VO.z (.sub rfl rfl rfl ⟨bd,bd⟩) ?_
  refine VO.z (.nilp rfl) (VO.z (.fa rfl ZU rfl) ?_)
  refine VO.s1 133 tk3 ?_
  refine VO.clsP 134 [133,128,129,130,131,132] rfl (fun hg34=>(ZY _ _ _ _ _ _ _ _ _ _ hg34 bdk bdk q27_5 q27_6 q27_7 q27_8 q27_9)) (fun mc34 ho34=>?_)
  refine VO.k4 0 2 6 11 (Qg (VC.rs (VO.mv (VO.z (.nilp rfl) (VO.z (.fa rfl ZU rfl) ?_)))))
  obtain ⟨q35_E,q35_A5,q35_c5,q35_A6,q35_c6,q35_A7,q35_c7,q35_A8,q35_c8,q35_A9,q35_c9,q35_n5,q35_n6,q35_n7,q35_n8,q35_n9,_,q35_S,q35_3,q35_4,q35_5,q35_6,q35_7,q35_8,q35_9⟩:=QaR (x0:=d0.1) (x1:=d0.2.1) (x2:=d0.2.2.1) (x3:=d0.2.2.2.1 - 1) (x4:=d0.2.2.2.2.1) (x5:=d0.2.2.2.2.2.1.1) (x6:=d0.2.2.2.2.2.1.2.1) (x7:=d0.2.2.2.2.2.1.2.2.1) (x8:=d0.2.2.2.2.2.1.2.2.2) (x9:=d0.2.2.2.2.2.2) ho34
  simp only [inK] at q35_3 q35_4
  refine VO.inv _ (fun _ h=>h.parts (i:=134) rfl q35_S [141,136,137,138,139,140]) ?_
  refine VO.z (.ld1 141 rfl tk3 rfl (Qa rfl rfl)) ?_
  refine VO.z (.add rfl rfl rfl ⟨bd,bd⟩) ?_
  refine VO.z (.nilp rfl) (VO.z (.fa rfl ZU rfl) ?_)
  refine VO.s1 141 tk3 ?_
  refine VO.clsP 142 [141,136,137,138,139,140] rfl (fun hg42=>(ZY _ _ _ _ _ _ _ _ _ _ hg42 bdk bdk q35_5 q35_6 q35_7 q35_8 q35_9)) (fun mc42 ho42=>?_)
  refine VO.k4 0 2 6 11 (VC.rs (VO.as (VO.p2 142 0 (VO.k4 0 2 6 11 (VC.ret ?_)))))
  refine XC 2 [142] fun hS_=>?_
  dsimp only [Qu]
  have hm0_:((QM d0).1:Qx)=(d0.1,d0.2.1,d0.2.2.1,d0.2.2.2.1 - 1,d0.2.2.2.2.1+1,d0.2.2.2.2.2):=by first | rfl | (simp [QM, *];done)
  refine ⟨?_,?_⟩
  rotate_left
  ·rw [hm0_];exact (Ow.up ho42 (hS_.1 _ (.head _)))
  all_goals (first | rfl | (simp [QM, *];done))
 ·refine VC.skip (Qg (VC.rs (VO.mv (VO.z (.nilp rfl) (VO.z (.fa rfl ZU rfl) ?_)))))
  obtain ⟨q43_E,q43_A5,q43_c5,q43_A6,q43_c6,q43_A7,q43_c7,q43_A8,q43_c8,q43_A9,q43_c9,q43_n5,q43_n6,q43_n7,q43_n8,q43_n9,_,q43_S,q43_3,q43_4,q43_5,q43_6,q43_7,q43_8,q43_9⟩:=Q1 ho8
  simp only [inK] at q43_3 q43_4
  refine VO.inv _ (fun _ h=>h.parts (i:=108) rfl q43_S [149,144,145,146,147,148]) ?_
  refine VO.z (.ld1 149 rfl tk3 rfl (Qa rfl rfl)) ?_
  refine VO.z (.add rfl rfl rfl ⟨bd,bd⟩) ?_
  refine VO.z (.nilp rfl) (VO.z (.fa rfl ZU rfl) ?_)
  refine VO.s1 149 tk3 ?_
  refine VO.clsP 150 [149,144,145,146,147,148] rfl (fun hg50=>(ZY _ _ _ _ _ _ _ _ _ _ hg50 bdk bdk q43_5 q43_6 q43_7 q43_8 q43_9)) (fun mc50 ho50=>?_)
  refine VO.p2 150 0 (VO.k3 0 2 6 (VC.rs (VO.as (VO.k3 0 2 6 (VC.ret ?_)))))
  refine XC 2 [150] fun hS_=>?_
  dsimp only [Qu]
  have hm0_:((QM d0).1:Qx)=(d0.1,d0.2.1,d0.2.2.1,d0.2.2.2.1,d0.2.2.2.2.1+1,d0.2.2.2.2.2):=by first | rfl | (simp [QM, *];done)
  refine ⟨?_,?_⟩
  rotate_left
  ·rw [hm0_];exact (Ow.up ho50 (hS_.1 _ (.head _)))
  all_goals (first | rfl | (simp [QM, *];done))
theorem Qdl (W:World) {m0:Mem} (hm:mle (m0) (wm W)) {v0:Value} {d0:List UInt8} (h0:Ow (.sl .byte) m0 [v0] d0) {v1:List Value} {d1:Xz} (h1:Rd Y7 (Ju (wm W) (m0)) v1 d1) (e0:d1.1=1→0≤d1.2.2.2∧d1.2.2.2≤d0.length) (e1:d0.length+d1.2.2.1.length≤140737488355000):Qc Tryz.prog 131 [v0,.agg v1.toArray] W (m0) (fun v m'=>∃ (s0:Value),v=s0∧Ow (.sl .byte) m' [s0] (QbX d0 d1)):=by
 obtain ⟨A0,c0,e0_,l0,k0⟩:=h0.slc
 subst e0_
 obtain ⟨p1_A2,p1_c2,rfl,p1_0,p1_1,p1_2,p1_3⟩:=Qbl (x0:=d1.1) (x1:=d1.2.1) (x2:=d1.2.2.1) (x3:=d1.2.2.2) h1
 simp only [inK] at p1_0 p1_1 p1_3
 refine Qc.ofB (n:=20) hm Tryz.func131 rfl rfl rfl ?_
 refine VC.rs ?_
 refine VO.box (cs:=[.int .i64 (d1.1),.int .i64 (d1.2.1),.slice p1_A2 (d1.2.2.1.length) (p1_c2),.int .i64 (d1.2.2.2)]) 102 rfl rfl rfl (fun g1=>?_)
 refine VO.as (VO.k4 0 1 3 4 (VC.seq (VC.rs (VO.z (.fa rfl QeI rfl) (VO.z (.ld1 102 rfl tk3 rfl (Qa rfl rfl)) (VO.k5 0 1 3 4 6 (VC.block (VC.rs (VO.z (.eql rfl rfl) (VO.as (VO.p3 102 0 1 ?_)))))))))))
 refine VO.k6 0 1 3 4 6 7 ?_
 refine VC.cond rfl (fun hc3=>?_) (fun hc3=>?_)
 ·refine VC.rs (VO.mv (VO.z (.fa rfl QeI rfl) (VO.z (.ld1 102 rfl QcS rfl (Qa rfl rfl)) ?_)))
  obtain ⟨mo4,cs4,hM4,hA4,hC4⟩:=(Ow.ownl h0 rfl mnil)
  obtain ⟨all4,hS4,hR4⟩:=Rd.srcI (P:=Tryz.prog) (p1_2) Tryz.underlying97
  refine VO.app 1 rfl rfl rfl Jz tz5 rfl rfl hM4 hA4 (hS4 _ 0 rfl) hR4.nice bdm bd (by decide) (fun v4 m4 hN4=>?_)
  have ho4:Qz .byte m4 mnil v4 (d0++d1.2.2.1):=Qz.more hC4 hN4 (Q8.mono hR4 fun _ _ h=>Rd.flat rfl h _)
  obtain ⟨A4,c4,rfl,l4,k4⟩:=ho4.slc
  refine VO.as (VO.k6 0 1 3 4 6 7 (VC.ret (Jf (QK ?_))))
  refine XC 4 [1] fun hS_=>?_
  dsimp only [Qu]
  exact ⟨Value.slice A4 ((d0++d1.2.2.1).length) (c4),(by first | rfl | (simp [*];done)),(Ow.cg (Ow.up (Qz.ow ho4 rfl) (hS_.1 _ (.head _))) (by first | rfl | (simp [QbX, *];done)))⟩
 refine VC.rs (VO.z (.eql rfl rfl) (VO.as (VO.k7 0 1 3 4 6 7 13 ?_)))
 refine VC.cond rfl (fun hc5=>?_) (fun hc5=>?_)
 ·refine VC.rs (VO.mv (VO.z (.fa rfl QeI rfl) (VO.z (.ld1 102 rfl tk3 rfl (Qa rfl rfl)) ?_)))
  refine VO.z (.slHI ((d1.2.2.2).toNat) rfl rfl Jz bd bd) ?_
  refine VO.as (VO.k7 0 1 3 4 6 7 13 (VC.ret (Jf (QK ?_))))
  refine XC 4 [1] fun hS_=>?_
  dsimp only [Qu]
  exact ⟨Value.slice A0 ((d1.2.2.2).toNat) (c0),(by first | rfl | (simp [*];done)),(Ow.cg (Ow.up (Qz.ow ((Ow.ownl h0 rfl mnil).pre (j:=((d1.2.2.2).toNat)) bd) rfl) (hS_.1 _ (.head _))) (by first | rfl | (simp [QbX, *];done)))⟩
 ·refine VC.skip (Jh (Qg (VC.rs (VO.mv (VO.as (VO.k7 0 1 3 4 6 7 13 (VC.ret ?_)))))))
  refine XC 4 [1] fun hS_=>?_
  dsimp only [Qu]
  exact ⟨Value.slice A0 (d0.length) (c0),(by first | rfl | (simp [*];done)),(Ow.cg (Ow.up h0 (hS_.1 _ (.head _))) (by first | rfl | (simp [QbX, *];done)))⟩
theorem Qfn:JE Tryz.prog 131=true:=by kernel_rfl
theorem X0:tar Tryz.prog 98=some (4,1):=by kernel_rfl
theorem QgO:tk Tryz.prog 148=some (some 4):=by kernel_rfl
theorem Qp1:tk Tryz.prog 99=some none:=by kernel_rfl
theorem QgL:tsl Tryz.prog 99=some (148,4,48):=by kernel_rfl
theorem Qlv:tz Tryz.prog 148=some [.int .i64 0,.int .i64 0,.slice none 0 0,.int .i64 0]:=by kernel_rfl
set_option maxHeartbeats 1000000 in
theorem QoM (W:World) {m0:Mem} (hm:mle (m0) (wm W)) {g0:Nat} {d0:Qx} (h0:Ow (.ptr QW) m0 [Vp g0] (g0,d0)) (d1:Int) (h1:inK .i64 d1) (e0:okD d0) (e1:wD d0≤2*1000000000000) (e2:inF d1):Qc Tryz.prog 99 [Vp g0,.int .i64 d1] W (m0) (fun v m'=>∃ (s0:Value),∃ (p0:Mem),∃ (p1:Mem),v=s0∧Qt m' [p0,p1]∧Ow (.sl .byte) p0 [s0] (Zr d0.2.2.2.2.2.1 d0.2.2.2.2.2.2 d1)∧Ow (.ptr QW) p1 [Vp g0] (g0,d0)):=by
 obtain ⟨hg,hfu,hst⟩:=e0;simp only [wD,Xk] at e1;have hin:=e2;simp only [inF] at hin
 have h1':=h1;simp only [inK] at h1'
 refine Qc.ofB (n:=33) hm Tryz.func99 rfl rfl rfl ?_
 refine VC.rs (VO.as (VO.k3 0 1 4 ?_))
 refine VC.seqJ (G:=(List UInt8) × (Option Addr) × Nat × Mem × Mem) (fun g=>[(5,.slice (g.2.1) ((g.1).length) ((g.2.2.1))),(0,Vp g0),(1,.int .i64 (d1)),(4,.slice none (0) (0))]) (fun g=>[(111,(g.2.2.2.2)),(110,(g.2.2.2.1)),(0,Ju (wm W) (m0))]) (fun g=>((g.1)=Zr d0.2.2.2.2.2.1 (d0.2.2.2.2.2.2.take 0) d1)∧(Qz .byte (g.2.2.2.1) mnil (.slice (g.2.1) (g.1).length (g.2.2.1)) (g.1))∧(Ow (.ptr QW) (g.2.2.2.2) [Vp g0] (g0,d0))) ?_ ?_
 rintro ⟨bj,bj_A,bj_c,bj_m,dd_m⟩ ⟨hbj,h_bj,h_dd⟩
 replace hbj:bj=Zr d0.2.2.2.2.2.1 (d0.2.2.2.2.2.2.take 0) d1:=hbj
 replace h_bj:Qz .byte bj_m mnil (.slice bj_A bj.length bj_c) bj:=h_bj
 replace h_dd:Ow (.ptr QW) dd_m [Vp g0] (g0,d0):=h_dd
 show VC _ _ _ _ _ [(5,.slice bj_A (bj.length) (bj_c)),(0,Vp g0),(1,.int .i64 (d1)),(4,.slice none (0) (0))] [(111,dd_m),(110,bj_m),(0,Ju (wm W) (m0))]
 have l_bj:bj.length≤bj_c:=by obtain ⟨_,_,he,hl,_⟩:=h_bj.slice;simp only [Value.slice.injEq] at he;omega
 have k_bj:bj_c≤9223372036854775807:=by obtain ⟨_,_,he,_,hl⟩:=h_bj.slice;simp only [Value.slice.injEq,maxLen] at he hl;omega
 refine VC.seq (VC.rs (VO.mv (VO.z (.nilp rfl) (VO.z (.fa rfl ZU rfl) ?_))))
 obtain ⟨q12_E,q12_A5,q12_c5,q12_A6,q12_c6,q12_A7,q12_c7,q12_A8,q12_c8,q12_A9,q12_c9,q12_n5,q12_n6,q12_n7,q12_n8,q12_n9,_,q12_S,q12_3,q12_4,q12_5,q12_6,q12_7,q12_8,q12_9⟩:=Q1 h_dd
 simp only [inK] at q12_3 q12_4
 have q12_r9:=q12_9.rm
 refine VO.inv _ (fun _ h=>h.parts (i:=111) rfl q12_S [118,113,114,115,116,117]) ?_
 refine VO.z (.ld1 118 rfl Qp1 rfl (Qa rfl rfl)) (VO.z (.lenS rfl QgL) (VO.mv (VO.p8 118 113 114 115 116 117 110 0 (VO.k7 0 1 4 5 18 19 20 (VC.block ?_)))))
 refine VC.loop (G:=Nat × (List UInt8) × (Option Addr) × Nat × Mem) (fun g=>[(5,.slice (g.2.2.1) ((g.2.1).length) ((g.2.2.2.1))),(20,.int .i64 ((((g.1):Nat):Int))),(0,Vp g0),(1,.int .i64 (d1)),(4,.slice none (0) (0)),(18,.slice q12_A9 (d0.2.2.2.2.2.2.length) (q12_c9)),(19,.int .i64 (((d0.2.2.2.2.2.2.length:Nat):Int)))]) (fun g=>[(118,Qo g0 (.cells #[.bool d0.1,.bool d0.2.1,.bool d0.2.2.1,.int .i64 (d0.2.2.2.1),.int .i64 (d0.2.2.2.2.1),.slice q12_A5 (d0.2.2.2.2.2.1.1.length) (q12_c5),.slice q12_A6 (d0.2.2.2.2.2.1.2.1.length) (q12_c6),.slice q12_A7 (d0.2.2.2.2.2.1.2.2.1.length) (q12_c7),.slice q12_A8 (d0.2.2.2.2.2.1.2.2.2.length) (q12_c8),.slice q12_A9 (d0.2.2.2.2.2.2.length) (q12_c9)] q12_E (0,0))),(113,q12_n5),(114,q12_n6),(115,q12_n7),(116,q12_n8),(117,q12_n9),(110,(g.2.2.2.2)),(0,Ju (wm W) (m0))]) (fun g=>((g.1)≤d0.2.2.2.2.2.2.length)∧((g.2.1)=Zr d0.2.2.2.2.2.1 (d0.2.2.2.2.2.2.take (g.1)) d1)∧(Qz .byte (g.2.2.2.2) mnil (.slice (g.2.2.1) (g.2.1).length (g.2.2.2.1)) (g.2.1))) (fun g=>d0.2.2.2.2.2.2.length - (g.1)) (0,bj,bj_A,bj_c,bj_m) (⟨by omega,by exact hbj,h_bj⟩) ⟨esn,fun _ h=>h.sub [118,113,114,115,116,117,110,0]⟩ ?_
 rintro ⟨k,b,b_A,b_c,b_m⟩ ⟨hk,hb,h_b⟩
 replace hk:k≤d0.2.2.2.2.2.2.length:=hk
 replace hb:b=Zr d0.2.2.2.2.2.1 (d0.2.2.2.2.2.2.take k) d1:=hb
 replace h_b:Qz .byte b_m mnil (.slice b_A b.length b_c) b:=h_b
 show VC _ _ _ _ _ [(5,.slice b_A (b.length) (b_c)),(20,.int .i64 (((k:Nat):Int))),(0,Vp g0),(1,.int .i64 (d1)),(4,.slice none (0) (0)),(18,.slice q12_A9 (d0.2.2.2.2.2.2.length) (q12_c9)),(19,.int .i64 (((d0.2.2.2.2.2.2.length:Nat):Int)))] [(118,Qo g0 (.cells #[.bool d0.1,.bool d0.2.1,.bool d0.2.2.1,.int .i64 (d0.2.2.2.1),.int .i64 (d0.2.2.2.2.1),.slice q12_A5 (d0.2.2.2.2.2.1.1.length) (q12_c5),.slice q12_A6 (d0.2.2.2.2.2.1.2.1.length) (q12_c6),.slice q12_A7 (d0.2.2.2.2.2.1.2.2.1.length) (q12_c7),.slice q12_A8 (d0.2.2.2.2.2.1.2.2.2.length) (q12_c8),.slice q12_A9 (d0.2.2.2.2.2.2.length) (q12_c9)] q12_E (0,0))),(113,q12_n5),(114,q12_n6),(115,q12_n7),(116,q12_n8),(117,q12_n9),(110,b_m),(0,Ju (wm W) (m0))]
 have l_b:b.length≤b_c:=by obtain ⟨_,_,he,hl,_⟩:=h_b.slice;simp only [Value.slice.injEq] at he;omega
 have k_b:b_c≤9223372036854775807:=by obtain ⟨_,_,he,_,hl⟩:=h_b.slice;simp only [Value.slice.injEq,maxLen] at he hl;omega
 refine VC.rs (VO.z (.lss rfl rfl) (VO.k8 0 1 4 5 18 19 20 21 (VC.seq ?_)))
 refine VC.cond rfl (fun hc19=>?_) (fun hc19=>?_)
 refine VC.skip (Qg (VC.seq (VC.block (VC.rs ?_))))
 obtain ⟨x20,hx20⟩:∃ z_,(d0.2.2.2.2.2.2)[k]? =some z_:=⟨_,List.getElem?_eq_getElem bd⟩
 obtain ⟨gg20,oo20,ec20,ea20,hce20,hre20⟩:=(Ow.rd q12_9 (Qb _)).elem hx20
 cases ea20
 obtain ⟨q20_A2,q20_c2,rfl,q20_0,q20_1,q20_2,q20_3⟩:=Qbl (x0:=x20.1) (x1:=x20.2.1) (x2:=x20.2.2.1) (x3:=x20.2.2.2) hre20
 simp only [inK] at q20_0 q20_1 q20_3
 refine VO.z (.ixI k rfl rfl QgL rfl bd) ?_
 refine VO.z (.ldA 117 rfl QgO rfl hce20) ?_
 refine VO.alloc 122 rfl Qlv (fun g21=>?_)
 refine VO.store (k:=4) (c':=[.int .i64 (x20.1),.int .i64 (x20.2.1),.slice q20_A2 (x20.2.2.1.length) (q20_c2),.int .i64 (x20.2.2.2)]) 122 rfl rfl (.inl QgO) rfl rfl rfl rfl rfl ?_
 refine VO.k9 0 1 4 5 7 18 19 20 21 (VC.rs (VO.z (.fa rfl QeI rfl) (VO.z (.ld1 122 rfl tk3 rfl (Qa rfl rfl)) (VO.mv (VO.z (.eql rfl rfl) (VO.p9 122 118 113 114 115 116 117 110 0 (VO.k10 0 1 4 5 7 18 19 20 21 27 ?_)))))))
 refine VC.cond rfl (fun hc23=>?_) (fun hc23=>?_)
 refine VC.reg ?_
 refine VO.mv (VO.z (.ldA 122 rfl QgO rfl (Qa rfl rfl)) ?_)
 refine VO.call 110 rfl Qfn rfl rfl (fun W hW=>Qdl W (hW.t 110) (Qz.ow h_b rfl) (Rd.mono hre20 (hW.o 110 117)) (by exact Qj3 hg hb ‹d0.2.2.2.2.2.2[k]? =some _› e2 ‹_=d1›) (by (have h_:=Qib hb ‹d0.2.2.2.2.2.2[k]? =some _›;simp only [Xk] at h_;omega))) (fun v24 m24 hv24=>?_)
 obtain ⟨s24_0,rfl,f24_0⟩:=hv24
 obtain ⟨A24_0,c24_0,eq24_0,l24_0,k24_0⟩:=f24_0.slc
 subst eq24_0
 refine VO.as (VO.k10 0 1 4 5 7 18 19 20 21 27 (Jh (Qg ?_)))
 refine VC.reg ?_
 refine VO.z (.add (c:=((k+1:Nat):Int)) rfl rfl Qp ⟨bd,bd⟩) ?_
 refine VO.mv (VO.k10 0 1 4 5 7 18 19 20 21 27 ?_)
 exact Qg ⟨⟨k+1,QbX b x20,A24_0,c24_0,m24⟩,⟨by omega,by first | exact Qeq hb ‹d0.2.2.2.2.2.2[k]? =some _› ‹_=d1› | exact Qg9 hb ‹d0.2.2.2.2.2.2[k]? =some _› ‹¬ _=d1›,(Ow.ownl f24_0 rfl mnil)⟩,bd,⟨esn,fun _ h=>Inv.sub h [118,113,114,115,116,117,110,0]⟩⟩
 refine VC.skip (Jh (Qg ?_))
 refine VC.reg ?_
 refine VO.z (.add (c:=((k+1:Nat):Int)) rfl rfl Qp ⟨bd,bd⟩) ?_
 refine VO.mv (VO.k10 0 1 4 5 7 18 19 20 21 27 ?_)
 exact Qg ⟨⟨k+1,b,b_A,b_c,b_m⟩,⟨by omega,by first | exact Qeq hb ‹d0.2.2.2.2.2.2[k]? =some _› ‹_=d1› | exact Qg9 hb ‹d0.2.2.2.2.2.2[k]? =some _› ‹¬ _=d1›,h_b⟩,bd,⟨esn,fun _ h=>Inv.sub h [118,113,114,115,116,117,110,0]⟩⟩
 · refine VC.exit (JU (JU (JT (Qg (VC.rs (VO.mv (VO.as (VO.k8 0 1 4 5 18 19 20 21 (VC.ret ?_)))))))))
   refine XC 4 [110,118,113,114,115,116,117] fun hS_=>?_
   dsimp only [Qu]
   have hm0_:(d0:Qx)=d0:=by first | rfl | (rw [hb,List.take_of_length_le Qp])
   refine ⟨.slice b_A (b.length) (b_c),Zs [b_m],Zs [Qo g0 (.cells #[.bool d0.1,.bool d0.2.1,.bool d0.2.2.1,.int .i64 (d0.2.2.2.1),.int .i64 (d0.2.2.2.2.1),.slice q12_A5 (d0.2.2.2.2.2.1.1.length) (q12_c5),.slice q12_A6 (d0.2.2.2.2.2.1.2.1.length) (q12_c6),.slice q12_A7 (d0.2.2.2.2.2.1.2.2.1.length) (q12_c7),.slice q12_A8 (d0.2.2.2.2.2.1.2.2.2.length) (q12_c8),.slice q12_A9 (d0.2.2.2.2.2.2.length) (q12_c9)] q12_E (0,0)),q12_n5,q12_n6,q12_n7,q12_n8,q12_n9],?_,?_,?_,?_⟩
   rotate_left
   · exact Qt.grp (ls:=[[b_m],[Qo g0 (.cells [Value.bool d0.1,Value.bool d0.2.1,Value.bool d0.2.2.1,Value.int .i64 (d0.2.2.2.1),Value.int .i64 (d0.2.2.2.2.1),Value.slice q12_A5 (d0.2.2.2.2.2.1.1.length) (q12_c5),Value.slice q12_A6 (d0.2.2.2.2.2.1.2.1.length) (q12_c6),Value.slice q12_A7 (d0.2.2.2.2.2.1.2.2.1.length) (q12_c7),Value.slice q12_A8 (d0.2.2.2.2.2.1.2.2.2.length) (q12_c8),Value.slice q12_A9 (d0.2.2.2.2.2.2.length) (q12_c9)].toArray q12_E (0,0)),q12_n5,q12_n6,q12_n7,q12_n8,q12_n9]]) hS_
   · exact Ow.cg (Ow.up (Qz.ow h_b rfl) ((Qt.self hS_ (List.Sublist.cons_cons _ (List.Sublist.cons _ (List.Sublist.cons _ (List.Sublist.cons _ (List.Sublist.cons _ (List.Sublist.cons _ (List.Sublist.cons _ List.Sublist.slnil)))))))).1 _ (.head _))) (by first | rfl | (rw [hb,List.take_of_length_le Qp]))
   · rw [hm0_];exact (J5 d0 (Qt.self hS_ (List.Sublist.cons _ (List.Sublist.cons_cons _ (List.Sublist.cons_cons _ (List.Sublist.cons_cons _ (List.Sublist.cons_cons _ (List.Sublist.cons_cons _ (List.Sublist.cons_cons _ List.Sublist.slnil)))))))) bdk bdk q12_5 q12_6 q12_7 q12_8 q12_9)
   all_goals (first | rfl | (simp [*];done))
 intro hJ1
 refine VC.reg ?_
 refine VO.mv (VO.mv (VO.z (.nilp rfl) (VO.z (.fa rfl ZU rfl) ?_)))
 rcases (show d1=(0:Int)∨d1=(1:Int)∨d1=(2:Int)∨d1=(3:Int) from by first | exact bd) with hi25 | hi25 | hi25 | hi25
 refine VO.z (.ixa (i:=0) (o:=5) rfl rfl X0 hi25 rfl rfl) ?_
 obtain ⟨q26_E,q26_A5,q26_c5,q26_A6,q26_c6,q26_A7,q26_c7,q26_A8,q26_c8,q26_A9,q26_c9,q26_n5,q26_n6,q26_n7,q26_n8,q26_n9,_,q26_S,q26_3,q26_4,q26_5,q26_6,q26_7,q26_8,q26_9⟩:=Q1 h0
 simp only [inK] at q26_3 q26_4
 have q26_r5:=q26_5.rm
 refine VO.inv _ (fun _ h=>h.parts (i:=1) rfl q26_S [132,127,128,129,130,131]) ?_
 refine VO.z (.ld1 132 rfl QcS rfl (Qa rfl rfl)) ?_
 refine VO.inv _ (fun _ h=>h.nilc 134) ?_
 obtain ⟨mo33,cs33,hM33,hA33,hC33⟩:=(Qz.nil .byte mnil mnil)
 obtain ⟨all33,hS33,hR33⟩:=Rd.srcI (P:=Tryz.prog) ((Ow.rd q26_5 (Qb _))) Tryz.underlying97
 refine VO.app 134 rfl rfl rfl Jz tz5 rfl rfl hM33 hA33 (hS33 _ 127 rfl) hR33.nice bdm bd (by decide) (fun v33 m33 hN33=>?_)
 have ho33:Qz .byte m33 mnil v33 (d0.2.2.2.2.2.1.1):=Qz.more hC33 hN33 (Q8.mono hR33 fun _ _ h=>Rd.flat rfl h _)
 obtain ⟨A33,c33,rfl,l33,k33⟩:=ho33.slc
 refine VO.as ?_
 refine VO.clsP 135 [132,127,128,129,130,131] rfl (fun hg35=>(J5 d0 hg35 bdk bdk q26_5 q26_6 q26_7 q26_8 q26_9)) (fun mc35 ho35=>?_)
 refine VO.k4 0 1 4 5 ?_
 exact Qg (hJ1 ⟨d0.2.2.2.2.2.1.1,A33,c33,m33,mc35⟩ _ _ ⟨by first | exact (Qa4 ‹d1=(0:Int)›).symm | exact (Qa3 ‹d1=(1:Int)›).symm | exact (Qa2 ‹d1=(2:Int)›).symm | exact (Qa1 ‹d1=(3:Int)›).symm,ho33,ho35⟩ ⟨esn,fun _ h=>Inv.sub (Inv.num (Inv.num h 134 110 rfl) 135 111 rfl) [111,110,0]⟩)
 refine VO.z (.ixa (i:=1) (o:=6) rfl rfl X0 hi25 rfl rfl) ?_
 obtain ⟨q36_E,q36_A5,q36_c5,q36_A6,q36_c6,q36_A7,q36_c7,q36_A8,q36_c8,q36_A9,q36_c9,q36_n5,q36_n6,q36_n7,q36_n8,q36_n9,_,q36_S,q36_3,q36_4,q36_5,q36_6,q36_7,q36_8,q36_9⟩:=Q1 h0
 simp only [inK] at q36_3 q36_4
 have q36_r6:=q36_6.rm
 refine VO.inv _ (fun _ h=>h.parts (i:=1) rfl q36_S [142,137,138,139,140,141]) ?_
 refine VO.z (.ld1 142 rfl QcS rfl (Qa rfl rfl)) ?_
 refine VO.inv _ (fun _ h=>h.nilc 144) ?_
 obtain ⟨mo43,cs43,hM43,hA43,hC43⟩:=(Qz.nil .byte mnil mnil)
 obtain ⟨all43,hS43,hR43⟩:=Rd.srcI (P:=Tryz.prog) ((Ow.rd q36_6 (Qb _))) Tryz.underlying97
 refine VO.app 144 rfl rfl rfl Jz tz5 rfl rfl hM43 hA43 (hS43 _ 138 rfl) hR43.nice bdm bd (by decide) (fun v43 m43 hN43=>?_)
 have ho43:Qz .byte m43 mnil v43 (d0.2.2.2.2.2.1.2.1):=Qz.more hC43 hN43 (Q8.mono hR43 fun _ _ h=>Rd.flat rfl h _)
 obtain ⟨A43,c43,rfl,l43,k43⟩:=ho43.slc
 refine VO.as ?_
 refine VO.clsP 145 [142,137,138,139,140,141] rfl (fun hg45=>(J5 d0 hg45 bdk bdk q36_5 q36_6 q36_7 q36_8 q36_9)) (fun mc45 ho45=>?_)
 refine VO.k4 0 1 4 5 ?_
 exact Qg (hJ1 ⟨d0.2.2.2.2.2.1.2.1,A43,c43,m43,mc45⟩ _ _ ⟨by first | exact (Qa4 ‹d1=(0:Int)›).symm | exact (Qa3 ‹d1=(1:Int)›).symm | exact (Qa2 ‹d1=(2:Int)›).symm | exact (Qa1 ‹d1=(3:Int)›).symm,ho43,ho45⟩ ⟨esn,fun _ h=>Inv.sub (Inv.num (Inv.num h 144 110 rfl) 145 111 rfl) [111,110,0]⟩)
 refine VO.z (.ixa (i:=2) (o:=7) rfl rfl X0 hi25 rfl rfl) ?_
 obtain ⟨q46_E,q46_A5,q46_c5,q46_A6,q46_c6,q46_A7,q46_c7,q46_A8,q46_c8,q46_A9,q46_c9,q46_n5,q46_n6,q46_n7,q46_n8,q46_n9,_,q46_S,q46_3,q46_4,q46_5,q46_6,q46_7,q46_8,q46_9⟩:=Q1 h0
 simp only [inK] at q46_3 q46_4
 have q46_r7:=q46_7.rm
 refine VO.inv _ (fun _ h=>h.parts (i:=1) rfl q46_S [152,147,148,149,150,151]) ?_
 refine VO.z (.ld1 152 rfl QcS rfl (Qa rfl rfl)) ?_
 refine VO.inv _ (fun _ h=>h.nilc 154) ?_
 obtain ⟨mo53,cs53,hM53,hA53,hC53⟩:=(Qz.nil .byte mnil mnil)
 obtain ⟨all53,hS53,hR53⟩:=Rd.srcI (P:=Tryz.prog) ((Ow.rd q46_7 (Qb _))) Tryz.underlying97
 refine VO.app 154 rfl rfl rfl Jz tz5 rfl rfl hM53 hA53 (hS53 _ 149 rfl) hR53.nice bdm bd (by decide) (fun v53 m53 hN53=>?_)
 have ho53:Qz .byte m53 mnil v53 (d0.2.2.2.2.2.1.2.2.1):=Qz.more hC53 hN53 (Q8.mono hR53 fun _ _ h=>Rd.flat rfl h _)
 obtain ⟨A53,c53,rfl,l53,k53⟩:=ho53.slc
 refine VO.as ?_
 refine VO.clsP 155 [152,147,148,149,150,151] rfl (fun hg55=>(J5 d0 hg55 bdk bdk q46_5 q46_6 q46_7 q46_8 q46_9)) (fun mc55 ho55=>?_)
 refine VO.k4 0 1 4 5 ?_
 exact Qg (hJ1 ⟨d0.2.2.2.2.2.1.2.2.1,A53,c53,m53,mc55⟩ _ _ ⟨by first | exact (Qa4 ‹d1=(0:Int)›).symm | exact (Qa3 ‹d1=(1:Int)›).symm | exact (Qa2 ‹d1=(2:Int)›).symm | exact (Qa1 ‹d1=(3:Int)›).symm,ho53,ho55⟩ ⟨esn,fun _ h=>Inv.sub (Inv.num (Inv.num h 154 110 rfl) 155 111 rfl) [111,110,0]⟩)
 refine VO.z (.ixa (i:=3) (o:=8) rfl rfl X0 hi25 rfl rfl) ?_
 obtain ⟨q56_E,q56_A5,q56_c5,q56_A6,q56_c6,q56_A7,q56_c7,q56_A8,q56_c8,q56_A9,q56_c9,q56_n5,q56_n6,q56_n7,q56_n8,q56_n9,_,q56_S,q56_3,q56_4,q56_5,q56_6,q56_7,q56_8,q56_9⟩:=Q1 h0
 simp only [inK] at q56_3 q56_4
 have q56_r8:=q56_8.rm
 refine VO.inv _ (fun _ h=>h.parts (i:=1) rfl q56_S [162,157,158,159,160,161]) ?_
 refine VO.z (.ld1 162 rfl QcS rfl (Qa rfl rfl)) ?_
 refine VO.inv _ (fun _ h=>h.nilc 164) ?_
 obtain ⟨mo63,cs63,hM63,hA63,hC63⟩:=(Qz.nil .byte mnil mnil)
 obtain ⟨all63,hS63,hR63⟩:=Rd.srcI (P:=Tryz.prog) ((Ow.rd q56_8 (Qb _))) Tryz.underlying97
 refine VO.app 164 rfl rfl rfl Jz tz5 rfl rfl hM63 hA63 (hS63 _ 160 rfl) hR63.nice bdm bd (by decide) (fun v63 m63 hN63=>?_)
 have ho63:Qz .byte m63 mnil v63 (d0.2.2.2.2.2.1.2.2.2):=Qz.more hC63 hN63 (Q8.mono hR63 fun _ _ h=>Rd.flat rfl h _)
 obtain ⟨A63,c63,rfl,l63,k63⟩:=ho63.slc
 refine VO.as ?_
 refine VO.clsP 165 [162,157,158,159,160,161] rfl (fun hg65=>(J5 d0 hg65 bdk bdk q56_5 q56_6 q56_7 q56_8 q56_9)) (fun mc65 ho65=>?_)
 refine VO.k4 0 1 4 5 ?_
 exact Qg (hJ1 ⟨d0.2.2.2.2.2.1.2.2.2,A63,c63,m63,mc65⟩ _ _ ⟨by first | exact (Qa4 ‹d1=(0:Int)›).symm | exact (Qa3 ‹d1=(1:Int)›).symm | exact (Qa2 ‹d1=(2:Int)›).symm | exact (Qa1 ‹d1=(3:Int)›).symm,ho63,ho65⟩ ⟨esn,fun _ h=>Inv.sub (Inv.num (Inv.num h 164 110 rfl) 165 111 rfl) [111,110,0]⟩)
theorem Xv {P:Prop} (h:P:=by first | (have h_:=XQ hb (J6 ‹(d0.2.2.2.2.2.2.take d1.toNat)[k]? =some _›);rw [Qa4 ‹_=(0:Int)›] at h_;simp only [Xk] at h_;omega) | (have h_:=XQ hb (J6 ‹(d0.2.2.2.2.2.2.take d1.toNat)[k]? =some _›);rw [Qa3 ‹_=(1:Int)›] at h_;simp only [Xk] at h_;omega) | (have h_:=XQ hb (J6 ‹(d0.2.2.2.2.2.2.take d1.toNat)[k]? =some _›);rw [Qa2 ‹_=(2:Int)›] at h_;simp only [Xk] at h_;omega) | (have h_:=XQ hb (J6 ‹(d0.2.2.2.2.2.2.take d1.toNat)[k]? =some _›);rw [Qa1 ‹_=(3:Int)›] at h_;simp only [Xk] at h_;omega)):P:=h
theorem Xu {P:Prop} (h:P:=by first | (have h_:=(XO hg hb (J6 ‹(d0.2.2.2.2.2.2.take d1.toNat)[k]? =some _›)).2;rw [Qa4 ‹_=(0:Int)›] at h_;exact h_) | (have h_:=(XO hg hb (J6 ‹(d0.2.2.2.2.2.2.take d1.toNat)[k]? =some _›)).2;rw [Qa3 ‹_=(1:Int)›] at h_;exact h_) | (have h_:=(XO hg hb (J6 ‹(d0.2.2.2.2.2.2.take d1.toNat)[k]? =some _›)).2;rw [Qa2 ‹_=(2:Int)›] at h_;exact h_) | (have h_:=(XO hg hb (J6 ‹(d0.2.2.2.2.2.2.take d1.toNat)[k]? =some _›)).2;rw [Qa1 ‹_=(3:Int)›] at h_;exact h_)):P:=h
theorem QF {P:Prop} (h:P:=by first | exact bd | (have h_:=(XO hg hb (J6 ‹(d0.2.2.2.2.2.2.take d1.toNat)[k]? =some _›)).1;simp only [inF] at h_;omega)):P:=h
set_option maxHeartbeats 1000000 in
theorem Qk5 (W:World) {m0:Mem} (hm:mle (m0) (wm W)) {g0:Nat} {d0:Qx} (h0:Ow (.ptr QW) m0 [Vp g0] (g0,d0)) (d1:Int) (h1:inK .i64 d1) (e0:okD d0) (e1:wD d0≤2*1000000000000) (e2:0≤d1∧d1≤d0.2.2.2.2.2.2.length):Qc Tryz.prog 103 [Vp g0,.int .i64 d1] W (m0) (fun v m'=>v= .tuple #[]∧Ow (.ptr QW) m' [Vp g0] (g0,Xp d0 d1.toNat)):=by
 obtain ⟨hg,hfu,hst⟩:=e0;simp only [wD,Xk] at e1
 have h1':=h1;simp only [inK] at h1'
 refine Qc.ofB (n:=42) hm Tryz.func103 rfl rfl rfl ?_
 refine VC.seq (VC.rs (VO.mv (VO.z (.nilp rfl) (VO.z (.fa rfl ZU rfl) ?_))))
 obtain ⟨q1_E,q1_A5,q1_c5,q1_A6,q1_c6,q1_A7,q1_c7,q1_A8,q1_c8,q1_A9,q1_c9,q1_n5,q1_n6,q1_n7,q1_n8,q1_n9,_,q1_S,q1_3,q1_4,q1_5,q1_6,q1_7,q1_8,q1_9⟩:=Q1 h0
 simp only [inK] at q1_3 q1_4
 have q1_r9:=q1_9.rm
 refine VO.inv _ (fun _ h=>h.parts (i:=1) rfl q1_S [107,102,103,104,105,106]) ?_
 refine VO.z (.ld1 107 rfl Qp1 rfl (Qa rfl rfl)) (VO.mv ?_)
 have hs8:=(Ow.rd q1_9 (Qb _)).pre (j:=((d1).toNat)) QF
 refine VO.z (.slHI ((d1).toNat) rfl rfl QgL QF QF) ?_
 refine VO.z (.lenS rfl QgL) (VO.mv (VO.k5 0 1 11 12 13 (VC.block ?_)))
 refine VC.loop (G:=Nat × (List UInt8) × (Option Addr) × Nat × Mem × (List UInt8) × (Option Addr) × Nat × Mem × (List UInt8) × (Option Addr) × Nat × Mem × (List UInt8) × (Option Addr) × Nat × Mem) (fun g=>[(13,.int .i64 ((((g.1):Nat):Int))),(0,Vp g0),(1,.int .i64 (d1)),(11,.slice q1_A9 ((d1).toNat) (q1_c9)),(12,.int .i64 ((((d1).toNat:Nat):Int)))]) (fun g=>[(107,Qo g0 (.cells #[.bool d0.1,.bool d0.2.1,.bool d0.2.2.1,.int .i64 (d0.2.2.2.1),.int .i64 (d0.2.2.2.2.1),.slice (g.2.2.1) ((g.2.1).length) ((g.2.2.2.1)),.slice (g.2.2.2.2.2.2.1) ((g.2.2.2.2.2.1).length) ((g.2.2.2.2.2.2.2.1)),.slice (g.2.2.2.2.2.2.2.2.2.2.1) ((g.2.2.2.2.2.2.2.2.2.1).length) ((g.2.2.2.2.2.2.2.2.2.2.2.1)),.slice (g.2.2.2.2.2.2.2.2.2.2.2.2.2.2.1) ((g.2.2.2.2.2.2.2.2.2.2.2.2.2.1).length) ((g.2.2.2.2.2.2.2.2.2.2.2.2.2.2.2.1)),.slice q1_A9 (d0.2.2.2.2.2.2.length) (q1_c9)] q1_E (0,0))),(102,(g.2.2.2.2.1)),(103,(g.2.2.2.2.2.2.2.2.1)),(104,(g.2.2.2.2.2.2.2.2.2.2.2.2.1)),(105,(g.2.2.2.2.2.2.2.2.2.2.2.2.2.2.2.2)),(106,q1_n9),(0,Ju (wm W) (m0))]) (fun g=>((g.1)≤d1.toNat)∧(((g.2.1),(g.2.2.2.2.2.1),(g.2.2.2.2.2.2.2.2.2.1),(g.2.2.2.2.2.2.2.2.2.2.2.2.2.1))=Qc9 d0.2.2.2.2.2.1 (d0.2.2.2.2.2.2.take (g.1)))∧(Qz .byte (g.2.2.2.2.1) mnil (.slice (g.2.2.1) (g.2.1).length (g.2.2.2.1)) (g.2.1))∧(Qz .byte (g.2.2.2.2.2.2.2.2.1) mnil (.slice (g.2.2.2.2.2.2.1) (g.2.2.2.2.2.1).length (g.2.2.2.2.2.2.2.1)) (g.2.2.2.2.2.1))∧(Qz .byte (g.2.2.2.2.2.2.2.2.2.2.2.2.1) mnil (.slice (g.2.2.2.2.2.2.2.2.2.2.1) (g.2.2.2.2.2.2.2.2.2.1).length (g.2.2.2.2.2.2.2.2.2.2.2.1)) (g.2.2.2.2.2.2.2.2.2.1))∧(Qz .byte (g.2.2.2.2.2.2.2.2.2.2.2.2.2.2.2.2) mnil (.slice (g.2.2.2.2.2.2.2.2.2.2.2.2.2.2.1) (g.2.2.2.2.2.2.2.2.2.2.2.2.2.1).length (g.2.2.2.2.2.2.2.2.2.2.2.2.2.2.2.1)) (g.2.2.2.2.2.2.2.2.2.2.2.2.2.1))) (fun g=>d1.toNat - (g.1)) (0,d0.2.2.2.2.2.1.1,q1_A5,q1_c5,q1_n5,d0.2.2.2.2.2.1.2.1,q1_A6,q1_c6,q1_n6,d0.2.2.2.2.2.1.2.2.1,q1_A7,q1_c7,q1_n7,d0.2.2.2.2.2.1.2.2.2,q1_A8,q1_c8,q1_n8) (⟨by omega,by rfl,(Ow.ownl q1_5 rfl mnil),(Ow.ownl q1_6 rfl mnil),(Ow.ownl q1_7 rfl mnil),(Ow.ownl q1_8 rfl mnil)⟩) ⟨esn,fun _ h=>h.sub [107,102,103,104,105,106,0]⟩ ?_
 rintro ⟨k,b0,b0_A,b0_c,b0_m,b1,b1_A,b1_c,b1_m,b2,b2_A,b2_c,b2_m,b3,b3_A,b3_c,b3_m⟩ ⟨hk,hb,h_b0,h_b1,h_b2,h_b3⟩
 replace hk:k≤d1.toNat:=hk
 replace hb:(b0,b1,b2,b3)=Qc9 d0.2.2.2.2.2.1 (d0.2.2.2.2.2.2.take k):=hb
 replace h_b0:Qz .byte b0_m mnil (.slice b0_A b0.length b0_c) b0:=h_b0
 replace h_b1:Qz .byte b1_m mnil (.slice b1_A b1.length b1_c) b1:=h_b1
 replace h_b2:Qz .byte b2_m mnil (.slice b2_A b2.length b2_c) b2:=h_b2
 replace h_b3:Qz .byte b3_m mnil (.slice b3_A b3.length b3_c) b3:=h_b3
 show VC _ _ _ _ _ [(13,.int .i64 (((k:Nat):Int))),(0,Vp g0),(1,.int .i64 (d1)),(11,.slice q1_A9 ((d1).toNat) (q1_c9)),(12,.int .i64 ((((d1).toNat:Nat):Int)))] [(107,Qo g0 (.cells #[.bool d0.1,.bool d0.2.1,.bool d0.2.2.1,.int .i64 (d0.2.2.2.1),.int .i64 (d0.2.2.2.2.1),.slice b0_A (b0.length) (b0_c),.slice b1_A (b1.length) (b1_c),.slice b2_A (b2.length) (b2_c),.slice b3_A (b3.length) (b3_c),.slice q1_A9 (d0.2.2.2.2.2.2.length) (q1_c9)] q1_E (0,0))),(102,b0_m),(103,b1_m),(104,b2_m),(105,b3_m),(106,q1_n9),(0,Ju (wm W) (m0))]
 have l_b0:b0.length≤b0_c:=by obtain ⟨_,_,he,hl,_⟩:=h_b0.slice;simp only [Value.slice.injEq] at he;omega
 have k_b0:b0_c≤9223372036854775807:=by obtain ⟨_,_,he,_,hl⟩:=h_b0.slice;simp only [Value.slice.injEq,maxLen] at he hl;omega
 have l_b1:b1.length≤b1_c:=by obtain ⟨_,_,he,hl,_⟩:=h_b1.slice;simp only [Value.slice.injEq] at he;omega
 have k_b1:b1_c≤9223372036854775807:=by obtain ⟨_,_,he,_,hl⟩:=h_b1.slice;simp only [Value.slice.injEq,maxLen] at he hl;omega
 have l_b2:b2.length≤b2_c:=by obtain ⟨_,_,he,hl,_⟩:=h_b2.slice;simp only [Value.slice.injEq] at he;omega
 have k_b2:b2_c≤9223372036854775807:=by obtain ⟨_,_,he,_,hl⟩:=h_b2.slice;simp only [Value.slice.injEq,maxLen] at he hl;omega
 have l_b3:b3.length≤b3_c:=by obtain ⟨_,_,he,hl,_⟩:=h_b3.slice;simp only [Value.slice.injEq] at he;omega
 have k_b3:b3_c≤9223372036854775807:=by obtain ⟨_,_,he,_,hl⟩:=h_b3.slice;simp only [Value.slice.injEq,maxLen] at he hl;omega
 refine VC.rs (VO.z (.lss rfl rfl) (VO.k6 0 1 11 12 13 14 (VC.seq ?_)))
 refine VC.cond rfl (fun hc9=>?_) (fun hc9=>?_)
 refine VC.skip (Qg (VC.seq (VC.block (VC.rs ?_))))
 obtain ⟨x10,hx10⟩:∃ z_,((d0.2.2.2.2.2.2).take ((d1).toNat))[k]? =some z_:=⟨_,List.getElem?_eq_getElem QF⟩
 obtain ⟨gg10,oo10,ec10,ea10,hce10,hre10⟩:=(Ow.rd (q1_9.pre (j:=((d1).toNat)) QF) (Qb _)).elem hx10
 cases ea10
 obtain ⟨q10_A2,q10_c2,rfl,q10_0,q10_1,q10_2,q10_3⟩:=Qbl (x0:=x10.1) (x1:=x10.2.1) (x2:=x10.2.2.1) (x3:=x10.2.2.2) hre10
 simp only [inK] at q10_0 q10_1 q10_3
 refine VO.z (.ixI k rfl rfl QgL rfl QF) ?_
 refine VO.z (.ldA 106 rfl QgO rfl hce10) ?_
 refine VO.alloc 112 rfl Qlv (fun g11=>?_)
 refine VO.store (k:=4) (c':=[.int .i64 (x10.1),.int .i64 (x10.2.1),.slice q10_A2 (x10.2.2.1.length) (q10_c2),.int .i64 (x10.2.2.2)]) 112 rfl rfl (.inl QgO) rfl rfl rfl rfl rfl ?_
 refine VO.p8 112 107 102 103 104 105 106 0 (VO.k7 0 1 5 11 12 13 14 ?_)
 refine VC.regD _ 14 [(0,true),(1,true),(2,true),(3,true),(4,true),(5,true),(6,true),(7,true),(8,true),(9,true),(10,true),(12,true),(13,true),(11,false)] follows (by kernel_rfl) (fun _ h=>h.sub [112,107,106,0]) ?_
 refine VD.z rfl (.mv rfl) (VD.z rfl (.fa rfl QeI rfl) (VD.z rfl (.ld1 112 rfl tk3 rfl (Qa rfl rfl)) (VD.z rfl (.mv rfl) (VD.z rfl (.fa rfl QeI rfl) (VD.z rfl (.ld1 112 rfl tk3 rfl (Qa rfl rfl)) (VD.z rfl (.nilp rfl) (VD.z rfl (.fa rfl ZU rfl) ?_)))))))
 rcases (show x10.2.1=(0:Int)∨x10.2.1=(1:Int)∨x10.2.1=(2:Int)∨x10.2.1=(3:Int) from by exact QF) with hi13 | hi13 | hi13 | hi13
 refine VD.z rfl (.ixa (i:=0) (o:=5) rfl rfl X0 hi13 rfl rfl) ?_
 refine VD.z rfl (.ld1 107 rfl QcS rfl (Qa rfl rfl)) (VD.z rfl (.ldA 112 rfl QgO rfl (Qa rfl rfl)) (VD.z rfl (.nilp rfl) (VD.z rfl (.fa rfl ZU rfl) ?_)))
 refine VD.call 102 rfl rfl (.inl rfl) Qfn rfl rfl (fun _ _ h=>h.sub [112,107,106,0]) (fun W hW=>Qdl W (hW.t 102) (Qz.ow h_b0 rfl) (Rd.mono hre10 (hW.o 102 106)) Xu Xv) (fun v14 m14 hv14=>?_)
 obtain ⟨s14_0,rfl,f14_0⟩:=hv14
 obtain ⟨A14_0,c14_0,eq14_0,l14_0,k14_0⟩:=f14_0.slc
 subst eq14_0
 refine VD.nil rfl ?_ rfl
 refine VO.z (.ixa (i:=0) (o:=5) rfl rfl X0 hi13 rfl rfl) ?_
 refine VO.s1 107 QcS ?_
 refine VO.k7 0 1 5 11 12 13 14 (Jh (Qg ?_))
 refine VC.reg ?_
 refine VO.z (.add (c:=((k+1:Nat):Int)) rfl rfl Qp ⟨by exact QF,by exact QF⟩) ?_
 refine VO.mv (VO.k7 0 1 5 11 12 13 14 ?_)
 exact Qg ⟨⟨k+1,QbX b0 x10,A14_0,c14_0,m14,b1,b1_A,b1_c,b1_m,b2,b2_A,b2_c,b2_m,b3,b3_A,b3_c,b3_m⟩,⟨by omega,by first | (have h_:=Je hb (J6 ‹(d0.2.2.2.2.2.2.take d1.toNat)[k]? =some _›);rw [ZK,QhG ‹_=(0:Int)›,Qa4 ‹_=(0:Int)›] at h_;exact h_) | (have h_:=Je hb (J6 ‹(d0.2.2.2.2.2.2.take d1.toNat)[k]? =some _›);rw [ZK,QhF ‹_=(1:Int)›,Qa3 ‹_=(1:Int)›] at h_;exact h_) | (have h_:=Je hb (J6 ‹(d0.2.2.2.2.2.2.take d1.toNat)[k]? =some _›);rw [ZK,QhE ‹_=(2:Int)›,Qa2 ‹_=(2:Int)›] at h_;exact h_) | (have h_:=Je hb (J6 ‹(d0.2.2.2.2.2.2.take d1.toNat)[k]? =some _›);rw [ZK,QhD ‹_=(3:Int)›,Qa1 ‹_=(3:Int)›] at h_;exact h_),(Ow.ownl f14_0 rfl mnil),h_b1,h_b2,h_b3⟩,by exact QF,⟨esn,fun _ h=>Inv.sub h [107,102,103,104,105,106,0]⟩⟩
 refine VD.z rfl (.ixa (i:=1) (o:=6) rfl rfl X0 hi13 rfl rfl) ?_
 refine VD.z rfl (.ld1 107 rfl QcS rfl (Qa rfl rfl)) (VD.z rfl (.ldA 112 rfl QgO rfl (Qa rfl rfl)) (VD.z rfl (.nilp rfl) (VD.z rfl (.fa rfl ZU rfl) ?_)))
 refine VD.call 103 rfl rfl (.inl rfl) Qfn rfl rfl (fun _ _ h=>h.sub [112,107,106,0]) (fun W hW=>Qdl W (hW.t 103) (Qz.ow h_b1 rfl) (Rd.mono hre10 (hW.o 103 106)) Xu Xv) (fun v15 m15 hv15=>?_)
 obtain ⟨s15_0,rfl,f15_0⟩:=hv15
 obtain ⟨A15_0,c15_0,eq15_0,l15_0,k15_0⟩:=f15_0.slc
 subst eq15_0
 refine VD.nil rfl ?_ rfl
 refine VO.z (.ixa (i:=1) (o:=6) rfl rfl X0 hi13 rfl rfl) ?_
 refine VO.s1 107 QcS ?_
 refine VO.k7 0 1 5 11 12 13 14 (Jh (Qg ?_))
 refine VC.reg ?_
 refine VO.z (.add (c:=((k+1:Nat):Int)) rfl rfl Qp ⟨by exact QF,by exact QF⟩) ?_
 refine VO.mv (VO.k7 0 1 5 11 12 13 14 ?_)
 exact Qg ⟨⟨k+1,b0,b0_A,b0_c,b0_m,QbX b1 x10,A15_0,c15_0,m15,b2,b2_A,b2_c,b2_m,b3,b3_A,b3_c,b3_m⟩,⟨by omega,by first | (have h_:=Je hb (J6 ‹(d0.2.2.2.2.2.2.take d1.toNat)[k]? =some _›);rw [ZK,QhG ‹_=(0:Int)›,Qa4 ‹_=(0:Int)›] at h_;exact h_) | (have h_:=Je hb (J6 ‹(d0.2.2.2.2.2.2.take d1.toNat)[k]? =some _›);rw [ZK,QhF ‹_=(1:Int)›,Qa3 ‹_=(1:Int)›] at h_;exact h_) | (have h_:=Je hb (J6 ‹(d0.2.2.2.2.2.2.take d1.toNat)[k]? =some _›);rw [ZK,QhE ‹_=(2:Int)›,Qa2 ‹_=(2:Int)›] at h_;exact h_) | (have h_:=Je hb (J6 ‹(d0.2.2.2.2.2.2.take d1.toNat)[k]? =some _›);rw [ZK,QhD ‹_=(3:Int)›,Qa1 ‹_=(3:Int)›] at h_;exact h_),h_b0,(Ow.ownl f15_0 rfl mnil),h_b2,h_b3⟩,by exact QF,⟨esn,fun _ h=>Inv.sub h [107,102,103,104,105,106,0]⟩⟩
 refine VD.z rfl (.ixa (i:=2) (o:=7) rfl rfl X0 hi13 rfl rfl) ?_
 refine VD.z rfl (.ld1 107 rfl QcS rfl (Qa rfl rfl)) (VD.z rfl (.ldA 112 rfl QgO rfl (Qa rfl rfl)) (VD.z rfl (.nilp rfl) (VD.z rfl (.fa rfl ZU rfl) ?_)))
 refine VD.call 104 rfl rfl (.inl rfl) Qfn rfl rfl (fun _ _ h=>h.sub [112,107,106,0]) (fun W hW=>Qdl W (hW.t 104) (Qz.ow h_b2 rfl) (Rd.mono hre10 (hW.o 104 106)) Xu Xv) (fun v16 m16 hv16=>?_)
 obtain ⟨s16_0,rfl,f16_0⟩:=hv16
 obtain ⟨A16_0,c16_0,eq16_0,l16_0,k16_0⟩:=f16_0.slc
 subst eq16_0
 refine VD.nil rfl ?_ rfl
 refine VO.z (.ixa (i:=2) (o:=7) rfl rfl X0 hi13 rfl rfl) ?_
 refine VO.s1 107 QcS ?_
 refine VO.k7 0 1 5 11 12 13 14 (Jh (Qg ?_))
 refine VC.reg ?_
 refine VO.z (.add (c:=((k+1:Nat):Int)) rfl rfl Qp ⟨by exact QF,by exact QF⟩) ?_
 refine VO.mv (VO.k7 0 1 5 11 12 13 14 ?_)
 exact Qg ⟨⟨k+1,b0,b0_A,b0_c,b0_m,b1,b1_A,b1_c,b1_m,QbX b2 x10,A16_0,c16_0,m16,b3,b3_A,b3_c,b3_m⟩,⟨by omega,by first | (have h_:=Je hb (J6 ‹(d0.2.2.2.2.2.2.take d1.toNat)[k]? =some _›);rw [ZK,QhG ‹_=(0:Int)›,Qa4 ‹_=(0:Int)›] at h_;exact h_) | (have h_:=Je hb (J6 ‹(d0.2.2.2.2.2.2.take d1.toNat)[k]? =some _›);rw [ZK,QhF ‹_=(1:Int)›,Qa3 ‹_=(1:Int)›] at h_;exact h_) | (have h_:=Je hb (J6 ‹(d0.2.2.2.2.2.2.take d1.toNat)[k]? =some _›);rw [ZK,QhE ‹_=(2:Int)›,Qa2 ‹_=(2:Int)›] at h_;exact h_) | (have h_:=Je hb (J6 ‹(d0.2.2.2.2.2.2.take d1.toNat)[k]? =some _›);rw [ZK,QhD ‹_=(3:Int)›,Qa1 ‹_=(3:Int)›] at h_;exact h_),h_b0,h_b1,(Ow.ownl f16_0 rfl mnil),h_b3⟩,by exact QF,⟨esn,fun _ h=>Inv.sub h [107,102,103,104,105,106,0]⟩⟩
 refine VD.z rfl (.ixa (i:=3) (o:=8) rfl rfl X0 hi13 rfl rfl) ?_
 refine VD.z rfl (.ld1 107 rfl QcS rfl (Qa rfl rfl)) (VD.z rfl (.ldA 112 rfl QgO rfl (Qa rfl rfl)) (VD.z rfl (.nilp rfl) (VD.z rfl (.fa rfl ZU rfl) ?_)))
 refine VD.call 105 rfl rfl (.inl rfl) Qfn rfl rfl (fun _ _ h=>h.sub [112,107,106,0]) (fun W hW=>Qdl W (hW.t 105) (Qz.ow h_b3 rfl) (Rd.mono hre10 (hW.o 105 106)) Xu Xv) (fun v17 m17 hv17=>?_)
 obtain ⟨s17_0,rfl,f17_0⟩:=hv17
 obtain ⟨A17_0,c17_0,eq17_0,l17_0,k17_0⟩:=f17_0.slc
 subst eq17_0
 refine VD.nil rfl ?_ rfl
 refine VO.z (.ixa (i:=3) (o:=8) rfl rfl X0 hi13 rfl rfl) ?_
 refine VO.s1 107 QcS ?_
 refine VO.k7 0 1 5 11 12 13 14 (Jh (Qg ?_))
 refine VC.reg ?_
 refine VO.z (.add (c:=((k+1:Nat):Int)) rfl rfl Qp ⟨by exact QF,by exact QF⟩) ?_
 refine VO.mv (VO.k7 0 1 5 11 12 13 14 ?_)
 exact Qg ⟨⟨k+1,b0,b0_A,b0_c,b0_m,b1,b1_A,b1_c,b1_m,b2,b2_A,b2_c,b2_m,QbX b3 x10,A17_0,c17_0,m17⟩,⟨by omega,by first | (have h_:=Je hb (J6 ‹(d0.2.2.2.2.2.2.take d1.toNat)[k]? =some _›);rw [ZK,QhG ‹_=(0:Int)›,Qa4 ‹_=(0:Int)›] at h_;exact h_) | (have h_:=Je hb (J6 ‹(d0.2.2.2.2.2.2.take d1.toNat)[k]? =some _›);rw [ZK,QhF ‹_=(1:Int)›,Qa3 ‹_=(1:Int)›] at h_;exact h_) | (have h_:=Je hb (J6 ‹(d0.2.2.2.2.2.2.take d1.toNat)[k]? =some _›);rw [ZK,QhE ‹_=(2:Int)›,Qa2 ‹_=(2:Int)›] at h_;exact h_) | (have h_:=Je hb (J6 ‹(d0.2.2.2.2.2.2.take d1.toNat)[k]? =some _›);rw [ZK,QhD ‹_=(3:Int)›,Qa1 ‹_=(3:Int)›] at h_;exact h_),h_b0,h_b1,h_b2,(Ow.ownl f17_0 rfl mnil)⟩,by exact QF,⟨esn,fun _ h=>Inv.sub h [107,102,103,104,105,106,0]⟩⟩
 · refine VC.exit (JU (JU (JT (Qg ?_))))
   refine VC.reg ?_
   refine VO.mv (VO.mv (VO.z (.nilp rfl) (VO.z (.fa rfl ZU rfl) (VO.z (.ld1 107 rfl Qp1 rfl (Qa rfl rfl)) (VO.mv ?_)))))
   obtain ⟨A18,hA18,ho18⟩:=q1_9.drop' 4 ((d1).toNat) rfl QF
   refine VO.z (.slLI ((d1).toNat) A18 rfl rfl QgL QF hA18 QF) ?_
   refine VO.z (.nilp rfl) (VO.z (.fa rfl ZU rfl) ?_)
   refine VO.s1 107 Qp1 ?_
   refine VO.p7 107 102 103 104 105 106 0 (VO.k6 0 1 11 12 13 14 ?_)
   refine ⟨_,_,QE (rs:=[]) rfl .nil,fun W_ hI=>Q2 (l:=[Qo g0 (.cells #[.bool d0.1,.bool d0.2.1,.bool d0.2.2.1,.int .i64 (d0.2.2.2.1),.int .i64 (d0.2.2.2.2.1),.slice b0_A (b0.length) (b0_c),.slice b1_A (b1.length) (b1_c),.slice b2_A (b2.length) (b2_c),.slice b3_A (b3.length) (b3_c),.slice A18 (d0.2.2.2.2.2.2.length - ((d1).toNat)) (q1_c9 - ((d1).toNat))] q1_E (0,0)),b0_m,b1_m,b2_m,b3_m,q1_n9]) hI [107,102,103,104,105,106] rfl rfl (Qb _) (fun hS_=>?_)⟩
   dsimp only [Qu]
   have hm0_:(Xp d0 d1.toNat:Qx)=(d0.1,d0.2.1,d0.2.2.1,d0.2.2.2.1,d0.2.2.2.2.1,(b0,b1,b2,b3),d0.2.2.2.2.2.2.drop ((d1).toNat)):=by first | rfl | ((have hk2:k=d1.toNat:=Qp;subst hk2;unfold Xp;rw [← hb]))
   refine ⟨?_,?_⟩
   rotate_left
   · rw [hm0_];exact (ZY _ _ _ _ _ _ _ _ _ _ hS_ (by simp only [inK];(exact QF)) (by simp only [inK];(exact QF)) (Qz.ow h_b0 rfl) (Qz.ow h_b1 rfl) (Qz.ow h_b2 rfl) (Qz.ow h_b3 rfl) ho18)
   all_goals (first | rfl | (simp [*];done))
theorem Qnb:JE Tryz.prog 102=true:=by kernel_rfl
theorem Qrg:JE Tryz.prog 103=true:=by kernel_rfl
theorem Qka:JE Tryz.prog 63=true:=by kernel_rfl
theorem Qpj:JE Tryz.prog 98=true:=by kernel_rfl
theorem fnOk99:JE Tryz.prog 99=true:=by kernel_rfl
theorem ZJ {P:Prop} (h:P:=by first | (rw [Qds (by assumption)] <;> rfl) | (rw [Qdr (by assumption) (by assumption)] <;> rfl) | (rw [Y8 (by assumption) (by assumption),QbC hp hn (by omega) (by assumption)] <;> rfl) | (rw [Y8 (by assumption) (by assumption),Qez hp (by omega)] <;> rfl)):P:=h
set_option maxHeartbeats 1000000 in
theorem Qnn (W:World) {m0:Mem} (hm:mle (m0) (wm W)) {g0:Nat} {d0:Qx} (h0:Ow (.ptr QW) m0 [Vp g0] (g0,d0)) (d1:Int) (h1:inK .i64 d1) {v2:Value} {d2:List UInt8} (h2:Rd (.sl .byte) (Ju (wm W) (m0)) [v2] d2) (e0:okD d0) (e1:wD d0+3*d2.length≤1000000000000):Qc Tryz.prog 84 [Vp g0,.int .i64 d1,v2] W (m0) (fun v m'=>v= .int .i64 ((Q7 d0 d1 d2).2)∧Ow (.ptr QW) m' [Vp g0] (g0,(Q7 d0 d1 d2).1)):=by
 have hok0:=e0;obtain ⟨hg,hfu,hst⟩:=e0
 have h1':=h1;simp only [inK] at h1'
 obtain ⟨A2,c2,rfl,l2,k2⟩:=h2.slc
 refine Qc.ofB (n:=44) hm Tryz.func84 rfl rfl rfl ?_
 refine VC.rs (VO.as (VO.k4 0 1 2 6 (VC.seq (VC.rs (VO.mv ?_)))))
 refine VO.call 1 rfl Qka rfl rfl (fun W hW=>Qdk W (hW.t 1) h0) (fun v1 m1 hv1=>?_)
 obtain ⟨rfl,w1_0⟩:=hv1
 refine VO.as (VO.k5 0 1 2 6 7 (VC.rs (VO.mv (VO.z (.neq rfl rfl) (VO.p2 1 0 (VO.k6 0 1 2 6 7 12 ?_))))))
 refine VC.cond rfl (fun hc2=>?_) (fun hc2=>?_)
 refine VC.rs (VO.mv (VO.as (VO.k6 0 1 2 6 7 12 (VC.ret (QK ?_)))))
 exact ZD 6 1 rfl w1_0 (by first | rfl | exact ZJ) (by first | rfl | exact ZJ)
 refine VC.skip (Qg (VC.seq (VC.rs (VO.mv ?_))))
 refine VO.callN 103 rfl Qpj rfl (fun W hW=>QpH W d1 bdk) (fun v3 m3 hv3=>?_)
 subst hv3
 refine VO.z (.notD rfl) (VO.k7 0 1 2 6 7 12 16 ?_)
 refine VC.cond rfl (fun hc4=>?_) (fun hc4=>?_)
 refine VC.rs (VO.as (VO.k7 0 1 2 6 7 12 16 (VC.ret (QK ?_))))
 exact ZD 6 1 rfl w1_0 (by first | rfl | exact ZJ) (by first | rfl | exact ZJ)
 refine VC.skip (Qg (VC.seq (VC.block ?_)))
 refine VC.loop (G:=Qx × Mem × (List UInt8) × (Option Addr) × Nat × Nat) (fun g=>[(2,.slice (g.2.2.2.1) ((g.2.2.1).length) ((g.2.2.2.2.1))),(0,Vp g0),(1,.int .i64 (d1)),(7,.int .i64 (Jt d0)),(12,.bool (decide (¬ (Jt d0)=0))),(16,.bool (decide (¬ (inF d1))))]) (fun g=>[(1,(g.2.1)),(0,Ju (wm W) (m0))]) (fun g=>(Jq d2.length d0 d1 d2=Jq (g.2.2.2.2.2) (g.1) d1 (g.2.2.1))∧((g.2.2.1).length≤(g.2.2.2.2.2))∧(okD (g.1))∧(wD (g.1)+3*(g.2.2.1).length≤1000000000000)∧(Rd (.sl .byte) (Ju (wm W) (m0)) [.slice (g.2.2.2.1) (g.2.2.1).length (g.2.2.2.2.1)] (g.2.2.1))∧(Ow (.ptr QW) (g.2.1) [Vp g0] (g0,(g.1)))) (fun g=>(g.2.2.1).length) (d0,m1,d2,A2,c2,d2.length) (⟨by rfl,by (dsimp only;omega),by exact hok0,by (dsimp only;omega),h2,w1_0⟩) ⟨esn,fun _ h=>h.sub [1,0]⟩ ?_
 rintro ⟨d,d_m,b,b_A,b_c,n⟩ ⟨hp,hn,hok,hw,h_b,h_d⟩
 replace hp:Jq d2.length d0 d1 d2=Jq n d d1 b:=hp
 replace hn:b.length≤n:=hn
 replace hok:okD d:=hok
 replace hw:wD d+3*b.length≤1000000000000:=hw
 replace h_b:Rd (.sl .byte) (Ju (wm W) (m0)) [.slice b_A b.length b_c] b:=h_b
 replace h_d:Ow (.ptr QW) d_m [Vp g0] (g0,d):=h_d
 show VC _ _ _ _ _ [(2,.slice b_A (b.length) (b_c)),(0,Vp g0),(1,.int .i64 (d1)),(7,.int .i64 (Jt d0)),(12,.bool (decide (¬ (Jt d0)=0))),(16,.bool (decide (¬ (inF d1))))] [(1,d_m),(0,Ju (wm W) (m0))]
 have l_b:b.length≤b_c:=by obtain ⟨_,_,he,hl,_⟩:=h_b.slice;simp only [Value.slice.injEq] at he;omega
 have k_b:b_c≤9223372036854775807:=by obtain ⟨_,_,he,_,hl⟩:=h_b.slice;simp only [Value.slice.injEq,maxLen] at he hl;omega
 refine VC.seq (VC.rs (VO.mv (VO.z (.lenS rfl Jz) (VO.z (.gtr rfl rfl) (VO.k7 0 1 2 7 12 16 19 ?_)))))
 refine VC.cond rfl (fun hc5=>?_) (fun hc5=>?_)
 refine VC.skip (Qg (VC.block (VC.seq (VC.rs (VO.mv ?_)))))
 refine VO.call 1 rfl Qnb rfl rfl (fun W hW=>Qkl W (hW.t 1) h_d Qf bd) (fun v6 m6 hv6=>?_)
 obtain ⟨rfl,w6_0⟩:=hv6
 have hfa8:=(Qd6 (show okD d by assumption))
 have hfa9:=(QqH (QM d).1)
 refine VO.z (.notD rfl) (VO.p2 1 0 (VO.k8 0 1 2 7 12 16 19 22 ?_))
 refine VC.cond rfl (fun hc10=>?_) (fun hc10=>?_)
 refine VC.rs (VO.as (VO.k9 0 1 2 6 7 12 16 19 22 (VC.ret (QK (Jf (QK (Jf (QK ?_))))))))
 exact ZD 6 1 rfl w6_0 (by first | rfl | exact ZJ) (by first | rfl | exact ZJ)
 refine VC.skip (Qg (VC.rs (VO.mv (VO.z (.lenS rfl Jz) (VO.z (.minM rfl rfl) (VO.as (VO.k9 0 1 2 7 8 12 16 19 22 (VC.seq ?_))))))))
 obtain ⟨q11_E,q11_A5,q11_c5,q11_A6,q11_c6,q11_A7,q11_c7,q11_A8,q11_c8,q11_A9,q11_c9,q11_n5,q11_n6,q11_n7,q11_n8,q11_n9,_,q11_S,q11_3,q11_4,q11_5,q11_6,q11_7,q11_8,q11_9⟩:=Q1 w6_0
 simp only [inK] at q11_3 q11_4
 refine VC.inv _ (fun _ h=>h.parts (i:=1) rfl q11_S [117,112,113,114,115,116]) ?_
 refine VC.regD _ 13 [(0,true),(1,true),(2,true),(3,true),(4,true),(5,true),(6,true),(7,true),(8,true),(9,false),(10,true),(11,false),(12,false)] follows (by kernel_rfl) (fun _ h=>h.sub [117,112,113,114,115,0]) ?_
 refine VD.z rfl (.mv rfl) (VD.z rfl (.mv rfl) (VD.z rfl (.nilp rfl) (VD.z rfl (.fa rfl ZU rfl) (VD.z rfl (.ld1 117 rfl Qp1 rfl (Qa rfl rfl)) (VD.z rfl (.mv rfl) (VD.z rfl (.mv rfl) (VD.z rfl (.mv rfl) ?_)))))))
 have hs18:=h_b.pre (j:=((min ((b.length:Nat):Int) 64).toNat)) bd
 refine VD.z rfl (.slHI ((min ((b.length:Nat):Int) 64).toNat) rfl rfl Jz bd bd) ?_
 refine VD.inv _ (fun _ h=>h.nilc 120) ?_
 obtain ⟨mo19,cs19,hM19,hA19,hC19⟩:=(Qz.nil .byte mnil mnil)
 obtain ⟨all19,hS19,hR19⟩:=Rd.srcI (P:=Tryz.prog) (hs18) Tryz.underlying97
 refine VD.app 120 rfl rfl rfl rfl Jz tz5 rfl rfl hM19 hA19 (hS19 _ 0 rfl) hR19.nice bdm bd (by decide) (fun _ _ h=>h.sub [117,112,113,114,115,0]) (fun v19 m19 hN19=>?_)
 have ho19:Qz .byte m19 mnil v19 ((b).take ((min ((b.length:Nat):Int) 64).toNat)):=Qz.more hC19 hN19 (Q8.mono hR19 fun _ _ h=>Rd.flat rfl h _)
 obtain ⟨A19,c19,rfl,l19,k19⟩:=ho19.slc
 refine VD.z rfl (.bst (cs:=[.int .i64 (0),.int .i64 (d1),.slice A19 (((b).take ((min ((b.length:Nat):Int) 64).toNat)).length) (c19),.int .i64 (0)]) rfl QeI Qlv rfl) ?_
 refine VD.bsl (cs:=[.int .i64 (0),.int .i64 (d1),.slice A19 (((b).take ((min ((b.length:Nat):Int) 64).toNat)).length) (c19),.int .i64 (0)]) 122 rfl rfl rfl QgL Qlv rfl rfl (fun _ h=>h.sub [117,112,113,114,115,0]) (fun g21=>?_)
 refine VD.appO (e:=Y7) 116 120 122 rfl rfl rfl rfl QgL Qlv rfl rfl rfl rfl q11_9 (Qh5 _ _ _ _ (Qt.one (Qb _)) bdk bdk (Qz.ow ho19 rfl) bdk) Tryz.underlying99 (Qa rfl rfl) bdm bd (by decide) (fun _ _ h=>h.sub [117,112,113,114,115,0]) (fun v23 m23 ho23=>?_)
 obtain ⟨A23,c23,rfl,l23,k23⟩:=ho23.slc
 refine VD.nil rfl ?_ rfl
 refine VO.z (.nilp rfl) (VO.z (.fa rfl ZU rfl) ?_)
 refine VO.s1 117 Qp1 ?_
 refine VO.clsP 124 [117,112,113,114,115,116] rfl (fun hg24=>(ZY _ _ _ _ _ _ _ _ _ _ hg24 bdk bdk q11_5 q11_6 q11_7 q11_8 ho23)) (fun mc24 ho24=>?_)
 refine VO.k9 0 1 2 7 8 12 16 19 22 (Qg ?_)
 refine VC.reg ?_
 refine VO.mv (VO.mv ?_)
 obtain ⟨A25,hA25,hs25⟩:=h_b.drop 1 ((min ((b.length:Nat):Int) 64).toNat) rfl bd
 refine VO.z (.slLI ((min ((b.length:Nat):Int) 64).toNat) A25 rfl rfl Jz bd hA25 bd) ?_
 refine VO.as (VO.p2 124 0 (VO.k9 0 1 2 7 8 12 16 19 22 (Jh ?_)))
 have hrl26:b.length - ((min ((b.length:Nat):Int) 64).toNat)=(b.drop ((min ((b.length:Nat):Int) 64).toNat)).length:=by simp only [List.length_drop,List.length_take];try omega
 rw [hrl26]
 exact Qg ⟨⟨(((QM d).1).1,((QM d).1).2.1,((QM d).1).2.2.1,((QM d).1).2.2.2.1,((QM d).1).2.2.2.2.1,(((QM d).1).2.2.2.2.2.1),(((QM d).1).2.2.2.2.2.2)++[((0,d1,(b).take ((min ((b.length:Nat):Int) 64).toNat),0):Xz)]),mc24,b.drop ((min ((b.length:Nat):Int) 64).toNat),A25,b_c - ((min ((b.length:Nat):Int) 64).toNat),n - 1⟩,⟨by exact QfQ hp hn Qp (Decidable.not_not.1 ‹¬ ¬ (QM d).2=true›) Qp,by (simp only [List.length_drop];omega),by exact QeP hok (Decidable.not_not.1 ‹¬ ¬ inF d1›) Qp Qp,by exact Nat.le_trans (QlK (f:=d1) (b:=b) (m:=(min ((b.length:Nat):Int) 64).toNat) hok Qp Qp) hw,(Rd.relen hs25 rfl),ho24⟩,by (simp only [List.length_drop];omega),⟨esn,fun _ h=>Inv.sub (Inv.num h 124 1 rfl) [1,0]⟩⟩
 refine VC.exit (JU (JU (JT (Qg (VC.rs (VO.as (VO.p2 1 0 (VO.k8 0 1 2 6 7 12 16 19 (VC.ret ?_)))))))))
 exact ZD 6 1 rfl h_d (by first | rfl | exact ZJ) (by first | rfl | exact ZJ)
theorem QoJ (W:World) {m0:Mem} (hm:mle (m0) (wm W)) {g0:Nat} {d0:Qx} (h0:Ow (.ptr QW) m0 [Vp g0] (g0,d0)) (e0:okD d0) (e1:wD d0≤1000000000000):Qc Tryz.prog 54 [Vp g0] W (m0) (fun v m'=>v= .int .i64 ((Zh d0).2)∧Ow (.ptr QW) m' [Vp g0] (g0,(Zh d0).1)):=by
 refine Qc.ofB (n:=19) hm Tryz.func54 rfl rfl rfl ?_
 refine VC.rs (VO.as (VO.k2 0 2 (VC.seq (VC.rs (VO.mv ?_)))))
 refine VO.call 1 rfl Qka rfl rfl (fun W hW=>Qdk W (hW.t 1) h0) (fun v1 m1 hv1=>?_)
 obtain ⟨rfl,w1_0⟩:=hv1
 refine VO.as (VO.k3 0 2 3 (VC.rs (VO.mv (VO.z (.neq rfl rfl) (VO.p2 1 0 (VO.k4 0 2 3 7 ?_))))))
 refine VC.cond rfl (fun hc2=>?_) (fun hc2=>?_)
 refine VC.rs (VO.mv (VO.as (VO.k4 0 2 3 7 (VC.ret (QK ?_)))))
 exact ZD 2 1 rfl w1_0 (by first | rfl | (first | (rw [Y9 Qf] <;> rfl) | (rw [ZV Qf Qf] <;> rfl) | (rw [YY Qf Qf] <;> rfl))) (by first | rfl | (first | (rw [Y9 Qf] <;> rfl) | (rw [ZV Qf Qf] <;> rfl) | (rw [YY Qf Qf] <;> rfl)))
 refine VC.skip (Qg (VC.seq (VC.rs (VO.mv ?_))))
 refine VO.call 1 rfl Qnb rfl rfl (fun W hW=>Qkl W (hW.t 1) w1_0 Qf bd) (fun v3 m3 hv3=>?_)
 obtain ⟨rfl,w3_0⟩:=hv3
 have hfa4:=(Xx (show okD d0 by assumption))
 have hfa5:=(Qd6 (show okD d0 by assumption))
 have hfa6:=(QqH (QM d0).1)
 refine VO.z (.notD rfl) (VO.k5 0 2 3 7 11 ?_)
 refine VC.cond rfl (fun hc7=>?_) (fun hc7=>?_)
 refine VC.rs (VO.as (VO.k5 0 2 3 7 11 (VC.ret (QK ?_))))
 exact ZD 2 1 rfl w3_0 (by first | rfl | (first | (rw [Y9 Qf] <;> rfl) | (rw [ZV Qf Qf] <;> rfl) | (rw [YY Qf Qf] <;> rfl))) (by first | rfl | (first | (rw [Y9 Qf] <;> rfl) | (rw [ZV Qf Qf] <;> rfl) | (rw [YY Qf Qf] <;> rfl)))
 refine VC.skip (Qg (VC.rs (VO.mv (VO.mv (VO.z (.nilp rfl) (VO.z (.fa rfl ZU rfl) ?_))))))
 obtain ⟨q8_E,q8_A5,q8_c5,q8_A6,q8_c6,q8_A7,q8_c7,q8_A8,q8_c8,q8_A9,q8_c9,q8_n5,q8_n6,q8_n7,q8_n8,q8_n9,_,q8_S,q8_3,q8_4,q8_5,q8_6,q8_7,q8_8,q8_9⟩:=Q1 w3_0
 simp only [inK] at q8_3 q8_4
 refine VO.inv _ (fun _ h=>h.parts (i:=1) rfl q8_S [114,109,110,111,112,113]) ?_
 refine VO.z (.ld1 114 rfl Qp1 rfl (Qa rfl rfl)) (VO.z (.lenS rfl QgL) ?_)
 refine VO.clsP 116 [114,109,110,111,112,113] rfl (fun hg16=>(J5 ((QM d0).1) hg16 bdk bdk q8_5 q8_6 q8_7 q8_8 q8_9)) (fun mc16 ho16=>?_)
 refine VO.call 116 rfl Qrg rfl rfl (fun W hW=>Qk5 W (hW.t 116) ho16 (((((QM d0).1).2.2.2.2.2.2).length:Nat):Int) bdk Qf bd bd) (fun v15 m15 hv15=>?_)
 obtain ⟨rfl,w15_0⟩:=hv15
 refine VO.k5 0 2 3 7 11 (VC.rs (VO.as (VO.p2 116 0 (VO.k5 0 2 3 7 11 (VC.ret ?_)))))
 exact ZD 2 116 rfl w15_0 (by first | rfl | (first | (rw [Y9 Qf] <;> rfl) | (rw [ZV Qf Qf] <;> rfl) | (rw [YY Qf Qf] <;> rfl))) (by first | rfl | (first | (rw [Y9 Qf] <;> rfl) | (rw [ZV Qf Qf] <;> rfl) | (rw [YY Qf Qf] <;> rfl)))
theorem QoK (W:World) {m0:Mem} (hm:mle (m0) (wm W)) {g0:Nat} {d0:Qx} (h0:Ow (.ptr QW) m0 [Vp g0] (g0,d0)) (d1:Int) (h1:inK .i64 d1) (e0:okD d0) (e1:wD d0≤1000000000000):Qc Tryz.prog 51 [Vp g0,.int .i64 d1] W (m0) (fun v m'=>∃ (s0:Value),∃ (p0:Mem),∃ (p1:Mem),v= .tuple #[s0,.int .i64 ((XX d0 d1).2)]∧Qt m' [p0,p1]∧Ow (.sl .byte) p0 [s0] ((XX d0 d1).1)∧Ow (.ptr QW) p1 [Vp g0] (g0,d0)):=by
 have h1':=h1;simp only [inK] at h1'
 refine Qc.ofB (n:=18) hm Tryz.func51 rfl rfl rfl ?_
 refine VC.rs (VO.as (VO.as (VO.k4 0 1 4 5 (VC.seq (VC.rs (VO.mv ?_))))))
 refine VO.call 1 rfl Qka rfl rfl (fun W hW=>Qdk W (hW.t 1) h0) (fun v1 m1 hv1=>?_)
 obtain ⟨rfl,w1_0⟩:=hv1
 refine VO.as (VO.k5 0 1 4 5 6 (VC.rs (VO.mv (VO.z (.neq rfl rfl) (VO.p2 1 0 (VO.k6 0 1 4 5 6 10 ?_))))))
 refine VC.cond rfl (fun hc2=>?_) (fun hc2=>?_)
 ·refine VC.rs (VO.mv (VO.as (VO.as (VO.k6 0 1 4 5 6 10 (VC.ret (QK ?_))))))
  refine QcA 4 5 [1] fun hS_=>?_
  dsimp only [Qu]
  have he0:((XX d0 d1).1:Ty.Den (.sl .byte))=[]:=by first | rfl | (first | rfl | (simp [XX, *];done))
  refine ⟨.slice none (0) (0),Zs [],Zs [m1],?_,?_,?_,?_⟩
  rotate_left
  ·exact Qt.grp (ls:=[[],[m1]]) hS_
  ·rw [he0];exact (Ow.nil _ _)
  ·exact Ow.cgP (Ow.up w1_0 ((Qt.self hS_ (List.Sublist.cons_cons _ List.Sublist.slnil)).1 _ (.head _))) (by first | rfl | (first | rfl | (simp [XX, *];done)))
  all_goals (first | rfl | (first | rfl | (simp [XX, *];done)))
 refine VC.skip (Qg (VC.seq (VC.rs (VO.mv ?_))))
 refine VO.callN 103 rfl Qpj rfl (fun W hW=>QpH W d1 bdk) (fun v3 m3 hv3=>?_)
 subst hv3
 refine VO.z (.notD rfl) (VO.k7 0 1 4 5 6 10 14 ?_)
 refine VC.cond rfl (fun hc4=>?_) (fun hc4=>?_)
 ·refine VC.rs (VO.as (VO.as (VO.k7 0 1 4 5 6 10 14 (VC.ret (QK ?_)))))
  refine QcA 4 5 [1] fun hS_=>?_
  dsimp only [Qu]
  have he0:((XX d0 d1).1:Ty.Den (.sl .byte))=[]:=by first | rfl | (first | rfl | (simp [XX, *];done))
  refine ⟨.slice none (0) (0),Zs [],Zs [m1],?_,?_,?_,?_⟩
  rotate_left
  ·exact Qt.grp (ls:=[[],[m1]]) hS_
  ·rw [he0];exact (Ow.nil _ _)
  ·exact Ow.cgP (Ow.up w1_0 ((Qt.self hS_ (List.Sublist.cons_cons _ List.Sublist.slnil)).1 _ (.head _))) (by first | rfl | (first | rfl | (simp [XX, *];done)))
  all_goals (first | rfl | (first | rfl | (simp [XX, *];done)))
 ·refine VC.skip (Qg (VC.rs (VO.mv (VO.mv ?_))))
  refine VO.call 1 rfl fnOk99 rfl rfl (fun W hW=>QoM W (hW.t 1) w1_0 d1 bdk Qf bd (by first | assumption | (apply Decidable.not_not.1;assumption))) (fun v5 m5 hv5=>?_)
  obtain ⟨s5_0,p5_0,p5_1,rfl,hS5,f5_0,w5_0⟩:=hv5
  refine VO.inv _ (fun _ h=>h.parts (i:=1) rfl hS5 [106,107]) ?_
  obtain ⟨A5_0,c5_0,eq5_0,l5_0,k5_0⟩:=f5_0.slc
  subst eq5_0
  refine VO.as (VO.as (VO.k7 0 1 4 5 6 10 14 (VC.ret ?_)))
  refine QcA 4 5 [106,107] fun hS_=>?_
  dsimp only [Qu]
  refine ⟨.slice A5_0 ((Zr d0.2.2.2.2.2.1 d0.2.2.2.2.2.2 d1).length) (c5_0),Zs [p5_0],Zs [p5_1],?_,?_,?_,?_⟩
  rotate_left
  ·exact Qt.grp (ls:=[[p5_0],[p5_1]]) hS_
  ·exact Ow.cg (Ow.up f5_0 ((Qt.self hS_ (List.Sublist.cons_cons _ (List.Sublist.cons _ List.Sublist.slnil))).1 _ (.head _))) (by first | rfl | (first | rfl | (simp [XX, *];done)))
  ·exact Ow.cgP (Ow.up w5_0 ((Qt.self hS_ (List.Sublist.cons _ (List.Sublist.cons_cons _ List.Sublist.slnil))).1 _ (.head _))) (by first | rfl | (first | rfl | (simp [XX, *];done)))
  all_goals (first | rfl | (first | rfl | (simp [XX, *];done)))
theorem QoN (W:World) {m0:Mem} (hm:mle (m0) (wm W)) {g0:Nat} {d0:Qx} (h0:Ow (.ptr QW) m0 [Vp g0] (g0,d0)) (d1:Int) (h1:inK .i64 d1) (e0:okD d0):Qc Tryz.prog 30 [Vp g0,.int .i64 d1] W (m0) (fun v m'=>v= .int .i64 ((Zi d0 d1).2)∧Ow (.ptr QW) m' [Vp g0] (g0,(Zi d0 d1).1)):=by
 have h1':=h1;simp only [inK] at h1'
 refine Qc.ofB (n:=20) hm Tryz.func30 rfl rfl rfl ?_
 refine VC.rs (VO.as (VO.k3 0 1 4 (VC.seq (VC.rs (VO.mv ?_)))))
 refine VO.call 1 rfl Qka rfl rfl (fun W hW=>Qdk W (hW.t 1) h0) (fun v1 m1 hv1=>?_)
 obtain ⟨rfl,w1_0⟩:=hv1
 refine VO.as (VO.k4 0 1 4 5 (VC.rs (VO.mv (VO.z (.neq rfl rfl) (VO.p2 1 0 (VO.k5 0 1 4 5 9 ?_))))))
 refine VC.cond rfl (fun hc2=>?_) (fun hc2=>?_)
 ·refine VC.rs (VO.mv (VO.as (VO.k5 0 1 4 5 9 (VC.ret (QK ?_)))))
  exact ZD 4 1 rfl w1_0 (by first | rfl | (first | rfl | (simp [Zi, *];done))) (by first | rfl | (first | rfl | (simp [Zi, *];done)))
 refine VC.skip (Qg (VC.seq (VC.rs (VO.mv (VO.z (.lss rfl rfl) (VO.k6 0 1 4 5 9 12 ?_))))))
 refine VC.cond rfl (fun hc3=>?_) (fun hc3=>?_)
 ·refine VC.rs (VO.as (VO.k6 0 1 4 5 9 12 (VC.ret (QK ?_))))
  exact ZD 4 1 rfl w1_0 (by first | rfl | (first | rfl | (simp [Zi, *];done))) (by first | rfl | (first | rfl | (simp [Zi, *];done)))
 ·refine VC.skip (Qg (VC.rs (VO.mv (VO.mv (VO.mv (VO.z (.nilp rfl) (VO.z (.fa rfl ZU rfl) ?_)))))))
  obtain ⟨q4_E,q4_A5,q4_c5,q4_A6,q4_c6,q4_A7,q4_c7,q4_A8,q4_c8,q4_A9,q4_c9,q4_n5,q4_n6,q4_n7,q4_n8,q4_n9,_,q4_S,q4_3,q4_4,q4_5,q4_6,q4_7,q4_8,q4_9⟩:=Q1 w1_0
  simp only [inK] at q4_3 q4_4
  refine VO.inv _ (fun _ h=>h.parts (i:=1) rfl q4_S [110,105,106,107,108,109]) ?_
  refine VO.s1 110 tk4 ?_
  refine VO.z (.nilp rfl) (VO.z (.fa rfl ZU rfl) ?_)
  refine VO.s1 110 tk3 ?_
  refine VO.clsP 111 [110,105,106,107,108,109] rfl (fun hg11=>(ZY _ _ _ _ _ _ _ _ _ _ hg11 bdk bdk q4_5 q4_6 q4_7 q4_8 q4_9)) (fun mc11 ho11=>?_)
  refine VO.k6 0 1 4 5 9 12 (VC.rs (VO.as (VO.p2 111 0 (VO.k6 0 1 4 5 9 12 (VC.ret ?_)))))
  exact ZD 4 111 rfl ho11 (by first | rfl | (first | rfl | (simp [Zi, *];done))) (by first | rfl | (first | rfl | (simp [Zi, *];done)))
theorem dOn_ok (W:World) {m0:Mem} (hm:mle (m0) (wm W)) {g0:Nat} {d0:Qx} (h0:Ow (.ptr QW) m0 [Vp g0] (g0,d0)):Qc Tryz.prog 81 [Vp g0] W (m0) (fun v m'=>v= .bool (decide (d0.1=true∧d0.2.1=false))∧Ow (.ptr QW) m' [Vp g0] (g0,d0)):=by
 refine Qc.ofB (n:=13) hm Tryz.func81 rfl rfl rfl ?_
 refine VC.rs (VO.as (VO.k2 0 2 (VC.rs (VO.mv ?_))))
 refine VO.call 1 rfl QmR rfl rfl (fun W hW=>Qhg W (hW.t 1) h0) (fun v1 m1 hv1=>?_)
 obtain ⟨rfl,w1_0⟩:=hv1
 refine VO.z (.notD rfl) (VO.mv ?_)
 refine VO.dec (t:=6) rfl (fun hc2=>?_) (fun hc2=>?_)
 ·refine VO.w (.mv rfl) (VO.w (.nilp rfl) (VO.w (.fa rfl ZU rfl) ?_))
  obtain ⟨q3_E,q3_A5,q3_c5,q3_A6,q3_c6,q3_A7,q3_c7,q3_A8,q3_c8,q3_A9,q3_c9,q3_n5,q3_n6,q3_n7,q3_n8,q3_n9,_,q3_S,q3_3,q3_4,q3_5,q3_6,q3_7,q3_8,q3_9⟩:=Q1 w1_0
  simp only [inK] at q3_3 q3_4
  refine VO.inv _ (fun _ h=>h.parts (i:=1) rfl q3_S [109,104,105,106,107,108]) ?_
  refine VO.w (.ld1 109 rfl tk4 rfl (Qa rfl rfl)) (VO.w (.not rfl) (VO.z (.pT rfl rfl) (VO.as ?_)))
  refine VO.clsP 110 [109,104,105,106,107,108] rfl (fun hg10=>(J5 d0 hg10 bdk bdk q3_5 q3_6 q3_7 q3_8 q3_9)) (fun mc10 ho10=>?_)
  refine VO.k2 0 2 (VC.ret ?_)
  exact ZD 2 110 rfl ho10 (by first | rfl | (simp [*];done)) (by first | rfl | (cases h1_:d0.1 <;> cases h2_:d0.2.1 <;> simp_all))
 ·refine VO.gN (VO.gN (VO.gN (VO.gN (VO.gN (VO.z (.pF rfl rfl) (VO.as (VO.k2 0 2 (VC.ret ?_))))))))
  exact ZD 2 1 rfl w1_0 (by first | rfl | (simp [*];done)) (by first | rfl | (cases h1_:d0.1 <;> cases h2_:d0.2.1 <;> simp_all))
theorem Qno (W:World) {m0:Mem} (hm:mle (m0) (wm W)) {g0:Nat} {d0:Qx} (h0:Ow (.ptr QW) m0 [Vp g0] (g0,d0)):Qc Tryz.prog 38 [Vp g0] W (m0) (fun v m'=>v= .int .i64 (Qgv d0)∧Ow (.ptr QW) m' [Vp g0] (g0,d0)):=by
 refine Qc.ofB (n:=9) hm Tryz.func38 rfl rfl rfl ?_
 refine VC.rs (VO.as (VO.k2 0 2 (VC.seq (VC.rs (VO.mv ?_)))))
 refine VO.call 1 rfl QmR rfl rfl (fun W hW=>Qhg W (hW.t 1) h0) (fun v1 m1 hv1=>?_)
 obtain ⟨rfl,w1_0⟩:=hv1
 refine VO.k3 0 2 4 ?_
 refine VC.cond rfl (fun hc2=>?_) (fun hc2=>?_)
 ·refine VC.rs (VO.as (VO.p2 1 0 (VO.k3 0 2 4 (VC.ret (QK ?_)))))
  exact ZD 2 1 rfl w1_0 (by first | rfl | (simp [*];done)) (by first | rfl | (first | rfl | (simp [Qgv, *];done)))
 ·refine VC.skip (Qg (VC.rs (VO.mv (VO.z (.nilp rfl) (VO.z (.fa rfl ZU rfl) ?_)))))
  obtain ⟨q3_E,q3_A5,q3_c5,q3_A6,q3_c6,q3_A7,q3_c7,q3_A8,q3_c8,q3_A9,q3_c9,q3_n5,q3_n6,q3_n7,q3_n8,q3_n9,_,q3_S,q3_3,q3_4,q3_5,q3_6,q3_7,q3_8,q3_9⟩:=Q1 w1_0
  simp only [inK] at q3_3 q3_4
  refine VO.inv _ (fun _ h=>h.parts (i:=1) rfl q3_S [109,104,105,106,107,108]) ?_
  refine VO.z (.ld1 109 rfl tk3 rfl (Qa rfl rfl)) (VO.as ?_)
  refine VO.clsP 110 [109,104,105,106,107,108] rfl (fun hg10=>(J5 d0 hg10 bdk bdk q3_5 q3_6 q3_7 q3_8 q3_9)) (fun mc10 ho10=>?_)
  refine VO.p2 110 0 (VO.k3 0 2 4 (VC.ret ?_))
  exact ZD 2 110 rfl ho10 (by first | rfl | (simp [*];done)) (by first | rfl | (first | rfl | (simp [Qgv, *];done)))
abbrev JN : Ty := .pair (.ptr QW) (.pair .bool (.sl YB))
abbrev QaN := (Nat × Qx) × Bool × (List Jv)
theorem YE {m:Mem} {cs:List Value} {x0:Nat × Qx} {x1:Bool} {x2:List Jv} (h:Rd JN m cs (x0,x1,x2)):∃ (A2:Option Addr),∃ (c2:Nat),cs=[(.pointer (some ⟨x0.1,0,none⟩):Value),.bool x1,.slice A2 x2.length c2]∧Rd (.ptr QW) m [.pointer (some ⟨x0.1,0,none⟩)] x0∧Rd (.sl YB) m [.slice A2 x2.length c2] x2:=by
 obtain ⟨p1,q1,rfl,u1,w1⟩:=Rd.pair h
 have z2:=u1
 obtain ⟨rfl,_⟩:=u1
 obtain ⟨p3,q3,rfl,u3,w3⟩:=Rd.pair w1
 obtain rfl:=(show _=_ from u3)
 have z5:=w3
 obtain ⟨A5,c5,rfl,_⟩:=Rd.slice1 w3
 exact ⟨A5,c5,rfl,z2,z5⟩
theorem QgX {m:Mem} {cs:List Value} {x0:Nat × Qx} {x1:Bool} {x2:List Jv} (h:Ow JN m cs (x0,x1,x2)):∃ (A2:Option Addr),∃ (c2:Nat),∃ (n0:Mem),∃ (n2:Mem),cs=[(.pointer (some ⟨x0.1,0,none⟩):Value),.bool x1,.slice A2 x2.length c2]∧Qt m [n0,n2]∧Ow (.ptr QW) n0 [.pointer (some ⟨x0.1,0,none⟩)] x0∧Ow (.sl YB) n2 [.slice A2 x2.length c2] x2:=by
 obtain ⟨p1,q1,ma1,mb1,rfl,dj1,la1,lb1,u1,w1⟩:=Ow.pair h
 have z2:=u1
 obtain ⟨rfl,_⟩:=u1
 obtain ⟨p3,q3,ma3,mb3,rfl,dj3,la3,lb3,u3,w3⟩:=Ow.pair w1
 obtain rfl:=(show _=_ from u3)
 have z5:=w3
 obtain ⟨A5,c5,rfl,_⟩:=Ow.slice1 w3
 exact ⟨A5,c5,_,_,rfl,(Qt.app dj1 la1 lb1 (Qt.one (Qb _)) (Qt.app dj3 la3 lb3 (Qt.nil _) (Qt.one (Qb _)))),z2,z5⟩
theorem Qjc {m:Mem} {n0 n2:Mem} (x0:Nat × Qx) (x1:Bool) (x2:List Jv) (hS:Qt m [n0,n2]) {v0:Value} (h0:Ow (.ptr QW) n0 [v0] x0) {v2:Value} (h2:Ow (.sl YB) n2 [v2] x2):Ow JN m [v0,.bool x1,v2] (x0,x1,x2):=by
 obtain ⟨e1,la1,lb1,Sa1,Sb1⟩:=Qt.cut (l:=[n0]) (r:=[n2]) hS
 obtain ⟨e2,la2,lb2,Sa2,Sb2⟩:=Qt.cut (l:=[]) (r:=[n2]) Sb1
 exact (Ow.mkPair (c1:=[_]) e1 la1 lb1 (h0.up (Sa1.1 _ (.head _))) (Ow.mkPair (c1:=[_]) e2 la2 lb2 (show Ow .bool _ [_] _ from rfl) (h2.up (Sb2.1 _ (.head _)))))
theorem JM {m:Mem} {cs:List Value} {g:Nat} {x0:Nat × Qx} {x1:Bool} {x2:List Jv} (h:Ow (.ptr JN) m cs (g,(x0,x1,x2))):∃ (E:TypeId),∃ (A2:Option Addr),∃ (c2:Nat),∃ (n0:Mem),∃ (n2:Mem),cs=[.pointer (some ⟨g,0,none⟩)]∧Qt m [Qo g (.cells [(.pointer (some ⟨x0.1,0,none⟩):Value),.bool x1,.slice A2 x2.length c2].toArray E (0,0)),n0,n2]∧Ow (.ptr QW) n0 [.pointer (some ⟨x0.1,0,none⟩)] x0∧Ow (.sl YB) n2 [.slice A2 x2.length c2] x2:=by
 obtain ⟨rfl,rc,E,m1,hd,l0,l1,h1⟩:=Ow.opnP h
 obtain ⟨A2,c2,n0,n2,rfl,hS,f0,f2⟩:=QgX h1
 exact ⟨E,A2,c2,n0,n2,rfl,Qt.app hd l0 l1 (Qt.one (Qb _)) hS,f0,f2⟩
theorem J1 {m:Mem} {g:Nat} {E:TypeId} {n0 n2:Mem}{v0:Value}{v2:Value} (x0:Nat × Qx) (x1:Bool) (x2:List Jv) (hS:Qt m [Qo g (.cells [v0,.bool x1,v2].toArray E (0,0)),n0,n2]) (h0:Ow (.ptr QW) n0 [v0] x0) (h2:Ow (.sl YB) n2 [v2] x2):Ow (.ptr JN) m [.pointer (some ⟨g,0,none⟩)] (g,(x0,x1,x2)):=
 Ow.clsP hS fun hS=>Qjc x0 x1 x2 hS h0 h2
abbrev Qix := (Option Nat) × Bool × (List Jv)
theorem Qgo:JE Tryz.prog 21=true:=by kernel_rfl
theorem fnOk51:JE Tryz.prog 51=true:=by kernel_rfl
theorem fnOk52:JE Tryz.prog 52=true:=by kernel_rfl
theorem fnOk54:JE Tryz.prog 54=true:=by kernel_rfl
theorem Qgn:JE Tryz.prog 55=true:=by kernel_rfl
theorem fnOk81:JE Tryz.prog 81=true:=by kernel_rfl
theorem fnOk82:JE Tryz.prog 82=true:=by kernel_rfl
theorem fnOk83:JE Tryz.prog 83=true:=by kernel_rfl
theorem fnOk84:JE Tryz.prog 84=true:=by kernel_rfl
theorem Qpl:JE Tryz.prog 85=true:=by kernel_rfl
theorem Qp2:tk Tryz.prog 44=some none:=by kernel_rfl
theorem QhA:tk Tryz.prog 45=some none:=by kernel_rfl
theorem Qah:tst Tryz.prog 47=some [(0,1),(1,1),(2,1)]:=by kernel_rfl
theorem tz47:tz Tryz.prog 47=some [.pointer none,.bool false,.slice none 0 0]:=by kernel_rfl
theorem QgK (W:World) {l_:List Jv} {br_:Bool} {D_:Qx} {gd_:Nat} {m0:Mem} (hm:mle (m0) (wm W)) {g0:Nat} (h0:Ow (.ptr JN) m0 [Vp g0] (g0,((gd_,D_),br_,l_))):Qc Tryz.prog 55 [Vp g0] W (m0) (fun v m'=>v= .bool (decide (False))∧Ow (.ptr JN) m' [Vp g0] (g0,((gd_,D_),br_,l_))):=by
 refine Qc.ofB (n:=12) hm Tryz.func55 rfl rfl rfl ?_
 refine VC.rs (VO.as (VO.k2 0 2 (VC.rs (VO.mv ?_))))
 refine VO.z (.pnil rfl rfl Tryz.underlying38 rfl) ?_
 refine VO.mv (VO.w (.mv rfl) (VO.w (.nilp rfl) (VO.w (.fa rfl Qah rfl) ?_)))
 obtain ⟨q1_E,q1_A2,q1_c2,q1_n0,q1_n2,_,q1_S,q1_0,q1_2⟩:=JM (x0:=(gd_,D_)) (x1:=br_) (x2:=l_) h0
 dsimp only at q1_0
 refine VO.inv _ (fun _ h=>h.parts (i:=1) rfl q1_S [104,102,103]) ?_
 refine VO.w (.ld1 104 rfl Qp2 rfl (Qa rfl rfl)) ?_
 refine VO.w (.pnil rfl rfl Tryz.underlying44 rfl) ?_
 refine VO.z (.pF rfl rfl) (VO.as ?_)
 refine VO.clsP 105 [104,102,103] rfl (fun hg5=>(J1 _ _ _ hg5 q1_0 q1_2)) (fun mc5 ho5=>?_)
 refine VO.k2 0 2 (VC.ret ?_)
 exact ZD 2 105 rfl ho5 (by first | rfl | (simp [*];done)) (by first | rfl | (simp [*];done))
theorem QeG (W:World) {l_:List Jv} {br_:Bool} {D_:Qx} {gd_:Nat} {m0:Mem} (hm:mle (m0) (wm W)) {g0:Nat} (h0:Ow (.ptr JN) m0 [Vp g0] (g0,((gd_,D_),br_,l_))) (e0:okU l_):Qc Tryz.prog 21 [Vp g0] W (m0) (fun v m'=>v= .int .i64 (Qy l_)∧Ow (.ptr JN) m' [Vp g0] (g0,((gd_,D_),br_,l_))):=by
 have hll:=Za e0
 refine Qc.ofB (n:=26) hm Tryz.func21 rfl rfl rfl ?_
 refine VC.rs (VO.as (VO.k2 0 2 (VC.seq (VC.rs (VO.mv ?_)))))
 refine VO.call 1 rfl Qgn rfl rfl (fun W hW=>QgK W (hW.t 1) h0) (fun v1 m1 hv1=>?_)
 try dsimp only at hv1
 obtain ⟨rfl,w1_0⟩:=hv1
 refine VO.mv ?_
 refine VO.dec (t:=5) rfl (fun hc2=>?_) (fun hc2=>?_)
 exact hc2.elim
 refine VO.w (.mv rfl) (VO.w (.nilp rfl) (VO.w (.fa rfl Qah rfl) ?_))
 obtain ⟨q3_E,q3_A2,q3_c2,q3_n0,q3_n2,_,q3_S,q3_0,q3_2⟩:=JM (x0:=(gd_,D_)) (x1:=br_) (x2:=l_) w1_0
 dsimp only at q3_0
 refine VO.inv _ (fun _ h=>h.parts (i:=1) rfl q3_S [106,104,105]) ?_
 refine VO.w (.ld1 106 rfl QhA rfl (Qa rfl rfl)) (VO.w (.lenS rfl XH) (VO.w (.eql rfl rfl) (VO.z (.pF rfl rfl) ?_)))
 refine VO.clsP 107 [106,104,105] rfl (fun hg7=>(J1 _ _ _ hg7 q3_0 q3_2)) (fun mc7 ho7=>?_)
 refine VO.k3 0 2 12 ?_
 refine VC.cond rfl (fun hc8=>?_) (fun hc8=>?_)
 ·refine VC.rs (VO.as (VO.p2 107 0 (VO.k3 0 2 12 (VC.ret (QK ?_)))))
  exact ZD 2 107 rfl ho7 (by first | rfl | (simp [*];done)) (by first | rfl | (first | exact congrArg (Value.int _) (QdK ‹l_[_]? =some _› Qp).symm | exact congrArg (Value.int _) (Xb Qp).symm | exact congrArg (Value.int _) (Xb (not_not_intro Qf)).symm))
 ·refine VC.skip (Qg (VC.seq ?_))
  obtain ⟨q9_E,q9_A2,q9_c2,q9_n0,q9_n2,_,q9_S,q9_0,q9_2⟩:=JM (x0:=(gd_,D_)) (x1:=br_) (x2:=l_) ho7
  dsimp only at q9_0
  refine VC.inv _ (fun _ h=>h.parts (i:=107) rfl q9_S [112,110,111]) ?_
  refine VC.regD _ 10 [(0,true),(1,true),(2,true),(3,true),(4,true),(5,true),(6,true),(7,true),(8,true),(9,true)] follows (by kernel_rfl) (fun _ h=>h.sub [112,110,111,0]) ?_
  refine VD.z rfl (.mv rfl) (VD.z rfl (.nilp rfl) (VD.z rfl (.fa rfl Qah rfl) (VD.z rfl (.ld1 112 rfl QhA rfl (Qa rfl rfl)) (VD.z rfl (.mv rfl) (VD.z rfl (.nilp rfl) (VD.z rfl (.fa rfl Qah rfl) (VD.z rfl (.ld1 112 rfl QhA rfl (Qa rfl rfl)) (VD.z rfl (.lenS rfl XH) ?_))))))))
  refine VD.z rfl (.sub rfl rfl rfl ⟨bd,bd⟩) ?_
  refine VD.nil rfl ?_ rfl
  obtain ⟨x13,hx13⟩:∃ z_,(l_)[(((l_.length:Nat):Int) - 1).toNat]? =some z_:=⟨_,List.getElem?_eq_getElem bd⟩
  obtain ⟨gg13,oo13,ec13,ea13,hce13,hre13⟩:=(Ow.rd q9_2 (Qb _)).elem hx13
  cases ea13
  obtain ⟨q13_A2,q13_c2,rfl,q13_0,q13_1,q13_2⟩:=ZX (x0:=x13.1) (x1:=x13.2.1) (x2:=x13.2.2) hre13
  simp only [inK] at q13_0 q13_1
  refine VO.z (.ixI ((((l_.length:Nat):Int) - 1).toNat) rfl rfl XH bd bd) ?_
  refine VO.z (.fa rfl J2 rfl) ?_
  refine VO.z (.ld1 111 rfl tk3 rfl (hce13.at1 (j:=1) rfl)) ?_
  refine VO.as ?_
  refine VO.clsP 114 [112,110,111] rfl (fun hg14=>(J1 _ _ _ hg14 q9_0 q9_2)) (fun mc14 ho14=>?_)
  refine VO.p2 114 0 (VO.k3 0 2 12 (Qg (VC.ret ?_)))
  exact ZD 2 114 rfl ho14 (by first | rfl | (simp [*];done)) (by first | rfl | (first | exact congrArg (Value.int _) (QdK ‹l_[_]? =some _› Qp).symm | exact congrArg (Value.int _) (Xb Qp).symm | exact congrArg (Value.int _) (Xb (not_not_intro Qf)).symm))
theorem QfV (W:World) {v0:List Value} {d0:Jv} (h0:Rd YB (wm W) v0 d0) (e0:d0.2.2.length≤3518437208800):Qc Tryz.prog 85 [.agg v0.toArray] W (mnil) (fun v m'=>∃ (s0:List Value),v= .agg s0.toArray∧Ow YB m' s0 (d0)):=by
 obtain ⟨p0_A2,p0_c2,rfl,p0_0,p0_1,p0_2⟩:=ZX (x0:=d0.1) (x1:=d0.2.1) (x2:=d0.2.2) h0
 simp only [inK] at p0_0 p0_1
 refine Qc.ofA (n:=8) Tryz.func85 rfl rfl rfl ?_
 refine VC.rs ?_
 refine VO.box (cs:=[.int .i64 (d0.1),.int .i64 (d0.2.1),.slice p0_A2 (d0.2.2.length) (p0_c2)]) 102 rfl rfl rfl (fun g1=>?_)
 refine VO.alloc 104 rfl QbA (fun g3=>?_)
 refine VO.k3 0 1 2 (VC.rs (VO.z (.fa rfl J2 rfl) (VO.z (.ld1 102 rfl Jw rfl (Qa rfl rfl)) ?_)))
 refine VO.callN 105 rfl Qm4 rfl (fun W hW=>Qkq W (Rd.mono p0_2 (hW.t 0)) bd) (fun v5 m5 hv5=>?_)
 obtain ⟨s5_0,rfl,f5_0⟩:=hv5
 obtain ⟨A5_0,c5_0,eq5_0,l5_0,k5_0⟩:=f5_0.slc
 subst eq5_0
 refine VO.z (.fa rfl J2 rfl) ?_
 refine VO.store (k:=1) (c':=[.int .i64 (d0.1),.int .i64 (d0.2.1),.slice A5_0 (d0.2.2.length) (c5_0)]) 102 rfl rfl (.inr ⟨Jw,rfl⟩) rfl rfl rfl rfl rfl ?_
 refine VO.k3 0 1 2 (VC.rs (VO.z (.ldA 102 rfl XI rfl (Qa rfl rfl)) ?_))
 refine VO.store (k:=3) (c':=[.int .i64 (d0.1),.int .i64 (d0.2.1),.slice A5_0 (d0.2.2.length) (c5_0)]) 104 rfl rfl (.inl XI) rfl rfl rfl rfl rfl ?_
 refine VO.p4 105 104 102 0 (VO.k3 0 1 2 (VC.ret ?_))
 refine ⟨_,_,QE (rs:=[.cell 2 92]) rfl (.agg 104 rfl XI rfl ⟨_,_,_,Qn _ _,Nat.le_of_ble_eq_true rfl,rfl⟩ .nil),fun W_ hI=>Q2 (l:=[m5]) hI [105] rfl rfl (Qb _) (fun hS_=>?_)⟩
 dsimp only [Qu]
 have he0:(d0:Ty.Den YB)=d0:=by first | rfl | (simp [*];done)
 refine ⟨[.int .i64 (d0.1),.int .i64 (d0.2.1),.slice A5_0 (d0.2.2.length) (c5_0)],?_,?_⟩
 rotate_left
 ·rw [he0];exact (show Ow YB _ _ d0 from (Yb d0.1 d0.2.1 d0.2.2 hS_ bdk bdk f5_0))
 all_goals (first | rfl | (simp [*];done))
theorem JD {P:Prop} (h:P:=by first | (rw [Qdh (.inl (by assumption))] <;> first | rfl | done) | (rw [Qdh (.inr (by assumption))] <;> first | rfl | done) | (rw [Qil (by rintro (q_ | q_) <;> first | exact absurd (q_.symm.trans ‹br_=false›) (by decide) | exact q_ (by assumption) | exact absurd q_ (by assumption) | simp_all) (by assumption)] <;> first | rfl | done) | (rw [Qft (by rintro (q_ | q_) <;> first | exact absurd (q_.symm.trans ‹br_=false›) (by decide) | exact q_ (by assumption) | exact absurd q_ (by assumption) | simp_all) (by assumption) (by assumption)] <;> first | rfl | done) | (rw [Qfs (by rintro (q_ | q_) <;> first | exact absurd (q_.symm.trans ‹br_=false›) (by decide) | exact q_ (by assumption) | exact absurd q_ (by assumption) | simp_all) (by assumption) (by assumption) (by assumption)] <;> first | rfl | done) | (rw [Qgq (by rintro (q_ | q_) <;> first | exact absurd (q_.symm.trans ‹br_=false›) (by decide) | exact q_ (by assumption) | exact absurd q_ (by assumption) | simp_all) (by assumption) (by assumption) (by assumption) (by assumption)] <;> first | rfl | done) | (rw [Qgr (by rintro (q_ | q_) <;> first | exact absurd (q_.symm.trans ‹br_=false›) (by decide) | exact q_ (by assumption) | exact absurd q_ (by assumption) | simp_all) (by assumption) (by assumption) (by assumption) (by assumption)] <;> first | rfl | done)):P:=h
theorem J3 {P:Prop} (h:P:=by first | exact bd | (have h_:=JP (QaK ‹¬ ¬ (Qq d1).2=0›).1;omega) | (have h_:=Qki ‹¬ ¬ (Qq d1).2=0›;omega) | (have h_:=write_rng D_ 2 (Jg [] (Qq d1).1).1;omega)):P:=h
set_option maxHeartbeats 4000000 in
theorem Qlu (W:World) {l_:List Jv} {br_:Bool} {D_:Qx} {gd_:Nat} {m0:Mem} (hm:mle (m0) (wm W)) {g0:Nat} (h0:Ow (.ptr JN) m0 [Vp g0] (g0,((gd_,D_),br_,l_))) {v1:List Value} {d1:Jv} (h1:Rd YB (Ju (wm W) (m0)) v1 d1) (e0:okD D_) (e1:wD D_+200000≤1000000000000) (e2:okU l_):Qc Tryz.prog 42 [Vp g0,.agg v1.toArray] W (m0) (fun v m'=>v= .int .i64 ((QJ D_ br_ l_ d1).2)∧Ow (.ptr JN) m' [Vp g0] (g0,((gd_,(QJ D_ br_ l_ d1).1.1),(QJ D_ br_ l_ d1).1.2))):=by
 have hll:=Za e2
 obtain ⟨p1_A2,p1_c2,rfl,p1_0,p1_1,p1_2⟩:=ZX (x0:=d1.1) (x1:=d1.2.1) (x2:=d1.2.2) h1
 simp only [inK] at p1_0 p1_1
 refine Qc.ofB (n:=76) hm Tryz.func42 rfl rfl rfl ?_
 refine VC.rs ?_
 refine VO.box (cs:=[.int .i64 (d1.1),.int .i64 (d1.2.1),.slice p1_A2 (d1.2.2.length) (p1_c2)]) 102 rfl rfl rfl (fun g1=>?_)
 refine VO.as (VO.k4 0 1 3 4 (VC.seq (VC.rs (VO.mv ?_))))
 refine VO.call 1 rfl Qgn rfl rfl (fun W hW=>QgK W (hW.t 1) h0) (fun v3 m3 hv3=>?_)
 try dsimp only at hv3
 obtain ⟨rfl,w3_0⟩:=hv3
 refine VO.k5 0 1 3 4 9 ?_
 refine VC.cond rfl (fun hc4=>?_) (fun hc4=>?_)
 exact hc4.elim
 refine VC.skip (Qg (VC.seq (VC.rs (VO.mv (VO.z (.nilp rfl) (VO.z (.fa rfl Qah rfl) ?_))))))
 obtain ⟨q5_E,q5_A2,q5_c2,q5_n0,q5_n2,_,q5_S,q5_0,q5_2⟩:=JM (x0:=(gd_,D_)) (x1:=br_) (x2:=l_) w3_0
 dsimp only at q5_0
 refine VO.inv _ (fun _ h=>h.parts (i:=1) rfl q5_S [108,106,107]) ?_
 refine VO.z (.ld1 108 rfl tk4 rfl (Qa rfl rfl)) (VO.mv ?_)
 refine VO.decB (t:=14) rfl (fun hc9=>?_) (fun hc9=>?_)
 refine VO.gN (VO.gN (VO.gN (VO.gN (VO.gN (VO.gN (VO.z (.pT rfl rfl) ?_))))))
 refine VO.clsP 110 [108,106,107] rfl (fun hg10=>(J1 _ _ _ hg10 q5_0 q5_2)) (fun mc10 ho10=>?_)
 refine VO.p3 110 102 0 (VO.k6 0 1 3 4 9 21 (VC.condT rfl (VC.rs (VO.mv (VO.z (.nilp rfl) (VO.z (.fa rfl Qah rfl) ?_))))))
 obtain ⟨q11_E,q11_A2,q11_c2,q11_n0,q11_n2,_,q11_S,q11_0,q11_2⟩:=JM (x0:=(gd_,D_)) (x1:=br_) (x2:=l_) ho10
 dsimp only at q11_0
 refine VO.inv _ (fun _ h=>h.parts (i:=110) rfl q11_S [114,112,113]) ?_
 refine VO.store (k:=1) (c':=[Vp gd_,.bool true,.slice q11_A2 (l_.length) (q11_c2)]) 114 rfl rfl (.inr ⟨tk4,rfl⟩) rfl rfl rfl rfl rfl ?_
 refine VO.clsP 115 [114,112,113] rfl (fun hg15=>(J1 _ _ _ hg15 q11_0 q11_2)) (fun mc15 ho15=>?_)
 refine VO.k6 0 1 3 4 9 21 (VC.rs (VO.as (VO.k6 0 1 3 4 9 21 (VC.ret (QK ?_)))))
 exact ZD 4 115 rfl ho15 (by first | rfl | exact JD) (by first | rfl | exact JD)
 refine VO.w (.mv rfl) (VO.w (.nilp rfl) (VO.w (.fa rfl Qah rfl) (VO.w (.ld1 108 rfl Qp2 rfl (Qa rfl rfl)) ?_)))
 refine VO.gcall 106 rfl ⟨_,rfl,rfl⟩ fnOk81 rfl rfl (fun W hW=>dOn_ok W (hW.t 106) q5_0) (fun v16 m16 hv16=>?_)
 obtain ⟨rfl,w16_0⟩:=hv16
 refine VO.w (.notD rfl) (VO.z (.pF rfl rfl) ?_)
 refine VO.clsP 117 [108,106,107] rfl (fun hg17=>(J1 _ _ _ hg17 w16_0 q5_2)) (fun mc17 ho17=>?_)
 refine VO.p3 117 102 0 (VO.k6 0 1 3 4 9 21 ?_)
 refine VC.cond rfl (fun hc18=>?_) (fun hc18=>?_)
 refine VC.rs (VO.mv (VO.z (.nilp rfl) (VO.z (.fa rfl Qah rfl) ?_)))
 obtain ⟨q19_E,q19_A2,q19_c2,q19_n0,q19_n2,_,q19_S,q19_0,q19_2⟩:=JM (x0:=(gd_,D_)) (x1:=br_) (x2:=l_) ho17
 dsimp only at q19_0
 refine VO.inv _ (fun _ h=>h.parts (i:=117) rfl q19_S [122,120,121]) ?_
 refine VO.store (k:=1) (c':=[Vp gd_,.bool true,.slice q19_A2 (l_.length) (q19_c2)]) 122 rfl rfl (.inr ⟨tk4,rfl⟩) rfl rfl rfl rfl rfl ?_
 refine VO.clsP 123 [122,120,121] rfl (fun hg23=>(J1 _ _ _ hg23 q19_0 q19_2)) (fun mc23 ho23=>?_)
 refine VO.k6 0 1 3 4 9 21 (VC.rs (VO.as (VO.k6 0 1 3 4 9 21 (VC.ret (QK ?_)))))
 exact ZD 4 123 rfl ho23 (by first | rfl | exact JD) (by first | rfl | exact JD)
 refine VC.skip (Qg (VC.rs (VO.z (.ldA 102 rfl XI rfl (Qa rfl rfl)) ?_)))
 refine VO.callN 124 rfl fnOk82 rfl (fun W hW=>QhP W (Rd.mono h1 (hW.t 0))) (fun v24 m24 hv24=>?_)
 obtain ⟨s24_0,rfl,f24_0⟩:=hv24
 obtain ⟨A24_0,c24_0,eq24_0,l24_0,k24_0⟩:=f24_0.slc
 subst eq24_0
 refine VO.mv (VO.z (.ext rfl rfl) (VO.z (.ext rfl rfl) (VO.as (VO.as (VO.k8 0 1 3 4 5 6 9 21 (VC.seq (VC.rs (VO.mv (VO.z (.neq rfl rfl) (VO.k9 0 1 3 4 5 6 9 21 31 ?_))))))))))
 refine VC.cond rfl (fun hc26=>?_) (fun hc26=>?_)
 refine VC.rs (VO.mv (VO.as (VO.p4 124 117 102 0 (VO.k9 0 1 3 4 5 6 9 21 31 (VC.ret (QK ?_))))))
 exact ZD 4 117 rfl ho17 (by first | rfl | exact JD) (by first | rfl | exact JD)
 refine VC.skip (Qg (VC.seq (VC.seq ?_)))
 refine VC.regD _ 5 [(0,true),(1,true),(2,true),(3,false),(4,true)] follows (by kernel_rfl) (fun _ h=>h.sub [124,102,0]) ?_
 refine VD.z rfl (.fa rfl J2 rfl) (VD.z rfl (.ld1 102 rfl tk3 rfl (Qa rfl rfl)) (VD.z rfl (.mv rfl) ?_))
 refine VD.call 117 rfl rfl (.inl rfl) Qgo rfl rfl (fun _ _ h=>h.sub [124,102,0]) (fun W hW=>QeG W (hW.t 117) ho17 Qf) (fun v27 m27 hv27=>?_)
 try dsimp only at hv27
 obtain ⟨rfl,w27_0⟩:=hv27
 refine VD.z rfl (.add rfl rfl rfl ⟨by exact J3,by exact J3⟩) ?_
 refine VD.nil rfl ?_ rfl
 refine VO.z (.neq rfl rfl) (VO.p4 117 124 102 0 (VO.k10 0 1 3 4 5 6 9 21 31 38 (Qg ?_)))
 refine VC.cond rfl (fun hc28=>?_) (fun hc28=>?_)
 refine VC.rs (VO.as (VO.k10 0 1 3 4 5 6 9 21 31 38 (VC.ret (QK ?_))))
 exact ZD 4 117 rfl w27_0 (by first | rfl | exact JD) (by first | rfl | exact JD)
 refine VC.skip (Qg (VC.rs (VO.mv ?_)))
 refine VO.callN 129 rfl fnOk83 rfl (fun W hW=>Qk2 W (Rd.nil _ _ none 0 (Nat.zero_le _)) (Ow.rd f24_0 (hW.t 124)) J3) (fun v29 m29 hv29=>?_)
 obtain ⟨s29_0,rfl,f29_0⟩:=hv29
 obtain ⟨A29_0,c29_0,eq29_0,l29_0,k29_0⟩:=f29_0.slc
 subst eq29_0
 refine VO.mv (VO.z (.ext rfl rfl) (VO.z (.ext rfl rfl) (VO.as (VO.as (VO.k11 0 1 3 4 5 6 7 9 21 31 38 (VC.seq (VC.rs (VO.mv (VO.z (.eql rfl rfl) (VO.k12 0 1 3 4 5 6 7 9 21 31 38 45 ?_))))))))))
 refine VC.cond rfl (fun hc32=>?_) (fun hc32=>?_)
 refine VC.reg ?_
 refine VO.mv (VO.z (.nilp rfl) (VO.z (.fa rfl Qah rfl) ?_))
 obtain ⟨q33_E,q33_A2,q33_c2,q33_n0,q33_n2,_,q33_S,q33_0,q33_2⟩:=JM (x0:=(gd_,D_)) (x1:=br_) (x2:=l_) w27_0
 dsimp only at q33_0
 refine VO.inv _ (fun _ h=>h.parts (i:=117) rfl q33_S [136,134,135]) ?_
 refine VO.z (.ld1 136 rfl Qp2 rfl (Qa rfl rfl)) (VO.mv ?_)
 refine VO.call 134 rfl fnOk84 rfl rfl (fun W hW=>Qnn W (hW.t 134) q33_0 2 (by simp only [inK];(exact J3)) (Ow.rd f29_0 (hW.o 134 129)) Qf J3) (fun v37 m37 hv37=>?_)
 obtain ⟨rfl,w37_0⟩:=hv37
 have hfa38:=(Qay (f:=2) (b:=((Jg [] ((Qq d1).1)).1)) (show okD D_ by assumption))
 have hfa39:=(QiD (f:=2) (b:=((Jg [] ((Qq d1).1)).1)) (show okD D_ by assumption))
 refine VO.as ?_
 refine VO.clsP 140 [136,134,135] rfl (fun hg40=>(J1 _ _ _ hg40 w37_0 q33_2)) (fun mc40 ho40=>?_)
 refine VO.p5 140 129 124 102 0 (VO.k12 0 1 3 4 5 6 7 9 21 31 38 45 (Qg (VC.seq (VC.rs (VO.mv (VO.z (.eql rfl rfl) (VO.nil ?_)))))))
 refine VC.cond rfl (fun hc41=>?_) (fun hc41=>?_)
 refine VC.reg ?_
 refine VO.mv (VO.z (.nilp rfl) (VO.z (.fa rfl Qah rfl) ?_))
 obtain ⟨q42_E,q42_A2,q42_c2,q42_n0,q42_n2,_,q42_S,q42_0,q42_2⟩:=JM (x0:=(gd_,(Q7 D_ 2 ((Jg [] ((Qq d1).1)).1)).1)) (x1:=br_) (x2:=l_) ho40
 dsimp only at q42_0
 refine VO.inv _ (fun _ h=>h.parts (i:=140) rfl q42_S [145,143,144]) ?_
 refine VO.z (.ld1 145 rfl Qp2 rfl (Qa rfl rfl)) ?_
 refine VO.call 143 rfl fnOk54 rfl rfl (fun W hW=>QoJ W (hW.t 143) q42_0 Qf J3) (fun v46 m46 hv46=>?_)
 obtain ⟨rfl,w46_0⟩:=hv46
 refine VO.as ?_
 refine VO.clsP 149 [145,143,144] rfl (fun hg49=>(J1 _ _ _ hg49 w46_0 q42_2)) (fun mc49 ho49=>?_)
 refine VO.nil (Qg (VC.seq (VC.rs (VO.mv (VO.z (.neq rfl rfl) (VO.p5 149 129 124 102 0 (VO.nil ?_)))))))
 refine VC.cond rfl (fun hc50=>?_) (fun hc50=>?_)
 refine VC.rs (VO.mv (VO.z (.nilp rfl) (VO.z (.fa rfl Qah rfl) ?_)))
 obtain ⟨q51_E,q51_A2,q51_c2,q51_n0,q51_n2,_,q51_S,q51_0,q51_2⟩:=JM (x0:=(gd_,(Zh ((Q7 D_ 2 ((Jg [] ((Qq d1).1)).1)).1)).1)) (x1:=br_) (x2:=l_) ho49
 dsimp only at q51_0
 refine VO.inv _ (fun _ h=>h.parts (i:=149) rfl q51_S [154,152,153]) ?_
 refine VO.store (k:=1) (c':=[Vp gd_,.bool true,.slice q51_A2 (l_.length) (q51_c2)]) 154 rfl rfl (.inr ⟨tk4,rfl⟩) rfl rfl rfl rfl rfl ?_
 refine VO.clsP 155 [154,152,153] rfl (fun hg55=>(J1 _ _ _ hg55 q51_0 q51_2)) (fun mc55 ho55=>?_)
 refine VO.nil (VC.rs (VO.mv (VO.as (VO.nil (VC.ret (QK ?_))))))
 exact ZD 4 155 rfl ho55 (by first | rfl | exact JD) (by first | rfl | exact JD)
 refine VC.skip (Qg (VC.seq ?_))
 obtain ⟨q56_E,q56_A2,q56_c2,q56_n0,q56_n2,_,q56_S,q56_0,q56_2⟩:=JM (x0:=(gd_,(Zh ((Q7 D_ 2 ((Jg [] ((Qq d1).1)).1)).1)).1)) (x1:=br_) (x2:=l_) ho49
 dsimp only at q56_0
 refine VC.inv _ (fun _ h=>h.parts (i:=149) rfl q56_S [159,157,158]) ?_
 refine VC.regD _ 9 [(0,true),(1,true),(2,true),(3,true),(4,true),(5,true),(6,false),(7,false),(8,false)] follows (by kernel_rfl) (fun _ h=>h.sub [159,157,129,124,102,0]) ?_
 refine VD.z rfl (.mv rfl) (VD.z rfl (.mv rfl) (VD.z rfl (.nilp rfl) (VD.z rfl (.fa rfl Qah rfl) (VD.z rfl (.ld1 159 rfl QhA rfl (Qa rfl rfl)) (VD.z rfl (.ldA 102 rfl XI rfl (Qa rfl rfl)) ?_)))))
 refine VD.callN 160 rfl rfl (.inl rfl) Qpl rfl (fun _ h=>h.sub [159,157,129,124,102,0]) (fun W hW=>QfV W (Rd.mono h1 (hW.t 0)) J3) (fun v60 m60 hv60=>?_)
 obtain ⟨s60_0,rfl,f60_0⟩:=hv60
 obtain ⟨q60_0_A2,q60_0_c2,q60_0_n2,rfl,q60_0_S,q60_0_0,q60_0_1,q60_0_2⟩:=QbQ (x0:=d1.1) (x1:=d1.2.1) (x2:=d1.2.2) f60_0
 simp only [inK] at q60_0_0 q60_0_1
 refine VD.inv _ (fun _ h=>h.parts (i:=160) rfl q60_0_S [161]) ?_
 refine VD.bsl (cs:=[.int .i64 (d1.1),.int .i64 (d1.2.1),.slice q60_0_A2 (d1.2.2.length) (q60_0_c2)]) 163 rfl rfl rfl XH QbA rfl rfl (fun _ h=>h.sub [159,157,129,124,102,0]) (fun g62=>?_)
 refine VD.appO (e:=YB) 158 161 163 rfl rfl rfl rfl XH QbA rfl rfl rfl rfl q56_2 (show Ow YB _ _ d1 from (Yb d1.1 d1.2.1 d1.2.2 (Qt.one (Qb _)) (by simp only [inK];(exact J3)) (by simp only [inK];(exact J3)) q60_0_2)) Tryz.underlying45 (Qa rfl rfl) (by simp only [maxLen];(exact J3)) J3 (by decide) (fun _ _ h=>h.sub [159,157,129,124,102,0]) (fun v64 m64 ho64=>?_)
 obtain ⟨A64,c64,rfl,l64,k64⟩:=ho64.slc
 refine VD.nil rfl ?_ rfl
 refine VO.z (.nilp rfl) (VO.z (.fa rfl Qah rfl) ?_)
 refine VO.store (k:=1) (c':=[Vp gd_,.bool br_,.slice A64 ((l_++[d1]).length) (c64)]) 159 rfl rfl (.inr ⟨QhA,rfl⟩) rfl rfl rfl rfl rfl ?_
 refine VO.clsP 165 [159,157,158] rfl (fun hg65=>(J1 _ _ _ hg65 q56_0 ho64)) (fun mc65 ho65=>?_)
 refine VO.nil (Qg (VC.rs (VO.as (VO.nil (VC.ret ?_)))))
 exact ZD 4 165 rfl ho65 (by first | rfl | exact JD) (by first | rfl | exact JD)
 refine VC.skip (Qg (VC.seq (VC.rs (VO.mv (VO.z (.neq rfl rfl) (VO.nil ?_))))))
 refine VC.condKT rfl (decide_eq_true hc41) ?_
 refine VC.rs (VO.mv (VO.z (.nilp rfl) (VO.z (.fa rfl Qah rfl) ?_)))
 obtain ⟨q66_E,q66_A2,q66_c2,q66_n0,q66_n2,_,q66_S,q66_0,q66_2⟩:=JM (x0:=(gd_,(Q7 D_ 2 ((Jg [] ((Qq d1).1)).1)).1)) (x1:=br_) (x2:=l_) ho40
 dsimp only at q66_0
 refine VO.inv _ (fun _ h=>h.parts (i:=140) rfl q66_S [169,167,168]) ?_
 refine VO.store (k:=1) (c':=[Vp gd_,.bool true,.slice q66_A2 (l_.length) (q66_c2)]) 169 rfl rfl (.inr ⟨tk4,rfl⟩) rfl rfl rfl rfl rfl ?_
 refine VO.clsP 170 [169,167,168] rfl (fun hg70=>(J1 _ _ _ hg70 q66_0 q66_2)) (fun mc70 ho70=>?_)
 refine VO.p5 170 129 124 102 0 (VO.nil (VC.rs (VO.mv (VO.as (VO.nil (VC.ret (QK ?_)))))))
 exact ZD 4 170 rfl ho70 (by first | rfl | exact JD) (by first | rfl | exact JD)
 exact absurd (by rw [QbW Qf]) hc32
def bwE (mf : Mem) (l : List Jv) (a : Int) (args : List Value) (mr : Mem) : Prop := 0 ≤ a ∧ a < l.length ∧ mr = mnil ∧ ∃ x cs, l[a.toNat]? = some x ∧ args = [.int .i64 a, .agg cs.toArray] ∧ Rd YB mf cs x
def bwN (a : Int) : Int := a - 1
def bwD (a : Int) : Prop := a < 0
theorem bw1_ok {l:List Jv} {gc:Nat} {v:Value} {mf:Mem} (hl:Rd (.sl YB) mf [v] l):
  QnD Tryz.prog 129 [Vp gc] mf (Qo gc (.cells [v].toArray 45 (0,0))) (bwE mf l) bwN ((l.length:Int) - 1) bwD:=by
 intro G M I X lp W g0 h0 hm hdj hmf hdf hy
 obtain ⟨A,c,rfl,l0,k0⟩:=hl.slc
 refine Qc.ofX (n:=19) Tryz.func129 rfl rfl rfl hm ?_
 refine VX.parts 1 [1,2] (l:=[M g0,Qo gc (.cells [(.slice A l.length c:Value)].toArray 45 (0,0))]) rfl ⟨fun x hx=>?_,List.pairwise_cons.2 ⟨fun x hx=>?_,List.pairwise_singleton _ _⟩⟩ ?_
 ·simp only [List.mem_cons,List.not_mem_nil,or_false] at hx
  rcases hx with rfl | rfl
  ·exact Js _ _
  ·exact Jn hdj
 ·simp only [List.mem_cons,List.not_mem_nil,or_false] at hx
  subst hx;exact hdj
 refine VX.rs ?_
 refine VO.z (.ld1 2 rfl (by kernel_rfl) rfl (Qa rfl rfl)) ?_
 refine VO.z (.lenS rfl XH) ?_
 refine VO.z (.sub (c:=(l.length:Int) - 1) rfl rfl rfl ⟨by omega,by omega⟩) ?_
 refine VO.as ?_
 refine VO.k3 0 1 3 ?_
 refine VX.block ?_
 refine VX.loop (G:=Int × G) (fun s=>[(0,.func (.yield lp) #[] #[]),(1,Vp gc),(3,.int .i64 s.1)]) (fun s=>[(1,M s.2),(2,Qo gc (.cells [(.slice A l.length c:Value)].toArray 45 (0,0))),(0,Ju (wm W) (mun (M g0) (Qo gc (.cells [(.slice A l.length c:Value)].toArray 45 (0,0)))))]) (fun s=>I s.1 s.2∧ -1≤s.1∧s.1 < l.length) (fun s=>(s.1+1).toNat) ((l.length:Int) - 1,g0) ⟨h0,by dsimp only;omega,by dsimp only;omega⟩ ⟨esn,fun _ h=>h.sub [1,2,0]⟩ ?_
 rintro ⟨a,g⟩ ⟨hI,ha,hal⟩
 dsimp only at hI ha hal
 show VX _ _ _ _ _ _ _ [(0,.func (.yield lp) #[] #[]),(1,Vp gc),(3,.int .i64 a)] [(1,M g),(2,Qo gc (.cells [(.slice A l.length c:Value)].toArray 45 (0,0))),(0,Ju (wm W) (mun (M g0) (Qo gc (.cells [(.slice A l.length c:Value)].toArray 45 (0,0)))))]
 refine VX.seq ?_
 refine VX.rs ?_
 refine VO.mv ?_
 refine VO.z (.geq rfl rfl) ?_
 refine VO.k4 0 1 3 8 ?_
 refine VX.cond rfl (fun hc=>?_) (fun hc=>?_)
 ·refine VX.skip (Qg ?_)
  refine VX.seq (VX.block ?_)
  refine VX.seq ?_
  obtain ⟨x,hx⟩:∃ x,l[a.toNat]? =some x:=⟨_,List.getElem?_eq_getElem Qp⟩
  obtain ⟨gg,oo,ec,ea,hce,hre⟩:=hl.elem hx
  cases ea
  refine VX.regL _ (hix:=?_) (VL.pre (r:=[6,7]) 6 (by kernel_rfl) ?_)
  ·kernel_rfl
  refine VO.mv ?_
  refine VO.mv ?_
  refine VO.z (.ld1 2 rfl (by kernel_rfl) rfl (Qa rfl rfl)) ?_
  refine VO.mv ?_
  refine VO.z (.ixI a.toNat rfl rfl XH Qp Qp) ?_
  refine VO.z (.ldA 0 rfl (by kernel_rfl) rfl (hce.mono (Qbn hmf hdf))) ?_
  refine VO.nil ?_
  refine VL.yield 1 rfl rfl (.inl rfl) rfl rfl rfl (fun W' hW=>by have h_:=hy a g _ mnil W' hI ⟨hc,hal,rfl,x,ec,hx,rfl,hre⟩ ((hW.nilc 9).sub [0,1,9]).three;rw [Yv] at h_;exact h_) (fun v m' hv=>?_)
  obtain ⟨g',rfl,hv⟩:=hv
  rcases hv with ⟨rfl,hI'⟩ | ⟨rfl,hX⟩
  ·refine VL.post 7 rfl (by kernel_rfl) ?_
   refine VO.z (.not rfl) ?_
   refine VO.k4 0 1 3 18 ?_
   refine Qg (VX.condF rfl ?_)
   refine VX.skip (Jh (Qg ?_))
   refine VX.reg ?_
   refine VO.mv ?_
   refine VO.z (.sub (c:=bwN a) rfl rfl rfl ⟨by unfold bwN;omega,by unfold bwN;omega⟩) ?_
   refine VO.as ?_
   refine VO.nil ?_
   refine Qg ⟨rfl,(bwN a,g'),⟨hI',by unfold bwN;dsimp only;omega,by unfold bwN;dsimp only;omega⟩,by unfold bwN;dsimp only;omega,⟨esn,fun _ h=>h.sub [1,2,0]⟩⟩
  ·refine VL.post 7 rfl (by kernel_rfl) ?_
   refine VO.z (.not rfl) ?_
   refine VO.k4 0 1 3 18 ?_
   refine Qg (VX.condT rfl ?_)
   refine VX.ret ?_
   refine Jf (QK (QK (Jf ?_)))
   refine ⟨_,_,QE (rs:=[]) rfl .nil,fun W_ hI_=>Q2 (l:=[M g']) hI_ [1] rfl rfl (Qb _) (fun hS_=>⟨g',Yv _,.inl hX⟩)⟩
 ·refine VX.exit (JU (JU (JT ?_)))
  refine ⟨_,_,QE (rs:=[]) rfl .nil,fun W_ hI_=>Q2 (l:=[M g]) hI_ [1] rfl rfl (Qb _) (fun hS_=>⟨g,Yv _,.inr ⟨a,hI,by unfold bwD;omega⟩⟩)⟩
theorem bw_ok (W:World) {mf:Mem} (hmf:mle mf (wm W)) {v0:Value} {d0:List Jv} (h0:Rd (.sl YB) mf [v0] d0):Qc Tryz.prog 89 [v0] W mnil (fun v m'=>∃ caps,v= .func (.func 129) #[] (List.toArray caps)∧QnD Tryz.prog 129 caps mf m' (bwE mf d0) bwN ((d0.length:Int) - 1) bwD):=by
 obtain ⟨A,c,rfl,_,_⟩:=h0.slice
 refine Qc.ofA (n:=4) Tryz.func89 rfl rfl rfl ?_
 refine VC.rs ?_
 refine VO.box (cs:=[(.slice A d0.length c:Value)]) 101 rfl rfl rfl (fun g1=>?_)
 refine VO.as (VO.k1 1 (VC.rs (VO.z (.mkf rfl) (VO.as (VO.k1 2 (VC.ret ?_))))))
 refine ⟨_,_,QE (rs:=[.tmp 2]) rfl (.tmp rfl .nil),fun W_ hI=>Q2 (l:=[Qo g1 (.cells #[(.slice A d0.length c:Value)] 45 (0,0))]) hI [101] rfl rfl (Qb _) (fun hS_=>⟨[Vp g1],rfl,?_⟩)⟩
 show QnD _ _ _ _ (mun _ mnil) _ _ _ _
 rw [Yv]
 exact bw1_ok h0
end Go.Proofs.YtonbpfncmlijnaaGreat
