/- Part 5 of the proof of LStoreScript: what it needs of the library, the walks and the plain laws. Conditions: those named in each theorem. -/
import Derived.Test.YtonbpfncmlijnaaGreatLStoreScriptM4
set_option linter.unusedVariables false
set_option linter.unusedSimpArgs false
set_option maxRecDepth 4000
namespace Go.Proofs.YtonbpfncmlijnaaGreat
theorem fnOk41:JE Tryz.prog 41=true:=by kernel_rfl
theorem fnOk42:JE Tryz.prog 42=true:=by kernel_rfl
theorem Yt {P:Prop} (h:P:=by first | (rw [XK (.inl (by assumption)),e0];done) | (rw [XK (.inr (by assumption)),e0];done) | (rw [Qbf (by assumption) (by assumption) (by assumption),e0];done) | (rw [Qbg (by assumption) (by assumption) (by assumption) htk (by assumption),e0];done) | (rw [Qcb (by assumption) (by assumption) (by assumption) htk (by assumption) (by assumption),e0];done) | (rw [Qbh (by assumption) (by assumption) (by assumption) htk (by assumption) (by assumption),hw0,hw2,List.take_of_length_le (by omega)];done)):P:=h
theorem Ys {P:Prop} (h:P:=by first | (rw [XK (.inl (by assumption))] <;> rfl) | (rw [XK (.inr (by assumption))] <;> rfl) | (rw [Qbf (by assumption) (by assumption) (by assumption)] <;> rfl) | (rw [Qbg (by assumption) (by assumption) (by assumption) htk (by assumption)] <;> rfl) | (rw [Qcb (by assumption) (by assumption) (by assumption) htk (by assumption) (by assumption)] <;> rfl) | (rw [Qbh (by assumption) (by assumption) (by assumption) htk (by assumption) (by assumption)] <;> rfl)):P:=h
theorem Qv {P:Prop} (h:P:=by first | exact bd | exact Qap e2 _ (List.mem_of_mem_drop (List.mem_of_getElem? ‹(r_.drop _)[_]? =some _›))):P:=h
set_option maxHeartbeats 8000000 in
theorem QhN (W:World) {r_:List Qe} {l_:List Jv} {br_:Bool} {D_:Qx} {gd_:Nat} {gu_:Nat} {T_:QI} {gt_:Nat} {m0:Mem} (hm:mle (m0) (wm W)) {g0:Nat} (h0:Ow (.ptr Qs) m0 [Vp g0] (g0,((gt_,T_),(gu_,((gd_,D_),br_,l_)),r_))) (d1:Int) (h1:inK .i64 d1) (e0:T_=sT r_) (e1:okU l_) (e2:okS l_ r_) (e3:r_.length≤100000) (e4:okD D_) (e5:wD D_+200000≤1000000000000):Qc Tryz.prog 11 [Vp g0,.int .i64 d1] W (m0) (fun v m'=>∃ (gt2:Nat),v= .int .i64 ((QU D_ br_ l_ r_ d1).2)∧Ow (.ptr Qs) m' [Vp g0] (g0,((gt2,(sT (QU D_ br_ l_ r_ d1).1.2)),(gu_,((gd_,(QU D_ br_ l_ r_ d1).1.1.1),(QU D_ br_ l_ r_ d1).1.1.2)),(QU D_ br_ l_ r_ d1).1.2))):=by
 have hll:=Za e1
 have h1':=h1;simp only [inK] at h1'
 refine Qc.ofB (n:=96) hm Tryz.func11 rfl rfl rfl ?_
 refine VC.rs (VO.as (VO.k3 0 1 4 (VC.seq (VC.rs (VO.mv ?_)))))
 refine VO.call 1 rfl Qfl rfl rfl (fun W hW=>Qca W (hW.t 1) h0) (fun v1 m1 hv1=>?_)
 try dsimp only at hv1
 obtain ⟨rfl,w1_0⟩:=hv1
 refine VO.k4 0 1 4 14 ?_
 refine VC.cond rfl (fun hc2=>?_) (fun hc2=>?_)
 exact hc2.elim
 refine VC.skip (Qg (VC.rs (VO.mv (VO.z (.nilp rfl) (VO.z (.fa rfl Qai rfl) ?_)))))
 obtain ⟨q3_E,q3_A2,q3_c2,q3_n0,q3_n1,q3_n2,_,q3_S,q3_0,q3_1,q3_2⟩:=Jl (x0:=(gt_,T_)) (x1:=(gu_,((gd_,D_),br_,l_))) (x2:=r_) w1_0
 dsimp only at q3_0
 dsimp only at q3_1
 refine VO.inv _ (fun _ h=>h.parts (i:=1) rfl q3_S [107,104,105,106]) ?_
 refine VO.z (.ld1 107 rfl Qo3 rfl (Qa rfl rfl)) ?_
 refine VO.call 105 rfl Qgo rfl rfl (fun W hW=>QeG W (hW.t 105) q3_1 Qf) (fun v8 m8 hv8=>?_)
 try dsimp only at hv8
 obtain ⟨rfl,w8_0⟩:=hv8
 refine VO.as ?_
 refine VO.clsP 109 [107,104,105,106] rfl (fun hg9=>(Qd _ _ _ hg9 q3_0 w8_0 q3_2)) (fun mc9 ho9=>?_)
 refine VO.p2 109 0 (VO.k5 0 1 4 5 14 (VC.seq (VC.block (VC.rs (VO.mv (VO.mv (VO.z (.lss rfl rfl) (VO.mv ?_))))))))
 refine VO.dec (t:=24) rfl (fun hc10=>?_) (fun hc10=>?_)
 refine VO.gN (VO.gN (VO.gN (VO.gN (VO.z (.pT rfl rfl) (VO.as (VO.k6 0 1 4 5 14 20 (VC.condT rfl (VC.rs (VO.as (VO.k6 0 1 4 5 14 20 (VC.ret ?_)))))))))))
 refine Jf (QK ?_)
 refine XC 4 [109] fun hS_=>?_
 dsimp only [Qu]
 exact ⟨gt_,(by first | rfl | exact Ys),(Ow.cgP (Ow.up ho9 (hS_.1 _ (.head _))) (by first | rfl | exact Yt))⟩
 refine VO.w (.mv rfl) (VO.w (.mv rfl) ?_)
 refine VO.gcall 109 rfl ⟨_,rfl,rfl⟩ Qke rfl rfl (fun W hW=>QiW W (hW.t 109) ho9 Qf Qv) (fun v11 m11 hv11=>?_)
 try dsimp only at hv11
 obtain ⟨rfl,w11_0⟩:=hv11
 refine VO.w (.gtr rfl rfl) (VO.z (.pF rfl rfl) (VO.as (VO.k6 0 1 4 5 14 20 ?_)))
 refine VC.cond rfl (fun hc12=>?_) (fun hc12=>?_)
 refine VC.rs (VO.as (VO.k6 0 1 4 5 14 20 (VC.ret (Jf (QK ?_)))))
 refine XC 4 [109] fun hS_=>?_
 dsimp only [Qu]
 exact ⟨gt_,(by first | rfl | exact Ys),(Ow.cgP (Ow.up w11_0 (hS_.1 _ (.head _))) (by first | rfl | exact Yt))⟩
 refine VC.rs (VO.mv (VO.mv (VO.z (.eql rfl rfl) (VO.as (VO.k7 0 1 4 5 14 20 30 ?_)))))
 refine VC.cond rfl (fun hc13=>?_) (fun hc13=>?_)
 refine VC.rs (VO.as (VO.p2 109 0 (VO.k7 0 1 4 5 14 20 30 (VC.ret (Jf (QK ?_))))))
 refine XC 4 [109] fun hS_=>?_
 dsimp only [Qu]
 exact ⟨gt_,(by first | rfl | exact Ys),(Ow.cgP (Ow.up w11_0 (hS_.1 _ (.head _))) (by first | rfl | exact Yt))⟩
 refine VC.skip (Jh (Qg (VC.rs ?_)))
 refine VO.callN 114 rfl Qkd rfl (fun W hW=>QgT W) (fun v14 m14 hv14=>?_)
 obtain ⟨s14_0,rfl,f14_0⟩:=hv14
 refine VO.as (VO.p3 114 109 0 (VO.k8 0 1 4 5 6 14 20 30 (VC.seq (VC.rs (VO.mv (VO.z (.nilp rfl) (VO.z (.fa rfl Qai rfl) ?_)))))))
 obtain ⟨q15_E,q15_A2,q15_c2,q15_n0,q15_n1,q15_n2,_,q15_S,q15_0,q15_1,q15_2⟩:=Jl (x0:=(gt_,T_)) (x1:=(gu_,((gd_,D_),br_,l_))) (x2:=r_) w11_0
 dsimp only at q15_0
 dsimp only at q15_1
 have q15_r2:=q15_2.rm
 refine VO.inv _ (fun _ h=>h.parts (i:=109) rfl q15_S [119,116,117,118]) ?_
 refine VO.z (.ld1 119 rfl Qdp rfl (Qa rfl rfl)) (VO.mv (VO.mv ?_))
 refine VO.z (.sub rfl rfl rfl ⟨by exact Qv,by exact Qv⟩) ?_
 have hs20:=(Ow.rd q15_2 (Qb _)).pre (j:=((d1 - (Qy l_)).toNat)) Qv
 refine VO.z (.slHI ((d1 - (Qy l_)).toNat) rfl rfl JS Qv Qv) ?_
 refine VO.z (.lenS rfl JS) (VO.mv (VO.k11 0 1 4 5 6 14 20 30 42 43 44 (VC.block ?_)))
 refine VC.loop (G:=Nat × QI × Mem) (fun g=>[(44,.int .i64 ((((g.1):Nat):Int))),(0,Vp g0),(1,.int .i64 (d1)),(4,.int .i64 (0)),(5,.int .i64 (Qy l_)),(6,Vp s14_0),(14,.bool (decide (False))),(20,.bool (decide ((Qy l_+((r_.length:Nat):Int)) < d1))),(30,.bool (decide (d1=(Qy l_)))),(42,.slice q15_A2 ((d1 - (Qy l_)).toNat) (q15_c2)),(43,.int .i64 ((((d1 - (Qy l_)).toNat:Nat):Int)))]) (fun g=>[(119,Qo g0 (.cells #[Vp gt_,Vp gu_,.slice q15_A2 (r_.length) (q15_c2)] q15_E (0,0))),(116,q15_n0),(117,q15_n1),(118,q15_n2),(114,(g.2.2)),(0,Ju (wm W) (m0))]) (fun g=>((g.1)≤(d1 - Qy l_).toNat)∧((g.2.1)=sT ((r_.take (d1 - Qy l_).toNat).take (g.1)))∧(Ow (.ptr QO) (g.2.2) [Vp s14_0] (s14_0,(g.2.1)))) (fun g=>(d1 - Qy l_).toNat - (g.1)) (0,([]:Xm),m14) (⟨by omega,by rfl,f14_0⟩) ⟨esn,fun _ h=>h.sub [119,116,117,118,114,0]⟩ ?_
 rintro ⟨k,t,t_m⟩ ⟨hk,ht,h_t⟩
 replace hk:k≤(d1 - Qy l_).toNat:=hk
 replace ht:t=sT ((r_.take (d1 - Qy l_).toNat).take k):=ht
 replace h_t:Ow (.ptr QO) t_m [Vp s14_0] (s14_0,t):=h_t
 show VC _ _ _ _ _ [(44,.int .i64 (((k:Nat):Int))),(0,Vp g0),(1,.int .i64 (d1)),(4,.int .i64 (0)),(5,.int .i64 (Qy l_)),(6,Vp s14_0),(14,.bool (decide (False))),(20,.bool (decide ((Qy l_+((r_.length:Nat):Int)) < d1))),(30,.bool (decide (d1=(Qy l_)))),(42,.slice q15_A2 ((d1 - (Qy l_)).toNat) (q15_c2)),(43,.int .i64 ((((d1 - (Qy l_)).toNat:Nat):Int)))] [(119,Qo g0 (.cells #[Vp gt_,Vp gu_,.slice q15_A2 (r_.length) (q15_c2)] q15_E (0,0))),(116,q15_n0),(117,q15_n1),(118,q15_n2),(114,t_m),(0,Ju (wm W) (m0))]
 have hlk:(r_.take (d1 - Qy l_).toNat).length=(d1 - Qy l_).toNat:=by rw [List.length_take];omega
 refine VC.rs (VO.z (.lss rfl rfl) (VO.k12 0 1 4 5 6 14 20 30 42 43 44 45 (VC.seq ?_)))
 refine VC.cond rfl (fun hc21=>?_) (fun hc21=>?_)
 · refine VC.skip (Qg (VC.seq (VC.block (VC.rs ?_))))
   obtain ⟨x22,hx22⟩:∃ z_,((r_).take ((d1 - (Qy l_)).toNat))[k]? =some z_:=⟨_,List.getElem?_eq_getElem Qv⟩
   obtain ⟨gg22,oo22,ec22,ea22,hce22,hre22⟩:=(Ow.rd (q15_2.pre (j:=((d1 - (Qy l_)).toNat)) Qv) (Qb _)).elem hx22
   cases ea22
   obtain ⟨q22_A2,q22_c2,rfl,q22_0,q22_1,q22_2⟩:=Jc (x0:=x22.1) (x1:=x22.2.1) (x2:=x22.2.2) hre22
   simp only [inK] at q22_0 q22_1
   refine VO.z (.ixI k rfl rfl JS rfl Qv) ?_
   refine VO.z (.ldA 118 rfl XN rfl hce22) ?_
   refine VO.alloc 124 rfl Qba (fun g23=>?_)
   refine VO.store (k:=3) (c':=[.int .i64 (x22.1),.int .i64 (x22.2.1),.slice q22_A2 (x22.2.2.length) (q22_c2)]) 124 rfl rfl (.inl XN) rfl rfl rfl rfl rfl ?_
   refine VO.p7 124 119 116 117 118 114 0 (VO.nil ?_)
   refine VC.reg ?_
   refine VO.mv (VO.z (.fa rfl JV rfl) (VO.z (.ld1 124 rfl Jw rfl (Qa rfl rfl)) ?_))
   refine VO.call 114 rfl QmW rfl rfl (fun W hW=>QeN W (hW.t 114) h_t (Rd.mono q22_2 (hW.o 114 118))) (fun v25 m25 hv25=>?_)
   obtain ⟨rfl,w25_0⟩:=hv25
   refine VO.nil (Jh (Qg ?_))
   refine VC.reg ?_
   refine VO.z (.add (c:=((k+1:Nat):Int)) rfl rfl Qp ⟨by exact Qv,by exact Qv⟩) ?_
   refine VO.mv (VO.nil ?_)
   exact Qg ⟨⟨k+1,(Xr t x22.2.2).1,m25⟩,⟨by omega,by (rw [ht];exact (Qqb ‹(r_.take (d1 - Qy l_).toNat)[k]? =some _›).symm),w25_0⟩,by exact Qv,⟨esn,fun _ h=>Inv.sub h [119,116,117,118,114,0]⟩⟩
 refine VC.exit (JU (JU (JT (Qg (VC.seq (VC.rs ?_))))))
 have htk:t=sT (QeS l_ r_ d1):=by (rw [ht,List.take_of_length_le Qp];rfl)
 have htl:=QiT e2 (d1 - Qy l_).toNat;have htl2:t.length≤8*r_.length:=by rw [htk];exact htl
 refine VO.mv ?_
 refine VO.call 114 rfl fnOk41 rfl rfl (fun W hW=>Qp8 W (hW.t 114) h_t) (fun v26 m26 hv26=>?_)
 obtain ⟨rfl,w26_0⟩:=hv26
 refine VO.z (.gtr rfl rfl) (VO.p6 114 119 116 117 118 0 (VO.nil ?_))
 refine VC.cond rfl (fun hc27=>?_) (fun hc27=>?_)
 · refine VC.rs (VO.as (VO.nil (VC.ret (QK ?_))))
   refine XC 4 [119,116,117,118] fun hS_=>?_
   dsimp only [Qu]
   have hm0_:(((gt_,(sT (QU D_ br_ l_ r_ d1).1.2)),(gu_,((gd_,(QU D_ br_ l_ r_ d1).1.1.1),(QU D_ br_ l_ r_ d1).1.1.2)),(QU D_ br_ l_ r_ d1).1.2):QfA)=((gt_,T_),(gu_,((gd_,D_),br_,l_)),r_):=by first | rfl | (exact Yt)
   refine ⟨gt_,?_,?_⟩
   rotate_left
   · rw [hm0_];exact (Qd _ _ _ hS_ q15_0 q15_1 q15_2)
   all_goals (first | rfl | (exact Ys))
 refine VC.skip (Qg (VC.seq (VC.seq ?_)))
 refine VC.regD _ 11 [(0,true),(1,true),(2,true),(3,true),(4,true),(5,true),(6,true),(7,true),(8,false),(9,false),(10,true)] follows (by kernel_rfl) (fun _ h=>h.sub [119,116,117,118,0]) ?_
 refine VD.z rfl (.mv rfl) (VD.z rfl (.nilp rfl) (VD.z rfl (.fa rfl Qai rfl) (VD.z rfl (.ld1 119 rfl Qo3 rfl (Qa rfl rfl)) (VD.z rfl (.mv rfl) ?_))))
 refine VD.z rfl (.add rfl rfl rfl ⟨by exact Qv,by exact Qv⟩) ?_
 refine VD.z rfl (.mv rfl) (VD.z rfl (.mv rfl) ?_)
 refine VD.call 114 rfl rfl (.inl rfl) Zb rfl rfl (fun _ _ h=>h.sub [119,116,117,118,0]) (fun W hW=>JA W (hW.t 114) w26_0 Qv) (fun v28 m28 hv28=>?_)
 obtain ⟨s28_0,p28_0,p28_1,rfl,hS28,f28_0,w28_0⟩:=hv28
 refine VD.inv _ (fun _ h=>h.parts (i:=114) rfl hS28 [129,130]) ?_
 have hfa31:=JO (d:=t)
 refine VD.call 129 rfl rfl (.inl rfl) Jk rfl rfl (fun _ _ h=>h.sub [119,116,117,118,0]) (fun W hW=>QV W (hW.t 129) f28_0 Qv) (fun v32 m32 hv32=>?_)
 obtain ⟨s32_0,rfl,f32_0⟩:=hv32
 obtain ⟨A32_0,c32_0,eq32_0,l32_0,k32_0⟩:=f32_0.slc
 subst eq32_0
 refine VD.z rfl (.bst (cs:=[.int .i64 ((Qy l_)+1),.int .i64 (d1),.slice A32_0 ((tL t).length) (c32_0)]) rfl J2 QbA rfl) ?_
 refine VD.nil rfl ?_ rfl
 refine VO.call 117 rfl fnOk42 rfl rfl (fun W hW=>Qlu W (hW.t 117) q15_1 (Qh4 (m:=Ju (wm W) (q15_n1)) ((Qy l_)+1) d1 (tL t) (by simp only [inK];(exact Qv)) (by simp only [inK];(exact Qv)) (Ow.rd f32_0 (hW.o 117 129))) Qf Qv Qf) (fun v33 m33 hv33=>?_)
 try dsimp only at hv33
 obtain ⟨rfl,w33_0⟩:=hv33
 refine VO.as (VO.nil (Qg (VC.rs (VO.mv (VO.z (.neq rfl rfl) (VO.nil ?_))))))
 refine VC.cond rfl (fun hc37=>?_) (fun hc37=>?_)
 · refine VC.rs (VO.mv (VO.as (VO.p6 117 130 119 116 118 0 (VO.nil (VC.ret (QK ?_))))))
   refine XC 4 [119,116,117,118] fun hS_=>?_
   dsimp only [Qu]
   have hm0_:(((gt_,(sT (QU D_ br_ l_ r_ d1).1.2)),(gu_,((gd_,(QU D_ br_ l_ r_ d1).1.1.1),(QU D_ br_ l_ r_ d1).1.1.2)),(QU D_ br_ l_ r_ d1).1.2):QfA)=((gt_,T_),(gu_,((gd_,(QJ D_ br_ l_ ((Qy l_)+1,d1,(tL t))).1.1),(QJ D_ br_ l_ ((Qy l_)+1,d1,(tL t))).1.2)),r_):=by first | rfl | (exact Yt)
   refine ⟨gt_,?_,?_⟩
   rotate_left
   · rw [hm0_];exact (Qd _ _ _ hS_ q15_0 w33_0 q15_2)
   all_goals (first | rfl | (exact Ys))
 refine VC.skip (Qg (VC.rs (VO.mv (VO.z (.nilp rfl) (VO.z (.fa rfl Qai rfl) (VO.z (.ld1 119 rfl Qdp rfl (Qa rfl rfl)) (VO.mv (VO.mv ?_))))))))
 refine VO.z (.sub rfl rfl rfl ⟨by exact Qv,by exact Qv⟩) ?_
 obtain ⟨A38,hA38,ho38⟩:=q15_2.drop' 3 ((d1 - (Qy l_)).toNat) rfl Qv
 refine VO.z (.slLI ((d1 - (Qy l_)).toNat) A38 rfl rfl JS Qv hA38 Qv) ?_
 refine VO.as (VO.p6 117 130 119 116 118 0 (VO.nil (VC.rs (VO.mv (VO.mv ?_)))))
 refine VO.callN 139 rfl Qkd rfl (fun W hW=>QgT W) (fun v39 m39 hv39=>?_)
 obtain ⟨s39_0,rfl,f39_0⟩:=hv39
 refine VO.z (.nilp rfl) (VO.z (.fa rfl Qai rfl) ?_)
 refine VO.store (k:=1) (c':=[Vp gt_,Vp gu_,.slice none (0) (0)]) 119 rfl rfl (.inr ⟨Qdp,rfl⟩) rfl rfl rfl rfl rfl ?_
 refine VO.z (.nilp rfl) (VO.z (.fa rfl Qai rfl) ?_)
 refine VO.store (k:=1) (c':=[Vp s39_0,Vp gu_,.slice none (0) (0)]) 119 rfl rfl (.inr ⟨tk37,rfl⟩) rfl rfl rfl rfl rfl ?_
 refine VO.nil (VC.seq (VC.rs (VO.mv (VO.z (.lenS rfl JS) (VO.mv (VO.nil (VC.block ?_)))))))
 refine VC.clsP 140 [119,139,117] rfl (fun hg40=>(Qd _ _ _ (Qt.nilAt 3 hg40) f39_0 w33_0 (Ow.nil _ _))) (fun mc40 ho40=>?_)
 refine VC.loop (G:=Nat × QI × (List Qe) × Mem) (fun g=>[(88,.int .i64 ((((g.1):Nat):Int))),(0,Vp g0),(1,.int .i64 (d1)),(4,.int .i64 (0)),(5,.int .i64 (Qy l_)),(6,Vp s14_0),(9,.int .i64 ((QJ D_ br_ l_ ((Qy l_)+1,d1,(tL t))).2)),(10,.slice A38 (r_.length - ((d1 - (Qy l_)).toNat)) (q15_c2 - ((d1 - (Qy l_)).toNat))),(14,.bool (decide (False))),(20,.bool (decide ((Qy l_+((r_.length:Nat):Int)) < d1))),(30,.bool (decide (d1=(Qy l_)))),(42,.slice q15_A2 ((d1 - (Qy l_)).toNat) (q15_c2)),(43,.int .i64 ((((d1 - (Qy l_)).toNat:Nat):Int))),(44,.int .i64 (((k:Nat):Int))),(45,.bool (decide (((k:Nat):Int) < (((d1 - (Qy l_)).toNat:Nat):Int)))),(55,.bool (decide (1024 < ((t.length:Nat):Int)))),(69,.bool (decide (¬ ((QJ D_ br_ l_ ((Qy l_)+1,d1,(tL t))).2)=0))),(86,.slice A38 (r_.length - ((d1 - (Qy l_)).toNat)) (q15_c2 - ((d1 - (Qy l_)).toNat))),(87,.int .i64 (((r_.length - ((d1 - (Qy l_)).toNat):Nat):Int)))]) (fun g=>[(140,(g.2.2.2)),(130,p28_1),(116,q15_n0),(118,q15_n2),(0,Ju (wm W) (m0))]) (fun g=>((g.1)≤r_.length - (d1 - Qy l_).toNat)∧((g.2.2.1)=(r_.drop (d1 - Qy l_).toNat).take (g.1))∧((g.2.1)=sT (g.2.2.1))∧(Ow (.ptr Qs) (g.2.2.2) [Vp g0] (g0,((s39_0,(g.2.1)),(gu_,((gd_,(QJ D_ br_ l_ ((Qy l_)+1,d1,(tL t))).1.1),(QJ D_ br_ l_ ((Qy l_)+1,d1,(tL t))).1.2)),(g.2.2.1))))) (fun g=>r_.length - (d1 - Qy l_).toNat - (g.1)) (0,([]:Xm),[],mc40) (⟨by omega,by rfl,by rfl,ho40⟩) ⟨esn,fun _ h=>h.sub [140,130,116,118,0]⟩ ?_
 rintro ⟨j,w_0,w_2,w_m⟩ ⟨hj,hw2,hw0,h_w⟩
 replace hj:j≤r_.length - (d1 - Qy l_).toNat:=hj
 replace hw2:w_2=(r_.drop (d1 - Qy l_).toNat).take j:=hw2
 replace hw0:w_0=sT w_2:=hw0
 replace h_w:Ow (.ptr Qs) w_m [Vp g0] (g0,((s39_0,w_0),(gu_,((gd_,(QJ D_ br_ l_ ((Qy l_)+1,d1,(tL t))).1.1),(QJ D_ br_ l_ ((Qy l_)+1,d1,(tL t))).1.2)),w_2)):=h_w
 show VC _ _ _ _ _ [(88,.int .i64 (((j:Nat):Int))),(0,Vp g0),(1,.int .i64 (d1)),(4,.int .i64 (0)),(5,.int .i64 (Qy l_)),(6,Vp s14_0),(9,.int .i64 ((QJ D_ br_ l_ ((Qy l_)+1,d1,(tL t))).2)),(10,.slice A38 (r_.length - ((d1 - (Qy l_)).toNat)) (q15_c2 - ((d1 - (Qy l_)).toNat))),(14,.bool (decide (False))),(20,.bool (decide ((Qy l_+((r_.length:Nat):Int)) < d1))),(30,.bool (decide (d1=(Qy l_)))),(42,.slice q15_A2 ((d1 - (Qy l_)).toNat) (q15_c2)),(43,.int .i64 ((((d1 - (Qy l_)).toNat:Nat):Int))),(44,.int .i64 (((k:Nat):Int))),(45,.bool (decide (((k:Nat):Int) < (((d1 - (Qy l_)).toNat:Nat):Int)))),(55,.bool (decide (1024 < ((t.length:Nat):Int)))),(69,.bool (decide (¬ ((QJ D_ br_ l_ ((Qy l_)+1,d1,(tL t))).2)=0))),(86,.slice A38 (r_.length - ((d1 - (Qy l_)).toNat)) (q15_c2 - ((d1 - (Qy l_)).toNat))),(87,.int .i64 (((r_.length - ((d1 - (Qy l_)).toNat):Nat):Int)))] [(140,w_m),(130,p28_1),(116,q15_n0),(118,q15_n2),(0,Ju (wm W) (m0))]
 have hld:(r_.drop (d1 - Qy l_).toNat).length=r_.length - (d1 - Qy l_).toNat:=List.length_drop
 have hlw:w_2.length≤j:=by rw [hw2,List.length_take];omega
 refine VC.rs (VO.z (.lss rfl rfl) (VO.p5 140 130 116 118 0 (VO.nil (VC.seq ?_))))
 refine VC.cond rfl (fun hc41=>?_) (fun hc41=>?_)
 · refine VC.skip (Qg (VC.seq (VC.block (VC.rs ?_))))
   obtain ⟨x42,hx42⟩:∃ z_,(r_.drop ((d1 - (Qy l_)).toNat))[j]? =some z_:=⟨_,List.getElem?_eq_getElem Qv⟩
   obtain ⟨gg42,oo42,ec42,ea42,hce42,hre42⟩:=(Ow.rd ho38 (Qb _)).elem hx42
   cases ea42
   obtain ⟨q42_A2,q42_c2,rfl,q42_0,q42_1,q42_2⟩:=Jc (x0:=x42.1) (x1:=x42.2.1) (x2:=x42.2.2) hre42
   simp only [inK] at q42_0 q42_1
   refine VO.z (.ixI j rfl rfl JS rfl Qv) ?_
   refine VO.z (.ldA 118 rfl XN rfl hce42) ?_
   refine VO.alloc 144 rfl Qba (fun g43=>?_)
   refine VO.store (k:=3) (c':=[.int .i64 (x42.1),.int .i64 (x42.2.1),.slice q42_A2 (x42.2.2.length) (q42_c2)]) 144 rfl rfl (.inl XN) rfl rfl rfl rfl rfl ?_
   refine VO.nil ?_
   refine VC.reg ?_
   refine VO.mv (VO.z (.ldA 144 rfl XN rfl (Qa rfl rfl)) ?_)
   refine VO.call 140 rfl Qkc rfl rfl (fun W hW=>Qei W (hW.t 140) h_w (Rd.mono hre42 (hW.o 140 118)) (by first | assumption | rfl) Qv Qv) (fun v45 m45 hv45=>?_)
   try dsimp only at hv45
   obtain ⟨rfl,w45_0⟩:=hv45
   refine VO.nil (Jh (Qg ?_))
   refine VC.reg ?_
   refine VO.z (.add (c:=((j+1:Nat):Int)) rfl rfl Qp ⟨by exact Qv,by exact Qv⟩) ?_
   refine VO.mv (VO.p6 140 144 130 116 118 0 (VO.nil ?_))
   exact Qg ⟨⟨j+1,(sT (w_2++[x42])),w_2++[x42],m45⟩,⟨by omega,by (rw [hw2];exact (Zc ‹(r_.drop (d1 - Qy l_).toNat)[j]? =some _›).symm),by rfl,w45_0⟩,by exact Qv,⟨esn,fun _ h=>Inv.sub h [140,130,116,118,0]⟩⟩
 refine VC.exit (JU (JU (JT (Qg (VC.rs (VO.as (VO.nil (VC.ret ?_))))))))
 refine XC 4 [140] fun hS_=>?_
 dsimp only [Qu]
 exact ⟨s39_0,(by first | rfl | exact Ys),(Ow.cgP (Ow.up h_w (hS_.1 _ (.head _))) (by first | rfl | exact Yt))⟩
theorem ru0:QpX Qe9=(Qe9,0):=by decide+kernel
theorem ru0l:(Qea (XX Qe9 2).1).1=[]:=by decide+kernel
def smC1 : Qe := (1, 1, [(true, [97], [49])])
def QlN : Qe := (1, 2, [(false, [97], []), (true, [98], [50])])
def QpF : List Qe := [smC1, QlN]
def QfF : Jv := (1, 1, [(true, [97], [49])])
def Qn5 : Jv := (2, 2, [(false, [97], []), (true, [98], [50])])
theorem smU1:Ya [((true,[97],[49]):DOp)]:=⟨fun o ho=>by rw [List.mem_singleton.1 ho];rfl,List.pairwise_singleton _ _⟩
theorem smT1:tL (sT [smC1])=[(true,[97],[49])]:=(QiJ (L:=[(true,[97],[49])]) (by decide) ⟨smU1,fun q=>by
 show YH [([97],([49],true))] q=_
 unfold YH ZH
 by_cases h1:([97]:List UInt8)=q
 ·subst h1;rfl
 ·simp [h1]⟩).1
theorem smT2:tL (sT [QlN])=[(false,[97],[]),(true,[98],[50])]:=Qnj
theorem smT3:tL (sT QpF)=[(false,[97],[]),(true,[98],[50])]:=Qnj
def Qn8 : QS := (QJ Qe9 false [] QfF).1.1
def smD2 : QS := (QJ Qn8 false [QfF] Qn5).1.1
theorem smK1:Kz Qn8 [QfF]:=(Qg7 Qpf (x:=QfF) (by decide) (by decide)).2.1
theorem smK2:Kz smD2 [QfF,Qn5]:=(Qg7 smK1 (x:=Qn5) (by decide) (by decide)).2.1
theorem smU (d:QS) (u:List Jv) (x:Jv) (h:Kz d u) (hc:QP x=0) (hx:x.1=Qy u+1):QJ d false u x=(((QJ d false u x).1.1,false,u++[x]),0):=by
 obtain ⟨h1,h2,h3⟩:=Qg7 h hc hx
 exact Prod.ext (Prod.ext rfl h3) h1
theorem Qcy:QU Qe9 false [] QpF 1=(((Qn8,false,[QfF]),[QlN]),0):=by
 have e:QgU [] QpF 1=QfF:=by show ((1,1,tL (sT [smC1])):Jv)=_;rw [smT1];rfl
 have h:=smU Qe9 [] QfF Qpf (by decide) (by decide)
 unfold QU
 rw [if_neg (by decide),if_neg (by decide),if_neg (by decide),e,h,if_neg (by decide)];rfl
theorem Qcz:QU Qn8 false [QfF] [QlN] 0=(((Qn8,false,[QfF]),[QlN]),2):=by unfold QU;rw [if_pos (by decide)]
theorem Qcw:QU Qn8 false [QfF] [QlN] 3=(((Qn8,false,[QfF]),[QlN]),2):=by unfold QU;rw [if_pos (by decide)]
theorem Qcx:QU Qn8 false [QfF] [QlN] 2=(((smD2,false,[QfF,Qn5]),[]),0):=by
 have e:QgU [QfF] [QlN] 2=Qn5:=by show ((2,2,tL (sT [QlN])):Jv)=_;rw [smT2];rfl
 have h:=smU Qn8 [QfF] Qn5 smK1 (by decide) (by decide)
 unfold QU
 rw [if_neg (by decide),if_neg (by decide),if_neg (by decide),e,h,if_neg (by decide)];rfl
theorem Qcv:QU smD2 false [QfF,Qn5] [] 2=(((smD2,false,[QfF,Qn5]),[]),0):=by unfold QU;rw [if_neg (by decide),if_pos (by decide)]
theorem Qn7:okU [QfF]:=smK1.2.2.1
theorem Qn6:okU [QfF,Qn5]:=smK2.2.2.1
theorem smL:(XJ [] QpF).filter (·.1)=[(true,[98],[50])]:=by
 have h0:tL (Zm [])=[]:=tl_nil
 unfold XJ;rw [smT3,h0];decide
theorem Qcu:QjJ [] QpF [97]=([],false):=by decide
theorem Qct:QjJ [] QpF [98]=([50],true):=by decide
theorem Qcs:QjJ [QfF] [QlN] [97]=([],false):=by decide
theorem Qm2:JE Tryz.prog 14=true:=by kernel_rfl
theorem Qpy:JE Tryz.prog 18=true:=by kernel_rfl
theorem Qpx:JE Tryz.prog 19=true:=by kernel_rfl
theorem Qhx (W:World) {m0:Mem} (hm:mle (m0) (wm W)) {g0:Nat} {d0:Qx} (h0:Ow (.ptr QW) m0 [Vp g0] (g0,d0)) (e0:d0=Qe9):Qc Tryz.prog 19 [Vp g0] W (m0) (fun v m'=>∃ (s0:Nat),v= .tuple #[Vp s0,.int .i64 (0)]∧Ow (.ptr JN) m' [Vp s0] (s0,((g0,Qe9),false,([]:List Jv)))):=by
 have hdw:wD d0+3000≤1000000000000:=by rw [e0];decide
 have hdo:okD d0:=by rw [e0];exact QdG
 refine Qc.ofB (n:=42) hm Tryz.func19 rfl rfl rfl ?_
 refine VC.rs (VO.as (VO.as (VO.k3 0 2 3 (VC.rs (VO.mv ?_)))))
 refine VO.call 1 rfl fnOk51 rfl rfl (fun W hW=>QoK W (hW.t 1) h0 2 bdk Qf bd) (fun v1 m1 hv1=>?_)
 obtain ⟨s1_0,p1_0,p1_1,rfl,hS1,f1_0,w1_0⟩:=hv1
 refine VO.inv _ (fun _ h=>h.parts (i:=1) rfl hS1 [102,103]) ?_
 have hfa4:=(Qma d0 2)
 obtain ⟨A1_0,c1_0,eq1_0,l1_0,k1_0⟩:=f1_0.slc
 subst eq1_0
 refine VO.mv (VO.z (.ext rfl rfl) (VO.z (.ext rfl rfl) (VO.as (VO.as (VO.k5 0 2 3 4 5 (VC.seq (VC.rs (VO.mv (VO.z (.neq rfl rfl) (VO.p3 102 103 0 (VO.k6 0 2 3 4 5 16 ?_)))))))))))
 refine VC.cond rfl (fun hc5=>?_) (fun hc5=>?_)
 exact absurd (by rw [e0];decide) hc5
 refine VC.skip (Qg (VC.rs (VO.mv ?_)))
 refine VO.callN 106 rfl fnOk52 rfl (fun W hW=>QnT W (Ow.rd f1_0 (hW.t 102)) bd) (fun v6 m6 hv6=>?_)
 obtain ⟨s6_0,rfl,f6_0⟩:=hv6
 have hfa7:=QeV ((XX d0 2).1)
 obtain ⟨A6_0,c6_0,eq6_0,l6_0,k6_0⟩:=f6_0.slc
 subst eq6_0
 refine VO.mv (VO.z (.ext rfl rfl) (VO.z (.ext rfl rfl) (VO.as (VO.as (VO.k8 0 2 3 4 5 6 7 16 (VC.seq (VC.rs (VO.mv (VO.mv (VO.z (.lenS rfl Jz) (VO.z (.lss rfl rfl) ?_)))))))))))
 refine VO.k9 0 2 3 4 5 6 7 16 26 ?_
 refine VC.cond rfl (fun hc8=>?_) (fun hc8=>?_)
 subst e0;exact absurd hc8 (by decide+kernel)
 ·refine VC.skip (Qg (VC.rs (VO.mv (VO.mv ?_))))
  refine VO.z (.bst (cs:=[Vp g0,.bool false,.slice A6_0 (((Qea ((XX d0 2).1)).1).length) (c6_0)]) rfl Qah tz47 rfl) ?_
  refine VO.box (cs:=[Vp g0,.bool false,.slice A6_0 (((Qea ((XX d0 2).1)).1).length) (c6_0)]) 110 rfl rfl rfl (fun g9=>?_)
  refine VO.as (VO.as (VO.p5 110 106 102 103 0 (VO.k9 0 2 3 4 5 6 7 16 26 (VC.ret ?_))))
  refine QcA 2 3 [110,103,106] fun hS_=>?_
  dsimp only [Qu]
  have he0:(((g0,Qe9),false,([]:List Jv)):QaN)=((g0,d0),false,(Qea ((XX d0 2).1)).1):=by first | rfl | (first | (rw [e0,ru0l];done) | (subst e0;rw [ru0l];done))
  refine ⟨g9,?_,?_⟩
  rotate_left
  ·rw [he0];exact (J1 _ _ _ hS_ w1_0 f6_0)
  all_goals (first | rfl | (simp [*];done))
theorem Qow (W:World) {v0:Value} {d0:List Qe} (h0:Rd (.sl QA) (wm W) [v0] d0) (e0:(Qi 1 0 d0).1=0) (e1:d0.length≤1000000):Qc Tryz.prog 9 [v0] W (mnil) (fun v m'=>∃ (s0:Nat),∃ (gt2:Nat),∃ (gu2:Nat),∃ (gd2:Nat),v= .tuple #[Vp s0,.int .i64 (0)]∧Ow (.ptr Qs) m' [Vp s0] (s0,((gt2,(sT d0)),(gu2,((gd2,Qe9),false,([]:List Jv))),d0))):=by
 obtain ⟨A0,c0,rfl,l0,k0⟩:=h0.slc
 refine Qc.ofA (n:=19) Tryz.func9 rfl rfl rfl ?_
 refine VC.rs (VO.as (VO.as (VO.k3 0 2 3 (VC.rs ?_))))
 refine VO.callN 101 rfl Qpy rfl (fun W hW=>Qnp W) (fun v1 m1 hv1=>?_)
 obtain ⟨s1_0,rfl,f1_0⟩:=hv1
 refine VO.call 101 rfl Qpx rfl rfl (fun W hW=>Qhx W (hW.t 101) f1_0 (by first | assumption | rfl)) (fun v4 m4 hv4=>?_)
 obtain ⟨s4_0,rfl,f4_0⟩:=hv4
 refine VO.mv (VO.z (.ext rfl rfl) (VO.z (.ext rfl rfl) (VO.as (VO.as (VO.k5 0 2 3 4 5 (VC.seq (VC.rs (VO.mv (VO.z (.neq rfl rfl) (VO.p2 101 0 (VO.k6 0 2 3 4 5 12 ?_)))))))))))
 refine VC.cond rfl (fun hc5=>?_) (fun hc5=>?_)
 exact absurd rfl hc5
 refine VC.skip (Qg (VC.rs (VO.mv (VO.mv ?_))))
 by_cases hsp6:(Qi 1 (Qy ([]:List Jv)) d0).1=0
 ·refine VO.call 101 rfl Qm2 rfl rfl (fun W hW=>QhK W (hW.t 101) f4_0 (Rd.mono h0 (hW.o 101 0)) (by first | assumption | exact QaS) Qf bd) (fun v7 m7 hv7=>?_)
  try dsimp only at hv7
  obtain ⟨s7_0,gt2_7,rfl,f7_0⟩:=hv7
  refine VO.z (.ext rfl rfl) (VO.z (.ext rfl rfl) (VO.as (VO.as (VO.k6 0 2 3 4 5 12 (VC.ret ?_)))))
  refine QcA 2 3 [101] fun hS_=>?_
  dsimp only [Qu]
  exact ⟨s7_0,gt2_7,s4_0,s1_0,(by first | rfl | (simp [*];done)),(Ow.cgP (Ow.up f7_0 (hS_.1 _ (.head _))))⟩
 exact absurd e0 hsp6
theorem Qin (W:World):Qc Tryz.prog 10 [] W (mnil) (fun v m'=>∃ (s0:Value),v=s0∧Ow (.sl QA) m' [s0] (QpF)):=by
 refine Qc.ofA (n:=9) Tryz.func10 rfl rfl rfl ?_
 refine VC.rs (VO.as (VO.k1 0 (VC.rs ?_)))
 refine VO.z (.bst (cs:=[.bool true,str ([97]),str ([49])]) rfl JG YX rfl) ?_
 refine VO.bsl (cs:=[.bool true,str ([97]),str ([49])]) 102 rfl rfl QX YX rfl rfl (fun g1=>?_)
 refine VO.z (.bst (cs:=[.int .i64 (1),.int .i64 (1),.slice (some ⟨g1,0,none⟩) (1) (1)]) rfl JV Qba rfl) ?_
 refine VO.z (.bst (cs:=[.bool false,str ([97]),str ([])]) rfl JG YX rfl) ?_
 refine VO.z (.bst (cs:=[.bool true,str ([98]),str ([50])]) rfl JG YX rfl) ?_
 refine VO.bsl (cs:=[.bool false,str ([97]),str ([]),.bool true,str ([98]),str ([50])]) 104 rfl rfl QX YX rfl rfl (fun g3=>?_)
 refine VO.z (.bst (cs:=[.int .i64 (1),.int .i64 (2),.slice (some ⟨g3,0,none⟩) (2) (2)]) rfl JV Qba rfl) ?_
 refine VO.bsl (cs:=[.int .i64 (1),.int .i64 (1),.slice (some ⟨g1,0,none⟩) (1) (1),.int .i64 (1),.int .i64 (2),.slice (some ⟨g3,0,none⟩) (2) (2)]) 106 rfl rfl JS Qba rfl rfl (fun g5=>?_)
 refine VO.as ?_
 have ho8:Qz TOp (Qo g1 (.cells [Value.bool true,str ([97]),str ([49])].toArray 64 (0,0))) mnil (Value.slice (some ⟨g1,0,none⟩) (1) (1)) [(true,[97],[49])]:=Qz.lit 1 (Q8.cons (c1:=[Value.bool true,str ([97]),str ([49])]) (Xl (m:=_) true ([97]) ([49]) bdm bdm) Q8.nil) rfl rfl
 have ho9:Qz TOp (Qo g3 (.cells [Value.bool false,str ([97]),str ([]),Value.bool true,str ([98]),str ([50])].toArray 64 (0,0))) mnil (Value.slice (some ⟨g3,0,none⟩) (2) (2)) [(false,[97],[]),(true,[98],[50])]:=Qz.lit 2 (Q8.cons (c1:=[Value.bool false,str ([97]),str ([])]) (Xl (m:=_) false ([97]) [] bdm bdm) (Q8.cons (c1:=[Value.bool true,str ([98]),str ([50])]) (Xl (m:=_) true ([98]) ([50]) bdm bdm) Q8.nil)) rfl rfl
 refine VO.gather (l:=[Qo g5 (.cells [Value.int .i64 (1),Value.int .i64 (1),Value.slice (some ⟨g1,0,none⟩) (1) (1),Value.int .i64 (1),Value.int .i64 (2),Value.slice (some ⟨g3,0,none⟩) (2) (2)].toArray 36 (0,0)),Qo g1 (.cells [Value.bool true,str ([97]),str ([49])].toArray 64 (0,0)),Qo g3 (.cells [Value.bool false,str ([97]),str ([]),Value.bool true,str ([98]),str ([50])].toArray 64 (0,0))]) 110 [106,102,104] rfl (fun hg7=>?_)
 have ho7:Ow (.sl QA) (Zs [Qo g5 (.cells [Value.int .i64 (1),Value.int .i64 (1),Value.slice (some ⟨g1,0,none⟩) (1) (1),Value.int .i64 (1),Value.int .i64 (2),Value.slice (some ⟨g3,0,none⟩) (2) (2)].toArray 36 (0,0)),Qo g1 (.cells [Value.bool true,str ([97]),str ([49])].toArray 64 (0,0)),Qo g3 (.cells [Value.bool false,str ([97]),str ([]),Value.bool true,str ([98]),str ([50])].toArray 64 (0,0))]) [Value.slice (some ⟨g5,0,none⟩) (2) (2)] [(1,1,[(true,[97],[49])]),(1,2,[(false,[97],[]),(true,[98],[50])])]:=Ow.lit 2 (Qt.grp1 (ls:=[[Qo g1 (.cells [Value.bool true,str ([97]),str ([49])].toArray 64 (0,0))],[Qo g3 (.cells [Value.bool false,str ([97]),str ([]),Value.bool true,str ([98]),str ([50])].toArray 64 (0,0))]]) hg7) (Qkw.cons (m:=Zs [Qo g1 (.cells [Value.bool true,str ([97]),str ([49])].toArray 64 (0,0))]) (c1:=[Value.int .i64 (1),Value.int .i64 (1),Value.slice (some ⟨g1,0,none⟩) (1) (1)]) (Yr _ _ _ (Qt.self hg7 (List.Sublist.cons _ (List.Sublist.cons_cons _ (List.Sublist.cons _ List.Sublist.slnil)))) bdk bdk (Qz.ow ho8 rfl)) (Qkw.cons (m:=Zs [Qo g3 (.cells [Value.bool false,str ([97]),str ([]),Value.bool true,str ([98]),str ([50])].toArray 64 (0,0))]) (c1:=[Value.int .i64 (1),Value.int .i64 (2),Value.slice (some ⟨g3,0,none⟩) (2) (2)]) (Yr _ _ _ (Qt.self hg7 (List.Sublist.cons _ (List.Sublist.cons _ (List.Sublist.cons_cons _ List.Sublist.slnil)))) bdk bdk (Qz.ow ho9 rfl)) Qkw.nil)) rfl rfl
 refine VO.k1 0 (VC.ret ?_)
 refine XC 0 [110] fun hS_=>?_
 dsimp only [Qu]
 exact ⟨Value.slice (some ⟨g5,0,none⟩) (2) (2),(by first | rfl | (simp [*];done)),(Ow.cg (Ow.up ho7 (hS_.1 _ (.head _))))⟩
theorem fnOk10:JE Tryz.prog 10=true:=by kernel_rfl
theorem QpB:JE Tryz.prog 11=true:=by kernel_rfl
theorem QpA:JE Tryz.prog 12=true:=by kernel_rfl
theorem Qm3:JE Tryz.prog 13=true:=by kernel_rfl
theorem QmY:JE Tryz.prog 17=true:=by kernel_rfl
theorem fnOk8:JE Tryz.prog 8=true:=by kernel_rfl
theorem fnOk9:JE Tryz.prog 9=true:=by kernel_rfl
set_option maxHeartbeats 4000000 in
theorem Qk0 (W:World):Qc Tryz.prog 8 [] W (mnil) (fun v m'=>v= .bool true):=by
 refine Qc.ofA (n:=54) Tryz.func8 rfl rfl rfl ?_
 refine VC.rs (VO.as (VO.k1 0 (VC.rs ?_)))
 refine VO.callN 101 rfl fnOk10 rfl (fun W hW=>Qin W) (fun v1 m1 hv1=>?_)
 obtain ⟨s1_0,rfl,f1_0⟩:=hv1
 obtain ⟨A1_0,c1_0,eq1_0,l1_0,k1_0⟩:=f1_0.slc
 subst eq1_0
 by_cases hsp2:(Qi 1 0 QpF).1=0
 refine VO.callN 103 rfl fnOk9 rfl (fun W hW=>Qow W (Ow.rd f1_0 (hW.t 101)) (by first | (simp only [Qcy,Qcz,Qcw,Qcx,Qcv,smL,Qcu,Qct,Qcs];first | decide) | decide | assumption) (by first | (simp only [Qcy,Qcz,Qcw,Qcx,Qcv,smL,Qcu,Qct,Qcs];first | decide) | decide | assumption)) (fun v3 m3 hv3=>?_)
 obtain ⟨s3_0,gt2_3,gu2_3,gd2_3,rfl,f3_0⟩:=hv3
 refine VO.mv (VO.z (.ext rfl rfl) (VO.z (.ext rfl rfl) (VO.as (VO.as (VO.k3 0 1 2 (VC.seq (VC.rs (VO.mv (VO.z (.neq rfl rfl) (VO.mv ?_))))))))))
 refine VO.dec (t:=14) rfl (fun hc4=>?_) (fun hc4=>?_)
 · first | exact absurd rfl hc4 | exact absurd (by first | rfl | decide | (simp only [Qcy,Qcz,Qcw,Qcx,Qcv,smL,Qcu,Qct,Qcs];first | done | rfl | decide | omega)) hc4 | exact absurd hc4 (by first | decide | (simp only [Qcy,Qcz,Qcw,Qcx,Qcv,smL,Qcu,Qct,Qcs];first | done | rfl | decide | omega)) | (simp only [Qcy,Qcz,Qcw,Qcx,Qcv,smL,Qcu,Qct,Qcs] at hc4;first | done | exact absurd hc4 (by decide) | exact absurd rfl hc4)
 refine VO.w (.mv rfl) ?_
 refine VO.w (.pnil rfl rfl Tryz.underlying23 rfl) ?_
 refine VO.z (.pF rfl rfl) (VO.p2 103 0 (VO.k4 0 1 2 17 (VC.condF rfl (VC.skip (Qg (VC.rs (VO.mv ?_)))))))
 refine VO.call 103 rfl Qm3 rfl rfl (fun W hW=>QiV W (hW.t 103) f3_0 ([97]) bdm (by first | rfl | assumption) (by first | (simp only [Qcy,Qcz,Qcw,Qcx,Qcv,smL,Qcu,Qct,Qcs];first | exact Qn7 | exact Qn6) | exact QaS | assumption)) (fun v5 m5 hv5=>?_)
 try dsimp only at hv5
 obtain ⟨rfl,w5_0⟩:=hv5
 refine VO.mv (VO.z (.ext rfl rfl) (VO.z (.ext rfl rfl) (VO.as (VO.as (VO.k5 0 1 2 4 17 (VC.rs (VO.mv ?_)))))))
 refine VO.call 103 rfl Qm3 rfl rfl (fun W hW=>QiV W (hW.t 103) w5_0 ([98]) bdm (by first | rfl | assumption) (by first | (simp only [Qcy,Qcz,Qcw,Qcx,Qcv,smL,Qcu,Qct,Qcs];first | exact Qn7 | exact Qn6) | exact QaS | assumption)) (fun v6 m6 hv6=>?_)
 try dsimp only at hv6
 obtain ⟨rfl,w6_0⟩:=hv6
 refine VO.mv (VO.z (.ext rfl rfl) (VO.z (.ext rfl rfl) (VO.as (VO.as (VO.k7 0 1 2 4 5 6 17 (VC.rs (VO.mv (VO.z (.not rfl) (VO.mv ?_)))))))))
 refine VO.decBN (t:=30) rfl (fun hc7=>?_) (fun hc7=>?_)
 refine VO.w (.mv rfl) (VO.w (.seql rfl rfl) (VO.z (.pT rfl rfl) (VO.mv ?_)))
 refine VO.dec (t:=34) rfl (fun hc8=>?_) (fun hc8=>?_)
 refine VO.w (.mv rfl) (VO.z (.pT rfl rfl) (VO.mv ?_))
 refine VO.decB (t:=37) rfl (fun hc9=>?_) (fun hc9=>?_)
 refine VO.w (.mv rfl) ?_
 refine VO.gcall 103 rfl ⟨_,rfl,rfl⟩ Qke rfl rfl (fun W hW=>QiW W (hW.t 103) w6_0 (by first | (simp only [Qcy,Qcz,Qcw,Qcx,Qcv,smL,Qcu,Qct,Qcs];first | exact Qn7 | exact Qn6) | exact QaS | assumption) (by first | (simp only [Qcy,Qcz,Qcw,Qcx,Qcv,smL,Qcu,Qct,Qcs];first | decide) | decide | assumption)) (fun v10 m10 hv10=>?_)
 try dsimp only at hv10
 obtain ⟨rfl,w10_0⟩:=hv10
 refine VO.w (.eql rfl rfl) (VO.z (.pT rfl rfl) (VO.mv ?_))
 refine VO.dec (t:=42) rfl (fun hc11=>?_) (fun hc11=>?_)
 refine VO.w (.mv rfl) ?_
 refine VO.gcall 103 rfl ⟨_,rfl,rfl⟩ QpA rfl rfl (fun W hW=>QjF W (hW.t 103) w10_0) (fun v12 m12 hv12=>?_)
 try dsimp only at hv12
 obtain ⟨rfl,w12_0⟩:=hv12
 refine VO.w (.eql rfl rfl) (VO.z (.pT rfl rfl) (VO.mv ?_))
 refine VO.dec (t:=47) rfl (fun hc13=>?_) (fun hc13=>?_)
 · refine VO.w (.mv rfl) ?_
   refine VO.gcall 103 rfl ⟨_,rfl,rfl⟩ QmY rfl rfl (fun W hW=>Qhm W (hW.t 103) w12_0 9 bdk (by first | rfl | assumption) (by first | (simp only [Qcy,Qcz,Qcw,Qcx,Qcv,smL,Qcu,Qct,Qcs];first | exact Qn7 | exact Qn6) | exact QaS | assumption) (by first | (simp only [Qcy,Qcz,Qcw,Qcx,Qcv,smL,Qcu,Qct,Qcs];first | decide) | decide | assumption) (by first | (simp only [Qcy,Qcz,Qcw,Qcx,Qcv,smL,Qcu,Qct,Qcs];first | decide) | decide | assumption) (by first | (simp only [Qcy,Qcz,Qcw,Qcx,Qcv,smL,Qcu,Qct,Qcs];first | decide) | decide | assumption)) (fun v14 m14 hv14=>?_)
   try dsimp only at hv14
   obtain ⟨s14_0,p14_0,p14_1,rfl,hS14,f14_0,w14_0⟩:=hv14
   refine VO.inv _ (fun _ h=>h.parts (i:=103) rfl hS14 [115,116]) ?_
   obtain ⟨A14_0,c14_0,eq14_0,l14_0,k14_0⟩:=f14_0.slc
   subst eq14_0
   refine VO.w (.bst (cs:=[.bool true,str ([98]),str ([50])]) rfl JG YX rfl) ?_
   refine VO.gbsl (cs:=[Value.bool true,str ([98]),str ([50])]) 120 rfl ⟨_,rfl,rfl⟩ rfl QX YX rfl rfl (fun g19=>?_)
   have ho22:Qz TOp (Qo g19 (.cells [Value.bool true,str ([98]),str ([50])].toArray 64 (0,0))) mnil (Value.slice (some ⟨g19,0,none⟩) (1) (1)) [(true,[98],[50])]:=Qz.lit 1 (Q8.cons (c1:=[Value.bool true,str ([98]),str ([50])]) (Xl (m:=_) true ([98]) ([50]) bdm bdm) Q8.nil) rfl rfl
   refine VO.gcallN 121 rfl ⟨_,rfl,rfl⟩ Qik rfl (fun W hW=>Qa8 W (Ow.rd f14_0 (hW.t 115)) (Qz.rd ho22 (hW.t 120) (JW _))) (fun v21 m21 hv21=>?_)
   subst hv21
   refine VO.z (.pT rfl rfl) (VO.as (VO.p2 116 0 (VO.k7 0 1 2 4 5 6 17 (VC.ret ?_))))
   exact Yu 0 rfl (by first | rfl | (first | exact congrArg Value.bool (decide_eq_true (by first | rfl | decide | (simp only [Qcy,Qcz,Qcw,Qcx,Qcv,smL,Qcu,Qct,Qcs];first | done | rfl | decide | omega))) | (show Value.bool _=Value.bool true;simp only [Qcy,Qcz,Qcw,Qcx,Qcv,smL,Qcu,Qct,Qcs];done) | rfl))
 · first | exact absurd rfl hc13 | exact absurd (by first | rfl | decide | (simp only [Qcy,Qcz,Qcw,Qcx,Qcv,smL,Qcu,Qct,Qcs];first | done | rfl | decide | omega)) hc13 | exact absurd hc13 (by first | decide | (simp only [Qcy,Qcz,Qcw,Qcx,Qcv,smL,Qcu,Qct,Qcs];first | done | rfl | decide | omega)) | (simp only [Qcy,Qcz,Qcw,Qcx,Qcv,smL,Qcu,Qct,Qcs] at hc13;first | done | exact absurd hc13 (by decide) | exact absurd rfl hc13)
 · first | exact absurd rfl hc11 | exact absurd (by first | rfl | decide | (simp only [Qcy,Qcz,Qcw,Qcx,Qcv,smL,Qcu,Qct,Qcs];first | done | rfl | decide | omega)) hc11 | exact absurd hc11 (by first | decide | (simp only [Qcy,Qcz,Qcw,Qcx,Qcv,smL,Qcu,Qct,Qcs];first | done | rfl | decide | omega)) | (simp only [Qcy,Qcz,Qcw,Qcx,Qcv,smL,Qcu,Qct,Qcs] at hc11;first | done | exact absurd hc11 (by decide) | exact absurd rfl hc11)
 · first | exact absurd rfl hc9 | exact absurd (by first | rfl | decide | (simp only [Qcy,Qcz,Qcw,Qcx,Qcv,smL,Qcu,Qct,Qcs];first | done | rfl | decide | omega)) hc9 | exact absurd hc9 (by first | decide | (simp only [Qcy,Qcz,Qcw,Qcx,Qcv,smL,Qcu,Qct,Qcs];first | done | rfl | decide | omega)) | (simp only [Qcy,Qcz,Qcw,Qcx,Qcv,smL,Qcu,Qct,Qcs] at hc9;first | done | exact absurd hc9 (by decide) | exact absurd rfl hc9)
 · first | exact absurd rfl hc8 | exact absurd (by first | rfl | decide | (simp only [Qcy,Qcz,Qcw,Qcx,Qcv,smL,Qcu,Qct,Qcs];first | done | rfl | decide | omega)) hc8 | exact absurd hc8 (by first | decide | (simp only [Qcy,Qcz,Qcw,Qcx,Qcv,smL,Qcu,Qct,Qcs];first | done | rfl | decide | omega)) | (simp only [Qcy,Qcz,Qcw,Qcx,Qcv,smL,Qcu,Qct,Qcs] at hc8;first | done | exact absurd hc8 (by decide) | exact absurd rfl hc8)
 · first | exact absurd rfl hc7 | exact absurd (by first | rfl | decide | (simp only [Qcy,Qcz,Qcw,Qcx,Qcv,smL,Qcu,Qct,Qcs];first | done | rfl | decide | omega)) hc7 | exact absurd hc7 (by first | decide | (simp only [Qcy,Qcz,Qcw,Qcx,Qcv,smL,Qcu,Qct,Qcs];first | done | rfl | decide | omega)) | (simp only [Qcy,Qcz,Qcw,Qcx,Qcv,smL,Qcu,Qct,Qcs] at hc7;first | done | exact absurd hc7 (by decide) | exact absurd rfl hc7)
 · first | exact absurd rfl hsp2 | exact absurd (by first | rfl | decide | (simp only [Qcy,Qcz,Qcw,Qcx,Qcv,smL,Qcu,Qct,Qcs];first | done | rfl | decide | omega)) hsp2 | exact absurd hsp2 (by first | decide | (simp only [Qcy,Qcz,Qcw,Qcx,Qcv,smL,Qcu,Qct,Qcs];first | done | rfl | decide | omega)) | (simp only [Qcy,Qcz,Qcw,Qcx,Qcv,smL,Qcu,Qct,Qcs] at hsp2;first | done | exact absurd hsp2 (by decide) | exact absurd rfl hsp2)
theorem Qjf:JE Tryz.prog 152=true:=by kernel_rfl
theorem QqS:JE Tryz.prog 154=true:=by kernel_rfl
theorem XD:tst Tryz.prog 160=some [(0,1),(1,1)]:=by kernel_rfl
theorem tz160:tz Tryz.prog 160=some [.bool false,.slice none 0 0]:=by kernel_rfl
theorem QjC (W:World):Qc Tryz.prog 121 [] W (mnil) (fun v m'=>∃ (s0:Nat),v=Vp s0∧Ow (.ptr QR) m' [Vp s0] (s0,(true,[]))):=by
 refine Qc.ofA (n:=3) Tryz.func121 rfl rfl rfl ?_
 refine VC.rs (VO.as (VO.k1 0 (VC.rs ?_)))
 refine VO.z (.bst (cs:=[.bool true,.slice none (0) (0)]) rfl XD tz160 rfl) ?_
 refine VO.box (cs:=[.bool true,.slice none (0) (0)]) 102 rfl rfl rfl (fun g1=>?_)
 refine VO.as (VO.k1 0 (VC.ret ?_))
 refine XC 0 [102] fun hS_=>?_
 dsimp only [Qu]
 have he0:((true,[]):JL)=(true,[]):=by first | rfl | (simp [*];done)
 refine ⟨g1,?_,?_⟩
 rotate_left
 ·rw [he0];exact (Y1 _ _ (Qt.nilAt 1 hS_) (Ow.nil _ _))
 all_goals (first | rfl | (simp [*];done))
theorem QeO (W:World) {m0:Mem} (hm:mle (m0) (wm W)) {g0:Nat} {d0:JL} (h0:Ow (.ptr QR) m0 [Vp g0] (g0,d0)):Qc Tryz.prog 152 [Vp g0] W (m0) (fun v m'=>v= .bool (decide (d0.1=false))∧Ow (.ptr QR) m' [Vp g0] (g0,d0)):=by
 refine Qc.ofB (n:=12) hm Tryz.func152 rfl rfl rfl ?_
 refine VC.rs (VO.as (VO.k2 0 2 (VC.rs (VO.mv ?_))))
 refine VO.z (.pnil rfl rfl Tryz.underlying128 rfl) ?_
 refine VO.mv (VO.w (.mv rfl) (VO.w (.nilp rfl) (VO.w (.fa rfl XD rfl) ?_)))
 obtain ⟨q1_E,q1_A1,q1_c1,q1_n1,_,q1_S,q1_1⟩:=Q3 h0
 refine VO.inv _ (fun _ h=>h.parts (i:=1) rfl q1_S [103,102]) ?_
 refine VO.w (.ld1 103 rfl tk4 rfl (Qa rfl rfl)) (VO.w (.not rfl) (VO.z (.pF rfl rfl) (VO.as ?_)))
 refine VO.clsP 104 [103,102] rfl (fun hg4=>(Jo d0 hg4 q1_1)) (fun mc4 ho4=>?_)
 refine VO.k2 0 2 (VC.ret ?_)
 exact ZD 2 104 rfl ho4 (by first | rfl | (simp [*];done)) (by first | rfl | (first | exact congrArg Value.bool (by simp [*]) | simp [*]))
set_option maxHeartbeats 1000000 in
theorem Qn0 (W:World) {m0:Mem} (hm:mle (m0) (wm W)) {g0:Nat} {d0:JL} (h0:Ow (.ptr QR) m0 [Vp g0] (g0,d0)) {v1:List Value} {d1:DOp} (h1:Rd TOp (Ju (wm W) (m0)) v1 d1) (e0:d0.2.length≤1700000000000):Qc Tryz.prog 154 [Vp g0,.agg v1.toArray] W (m0) (fun v m'=>v= .tuple #[]∧Ow (.ptr QR) m' [Vp g0] (g0,(d0.1,Qax d0.2 d1))):=by
 obtain ⟨rfl,p1_1,p1_2⟩:=Jr (x0:=d1.1) (x1:=d1.2.1) (x2:=d1.2.2) h1
 simp only [maxLen] at p1_1
 simp only [maxLen] at p1_2
 refine Qc.ofB (n:=66) hm Tryz.func154 rfl rfl rfl ?_
 refine VC.rs ?_
 refine VO.box (cs:=[.bool d1.1,str (d1.2.1),str (d1.2.2)]) 102 rfl rfl rfl (fun g1=>?_)
 refine VO.k3 0 1 3 (VC.rs (VO.as (VO.k4 0 1 3 4 (VC.rs (VO.as (VO.p3 102 0 1 (VO.k5 0 1 3 4 5 (VC.seq (VC.rs (VO.as (VO.k6 0 1 3 4 5 6 ?_)))))))))))
 refine VC.block ?_
 refine VC.inv ((103,mnil)::_) (fun _ h=>h.nilc 103) ?_
 refine VC.loop (G:=Nat × (List DOp) × (Option Addr) × Nat × Mem × Bool × Mem) (fun g=>[(4,.slice (g.2.2.1) ((g.2.1).length) ((g.2.2.2.1))),(5,.bool (g.2.2.2.2.2.1)),(6,.int .i64 ((((g.1):Nat):Int))),(0,Vp g0),(1,.agg [.bool d1.1,str (d1.2.1),str (d1.2.2)].toArray),(3,Vp g1)]) (fun g=>[(103,(g.2.2.2.2.1)),(102,Qo g1 (.cells #[.bool d1.1,str (d1.2.1),str (d1.2.2)] 64 (0,0))),(0,Ju (wm W) (m0)),(1,(g.2.2.2.2.2.2))]) (fun g=>((g.1)≤d0.2.length)∧(Qax d0.2 d1=(g.2.1)++Yl (g.2.2.2.2.2.1) (d0.2.drop (g.1)) d1)∧((g.2.1).length≤2*(g.1))∧(Qz TOp (g.2.2.2.2.1) mnil (.slice (g.2.2.1) (g.2.1).length (g.2.2.2.1)) (g.2.1))∧(Ow (.ptr QR) (g.2.2.2.2.2.2) [Vp g0] (g0,d0))) (fun g=>d0.2.length - (g.1)) (0,[],none,0,mnil,false,m0) (⟨by omega,by rfl,by simp,(Qz.nil TOp mnil mnil),h0⟩) ⟨esn,fun _ h=>h.sub [103,102,0,1]⟩ ?_
 rintro ⟨k,out,out_A,out_c,out_m,put,t_m⟩ ⟨hk,hg,hlo,h_out,h_t⟩
 replace hk:k≤d0.2.length:=hk
 replace hg:Qax d0.2 d1=out++Yl put (d0.2.drop k) d1:=hg
 replace hlo:out.length≤2*k:=hlo
 replace h_out:Qz TOp out_m mnil (.slice out_A out.length out_c) out:=h_out
 replace h_t:Ow (.ptr QR) t_m [Vp g0] (g0,d0):=h_t
 show VC _ _ _ _ _ [(4,.slice out_A (out.length) (out_c)),(5,.bool put),(6,.int .i64 (((k:Nat):Int))),(0,Vp g0),(1,.agg [.bool d1.1,str (d1.2.1),str (d1.2.2)].toArray),(3,Vp g1)] [(103,out_m),(102,Qo g1 (.cells #[.bool d1.1,str (d1.2.1),str (d1.2.2)] 64 (0,0))),(0,Ju (wm W) (m0)),(1,t_m)]
 have l_out:out.length≤out_c:=by obtain ⟨_,_,he,hl,_⟩:=h_out.slice;simp only [Value.slice.injEq] at he;omega
 have k_out:out_c≤9223372036854775807:=by obtain ⟨_,_,he,_,hl⟩:=h_out.slice;simp only [Value.slice.injEq,maxLen] at he hl;omega
 refine VC.seq (VC.rs (VO.mv (VO.mv (VO.z (.nilp rfl) (VO.z (.fa rfl XD rfl) ?_)))))
 obtain ⟨q4_E,q4_A1,q4_c1,q4_n1,_,q4_S,q4_1⟩:=Q3 h_t
 have q4_r1:=q4_1.rm
 refine VO.inv _ (fun _ h=>h.parts (i:=1) rfl q4_S [106,105]) ?_
 refine VO.z (.ld1 106 rfl Jw rfl (Qa rfl rfl)) (VO.z (.lenS rfl QX) (VO.z (.lss rfl rfl) ?_))
 refine VO.clsP 107 [106,105] rfl (fun hg7=>(Jo d0 hg7 q4_1)) (fun mc7 ho7=>?_)
 refine VO.k7 0 1 3 4 5 6 13 ?_
 refine VC.cond rfl (fun hc8=>?_) (fun hc8=>?_)
 refine VC.skip (Qg (VC.seq (VC.block (VC.seq (VC.seq ?_)))))
 obtain ⟨q9_E,q9_A1,q9_c1,q9_n1,_,q9_S,q9_1⟩:=Q3 ho7
 refine VC.inv _ (fun _ h=>h.parts (i:=107) rfl q9_S [111,110]) ?_
 refine VC.regD _ 13 [(0,true),(1,true),(2,true),(3,true),(4,true),(5,true),(6,true),(7,true),(8,true),(9,true),(10,true),(11,true),(12,true)] follows (by kernel_rfl) (fun _ h=>h.sub [111,110,103,102,0]) ?_
 refine VD.z rfl (.mv rfl) (VD.z rfl (.not rfl) (VD.z rfl (.mv rfl) ?_))
 refine VD.decBN (s:=18) rfl (fun hc12=>?_) (fun hc12=>?_)
 refine VD.w rfl (.mv rfl) (VD.w rfl (.nilp rfl) (VD.w rfl (.fa rfl XD rfl) (VD.w rfl (.ld1 111 rfl Jw rfl (Qa rfl rfl)) (VD.w rfl (.mv rfl) ?_))))
 obtain ⟨x13,hx13⟩:∃ z_,(d0.2)[k]? =some z_:=⟨_,List.getElem?_eq_getElem bd⟩
 obtain ⟨gg13,oo13,ec13,ea13,hce13,hre13⟩:=(Ow.ownl q9_1 rfl mnil).elem hx13
 cases ea13
 obtain ⟨rfl,q13_1,q13_2⟩:=Jr (x0:=x13.1) (x1:=x13.2.1) (x2:=x13.2.2) hre13
 simp only [maxLen] at q13_1
 simp only [maxLen] at q13_2
 refine VD.w rfl (.ixI k rfl rfl QX rfl bd) ?_
 refine VD.w rfl (.fa rfl JG rfl) ?_
 refine VD.w rfl (.ld1 110 rfl tk9 rfl (hce13.at1 (j:=1) rfl)) ?_
 refine VD.w rfl (.fa rfl JG rfl) (VD.w rfl (.ld1 102 rfl tk9 rfl (Qa rfl rfl)) ?_)
 refine VD.nil rfl ?_ rfl
 refine VO.w (.sgeq rfl rfl) (VO.z (.pT rfl rfl) ?_)
 refine VO.clsP 114 [111,110] rfl (fun hg14=>(Jo d0 hg14 q9_1)) (fun mc14 ho14=>?_)
 refine VO.p4 114 103 102 0 (VO.k8 0 1 3 4 5 6 13 30 (Qg ?_))
 refine VC.cond rfl (fun hc15=>?_) (fun hc15=>?_)
 refine VC.rs (VO.mv (VO.z (.ldA 102 rfl Yx rfl (Qa rfl rfl)) ?_))
 refine VO.bsl (cs:=[.bool d1.1,str (d1.2.1),str (d1.2.2)]) 117 rfl rfl QX YX rfl rfl (fun g16=>?_)
 obtain ⟨mo18,cs18,hM18,hA18,hC18⟩:=h_out
 refine VO.app 103 rfl rfl rfl QX YX rfl rfl hM18 hA18 (.row 117 _ _ _ 1 1 _ _ Tryz.underlying34 rfl (Qa rfl rfl)) (by simp [Value.oneCell']) bdm bd (by decide) (fun v18 m18 hN18=>?_)
 have ho18:Qz TOp m18 mnil v18 (out++[d1]):=Qz.one hC18 hN18 (Rd.flat rfl h1 _)
 obtain ⟨A18,c18,rfl,l18,k18⟩:=ho18.slc
 refine VO.as (VO.k8 0 1 3 4 5 6 13 30 ?_)
 refine VC.reg ?_
 refine VO.as (VO.k8 0 1 3 4 5 6 13 30 (Qg (VC.seq ?_)))
 obtain ⟨q19_E,q19_A1,q19_c1,q19_n1,_,q19_S,q19_1⟩:=Q3 ho14
 have q19_r1:=q19_1.rm
 refine VC.inv _ (fun _ h=>h.parts (i:=114) rfl q19_S [121,120]) ?_
 refine VC.regD _ 10 [(0,true),(1,true),(2,true),(3,true),(4,true),(5,true),(6,true),(7,true),(8,true),(9,true)] follows (by kernel_rfl) (fun _ h=>h.sub [121,120,117,103,102,0]) ?_
 refine VD.z rfl (.mv rfl) (VD.z rfl (.nilp rfl) (VD.z rfl (.fa rfl XD rfl) (VD.z rfl (.ld1 121 rfl Jw rfl (Qa rfl rfl)) (VD.z rfl (.mv rfl) ?_))))
 obtain ⟨x22,hx22⟩:∃ z_,(d0.2)[k]? =some z_:=⟨_,List.getElem?_eq_getElem bd⟩
 obtain ⟨gg22,oo22,ec22,ea22,hce22,hre22⟩:=(Ow.ownl q19_1 rfl mnil).elem hx22
 cases ea22
 obtain ⟨rfl,q22_1,q22_2⟩:=Jr (x0:=x22.1) (x1:=x22.2.1) (x2:=x22.2.2) hre22
 simp only [maxLen] at q22_1
 simp only [maxLen] at q22_2
 refine VD.z rfl (.ixI k rfl rfl QX rfl bd) ?_
 refine VD.z rfl (.fa rfl JG rfl) ?_
 refine VD.z rfl (.ld1 120 rfl tk9 rfl (hce22.at1 (j:=1) rfl)) ?_
 refine VD.z rfl (.fa rfl JG rfl) (VD.z rfl (.ld1 102 rfl tk9 rfl (Qa rfl rfl)) ?_)
 refine VD.nil rfl ?_ rfl
 refine VO.z (.sneq rfl rfl) ?_
 refine VO.clsP 123 [121,120] rfl (fun hg23=>(Jo d0 hg23 q19_1)) (fun mc23 ho23=>?_)
 refine VO.p4 123 103 102 0 (VO.k9 0 1 3 4 5 6 13 30 45 (Qg ?_))
 refine VC.cond rfl (fun hc24=>?_) (fun hc24=>?_)
 · refine VC.reg ?_
   refine VO.mv (VO.mv (VO.z (.nilp rfl) (VO.z (.fa rfl XD rfl) ?_)))
   obtain ⟨q25_E,q25_A1,q25_c1,q25_n1,_,q25_S,q25_1⟩:=Q3 ho23
   refine VO.inv _ (fun _ h=>h.parts (i:=123) rfl q25_S [127,126]) ?_
   refine VO.z (.ld1 127 rfl Jw rfl (Qa rfl rfl)) (VO.mv ?_)
   obtain ⟨x28,hx28⟩:∃ z_,(d0.2)[k]? =some z_:=⟨_,List.getElem?_eq_getElem bd⟩
   obtain ⟨gg28,oo28,ec28,ea28,hce28,hre28⟩:=(Ow.ownl q25_1 rfl mnil).elem hx28
   cases ea28
   obtain ⟨rfl,q28_1,q28_2⟩:=Jr (x0:=x28.1) (x1:=x28.2.1) (x2:=x28.2.2) hre28
   simp only [maxLen] at q28_1
   simp only [maxLen] at q28_2
   refine VO.z (.ixI k rfl rfl QX rfl bd) ?_
   refine VO.z (.ldA 126 rfl Yx rfl hce28) ?_
   refine VO.bsl (cs:=[.bool x28.1,str (x28.2.1),str (x28.2.2)]) 130 rfl rfl QX YX rfl rfl (fun g29=>?_)
   obtain ⟨mo31,cs31,hM31,hA31,hC31⟩:=ho18
   refine VO.app 103 rfl rfl rfl QX YX rfl rfl hM31 hA31 (.row 130 _ _ _ 1 1 _ _ Tryz.underlying34 rfl (Qa rfl rfl)) (by simp [Value.oneCell']) bdm bd (by decide) (fun v31 m31 hN31=>?_)
   have ho31:Qz TOp m31 mnil v31 ((out++[d1])++[x28]):=Qz.one hC31 hN31 (Rd.flat rfl hre28 _)
   obtain ⟨A31,c31,rfl,l31,k31⟩:=ho31.slc
   refine VO.as ?_
   refine VO.clsP 132 [127,126] rfl (fun hg32=>(Jo d0 hg32 q25_1)) (fun mc32 ho32=>?_)
   refine VO.k9 0 1 3 4 5 6 13 30 45 (Jh (Qg ?_))
   refine VC.reg ?_
   refine VO.mv ?_
   refine VO.z (.add (c:=((k+1:Nat):Int)) rfl rfl Qp ⟨bd,bd⟩) ?_
   refine VO.as (VO.k9 0 1 3 4 5 6 13 30 45 ?_)
   exact Qg ⟨⟨k+1,(out++[d1])++[x28],A31,c31,m31,true,mc32⟩,⟨by omega,by first | exact QkV hg Qf Qf Qf Qf Qf Qf | exact QkU hg Qf Qf Qf Qf Qf | exact QkT hg Qf Qf Qf Qf Qf Qf | exact QkS hg Qf Qf Qf Qf | exact QkR hg Qf Qf Qf | exact (QkQ Qf Qf Qf Qf).elim,by (simp only [List.length_append,List.length_cons,List.length_nil];omega),ho31,ho32⟩,bd,⟨esn,fun _ h=>Inv.sub (Inv.num h 132 1 rfl) [103,102,0,1]⟩⟩
 refine VC.skip (Jh (Qg ?_))
 refine VC.reg ?_
 refine VO.mv ?_
 refine VO.z (.add (c:=((k+1:Nat):Int)) rfl rfl Qp ⟨bd,bd⟩) ?_
 refine VO.as (VO.k9 0 1 3 4 5 6 13 30 45 ?_)
 exact Qg ⟨⟨k+1,out++[d1],A18,c18,m18,true,mc23⟩,⟨by omega,by first | exact QkV hg Qf Qf Qf Qf Qf Qf | exact QkU hg Qf Qf Qf Qf Qf | exact QkT hg Qf Qf Qf Qf Qf Qf | exact QkS hg Qf Qf Qf Qf | exact QkR hg Qf Qf Qf | exact (QkQ Qf Qf Qf Qf).elim,by (simp only [List.length_append,List.length_cons,List.length_nil];omega),ho18,ho23⟩,bd,⟨esn,fun _ h=>Inv.sub (Inv.num h 123 1 rfl) [103,102,0,1]⟩⟩
 refine VC.skip (Qg (VC.seq ?_))
 obtain ⟨q33_E,q33_A1,q33_c1,q33_n1,_,q33_S,q33_1⟩:=Q3 ho14
 refine VC.inv _ (fun _ h=>h.parts (i:=114) rfl q33_S [135,134]) ?_
 refine VC.regD _ 10 [(0,true),(1,true),(2,true),(3,true),(4,true),(5,true),(6,true),(7,true),(8,true),(9,true)] follows (by kernel_rfl) (fun _ h=>h.sub [135,134,103,102,0]) ?_
 refine VD.z rfl (.mv rfl) (VD.z rfl (.nilp rfl) (VD.z rfl (.fa rfl XD rfl) (VD.z rfl (.ld1 135 rfl Jw rfl (Qa rfl rfl)) (VD.z rfl (.mv rfl) ?_))))
 obtain ⟨x36,hx36⟩:∃ z_,(d0.2)[k]? =some z_:=⟨_,List.getElem?_eq_getElem bd⟩
 obtain ⟨gg36,oo36,ec36,ea36,hce36,hre36⟩:=(Ow.ownl q33_1 rfl mnil).elem hx36
 cases ea36
 obtain ⟨rfl,q36_1,q36_2⟩:=Jr (x0:=x36.1) (x1:=x36.2.1) (x2:=x36.2.2) hre36
 simp only [maxLen] at q36_1
 simp only [maxLen] at q36_2
 refine VD.z rfl (.ixI k rfl rfl QX rfl bd) ?_
 refine VD.z rfl (.fa rfl JG rfl) ?_
 refine VD.z rfl (.ld1 134 rfl tk9 rfl (hce36.at1 (j:=1) rfl)) ?_
 refine VD.z rfl (.fa rfl JG rfl) (VD.z rfl (.ld1 102 rfl tk9 rfl (Qa rfl rfl)) ?_)
 refine VD.nil rfl ?_ rfl
 refine VO.z (.sneq rfl rfl) ?_
 refine VO.clsP 137 [135,134] rfl (fun hg37=>(Jo d0 hg37 q33_1)) (fun mc37 ho37=>?_)
 refine VO.k9 0 1 3 4 5 6 13 30 45 (Qg ?_)
 refine VC.cond rfl (fun hc38=>?_) (fun hc38=>?_)
 · refine VC.reg ?_
   refine VO.mv (VO.mv (VO.z (.nilp rfl) (VO.z (.fa rfl XD rfl) ?_)))
   obtain ⟨q39_E,q39_A1,q39_c1,q39_n1,_,q39_S,q39_1⟩:=Q3 ho37
   refine VO.inv _ (fun _ h=>h.parts (i:=137) rfl q39_S [141,140]) ?_
   refine VO.z (.ld1 141 rfl Jw rfl (Qa rfl rfl)) (VO.mv ?_)
   obtain ⟨x42,hx42⟩:∃ z_,(d0.2)[k]? =some z_:=⟨_,List.getElem?_eq_getElem bd⟩
   obtain ⟨gg42,oo42,ec42,ea42,hce42,hre42⟩:=(Ow.ownl q39_1 rfl mnil).elem hx42
   cases ea42
   obtain ⟨rfl,q42_1,q42_2⟩:=Jr (x0:=x42.1) (x1:=x42.2.1) (x2:=x42.2.2) hre42
   simp only [maxLen] at q42_1
   simp only [maxLen] at q42_2
   refine VO.z (.ixI k rfl rfl QX rfl bd) ?_
   refine VO.z (.ldA 140 rfl Yx rfl hce42) ?_
   refine VO.bsl (cs:=[.bool x42.1,str (x42.2.1),str (x42.2.2)]) 144 rfl rfl QX YX rfl rfl (fun g43=>?_)
   obtain ⟨mo45,cs45,hM45,hA45,hC45⟩:=h_out
   refine VO.app 103 rfl rfl rfl QX YX rfl rfl hM45 hA45 (.row 144 _ _ _ 1 1 _ _ Tryz.underlying34 rfl (Qa rfl rfl)) (by simp [Value.oneCell']) bdm bd (by decide) (fun v45 m45 hN45=>?_)
   have ho45:Qz TOp m45 mnil v45 (out++[x42]):=Qz.one hC45 hN45 (Rd.flat rfl hre42 _)
   obtain ⟨A45,c45,rfl,l45,k45⟩:=ho45.slc
   refine VO.as ?_
   refine VO.clsP 146 [141,140] rfl (fun hg46=>(Jo d0 hg46 q39_1)) (fun mc46 ho46=>?_)
   refine VO.k9 0 1 3 4 5 6 13 30 45 (Jh (Qg ?_))
   refine VC.reg ?_
   refine VO.mv ?_
   refine VO.z (.add (c:=((k+1:Nat):Int)) rfl rfl Qp ⟨bd,bd⟩) ?_
   refine VO.as (VO.p4 146 103 102 0 (VO.k9 0 1 3 4 5 6 13 30 45 ?_))
   exact Qg ⟨⟨k+1,out++[x42],A45,c45,m45,put,mc46⟩,⟨by omega,by first | exact QkV hg Qf Qf Qf Qf Qf Qf | exact QkU hg Qf Qf Qf Qf Qf | exact QkT hg Qf Qf Qf Qf Qf Qf | exact QkS hg Qf Qf Qf Qf | exact QkR hg Qf Qf Qf | exact (QkQ Qf Qf Qf Qf).elim,by (simp only [List.length_append,List.length_cons,List.length_nil];omega),ho45,ho46⟩,bd,⟨esn,fun _ h=>Inv.sub (Inv.num h 146 1 rfl) [103,102,0,1]⟩⟩
 refine VC.skip (Jh (Qg ?_))
 refine VC.reg ?_
 refine VO.mv ?_
 refine VO.z (.add (c:=((k+1:Nat):Int)) rfl rfl Qp ⟨bd,bd⟩) ?_
 refine VO.as (VO.k9 0 1 3 4 5 6 13 30 45 ?_)
 exact Qg ⟨⟨k+1,out,out_A,out_c,out_m,put,mc37⟩,⟨by omega,by first | exact QkV hg Qf Qf Qf Qf Qf Qf | exact QkU hg Qf Qf Qf Qf Qf | exact QkT hg Qf Qf Qf Qf Qf Qf | exact QkS hg Qf Qf Qf Qf | exact QkR hg Qf Qf Qf | exact (QkQ Qf Qf Qf Qf).elim,by (simp only [List.length_append,List.length_cons,List.length_nil];omega),h_out,ho37⟩,bd,⟨esn,fun _ h=>Inv.sub (Inv.num h 137 1 rfl) [103,102,0,1]⟩⟩
 refine VD.gN rfl (VD.gN rfl (VD.gN rfl (VD.gN rfl (VD.gN rfl (VD.gN rfl (VD.gN rfl (VD.gN rfl (VD.gN rfl (VD.gN rfl ?_)))))))))
 refine VD.nil rfl ?_ rfl
 refine VO.gN (VO.z (.pF rfl rfl) ?_)
 refine VO.clsP 147 [111,110] rfl (fun hg47=>(Jo d0 hg47 q9_1)) (fun mc47 ho47=>?_)
 refine VO.p4 147 103 102 0 (VO.k8 0 1 3 4 5 6 13 30 (Qg (VC.condF rfl (VC.skip (Qg (VC.seq ?_))))))
 obtain ⟨q48_E,q48_A1,q48_c1,q48_n1,_,q48_S,q48_1⟩:=Q3 ho47
 refine VC.inv _ (fun _ h=>h.parts (i:=147) rfl q48_S [150,149]) ?_
 refine VC.regD _ 10 [(0,true),(1,true),(2,true),(3,true),(4,true),(5,true),(6,true),(7,true),(8,true),(9,true)] follows (by kernel_rfl) (fun _ h=>h.sub [150,149,103,102,0]) ?_
 refine VD.z rfl (.mv rfl) (VD.z rfl (.nilp rfl) (VD.z rfl (.fa rfl XD rfl) (VD.z rfl (.ld1 150 rfl Jw rfl (Qa rfl rfl)) (VD.z rfl (.mv rfl) ?_))))
 obtain ⟨x51,hx51⟩:∃ z_,(d0.2)[k]? =some z_:=⟨_,List.getElem?_eq_getElem bd⟩
 obtain ⟨gg51,oo51,ec51,ea51,hce51,hre51⟩:=(Ow.ownl q48_1 rfl mnil).elem hx51
 cases ea51
 obtain ⟨rfl,q51_1,q51_2⟩:=Jr (x0:=x51.1) (x1:=x51.2.1) (x2:=x51.2.2) hre51
 simp only [maxLen] at q51_1
 simp only [maxLen] at q51_2
 refine VD.z rfl (.ixI k rfl rfl QX rfl bd) ?_
 refine VD.z rfl (.fa rfl JG rfl) ?_
 refine VD.z rfl (.ld1 149 rfl tk9 rfl (hce51.at1 (j:=1) rfl)) ?_
 refine VD.z rfl (.fa rfl JG rfl) (VD.z rfl (.ld1 102 rfl tk9 rfl (Qa rfl rfl)) ?_)
 refine VD.nil rfl ?_ rfl
 refine VO.z (.sneq rfl rfl) ?_
 refine VO.clsP 152 [150,149] rfl (fun hg52=>(Jo d0 hg52 q48_1)) (fun mc52 ho52=>?_)
 refine VO.k9 0 1 3 4 5 6 13 30 45 (Qg ?_)
 refine VC.cond rfl (fun hc53=>?_) (fun hc53=>?_)
 · refine VC.reg ?_
   refine VO.mv (VO.mv (VO.z (.nilp rfl) (VO.z (.fa rfl XD rfl) ?_)))
   obtain ⟨q54_E,q54_A1,q54_c1,q54_n1,_,q54_S,q54_1⟩:=Q3 ho52
   refine VO.inv _ (fun _ h=>h.parts (i:=152) rfl q54_S [156,155]) ?_
   refine VO.z (.ld1 156 rfl Jw rfl (Qa rfl rfl)) (VO.mv ?_)
   obtain ⟨x57,hx57⟩:∃ z_,(d0.2)[k]? =some z_:=⟨_,List.getElem?_eq_getElem bd⟩
   obtain ⟨gg57,oo57,ec57,ea57,hce57,hre57⟩:=(Ow.ownl q54_1 rfl mnil).elem hx57
   cases ea57
   obtain ⟨rfl,q57_1,q57_2⟩:=Jr (x0:=x57.1) (x1:=x57.2.1) (x2:=x57.2.2) hre57
   simp only [maxLen] at q57_1
   simp only [maxLen] at q57_2
   refine VO.z (.ixI k rfl rfl QX rfl bd) ?_
   refine VO.z (.ldA 155 rfl Yx rfl hce57) ?_
   refine VO.bsl (cs:=[.bool x57.1,str (x57.2.1),str (x57.2.2)]) 159 rfl rfl QX YX rfl rfl (fun g58=>?_)
   obtain ⟨mo60,cs60,hM60,hA60,hC60⟩:=h_out
   refine VO.app 103 rfl rfl rfl QX YX rfl rfl hM60 hA60 (.row 159 _ _ _ 1 1 _ _ Tryz.underlying34 rfl (Qa rfl rfl)) (by simp [Value.oneCell']) bdm bd (by decide) (fun v60 m60 hN60=>?_)
   have ho60:Qz TOp m60 mnil v60 (out++[x57]):=Qz.one hC60 hN60 (Rd.flat rfl hre57 _)
   obtain ⟨A60,c60,rfl,l60,k60⟩:=ho60.slc
   refine VO.as ?_
   refine VO.clsP 161 [156,155] rfl (fun hg61=>(Jo d0 hg61 q54_1)) (fun mc61 ho61=>?_)
   refine VO.k9 0 1 3 4 5 6 13 30 45 (Jh (Qg ?_))
   refine VC.reg ?_
   refine VO.mv ?_
   refine VO.z (.add (c:=((k+1:Nat):Int)) rfl rfl Qp ⟨bd,bd⟩) ?_
   refine VO.as (VO.p4 161 103 102 0 (VO.k9 0 1 3 4 5 6 13 30 45 ?_))
   exact Qg ⟨⟨k+1,out++[x57],A60,c60,m60,put,mc61⟩,⟨by omega,by first | exact QkV hg Qf Qf Qf Qf Qf Qf | exact QkU hg Qf Qf Qf Qf Qf | exact QkT hg Qf Qf Qf Qf Qf Qf | exact QkS hg Qf Qf Qf Qf | exact QkR hg Qf Qf Qf | exact (QkQ Qf Qf Qf Qf).elim,by (simp only [List.length_append,List.length_cons,List.length_nil];omega),ho60,ho61⟩,bd,⟨esn,fun _ h=>Inv.sub (Inv.num h 161 1 rfl) [103,102,0,1]⟩⟩
 refine VC.skip (Jh (Qg ?_))
 refine VC.reg ?_
 refine VO.mv ?_
 refine VO.z (.add (c:=((k+1:Nat):Int)) rfl rfl Qp ⟨bd,bd⟩) ?_
 refine VO.as (VO.k9 0 1 3 4 5 6 13 30 45 ?_)
 exact Qg ⟨⟨k+1,out,out_A,out_c,out_m,put,mc52⟩,⟨by omega,by first | exact QkV hg Qf Qf Qf Qf Qf Qf | exact QkU hg Qf Qf Qf Qf Qf | exact QkT hg Qf Qf Qf Qf Qf Qf | exact QkS hg Qf Qf Qf Qf | exact QkR hg Qf Qf Qf | exact (QkQ Qf Qf Qf Qf).elim,by (simp only [List.length_append,List.length_cons,List.length_nil];omega),h_out,ho52⟩,bd,⟨esn,fun _ h=>Inv.sub (Inv.num h 152 1 rfl) [103,102,0,1]⟩⟩
 refine VC.exit (JU (JU (JT (Qg (VC.seq (VC.rs (VO.mv (VO.z (.not rfl) (VO.p4 107 103 102 0 (VO.k8 0 1 3 4 5 6 13 57 ?_))))))))))
 refine VC.condBN rfl (fun hc62=>?_) (fun hc62=>?_)
 · refine VC.reg ?_
   refine VO.mv (VO.z (.ldA 102 rfl Yx rfl (Qa rfl rfl)) ?_)
   refine VO.bsl (cs:=[.bool d1.1,str (d1.2.1),str (d1.2.2)]) 164 rfl rfl QX YX rfl rfl (fun g63=>?_)
   obtain ⟨mo65,cs65,hM65,hA65,hC65⟩:=h_out
   refine VO.app 103 rfl rfl rfl QX YX rfl rfl hM65 hA65 (.row 164 _ _ _ 1 1 _ _ Tryz.underlying34 rfl (Qa rfl rfl)) (by simp [Value.oneCell']) bdm bd (by decide) (fun v65 m65 hN65=>?_)
   have ho65:Qz TOp m65 mnil v65 (out++[d1]):=Qz.one hC65 hN65 (Rd.flat rfl h1 _)
   obtain ⟨A65,c65,rfl,l65,k65⟩:=ho65.slc
   refine VO.as (VO.k8 0 1 3 4 5 6 13 57 (Qg ?_))
   refine VC.reg ?_
   refine VO.mv (VO.mv (VO.z (.nilp rfl) (VO.z (.fa rfl XD rfl) ?_)))
   obtain ⟨q66_E,q66_A1,q66_c1,q66_n1,_,q66_S,q66_1⟩:=Q3 ho7
   refine VO.inv _ (fun _ h=>h.parts (i:=107) rfl q66_S [168,167]) ?_
   refine VO.store (k:=1) (c':=[.bool d0.1,.slice A65 ((out++[d1]).length) (c65)]) 168 rfl rfl (.inr ⟨Jw,rfl⟩) rfl rfl rfl rfl rfl ?_
   refine VO.k8 0 1 3 4 5 6 13 57 ?_
   refine ⟨_,_,QE (rs:=[]) rfl .nil,fun W_ hI=>Q2 (l:=[Qo g0 (.cells #[.bool d0.1,.slice A65 ((out++[d1]).length) (c65)] q66_E (0,0)),m65]) hI [168,103] rfl rfl (Qb _) (fun hS_=>?_)⟩
   dsimp only [Qu]
   have hm0_:((d0.1,Qax d0.2 d1):JL)=(d0.1,out++[d1]):=by first | rfl | ((rw [hg,List.drop_of_length_le Qp];simp [Yl, *];done))
   refine ⟨?_,?_⟩
   rotate_left
   · rw [hm0_];exact (Y1 _ _ hS_ (Qz.ow ho65 rfl))
   all_goals (first | rfl | (simp [*];done))
 · refine VC.skip (Qg ?_)
   refine VC.reg ?_
   refine VO.mv (VO.mv (VO.z (.nilp rfl) (VO.z (.fa rfl XD rfl) ?_)))
   obtain ⟨q69_E,q69_A1,q69_c1,q69_n1,_,q69_S,q69_1⟩:=Q3 ho7
   refine VO.inv _ (fun _ h=>h.parts (i:=107) rfl q69_S [171,170]) ?_
   refine VO.store (k:=1) (c':=[.bool d0.1,.slice out_A (out.length) (out_c)]) 171 rfl rfl (.inr ⟨Jw,rfl⟩) rfl rfl rfl rfl rfl ?_
   refine VO.k8 0 1 3 4 5 6 13 57 ?_
   refine ⟨_,_,QE (rs:=[]) rfl .nil,fun W_ hI=>Q2 (l:=[Qo g0 (.cells #[.bool d0.1,.slice out_A (out.length) (out_c)] q69_E (0,0)),out_m]) hI [171,103] rfl rfl (Qb _) (fun hS_=>?_)⟩
   dsimp only [Qu]
   have hm0_:((d0.1,Qax d0.2 d1):JL)=(d0.1,out):=by first | rfl | ((rw [hg,List.drop_of_length_le Qp];simp [Yl, *];done))
   refine ⟨?_,?_⟩
   rotate_left
   · rw [hm0_];exact (Y1 _ _ hS_ (Qz.ow h_out rfl))
   all_goals (first | rfl | (simp [*];done))
theorem Qdv (W:World) {m0:Mem} (hm:mle (m0) (wm W)) {g0:Nat} {d0:JL} (h0:Ow (.ptr QR) m0 [Vp g0] (g0,d0)) {v1:Value} {d1:List DOp} (h1:Rd (.sl TOp) (Ju (wm W) (m0)) [v1] d1) (e0:d0.1=true) (e1:d0.2.length+d1.length≤1700000000000):Qc Tryz.prog 122 [Vp g0,v1] W (m0) (fun v m'=>v= .int .i64 ((Qbt d0 d1).2)∧Ow (.ptr QR) m' [Vp g0] (g0,(Qbt d0 d1).1)):=by
 obtain ⟨A1,c1,rfl,l1,k1⟩:=h1.slc
 refine Qc.ofB (n:=33) hm Tryz.func122 rfl rfl rfl ?_
 refine VC.rs (VO.as (VO.k3 0 1 4 (VC.seq (VC.rs (VO.mv ?_)))))
 refine VO.call 1 rfl Qjf rfl rfl (fun W hW=>QeO W (hW.t 1) h0) (fun v1 m1 hv1=>?_)
 obtain ⟨rfl,w1_0⟩:=hv1
 refine VO.k4 0 1 4 8 ?_
 refine VC.cond rfl (fun hc2=>?_) (fun hc2=>?_)
 rw [e0] at hc2;cases hc2
 refine VC.skip (Qg (VC.seq (VC.rs (VO.as (VO.p2 1 0 (VO.k5 0 1 4 5 8 (VC.block ?_)))))))
 refine VC.loop (G:=Nat) (fun k=>[(5,.int .i64 (((k:Nat):Int))),(0,Vp g0),(1,.slice A1 (d1.length) (c1)),(8,.bool (decide (d0.1=false)))]) (fun k=>[(1,m1),(0,Ju (wm W) (m0))]) (fun k=>(k≤d1.length)∧(∀ o∈d1.take k,Q4 o=0)) (fun k=>d1.length - k) 0 (⟨by omega,by simp⟩) ⟨esn,fun _ h=>h.sub [1,0]⟩ ?_
 rintro k ⟨hk,ha⟩
 refine VC.seq (VC.rs (VO.mv (VO.mv (VO.z (.lenS rfl QX) (VO.z (.lss rfl rfl) (VO.k5 0 1 5 8 12 ?_))))))
 refine VC.cond rfl (fun hc3=>?_) (fun hc3=>?_)
 refine VC.skip (Qg (VC.seq (VC.block (VC.rs (VO.mv (VO.mv ?_))))))
 obtain ⟨x4,hx4⟩:∃ z_,(d1)[k]? =some z_:=⟨_,List.getElem?_eq_getElem bd⟩
 obtain ⟨gg4,oo4,ec4,ea4,hce4,hre4⟩:=h1.elem hx4
 cases ea4
 obtain ⟨rfl,q4_1,q4_2⟩:=Jr (x0:=x4.1) (x1:=x4.2.1) (x2:=x4.2.2) hre4
 simp only [maxLen] at q4_1
 simp only [maxLen] at q4_2
 refine VO.z (.ixI k rfl rfl QX rfl bd) ?_
 refine VO.z (.ldA 0 rfl Yx rfl hce4) ?_
 refine VO.callN 105 rfl QdJ rfl (fun W hW=>YR W (Rd.mono hre4 (hW.t 0))) (fun v5 m5 hv5=>?_)
 subst hv5
 refine VO.z (.neq rfl rfl) (VO.k6 0 1 5 8 12 20 ?_)
 refine VC.cond rfl (fun hc6=>?_) (fun hc6=>?_)
 ·refine VC.rs (VO.as (VO.p2 1 0 (VO.k7 0 1 4 5 8 12 20 (VC.ret (Jf (QK (QK (Jf (QK ?_)))))))))
  exact ZD 4 1 rfl w1_0 (by first | rfl | (first | exact congrArg Prod.fst (Qb5 e0 ‹d1[k]? =some _› Qf) | (rw [Xc e0 (by have h_:=ha;rw [List.take_of_length_le Qp] at h_;exact h_),ht,List.take_of_length_le Qp];done))) (by first | rfl | (first | exact congrArg (Value.int _) (congrArg Prod.snd (Qb5 e0 ‹d1[k]? =some _› Qf)).symm | exact congrArg (Value.int _) (congrArg Prod.snd (Xc e0 (by have h_:=ha;rw [List.take_of_length_le Qp] at h_;exact h_))).symm))
 refine VC.skip (Jh (Qg ?_))
 refine VC.reg ?_
 refine VO.mv ?_
 refine VO.z (.add (c:=((k+1:Nat):Int)) rfl rfl Qp ⟨bd,bd⟩) ?_
 refine VO.as (VO.p2 1 0 (VO.k6 0 1 5 8 12 20 ?_))
 exact Qg ⟨k+1,⟨by omega,by exact QnA ha ‹d1[k]? =some _› Qf⟩,bd,⟨esn,fun _ h=>Inv.sub h [1,0]⟩⟩
 refine VC.exit (JU (JU (JT (Qg (VC.seq (VC.rs (VO.as (VO.k6 0 1 5 6 8 12 (VC.block ?_)))))))))
 refine VC.loop (G:=Nat × JL × Mem) (fun g=>[(6,.int .i64 ((((g.1):Nat):Int))),(0,Vp g0),(1,.slice A1 (d1.length) (c1)),(5,.int .i64 (((k:Nat):Int))),(8,.bool (decide (d0.1=false))),(12,.bool (decide (((k:Nat):Int) < ((d1.length:Nat):Int))))]) (fun g=>[(1,(g.2.2)),(0,Ju (wm W) (m0))]) (fun g=>((g.1)≤d1.length)∧((g.2.1)=(true,(d1.take (g.1)).foldl Qax d0.2))∧(Ow (.ptr QR) (g.2.2) [Vp g0] (g0,(g.2.1)))) (fun g=>d1.length - (g.1)) (0,d0,m1) (⟨by omega,by (rw [← e0];rfl),w1_0⟩) ⟨esn,fun _ h=>h.sub [1,0]⟩ ?_
 rintro ⟨j,t,t_m⟩ ⟨hj,ht,h_t⟩
 replace hj:j≤d1.length:=hj
 replace ht:t=(true,(d1.take j).foldl Qax d0.2):=ht
 replace h_t:Ow (.ptr QR) t_m [Vp g0] (g0,t):=h_t
 show VC _ _ _ _ _ [(6,.int .i64 (((j:Nat):Int))),(0,Vp g0),(1,.slice A1 (d1.length) (c1)),(5,.int .i64 (((k:Nat):Int))),(8,.bool (decide (d0.1=false))),(12,.bool (decide (((k:Nat):Int) < ((d1.length:Nat):Int))))] [(1,t_m),(0,Ju (wm W) (m0))]
 have hfl:=QbJ (d1.take j) d0.2
 have htl:t.2.length≤d0.2.length+j:=by rw [ht];simp only [List.length_take] at hfl;dsimp only;omega
 refine VC.seq (VC.rs (VO.mv (VO.mv (VO.z (.lenS rfl QX) (VO.z (.lss rfl rfl) (VO.p2 1 0 (VO.k7 0 1 5 6 8 12 24 ?_)))))))
 refine VC.cond rfl (fun hc7=>?_) (fun hc7=>?_)
 ·refine VC.skip (Qg (VC.seq (VC.block ?_)))
  refine VC.reg ?_
  refine VO.mv (VO.mv (VO.mv ?_))
  obtain ⟨x8,hx8⟩:∃ z_,(d1)[j]? =some z_:=⟨_,List.getElem?_eq_getElem bd⟩
  obtain ⟨gg8,oo8,ec8,ea8,hce8,hre8⟩:=h1.elem hx8
  cases ea8
  obtain ⟨rfl,q8_1,q8_2⟩:=Jr (x0:=x8.1) (x1:=x8.2.1) (x2:=x8.2.2) hre8
  simp only [maxLen] at q8_1
  simp only [maxLen] at q8_2
  refine VO.z (.ixI j rfl rfl QX rfl bd) ?_
  refine VO.z (.ldA 0 rfl Yx rfl hce8) ?_
  refine VO.call 1 rfl QqS rfl rfl (fun W hW=>Qn0 W (hW.t 1) h_t (Rd.mono hre8 (hW.o 1 0)) bd) (fun v9 m9 hv9=>?_)
  obtain ⟨rfl,w9_0⟩:=hv9
  refine VO.k7 0 1 5 6 8 12 24 (Jh (Qg ?_))
  refine VC.reg ?_
  refine VO.mv ?_
  refine VO.z (.add (c:=((j+1:Nat):Int)) rfl rfl Qp ⟨bd,bd⟩) ?_
  refine VO.as (VO.k7 0 1 5 6 8 12 24 ?_)
  exact Qg ⟨⟨j+1,(t.1,Qax t.2 x8),m9⟩,⟨by omega,by (rw [ht,QlE ‹d1[j]? =some _›]),w9_0⟩,bd,⟨esn,fun _ h=>Inv.sub h [1,0]⟩⟩
 ·refine VC.exit (JU (JU (JT (Qg (VC.rs (VO.as (VO.k8 0 1 4 5 6 8 12 24 (VC.ret ?_))))))))
  exact ZD 4 1 rfl h_t (by first | rfl | (first | exact congrArg Prod.fst (Qb5 e0 ‹d1[k]? =some _› Qf) | (rw [Xc e0 (by have h_:=ha;rw [List.take_of_length_le Qp] at h_;exact h_),ht,List.take_of_length_le Qp];done))) (by first | rfl | (first | exact congrArg (Value.int _) (congrArg Prod.snd (Qb5 e0 ‹d1[k]? =some _› Qf)).symm | exact congrArg (Value.int _) (congrArg Prod.snd (Xc e0 (by have h_:=ha;rw [List.take_of_length_le Qp] at h_;exact h_))).symm))
theorem QjD (W:World) {m0:Mem} (hm:mle (m0) (wm W)) {g0:Nat} {d0:JL} (h0:Ow (.ptr QR) m0 [Vp g0] (g0,d0)) (e0:d0.1=true) (e1:d0.2.length≤1700000000000):Qc Tryz.prog 119 [Vp g0] W (m0) (fun v m'=>∃ (s0:Value),∃ (p0:Mem),∃ (p1:Mem),v=s0∧Qt m' [p0,p1]∧Ow (.sl TOp) p0 [s0] (d0.2)∧Ow (.ptr QR) p1 [Vp g0] (g0,d0)):=by
 refine Qc.ofB (n:=13) hm Tryz.func119 rfl rfl rfl ?_
 refine VC.rs (VO.as (VO.k2 0 2 (VC.rs (VO.as (VO.k3 0 2 3 (VC.seq (VC.rs (VO.mv ?_))))))))
 refine VO.call 1 rfl Qjf rfl rfl (fun W hW=>QeO W (hW.t 1) h0) (fun v1 m1 hv1=>?_)
 obtain ⟨rfl,w1_0⟩:=hv1
 refine VO.p2 1 0 (VO.k4 0 2 3 5 ?_)
 refine VC.cond rfl (fun hc2=>?_) (fun hc2=>?_)
 rw [e0] at hc2;cases hc2
 ·refine VC.skip (Qg (VC.rs (VO.mv (VO.mv (VO.z (.nilp rfl) (VO.z (.fa rfl XD rfl) ?_))))))
  obtain ⟨q3_E,q3_A1,q3_c1,q3_n1,_,q3_S,q3_1⟩:=Q3 w1_0
  refine VO.inv _ (fun _ h=>h.parts (i:=1) rfl q3_S [105,104]) ?_
  refine VO.z (.ld1 105 rfl Jw rfl (Qa rfl rfl)) ?_
  refine VO.inv _ (fun _ h=>h.nilc 107) ?_
  obtain ⟨mo6,cs6,hM6,hA6,hC6⟩:=(Qz.nil TOp mnil mnil)
  obtain ⟨all6,hS6,hR6⟩:=Rd.srcI (P:=Tryz.prog) ((Ow.rd q3_1 (Qb _))) Tryz.underlying34
  refine VO.app 107 rfl rfl rfl QX YX rfl rfl hM6 hA6 (hS6 _ 104 rfl) hR6.nice bdm bd (by decide) (fun v6 m6 hN6=>?_)
  have ho6:Qz TOp m6 mnil v6 (d0.2):=Qz.more hC6 hN6 (Q8.mono hR6 fun _ _ h=>Rd.flat rfl h _)
  obtain ⟨A6,c6,rfl,l6,k6⟩:=ho6.slc
  refine VO.as ?_
  refine VO.clsP 108 [105,104] rfl (fun hg8=>(Jo d0 hg8 q3_1)) (fun mc8 ho8=>?_)
  refine VO.k4 0 2 3 5 (VC.ret ?_)
  refine XC 2 [107,108] fun hS_=>?_
  dsimp only [Qu]
  refine ⟨.slice A6 ((d0.2).length) (c6),Zs [m6],Zs [mc8],?_,?_,?_,?_⟩
  rotate_left
  ·exact Qt.grp (ls:=[[m6],[mc8]]) hS_
  ·exact Ow.cg (Ow.up (Qz.ow ho6 rfl) ((Qt.self hS_ (List.Sublist.cons_cons _ (List.Sublist.cons _ List.Sublist.slnil))).1 _ (.head _)))
  ·exact Ow.cgP (Ow.up ho8 ((Qt.self hS_ (List.Sublist.cons _ (List.Sublist.cons_cons _ List.Sublist.slnil))).1 _ (.head _)))
  all_goals (first | rfl | (simp [*];done))
theorem Qfr:JE Tryz.prog 108=true:=by kernel_rfl
theorem Qpm:JE Tryz.prog 80=true:=by kernel_rfl
theorem QeM:tk Tryz.prog 116=some none:=by kernel_rfl
theorem QiL:tk Tryz.prog 155=some (some 4):=by kernel_rfl
theorem QcC:tsl Tryz.prog 116=some (155,4,48):=by kernel_rfl
theorem Zt:tst Tryz.prog 118=some [(0,1),(1,4),(5,1),(6,1),(7,1),(8,1),(9,1)]:=by kernel_rfl
theorem QdP:tst Tryz.prog 155=some [(0,1),(1,1),(2,1),(3,1)]:=by kernel_rfl
theorem tz118:tz Tryz.prog 118=some [.bool false,.slice none 0 0,.slice none 0 0,.slice none 0 0,.slice none 0 0,.slice none 0 0,.bool false,.bool false,.int .i64 0,.int .i64 0]:=by kernel_rfl
theorem QiI:tz Tryz.prog 155=some [.int .i64 0,.bool false,.int .i64 0,.slice none 0 0]:=by kernel_rfl
theorem Qqq (W:World):Qc Tryz.prog 28 [] W (mnil) (fun v m'=>∃ (s0:Nat),v=Vp s0∧Ow (.ptr QH) m' [Vp s0] (s0,QiA)):=by
 refine Qc.ofA (n:=3) Tryz.func28 rfl rfl rfl ?_
 refine VC.rs (VO.as (VO.k1 0 (VC.rs ?_)))
 refine VO.z (.bst (cs:=[.bool true,.slice none (0) (0),.slice none (0) (0),.slice none (0) (0),.slice none (0) (0),.slice none (0) (0),.bool true,.bool false,.int .i64 (0),.int .i64 (0)]) rfl Zt tz118 rfl) ?_
 refine VO.box (cs:=[.bool true,.slice none (0) (0),.slice none (0) (0),.slice none (0) (0),.slice none (0) (0),.slice none (0) (0),.bool true,.bool false,.int .i64 (0),.int .i64 (0)]) 102 rfl rfl rfl (fun g1=>?_)
 refine VO.as (VO.k1 0 (VC.ret ?_))
 refine XC 0 [102] fun hS_=>?_
 dsimp only [Qu]
 have he0:(QiA:QD)=(true,([],[],[],[]),[],true,false,0,0):=by first | rfl | (simp [*];done)
 refine ⟨g1,?_,?_⟩
 rotate_left
 ·rw [he0];exact (J4 _ _ _ _ _ _ _ _ _ _ (Qt.nilAt 5 (Qt.nilAt 4 (Qt.nilAt 3 (Qt.nilAt 2 (Qt.nilAt 1 hS_))))) (Ow.nil _ _) (Ow.nil _ _) (Ow.nil _ _) (Ow.nil _ _) (Ow.nil _ _) bdk bdk)
 all_goals (first | rfl | (simp [*];done))
theorem QjR (W:World) {m0:Mem} (hm:mle (m0) (wm W)) {g0:Nat} {d0:QD} (h0:Ow (.ptr QH) m0 [Vp g0] (g0,d0)):Qc Tryz.prog 80 [Vp g0] W (m0) (fun v m'=>v= .bool (decide (d0.1=false))∧Ow (.ptr QH) m' [Vp g0] (g0,d0)):=by
 refine Qc.ofB (n:=12) hm Tryz.func80 rfl rfl rfl ?_
 refine VC.rs (VO.as (VO.k2 0 2 (VC.rs (VO.mv ?_))))
 refine VO.z (.pnil rfl rfl Tryz.underlying70 rfl) ?_
 refine VO.mv (VO.w (.mv rfl) (VO.w (.nilp rfl) (VO.w (.fa rfl Zt rfl) ?_)))
 obtain ⟨q1_E,q1_A1,q1_c1,q1_A2,q1_c2,q1_A3,q1_c3,q1_A4,q1_c4,q1_A5,q1_c5,q1_n1,q1_n2,q1_n3,q1_n4,q1_n5,_,q1_S,q1_1,q1_2,q1_3,q1_4,q1_5,q1_8,q1_9⟩:=QB h0
 simp only [inK] at q1_8 q1_9
 refine VO.inv _ (fun _ h=>h.parts (i:=1) rfl q1_S [107,102,103,104,105,106]) ?_
 refine VO.w (.ld1 107 rfl tk4 rfl (Qa rfl rfl)) (VO.w (.not rfl) (VO.z (.pF rfl rfl) (VO.as ?_)))
 refine VO.clsP 108 [107,102,103,104,105,106] rfl (fun hg8=>(Ji d0 hg8 q1_1 q1_2 q1_3 q1_4 q1_5 bdk bdk)) (fun mc8 ho8=>?_)
 refine VO.k2 0 2 (VC.ret ?_)
 exact ZD 2 108 rfl ho8 (by first | rfl | (simp [*];done)) (by first | rfl | (cases d0.1 <;> rfl))
theorem Qc4 (W:World) {m0:Mem} (hm:mle (m0) (wm W)) {g0:Nat} {d0:QD} (h0:Ow (.ptr QH) m0 [Vp g0] (g0,d0)):Qc Tryz.prog 64 [Vp g0] W (m0) (fun v m'=>v= .int .i64 (Jt (Qk d0))∧Ow (.ptr QH) m' [Vp g0] (g0,d0)):=by
 refine Qc.ofB (n:=10) hm Tryz.func64 rfl rfl rfl ?_
 refine VC.rs (VO.as (VO.k2 0 2 (VC.seq (VC.rs (VO.mv ?_)))))
 refine VO.call 1 rfl Qpm rfl rfl (fun W hW=>QjR W (hW.t 1) h0) (fun v1 m1 hv1=>?_)
 obtain ⟨rfl,w1_0⟩:=hv1
 refine VO.k3 0 2 4 ?_
 refine VC.cond rfl (fun hc2=>?_) (fun hc2=>?_)
 ·refine VC.rs (VO.as (VO.p2 1 0 (VO.k3 0 2 4 (VC.ret (QK ?_)))))
  exact ZD 2 1 rfl w1_0 (by first | rfl | (simp [*];done)) (by first | rfl | (simp [Jt,Qk, *]))
 refine VC.skip (Qg (VC.seq (VC.rs (VO.mv (VO.z (.nilp rfl) (VO.z (.fa rfl Zt rfl) ?_))))))
 obtain ⟨q3_E,q3_A1,q3_c1,q3_A2,q3_c2,q3_A3,q3_c3,q3_A4,q3_c4,q3_A5,q3_c5,q3_n1,q3_n2,q3_n3,q3_n4,q3_n5,_,q3_S,q3_1,q3_2,q3_3,q3_4,q3_5,q3_8,q3_9⟩:=QB w1_0
 simp only [inK] at q3_8 q3_9
 refine VO.inv _ (fun _ h=>h.parts (i:=1) rfl q3_S [109,104,105,106,107,108]) ?_
 refine VO.z (.ld1 109 rfl tk4 rfl (Qa rfl rfl)) (VO.z (.not rfl) ?_)
 refine VO.clsP 110 [109,104,105,106,107,108] rfl (fun hg10=>(Ji d0 hg10 q3_1 q3_2 q3_3 q3_4 q3_5 bdk bdk)) (fun mc10 ho10=>?_)
 refine VO.p2 110 0 (VO.k4 0 2 4 9 ?_)
 refine VC.condBN rfl (fun hc11=>?_) (fun hc11=>?_)
 ·refine VC.rs (VO.as (VO.k4 0 2 4 9 (VC.ret (QK ?_))))
  exact ZD 2 110 rfl ho10 (by first | rfl | (simp [*];done)) (by first | rfl | (simp [Jt,Qk, *]))
 ·refine VC.skip (Qg (VC.rs (VO.as (VO.k4 0 2 4 9 (VC.ret ?_)))))
  exact ZD 2 110 rfl ho10 (by first | rfl | (simp [*];done)) (by first | rfl | (simp [Jt,Qk, *]))
theorem Yn {P:Prop} (h:P:=by first | exact bd | (rw [if_pos (by assumption)] at hfu;omega)):P:=h
theorem JK {k:IntKind} {x:Int} (h:inK k x:=by simp only [inK];exact Yn):inK k x:=h
theorem QgV (W:World) {m0:Mem} (hm:mle (m0) (wm W)) {g0:Nat} {d0:QD} (h0:Ow (.ptr QH) m0 [Vp g0] (g0,d0)) (e0:okR d0) (e1:wD (Qk d0)≤2*1000000000000):Qc Tryz.prog 144 [Vp g0] W (m0) (fun v m'=>v= .int .i64 (if (QM (Qk d0)).2=true then 0 else 6)∧Ow (.ptr QH) m' [Vp g0] (g0,toR (QM (Qk d0)).1 d0.2.2.2.2.2.1)):=by
 have hok0:okD (Qk d0):=e0;obtain ⟨hg,hfu,hst⟩:=hok0;have hok0:okD (Qk d0):=e0;simp only [wD,Xk] at e1;simp only [Qk] at e1 hfu hst
 refine Qc.ofB (n:=35) hm Tryz.func144 rfl rfl rfl ?_
 refine VC.rs (VO.as (VO.k2 0 2 (VC.seq (VC.rs (VO.mv (VO.z (.nilp rfl) (VO.z (.fa rfl Zt rfl) ?_)))))))
 obtain ⟨q1_E,q1_A1,q1_c1,q1_A2,q1_c2,q1_A3,q1_c3,q1_A4,q1_c4,q1_A5,q1_c5,q1_n1,q1_n2,q1_n3,q1_n4,q1_n5,_,q1_S,q1_1,q1_2,q1_3,q1_4,q1_5,q1_8,q1_9⟩:=QB h0
 simp only [inK] at q1_8 q1_9
 refine VO.inv _ (fun _ h=>h.parts (i:=1) rfl q1_S [107,102,103,104,105,106]) ?_
 refine VO.z (.ld1 107 rfl tk4 rfl (Qa rfl rfl)) (VO.mv ?_)
 refine VO.decB (t:=7) rfl (fun hc8=>?_) (fun hc8=>?_)
 refine VO.w (.mv rfl) (VO.w (.nilp rfl) (VO.w (.fa rfl Zt rfl) (VO.w (.ld1 107 rfl tk3 rfl (Qa rfl rfl)) (VO.w (.eql rfl rfl) (VO.z (.pT rfl rfl) ?_)))))
 refine VO.clsP 109 [107,102,103,104,105,106] rfl (fun hg9=>(Ji d0 hg9 q1_1 q1_2 q1_3 q1_4 q1_5 JK JK)) (fun mc9 ho9=>?_)
 refine VO.k3 0 2 13 ?_
 refine VC.cond rfl (fun hc10=>?_) (fun hc10=>?_)
 refine VC.rs (VO.mv (VO.z (.nilp rfl) (VO.z (.fa rfl Zt rfl) ?_)))
 obtain ⟨q11_E,q11_A1,q11_c1,q11_A2,q11_c2,q11_A3,q11_c3,q11_A4,q11_c4,q11_A5,q11_c5,q11_n1,q11_n2,q11_n3,q11_n4,q11_n5,_,q11_S,q11_1,q11_2,q11_3,q11_4,q11_5,q11_8,q11_9⟩:=QB ho9
 simp only [inK] at q11_8 q11_9
 refine VO.inv _ (fun _ h=>h.parts (i:=109) rfl q11_S [117,112,113,114,115,116]) ?_
 refine VO.s1 117 tk4 ?_
 refine VO.clsP 118 [117,112,113,114,115,116] rfl (fun hg18=>(J4 _ _ _ _ _ _ _ _ _ _ hg18 q11_1 q11_2 q11_3 q11_4 q11_5 JK JK)) (fun mc18 ho18=>?_)
 refine VO.p2 118 0 (VO.k3 0 2 13 (VC.rs (VO.as (VO.k3 0 2 13 (VC.ret (QK ?_))))))
 exact ZD 2 118 rfl ho18 (by first | rfl | (first | exact (QaZ Qf Qf).1 | exact (Qa0 Qf Qf).1 | exact (Qab Qf).1)) (by first | rfl | (first | (rw [(QaZ (r:=d0) Qf Qf).2];rfl) | (rw [(Qa0 (r:=d0) Qf Qf).2];rfl) | (rw [(Qab (r:=d0) Qf).2];rfl)))
 refine VC.skip (Qg (VC.seq (VC.rs (VO.mv (VO.z (.nilp rfl) (VO.z (.fa rfl Zt rfl) ?_))))))
 obtain ⟨q19_E,q19_A1,q19_c1,q19_A2,q19_c2,q19_A3,q19_c3,q19_A4,q19_c4,q19_A5,q19_c5,q19_n1,q19_n2,q19_n3,q19_n4,q19_n5,_,q19_S,q19_1,q19_2,q19_3,q19_4,q19_5,q19_8,q19_9⟩:=QB ho9
 simp only [inK] at q19_8 q19_9
 refine VO.inv _ (fun _ h=>h.parts (i:=109) rfl q19_S [125,120,121,122,123,124]) ?_
 refine VO.z (.ld1 125 rfl tk4 rfl (Qa rfl rfl)) ?_
 refine VO.clsP 126 [125,120,121,122,123,124] rfl (fun hg26=>(Ji d0 hg26 q19_1 q19_2 q19_3 q19_4 q19_5 JK JK)) (fun mc26 ho26=>?_)
 refine VO.p2 126 0 (VO.k4 0 2 13 20 ?_)
 refine VC.condKT rfl hc8 ?_
 refine VC.reg ?_
 refine VO.mv (VO.z (.nilp rfl) (VO.z (.fa rfl Zt rfl) ?_))
 obtain ⟨q27_E,q27_A1,q27_c1,q27_A2,q27_c2,q27_A3,q27_c3,q27_A4,q27_c4,q27_A5,q27_c5,q27_n1,q27_n2,q27_n3,q27_n4,q27_n5,_,q27_S,q27_1,q27_2,q27_3,q27_4,q27_5,q27_8,q27_9⟩:=QB ho26
 simp only [inK] at q27_8 q27_9
 refine VO.inv _ (fun _ h=>h.parts (i:=126) rfl q27_S [133,128,129,130,131,132]) ?_
 refine VO.z (.ld1 133 rfl tk3 rfl (Qa rfl rfl)) ?_
 refine VO.z (.sub rfl rfl rfl ⟨by exact Yn,by exact Yn⟩) ?_
 refine VO.z (.nilp rfl) (VO.z (.fa rfl Zt rfl) ?_)
 refine VO.s1 133 tk3 ?_
 refine VO.clsP 134 [133,128,129,130,131,132] rfl (fun hg34=>(J4 _ _ _ _ _ _ _ _ _ _ hg34 q27_1 q27_2 q27_3 q27_4 q27_5 JK JK)) (fun mc34 ho34=>?_)
 refine VO.k4 0 2 13 20 (Qg (VC.rs (VO.mv (VO.z (.nilp rfl) (VO.z (.fa rfl Zt rfl) ?_)))))
 obtain ⟨q35_E,q35_A1,q35_c1,q35_A2,q35_c2,q35_A3,q35_c3,q35_A4,q35_c4,q35_A5,q35_c5,q35_n1,q35_n2,q35_n3,q35_n4,q35_n5,_,q35_S,q35_1,q35_2,q35_3,q35_4,q35_5,q35_8,q35_9⟩:=Qao (x0:=d0.1) (x1:=d0.2.1.1) (x2:=d0.2.1.2.1) (x3:=d0.2.1.2.2.1) (x4:=d0.2.1.2.2.2) (x5:=d0.2.2.1) (x6:=d0.2.2.2.1) (x7:=d0.2.2.2.2.1) (x8:=d0.2.2.2.2.2.1 - 1) (x9:=d0.2.2.2.2.2.2) ho34
 simp only [inK] at q35_8 q35_9
 refine VO.inv _ (fun _ h=>h.parts (i:=134) rfl q35_S [141,136,137,138,139,140]) ?_
 refine VO.z (.ld1 141 rfl tk3 rfl (Qa rfl rfl)) ?_
 refine VO.z (.add rfl rfl rfl ⟨by exact Yn,by exact Yn⟩) ?_
 refine VO.z (.nilp rfl) (VO.z (.fa rfl Zt rfl) ?_)
 refine VO.s1 141 tk3 ?_
 refine VO.clsP 142 [141,136,137,138,139,140] rfl (fun hg42=>(J4 _ _ _ _ _ _ _ _ _ _ hg42 q35_1 q35_2 q35_3 q35_4 q35_5 JK JK)) (fun mc42 ho42=>?_)
 refine VO.k4 0 2 13 20 (VC.rs (VO.as (VO.p2 142 0 (VO.k4 0 2 13 20 (VC.ret ?_)))))
 exact ZD 2 142 rfl ho42 (by first | rfl | (first | exact (QaZ Qf Qf).1 | exact (Qa0 Qf Qf).1 | exact (Qab Qf).1)) (by first | rfl | (first | (rw [(QaZ (r:=d0) Qf Qf).2];rfl) | (rw [(Qa0 (r:=d0) Qf Qf).2];rfl) | (rw [(Qab (r:=d0) Qf).2];rfl)))
 refine VO.gN (VO.gN (VO.gN (VO.gN (VO.gN (VO.z (.pF rfl rfl) ?_)))))
 refine VO.clsP 143 [107,102,103,104,105,106] rfl (fun hg43=>(Ji d0 hg43 q1_1 q1_2 q1_3 q1_4 q1_5 JK JK)) (fun mc43 ho43=>?_)
 refine VO.k3 0 2 13 (VC.condF rfl (VC.skip (Qg (VC.seq (VC.rs (VO.mv (VO.z (.nilp rfl) (VO.z (.fa rfl Zt rfl) ?_))))))))
 obtain ⟨q44_E,q44_A1,q44_c1,q44_A2,q44_c2,q44_A3,q44_c3,q44_A4,q44_c4,q44_A5,q44_c5,q44_n1,q44_n2,q44_n3,q44_n4,q44_n5,_,q44_S,q44_1,q44_2,q44_3,q44_4,q44_5,q44_8,q44_9⟩:=QB ho43
 simp only [inK] at q44_8 q44_9
 refine VO.inv _ (fun _ h=>h.parts (i:=143) rfl q44_S [150,145,146,147,148,149]) ?_
 refine VO.z (.ld1 150 rfl tk4 rfl (Qa rfl rfl)) ?_
 refine VO.clsP 151 [150,145,146,147,148,149] rfl (fun hg51=>(Ji d0 hg51 q44_1 q44_2 q44_3 q44_4 q44_5 JK JK)) (fun mc51 ho51=>?_)
 refine VO.p2 151 0 (VO.k4 0 2 13 20 ?_)
 refine VC.condKF rfl hc8 ?_
 refine VC.skip (Qg (VC.rs (VO.mv (VO.z (.nilp rfl) (VO.z (.fa rfl Zt rfl) ?_)))))
 obtain ⟨q52_E,q52_A1,q52_c1,q52_A2,q52_c2,q52_A3,q52_c3,q52_A4,q52_c4,q52_A5,q52_c5,q52_n1,q52_n2,q52_n3,q52_n4,q52_n5,_,q52_S,q52_1,q52_2,q52_3,q52_4,q52_5,q52_8,q52_9⟩:=QB ho51
 simp only [inK] at q52_8 q52_9
 refine VO.inv _ (fun _ h=>h.parts (i:=151) rfl q52_S [158,153,154,155,156,157]) ?_
 refine VO.z (.ld1 158 rfl tk3 rfl (Qa rfl rfl)) ?_
 refine VO.z (.add rfl rfl rfl ⟨by exact Yn,by exact Yn⟩) ?_
 refine VO.z (.nilp rfl) (VO.z (.fa rfl Zt rfl) ?_)
 refine VO.s1 158 tk3 ?_
 refine VO.clsP 159 [158,153,154,155,156,157] rfl (fun hg59=>(J4 _ _ _ _ _ _ _ _ _ _ hg59 q52_1 q52_2 q52_3 q52_4 q52_5 JK JK)) (fun mc59 ho59=>?_)
 refine VO.k4 0 2 13 20 (VC.rs (VO.as (VO.k4 0 2 13 20 (VC.ret ?_))))
 exact ZD 2 159 rfl ho59 (by first | rfl | (first | exact (QaZ Qf Qf).1 | exact (Qa0 Qf Qf).1 | exact (Qab Qf).1)) (by first | rfl | (first | (rw [(QaZ (r:=d0) Qf Qf).2];rfl) | (rw [(Qa0 (r:=d0) Qf Qf).2];rfl) | (rw [(Qab (r:=d0) Qf).2];rfl)))
theorem Qc3 (W:World) {v0:Value} {d0:List UInt8} (h0:Rd (.sl .byte) (wm W) [v0] d0) {v1:List Value} {d1:Xy} (h1:Rd YP (wm W) v1 d1) (e0:d1.2.1=true→0≤d1.2.2.1∧d1.2.2.1≤d0.length) (e1:d0.length+d1.2.2.2.length≤140737488355000):Qc Tryz.prog 108 [v0,.agg v1.toArray] W (mnil) (fun v m'=>∃ (s0:Value),v=s0∧Ow (.sl .byte) m' [s0] (Qhf d0 d1)):=by
 obtain ⟨A0,c0,rfl,l0,k0⟩:=h0.slc
 obtain ⟨p1_A3,p1_c3,rfl,p1_0,p1_2,p1_3⟩:=Qbk (x0:=d1.1) (x1:=d1.2.1) (x2:=d1.2.2.1) (x3:=d1.2.2.2) h1
 simp only [inK] at p1_0 p1_2
 refine Qc.ofA (n:=21) Tryz.func108 rfl rfl rfl ?_
 refine VC.rs ?_
 refine VO.box (cs:=[.int .i64 (d1.1),.bool d1.2.1,.int .i64 (d1.2.2.1),.slice p1_A3 (d1.2.2.2.length) (p1_c3)]) 102 rfl rfl rfl (fun g1=>?_)
 refine VO.as (VO.k4 0 1 3 4 (VC.rs (VO.as (VO.k5 0 1 3 4 5 (VC.seq (VC.rs (VO.z (.fa rfl QdP rfl) (VO.z (.ld1 102 rfl tk4 rfl (Qa rfl rfl)) (VO.p2 102 0 (VO.k6 0 1 3 4 5 7 ?_))))))))))
 refine VC.condB rfl (fun hc3=>?_) (fun hc3=>?_)
 ·refine VC.rs (VO.mv (VO.mv (VO.z (.fa rfl QdP rfl) (VO.z (.ld1 102 rfl tk3 rfl (Qa rfl rfl)) ?_))))
  have hs4:=h0.pre (j:=((d1.2.2.1).toNat)) (by first | exact bd | (have h_:=e0 Qf;omega))
  refine VO.z (.slHI ((d1.2.2.1).toNat) rfl rfl Jz (by first | exact bd | (have h_:=e0 Qf;omega)) (by first | exact bd | (have h_:=e0 Qf;omega))) ?_
  refine VO.inv _ (fun _ h=>h.nilc 106) ?_
  obtain ⟨mo5,cs5,hM5,hA5,hC5⟩:=(Qz.nil .byte mnil mnil)
  obtain ⟨all5,hS5,hR5⟩:=Rd.srcI (P:=Tryz.prog) (hs4) Tryz.underlying97
  refine VO.app 106 rfl rfl rfl Jz tz5 rfl rfl hM5 hA5 (hS5 _ 0 rfl) hR5.nice (by simp only [maxLen];(first | exact bd | (have h_:=e0 Qf;omega))) (by first | exact bd | (have h_:=e0 Qf;omega)) (by decide) (fun v5 m5 hN5=>?_)
  have ho5:Qz .byte m5 mnil v5 ((d0).take ((d1.2.2.1).toNat)):=Qz.more hC5 hN5 (Q8.mono hR5 fun _ _ h=>Rd.flat rfl h _)
  obtain ⟨A5,c5,rfl,l5,k5⟩:=ho5.slc
  refine VO.as (VO.k6 0 1 3 4 5 7 (VC.ret (QK ?_)))
  refine XC 4 [106] fun hS_=>?_
  dsimp only [Qu]
  exact ⟨Value.slice A5 (((d0).take ((d1.2.2.1).toNat)).length) (c5),(by first | rfl | (simp [*];done)),(Ow.cg (Ow.up (Qz.ow ho5 rfl) (hS_.1 _ (.head _))) (by first | rfl | (simp [Qhf, *];done)))⟩
 ·refine VC.skip (Qg (VC.rs (VO.mv (VO.mv ?_))))
  refine VO.inv _ (fun _ h=>h.nilc 108) ?_
  obtain ⟨mo7,cs7,hM7,hA7,hC7⟩:=(Qz.nil .byte mnil mnil)
  obtain ⟨all7,hS7,hR7⟩:=Rd.srcI (P:=Tryz.prog) (h0) Tryz.underlying97
  refine VO.app 108 rfl rfl rfl Jz tz5 rfl rfl hM7 hA7 (hS7 _ 0 rfl) hR7.nice (by simp only [maxLen];(first | exact bd | (have h_:=e0 Qf;omega))) (by first | exact bd | (have h_:=e0 Qf;omega)) (by decide) (fun v7 m7 hN7=>?_)
  have ho7:Qz .byte m7 mnil v7 (d0):=Qz.more hC7 hN7 (Q8.mono hR7 fun _ _ h=>Rd.flat rfl h _)
  obtain ⟨A7,c7,rfl,l7,k7⟩:=ho7.slc
  refine VO.as (VO.k6 0 1 3 4 5 7 (VC.rs (VO.mv (VO.z (.fa rfl QdP rfl) (VO.z (.ld1 102 rfl QcS rfl (Qa rfl rfl)) ?_)))))
  obtain ⟨mo9,cs9,hM9,hA9,hC9⟩:=ho7
  obtain ⟨all9,hS9,hR9⟩:=Rd.srcI (P:=Tryz.prog) (p1_3) Tryz.underlying97
  refine VO.app 108 rfl rfl rfl Jz tz5 rfl rfl hM9 hA9 (hS9 _ 0 rfl) hR9.nice (by simp only [maxLen];(first | exact bd | (have h_:=e0 Qf;omega))) (by first | exact bd | (have h_:=e0 Qf;omega)) (by decide) (fun v9 m9 hN9=>?_)
  have ho9:Qz .byte m9 mnil v9 (d0++d1.2.2.2):=Qz.more hC9 hN9 (Q8.mono hR9 fun _ _ h=>Rd.flat rfl h _)
  obtain ⟨A9,c9,rfl,l9,k9⟩:=ho9.slc
  refine VO.as (VO.k6 0 1 3 4 5 7 (VC.ret ?_))
  refine XC 4 [108] fun hS_=>?_
  dsimp only [Qu]
  exact ⟨Value.slice A9 ((d0++d1.2.2.2).length) (c9),(by first | rfl | (simp [*];done)),(Ow.cg (Ow.up (Qz.ow ho9 rfl) (hS_.1 _ (.head _))) (by first | rfl | (simp [Qhf, *];done)))⟩
set_option maxHeartbeats 1000000 in
theorem Qe1 (W:World) {m0:Mem} (hm:mle (m0) (wm W)) {g0:Nat} {d0:QD} (h0:Ow (.ptr QH) m0 [Vp g0] (g0,d0)) (d1:Int) (h1:inK .i64 d1) (e0:okR d0) (e1:wD (Qk d0)≤2*1000000000000) (e2:inF d1):Qc Tryz.prog 61 [Vp g0,.int .i64 d1] W (m0) (fun v m'=>∃ (s0:Value),∃ (p0:Mem),∃ (p1:Mem),v=s0∧Qt m' [p0,p1]∧Ow (.sl .byte) p0 [s0] (Zr d0.2.1 (d0.2.2.1.map JY) d1)∧Ow (.ptr QH) p1 [Vp g0] (g0,d0)):=by
 have hok0:okD (Qk d0):=e0;obtain ⟨hg,hfu,hst⟩:=hok0;have hok0:okD (Qk d0):=e0;simp only [wD,Xk] at e1;simp only [Qk] at e1 hfu hst;have hin:=e2;simp only [inF] at hin
 have h1':=h1;simp only [inK] at h1'
 refine Qc.ofB (n:=44) hm Tryz.func61 rfl rfl rfl ?_
 refine VC.rs (VO.as (VO.k3 0 1 4 (VC.rs (VO.as (VO.k4 0 1 4 5 ?_)))))
 refine VC.seqJ (G:=(List UInt8) × (Option Addr) × Nat × Mem × Mem) (fun g=>[(5,.slice (g.2.1) ((g.1).length) ((g.2.2.1))),(0,Vp g0),(1,.int .i64 (d1)),(4,.slice none (0) (0))]) (fun g=>[(111,(g.2.2.2.2)),(110,(g.2.2.2.1)),(0,Ju (wm W) (m0))]) (fun g=>((g.1)=Zr d0.2.1 ((d0.2.2.1.map JY).take 0) d1)∧(Qz .byte (g.2.2.2.1) mnil (.slice (g.2.1) (g.1).length (g.2.2.1)) (g.1))∧(Ow (.ptr QH) (g.2.2.2.2) [Vp g0] (g0,d0))) ?_ ?_
 rintro ⟨bj,bj_A,bj_c,bj_m,dd_m⟩ ⟨hbj,h_bj,h_dd⟩
 replace hbj:bj=Zr d0.2.1 ((d0.2.2.1.map JY).take 0) d1:=hbj
 replace h_bj:Qz .byte bj_m mnil (.slice bj_A bj.length bj_c) bj:=h_bj
 replace h_dd:Ow (.ptr QH) dd_m [Vp g0] (g0,d0):=h_dd
 show VC _ _ _ _ _ [(5,.slice bj_A (bj.length) (bj_c)),(0,Vp g0),(1,.int .i64 (d1)),(4,.slice none (0) (0))] [(111,dd_m),(110,bj_m),(0,Ju (wm W) (m0))]
 have l_bj:bj.length≤bj_c:=by obtain ⟨_,_,he,hl,_⟩:=h_bj.slice;simp only [Value.slice.injEq] at he;omega
 have k_bj:bj_c≤9223372036854775807:=by obtain ⟨_,_,he,_,hl⟩:=h_bj.slice;simp only [Value.slice.injEq,maxLen] at he hl;omega
 obtain ⟨q12_E,q12_A1,q12_c1,q12_A2,q12_c2,q12_A3,q12_c3,q12_A4,q12_c4,q12_A5,q12_c5,q12_n1,q12_n2,q12_n3,q12_n4,q12_n5,_,q12_S,q12_1,q12_2,q12_3,q12_4,q12_5,q12_8,q12_9⟩:=QB h_dd
 have q12_r5:=q12_5.rm
 simp only [inK] at q12_8 q12_9
 refine VC.inv _ (fun _ h=>h.parts (i:=111) rfl q12_S [118,113,114,115,116,117]) ?_
 refine VC.seq (VC.rs (VO.as (VO.k5 0 1 4 5 6 (VC.block ?_))))
 refine VC.loop (G:=Nat × (List UInt8) × (Option Addr) × Nat × Mem) (fun g=>[(5,.slice (g.2.2.1) ((g.2.1).length) ((g.2.2.2.1))),(6,.int .i64 ((((g.1):Nat):Int))),(0,Vp g0),(1,.int .i64 (d1)),(4,.slice none (0) (0))]) (fun g=>[(118,Qo g0 (.cells #[.bool d0.1,.slice q12_A1 (d0.2.1.1.length) (q12_c1),.slice q12_A2 (d0.2.1.2.1.length) (q12_c2),.slice q12_A3 (d0.2.1.2.2.1.length) (q12_c3),.slice q12_A4 (d0.2.1.2.2.2.length) (q12_c4),.slice q12_A5 (d0.2.2.1.length) (q12_c5),.bool d0.2.2.2.1,.bool d0.2.2.2.2.1,.int .i64 (d0.2.2.2.2.2.1),.int .i64 (d0.2.2.2.2.2.2)] q12_E (0,0))),(113,q12_n1),(114,q12_n2),(115,q12_n3),(116,q12_n4),(117,q12_n5),(110,(g.2.2.2.2)),(0,Ju (wm W) (m0))]) (fun g=>((g.1)≤d0.2.2.1.length)∧((g.2.1)=Zr d0.2.1 ((d0.2.2.1.map JY).take (g.1)) d1)∧(Qz .byte (g.2.2.2.2) mnil (.slice (g.2.2.1) (g.2.1).length (g.2.2.2.1)) (g.2.1))) (fun g=>d0.2.2.1.length - (g.1)) (0,bj,bj_A,bj_c,bj_m) (⟨by omega,by exact hbj,h_bj⟩) ⟨esn,fun _ h=>h.sub [118,113,114,115,116,117,110,0]⟩ ?_
 rintro ⟨k,b,b_A,b_c,b_m⟩ ⟨hk,hb,h_b⟩
 replace hk:k≤d0.2.2.1.length:=hk
 replace hb:b=Zr d0.2.1 ((d0.2.2.1.map JY).take k) d1:=hb
 replace h_b:Qz .byte b_m mnil (.slice b_A b.length b_c) b:=h_b
 show VC _ _ _ _ _ [(5,.slice b_A (b.length) (b_c)),(6,.int .i64 (((k:Nat):Int))),(0,Vp g0),(1,.int .i64 (d1)),(4,.slice none (0) (0))] [(118,Qo g0 (.cells #[.bool d0.1,.slice q12_A1 (d0.2.1.1.length) (q12_c1),.slice q12_A2 (d0.2.1.2.1.length) (q12_c2),.slice q12_A3 (d0.2.1.2.2.1.length) (q12_c3),.slice q12_A4 (d0.2.1.2.2.2.length) (q12_c4),.slice q12_A5 (d0.2.2.1.length) (q12_c5),.bool d0.2.2.2.1,.bool d0.2.2.2.2.1,.int .i64 (d0.2.2.2.2.2.1),.int .i64 (d0.2.2.2.2.2.2)] q12_E (0,0))),(113,q12_n1),(114,q12_n2),(115,q12_n3),(116,q12_n4),(117,q12_n5),(110,b_m),(0,Ju (wm W) (m0))]
 have l_b:b.length≤b_c:=by obtain ⟨_,_,he,hl,_⟩:=h_b.slice;simp only [Value.slice.injEq] at he;omega
 have k_b:b_c≤9223372036854775807:=by obtain ⟨_,_,he,_,hl⟩:=h_b.slice;simp only [Value.slice.injEq,maxLen] at he hl;omega
 refine VC.seq (VC.rs (VO.mv (VO.mv (VO.z (.nilp rfl) (VO.z (.fa rfl Zt rfl) (VO.z (.ld1 118 rfl QeM rfl (Qa rfl rfl)) (VO.z (.lenS rfl QcC) (VO.z (.lss rfl rfl) (VO.k6 0 1 4 5 6 21 ?_)))))))))
 refine VC.cond rfl (fun hc19=>?_) (fun hc19=>?_)
 refine VC.skip (Qg (VC.seq (VC.block (VC.rs (VO.mv (VO.z (.nilp rfl) (VO.z (.fa rfl Zt rfl) (VO.z (.ld1 118 rfl QeM rfl (Qa rfl rfl)) (VO.mv ?_)))))))))
 obtain ⟨x20,hx20⟩:∃ z_,(d0.2.2.1)[k]? =some z_:=⟨_,List.getElem?_eq_getElem bd⟩
 obtain ⟨gg20,oo20,ec20,ea20,hce20,hre20⟩:=(Ow.rd q12_5 (Qb _)).elem hx20
 cases ea20
 obtain ⟨q20_A3,q20_c3,rfl,q20_0,q20_2,q20_3⟩:=Qbk (x0:=x20.1) (x1:=x20.2.1) (x2:=x20.2.2.1) (x3:=x20.2.2.2) hre20
 simp only [inK] at q20_0 q20_2
 refine VO.z (.ixI k rfl rfl QcC rfl bd) ?_
 refine VO.z (.fa rfl QdP rfl) ?_
 refine VO.z (.ld1 117 rfl tk3 rfl (hce20.at1 (j:=0) rfl)) ?_
 refine VO.mv (VO.z (.eql rfl rfl) (VO.p8 118 113 114 115 116 117 110 0 (VO.k7 0 1 4 5 6 21 33 ?_)))
 refine VC.cond rfl (fun hc21=>?_) (fun hc21=>?_)
 refine VC.reg ?_
 refine VO.mv (VO.mv (VO.z (.nilp rfl) (VO.z (.fa rfl Zt rfl) (VO.z (.ld1 118 rfl QeM rfl (Qa rfl rfl)) (VO.mv ?_)))))
 refine VO.z (.ixI k rfl rfl QcC rfl bd) ?_
 refine VO.z (.ldA 117 rfl QiL rfl hce20) ?_
 refine VO.callN 123 rfl Qfr rfl (fun W hW=>Qc3 W (Qz.rd h_b (hW.t 110) (JW _)) (Rd.mono hre20 (hW.t 117)) (by (have h_:=Qj3 hok0.1 hb (JF ‹d0.2.2.1[k]? =some _›) e2 ‹_=d1›;exact fun hc_=>h_ (QlL hc_))) (by (have h_:=Qib hb (JF ‹d0.2.2.1[k]? =some _›);simp only [Xk,JY] at h_;omega))) (fun v23 m23 hv23=>?_)
 obtain ⟨s23_0,rfl,f23_0⟩:=hv23
 obtain ⟨A23_0,c23_0,eq23_0,l23_0,k23_0⟩:=f23_0.slc
 subst eq23_0
 refine VO.as (VO.k7 0 1 4 5 6 21 33 (Jh (Qg ?_)))
 refine VC.reg ?_
 refine VO.mv ?_
 refine VO.z (.add (c:=((k+1:Nat):Int)) rfl rfl Qp ⟨bd,bd⟩) ?_
 refine VO.as (VO.k7 0 1 4 5 6 21 33 ?_)
 exact Qg ⟨⟨k+1,Qhf b x20,A23_0,c23_0,m23⟩,⟨by omega,by first | (have h_:=Qeq hb (JF ‹d0.2.2.1[k]? =some _›) ‹_=d1›;rw [← ZO] at h_;exact h_) | exact Qg9 hb (JF ‹d0.2.2.1[k]? =some _›) ‹¬ _=d1›,(Ow.ownl f23_0 rfl mnil)⟩,by (dsimp only;omega),⟨esn,fun _ h=>Inv.sub (Inv.num h 123 110 rfl) [118,113,114,115,116,117,110,0]⟩⟩
 refine VC.skip (Jh (Qg ?_))
 refine VC.reg ?_
 refine VO.mv ?_
 refine VO.z (.add (c:=((k+1:Nat):Int)) rfl rfl Qp ⟨bd,bd⟩) ?_
 refine VO.as (VO.k7 0 1 4 5 6 21 33 ?_)
 exact Qg ⟨⟨k+1,b,b_A,b_c,b_m⟩,⟨by omega,by first | (have h_:=Qeq hb (JF ‹d0.2.2.1[k]? =some _›) ‹_=d1›;rw [← ZO] at h_;exact h_) | exact Qg9 hb (JF ‹d0.2.2.1[k]? =some _›) ‹¬ _=d1›,h_b⟩,by (dsimp only;omega),⟨esn,fun _ h=>Inv.sub h [118,113,114,115,116,117,110,0]⟩⟩
 · refine VC.exit (JU (JU (JT (Qg (VC.rs (VO.mv (VO.as (VO.p8 118 113 114 115 116 117 110 0 (VO.k6 0 1 4 5 6 21 (VC.ret ?_))))))))))
   refine XC 4 [110,118,113,114,115,116,117] fun hS_=>?_
   dsimp only [Qu]
   have hm0_:(d0:QD)=d0:=by first | rfl | (rw [hb,List.take_of_length_le (by rw [List.length_map];omega)])
   refine ⟨.slice b_A (b.length) (b_c),Zs [b_m],Zs [Qo g0 (.cells #[.bool d0.1,.slice q12_A1 (d0.2.1.1.length) (q12_c1),.slice q12_A2 (d0.2.1.2.1.length) (q12_c2),.slice q12_A3 (d0.2.1.2.2.1.length) (q12_c3),.slice q12_A4 (d0.2.1.2.2.2.length) (q12_c4),.slice q12_A5 (d0.2.2.1.length) (q12_c5),.bool d0.2.2.2.1,.bool d0.2.2.2.2.1,.int .i64 (d0.2.2.2.2.2.1),.int .i64 (d0.2.2.2.2.2.2)] q12_E (0,0)),q12_n1,q12_n2,q12_n3,q12_n4,q12_n5],?_,?_,?_,?_⟩
   rotate_left
   · exact Qt.grp (ls:=[[b_m],[Qo g0 (.cells [Value.bool d0.1,Value.slice q12_A1 (d0.2.1.1.length) (q12_c1),Value.slice q12_A2 (d0.2.1.2.1.length) (q12_c2),Value.slice q12_A3 (d0.2.1.2.2.1.length) (q12_c3),Value.slice q12_A4 (d0.2.1.2.2.2.length) (q12_c4),Value.slice q12_A5 (d0.2.2.1.length) (q12_c5),Value.bool d0.2.2.2.1,Value.bool d0.2.2.2.2.1,Value.int .i64 (d0.2.2.2.2.2.1),Value.int .i64 (d0.2.2.2.2.2.2)].toArray q12_E (0,0)),q12_n1,q12_n2,q12_n3,q12_n4,q12_n5]]) hS_
   · exact Ow.cg (Ow.up (Qz.ow h_b rfl) ((Qt.self hS_ (List.Sublist.cons_cons _ (List.Sublist.cons _ (List.Sublist.cons _ (List.Sublist.cons _ (List.Sublist.cons _ (List.Sublist.cons _ (List.Sublist.cons _ List.Sublist.slnil)))))))).1 _ (.head _))) (by first | rfl | (rw [hb,List.take_of_length_le (by rw [List.length_map];omega)]))
   · rw [hm0_];exact (Ji d0 (Qt.self hS_ (List.Sublist.cons _ (List.Sublist.cons_cons _ (List.Sublist.cons_cons _ (List.Sublist.cons_cons _ (List.Sublist.cons_cons _ (List.Sublist.cons_cons _ (List.Sublist.cons_cons _ List.Sublist.slnil)))))))) q12_1 q12_2 q12_3 q12_4 q12_5 bdk bdk)
   all_goals (first | rfl | (simp [*];done))
 intro hJ1
 refine VC.reg ?_
 refine VO.mv (VO.mv (VO.mv (VO.z (.nilp rfl) (VO.z (.fa rfl Zt rfl) ?_))))
 rcases (show d1=(0:Int)∨d1=(1:Int)∨d1=(2:Int)∨d1=(3:Int) from by first | exact bd) with hi24 | hi24 | hi24 | hi24
 refine VO.z (.ixa (i:=0) (o:=1) rfl rfl X0 hi24 rfl rfl) ?_
 obtain ⟨q25_E,q25_A1,q25_c1,q25_A2,q25_c2,q25_A3,q25_c3,q25_A4,q25_c4,q25_A5,q25_c5,q25_n1,q25_n2,q25_n3,q25_n4,q25_n5,_,q25_S,q25_1,q25_2,q25_3,q25_4,q25_5,q25_8,q25_9⟩:=QB h0
 have q25_r1:=q25_1.rm
 simp only [inK] at q25_8 q25_9
 refine VO.inv _ (fun _ h=>h.parts (i:=1) rfl q25_S [131,126,127,128,129,130]) ?_
 refine VO.z (.ld1 131 rfl QcS rfl (Qa rfl rfl)) ?_
 refine VO.inv _ (fun _ h=>h.nilc 133) ?_
 obtain ⟨mo32,cs32,hM32,hA32,hC32⟩:=(Qz.nil .byte mnil mnil)
 obtain ⟨all32,hS32,hR32⟩:=Rd.srcI (P:=Tryz.prog) ((Ow.rd q25_1 (Qb _))) Tryz.underlying97
 refine VO.app 133 rfl rfl rfl Jz tz5 rfl rfl hM32 hA32 (hS32 _ 126 rfl) hR32.nice bdm bd (by decide) (fun v32 m32 hN32=>?_)
 have ho32:Qz .byte m32 mnil v32 (d0.2.1.1):=Qz.more hC32 hN32 (Q8.mono hR32 fun _ _ h=>Rd.flat rfl h _)
 obtain ⟨A32,c32,rfl,l32,k32⟩:=ho32.slc
 refine VO.as ?_
 refine VO.clsP 134 [131,126,127,128,129,130] rfl (fun hg34=>(Ji d0 hg34 q25_1 q25_2 q25_3 q25_4 q25_5 bdk bdk)) (fun mc34 ho34=>?_)
 refine VO.p3 134 133 0 (VO.k4 0 1 4 5 ?_)
 exact Qg (hJ1 ⟨d0.2.1.1,A32,c32,m32,mc34⟩ _ _ ⟨by first | exact (Qa4 ‹d1=(0:Int)›).symm | exact (Qa3 ‹d1=(1:Int)›).symm | exact (Qa2 ‹d1=(2:Int)›).symm | exact (Qa1 ‹d1=(3:Int)›).symm,ho32,ho34⟩ ⟨esn,fun _ h=>Inv.sub (Inv.num (Inv.num h 133 110 rfl) 134 111 rfl) [111,110,0]⟩)
 refine VO.z (.ixa (i:=1) (o:=2) rfl rfl X0 hi24 rfl rfl) ?_
 obtain ⟨q35_E,q35_A1,q35_c1,q35_A2,q35_c2,q35_A3,q35_c3,q35_A4,q35_c4,q35_A5,q35_c5,q35_n1,q35_n2,q35_n3,q35_n4,q35_n5,_,q35_S,q35_1,q35_2,q35_3,q35_4,q35_5,q35_8,q35_9⟩:=QB h0
 have q35_r2:=q35_2.rm
 simp only [inK] at q35_8 q35_9
 refine VO.inv _ (fun _ h=>h.parts (i:=1) rfl q35_S [141,136,137,138,139,140]) ?_
 refine VO.z (.ld1 141 rfl QcS rfl (Qa rfl rfl)) ?_
 refine VO.inv _ (fun _ h=>h.nilc 143) ?_
 obtain ⟨mo42,cs42,hM42,hA42,hC42⟩:=(Qz.nil .byte mnil mnil)
 obtain ⟨all42,hS42,hR42⟩:=Rd.srcI (P:=Tryz.prog) ((Ow.rd q35_2 (Qb _))) Tryz.underlying97
 refine VO.app 143 rfl rfl rfl Jz tz5 rfl rfl hM42 hA42 (hS42 _ 137 rfl) hR42.nice bdm bd (by decide) (fun v42 m42 hN42=>?_)
 have ho42:Qz .byte m42 mnil v42 (d0.2.1.2.1):=Qz.more hC42 hN42 (Q8.mono hR42 fun _ _ h=>Rd.flat rfl h _)
 obtain ⟨A42,c42,rfl,l42,k42⟩:=ho42.slc
 refine VO.as ?_
 refine VO.clsP 144 [141,136,137,138,139,140] rfl (fun hg44=>(Ji d0 hg44 q35_1 q35_2 q35_3 q35_4 q35_5 bdk bdk)) (fun mc44 ho44=>?_)
 refine VO.p3 144 143 0 (VO.k4 0 1 4 5 ?_)
 exact Qg (hJ1 ⟨d0.2.1.2.1,A42,c42,m42,mc44⟩ _ _ ⟨by first | exact (Qa4 ‹d1=(0:Int)›).symm | exact (Qa3 ‹d1=(1:Int)›).symm | exact (Qa2 ‹d1=(2:Int)›).symm | exact (Qa1 ‹d1=(3:Int)›).symm,ho42,ho44⟩ ⟨esn,fun _ h=>Inv.sub (Inv.num (Inv.num h 143 110 rfl) 144 111 rfl) [111,110,0]⟩)
 refine VO.z (.ixa (i:=2) (o:=3) rfl rfl X0 hi24 rfl rfl) ?_
 obtain ⟨q45_E,q45_A1,q45_c1,q45_A2,q45_c2,q45_A3,q45_c3,q45_A4,q45_c4,q45_A5,q45_c5,q45_n1,q45_n2,q45_n3,q45_n4,q45_n5,_,q45_S,q45_1,q45_2,q45_3,q45_4,q45_5,q45_8,q45_9⟩:=QB h0
 have q45_r3:=q45_3.rm
 simp only [inK] at q45_8 q45_9
 refine VO.inv _ (fun _ h=>h.parts (i:=1) rfl q45_S [151,146,147,148,149,150]) ?_
 refine VO.z (.ld1 151 rfl QcS rfl (Qa rfl rfl)) ?_
 refine VO.inv _ (fun _ h=>h.nilc 153) ?_
 obtain ⟨mo52,cs52,hM52,hA52,hC52⟩:=(Qz.nil .byte mnil mnil)
 obtain ⟨all52,hS52,hR52⟩:=Rd.srcI (P:=Tryz.prog) ((Ow.rd q45_3 (Qb _))) Tryz.underlying97
 refine VO.app 153 rfl rfl rfl Jz tz5 rfl rfl hM52 hA52 (hS52 _ 148 rfl) hR52.nice bdm bd (by decide) (fun v52 m52 hN52=>?_)
 have ho52:Qz .byte m52 mnil v52 (d0.2.1.2.2.1):=Qz.more hC52 hN52 (Q8.mono hR52 fun _ _ h=>Rd.flat rfl h _)
 obtain ⟨A52,c52,rfl,l52,k52⟩:=ho52.slc
 refine VO.as ?_
 refine VO.clsP 154 [151,146,147,148,149,150] rfl (fun hg54=>(Ji d0 hg54 q45_1 q45_2 q45_3 q45_4 q45_5 bdk bdk)) (fun mc54 ho54=>?_)
 refine VO.p3 154 153 0 (VO.k4 0 1 4 5 ?_)
 exact Qg (hJ1 ⟨d0.2.1.2.2.1,A52,c52,m52,mc54⟩ _ _ ⟨by first | exact (Qa4 ‹d1=(0:Int)›).symm | exact (Qa3 ‹d1=(1:Int)›).symm | exact (Qa2 ‹d1=(2:Int)›).symm | exact (Qa1 ‹d1=(3:Int)›).symm,ho52,ho54⟩ ⟨esn,fun _ h=>Inv.sub (Inv.num (Inv.num h 153 110 rfl) 154 111 rfl) [111,110,0]⟩)
 refine VO.z (.ixa (i:=3) (o:=4) rfl rfl X0 hi24 rfl rfl) ?_
 obtain ⟨q55_E,q55_A1,q55_c1,q55_A2,q55_c2,q55_A3,q55_c3,q55_A4,q55_c4,q55_A5,q55_c5,q55_n1,q55_n2,q55_n3,q55_n4,q55_n5,_,q55_S,q55_1,q55_2,q55_3,q55_4,q55_5,q55_8,q55_9⟩:=QB h0
 have q55_r4:=q55_4.rm
 simp only [inK] at q55_8 q55_9
 refine VO.inv _ (fun _ h=>h.parts (i:=1) rfl q55_S [161,156,157,158,159,160]) ?_
 refine VO.z (.ld1 161 rfl QcS rfl (Qa rfl rfl)) ?_
 refine VO.inv _ (fun _ h=>h.nilc 163) ?_
 obtain ⟨mo62,cs62,hM62,hA62,hC62⟩:=(Qz.nil .byte mnil mnil)
 obtain ⟨all62,hS62,hR62⟩:=Rd.srcI (P:=Tryz.prog) ((Ow.rd q55_4 (Qb _))) Tryz.underlying97
 refine VO.app 163 rfl rfl rfl Jz tz5 rfl rfl hM62 hA62 (hS62 _ 159 rfl) hR62.nice bdm bd (by decide) (fun v62 m62 hN62=>?_)
 have ho62:Qz .byte m62 mnil v62 (d0.2.1.2.2.2):=Qz.more hC62 hN62 (Q8.mono hR62 fun _ _ h=>Rd.flat rfl h _)
 obtain ⟨A62,c62,rfl,l62,k62⟩:=ho62.slc
 refine VO.as ?_
 refine VO.clsP 164 [161,156,157,158,159,160] rfl (fun hg64=>(Ji d0 hg64 q55_1 q55_2 q55_3 q55_4 q55_5 bdk bdk)) (fun mc64 ho64=>?_)
 refine VO.p3 164 163 0 (VO.k4 0 1 4 5 ?_)
 exact Qg (hJ1 ⟨d0.2.1.2.2.2,A62,c62,m62,mc64⟩ _ _ ⟨by first | exact (Qa4 ‹d1=(0:Int)›).symm | exact (Qa3 ‹d1=(1:Int)›).symm | exact (Qa2 ‹d1=(2:Int)›).symm | exact (Qa1 ‹d1=(3:Int)›).symm,ho62,ho64⟩ ⟨esn,fun _ h=>Inv.sub (Inv.num (Inv.num h 163 110 rfl) 164 111 rfl) [111,110,0]⟩)
theorem X6 {P:Prop} (h:P:=by first | (have h_:=(XO hok0.1 hb (JF ‹d0.2.2.1[k]? =some _›)).2;rw [Qa4 (Ye ‹_=(0:Int)›)] at h_;exact fun hc_=>h_ (QlL hc_)) | (have h_:=(XO hok0.1 hb (JF ‹d0.2.2.1[k]? =some _›)).2;rw [Qa3 (Ye ‹_=(1:Int)›)] at h_;exact fun hc_=>h_ (QlL hc_)) | (have h_:=(XO hok0.1 hb (JF ‹d0.2.2.1[k]? =some _›)).2;rw [Qa2 (Ye ‹_=(2:Int)›)] at h_;exact fun hc_=>h_ (QlL hc_)) | (have h_:=(XO hok0.1 hb (JF ‹d0.2.2.1[k]? =some _›)).2;rw [Qa1 (Ye ‹_=(3:Int)›)] at h_;exact fun hc_=>h_ (QlL hc_))):P:=h
theorem X5 {P:Prop} (h:P:=by first | (have h_:=XQ hb (JF ‹d0.2.2.1[k]? =some _›);rw [Qa4 (Ye ‹_=(0:Int)›)] at h_;simp only [Xk,JY] at h_;omega) | (have h_:=XQ hb (JF ‹d0.2.2.1[k]? =some _›);rw [Qa3 (Ye ‹_=(1:Int)›)] at h_;simp only [Xk,JY] at h_;omega) | (have h_:=XQ hb (JF ‹d0.2.2.1[k]? =some _›);rw [Qa2 (Ye ‹_=(2:Int)›)] at h_;simp only [Xk,JY] at h_;omega) | (have h_:=XQ hb (JF ‹d0.2.2.1[k]? =some _›);rw [Qa1 (Ye ‹_=(3:Int)›)] at h_;simp only [Xk,JY] at h_;omega)):P:=h
theorem J7 {P:Prop} (h:P:=by first | exact bd | (have h_:=(XO hok0.1 hb (JF ‹d0.2.2.1[k]? =some _›)).1;simp only [inF,JY] at h_;omega)):P:=h
theorem QaJ {k:IntKind} {x:Int} (h:inK k x:=by simp only [inK];exact J7):inK k x:=h
set_option maxHeartbeats 1000000 in
theorem Qoi (W:World) {m0:Mem} (hm:mle (m0) (wm W)) {g0:Nat} {d0:QD} (h0:Ow (.ptr QH) m0 [Vp g0] (g0,d0)) (d1:Int) (h1:inK .i64 d1) (e0:okR d0) (e1:wD (Qk d0)≤2*1000000000000) (e2:0≤d1):Qc Tryz.prog 145 [Vp g0,.int .i64 d1] W (m0) (fun v m'=>v= .tuple #[]∧Ow (.ptr QH) m' [Vp g0] (g0,toR (QfN (Qk d0) d1.toNat) d0.2.2.2.2.2.1)):=by
 have hok0:okD (Qk d0):=e0;obtain ⟨hg,hfu,hst⟩:=hok0;have hok0:okD (Qk d0):=e0;simp only [wD,Xk] at e1;simp only [Qk] at e1 hfu hst
 have h1':=h1;simp only [inK] at h1'
 refine Qc.ofB (n:=42) hm Tryz.func145 rfl rfl rfl ?_
 refine VC.rs (VO.as (VO.k3 0 1 4 (VC.block ?_)))
 obtain ⟨q1_E,q1_A1,q1_c1,q1_A2,q1_c2,q1_A3,q1_c3,q1_A4,q1_c4,q1_A5,q1_c5,q1_n1,q1_n2,q1_n3,q1_n4,q1_n5,_,q1_S,q1_1,q1_2,q1_3,q1_4,q1_5,q1_8,q1_9⟩:=QB h0
 simp only [inK] at q1_8 q1_9
 refine VC.inv _ (fun _ h=>h.parts (i:=1) rfl q1_S [107,102,103,104,105,106]) ?_
 refine VC.loop (G:=Nat × (List UInt8) × (Option Addr) × Nat × Mem × (List UInt8) × (Option Addr) × Nat × Mem × (List UInt8) × (Option Addr) × Nat × Mem × (List UInt8) × (Option Addr) × Nat × Mem) (fun g=>[(4,.int .i64 ((((g.1):Nat):Int))),(0,Vp g0),(1,.int .i64 (d1))]) (fun g=>[(107,Qo g0 (.cells #[.bool d0.1,.slice (g.2.2.1) ((g.2.1).length) ((g.2.2.2.1)),.slice (g.2.2.2.2.2.2.1) ((g.2.2.2.2.2.1).length) ((g.2.2.2.2.2.2.2.1)),.slice (g.2.2.2.2.2.2.2.2.2.2.1) ((g.2.2.2.2.2.2.2.2.2.1).length) ((g.2.2.2.2.2.2.2.2.2.2.2.1)),.slice (g.2.2.2.2.2.2.2.2.2.2.2.2.2.2.1) ((g.2.2.2.2.2.2.2.2.2.2.2.2.2.1).length) ((g.2.2.2.2.2.2.2.2.2.2.2.2.2.2.2.1)),.slice q1_A5 (d0.2.2.1.length) (q1_c5),.bool d0.2.2.2.1,.bool d0.2.2.2.2.1,.int .i64 (d0.2.2.2.2.2.1),.int .i64 (d0.2.2.2.2.2.2)] q1_E (0,0))),(102,(g.2.2.2.2.1)),(103,(g.2.2.2.2.2.2.2.2.1)),(104,(g.2.2.2.2.2.2.2.2.2.2.2.2.1)),(105,(g.2.2.2.2.2.2.2.2.2.2.2.2.2.2.2.2)),(106,q1_n5),(0,Ju (wm W) (m0))]) (fun g=>((g.1)≤d1.toNat∧(g.1)≤d0.2.2.1.length)∧(((g.2.1),(g.2.2.2.2.2.1),(g.2.2.2.2.2.2.2.2.2.1),(g.2.2.2.2.2.2.2.2.2.2.2.2.2.1))=Qc9 d0.2.1 ((d0.2.2.1.map JY).take (g.1)))∧(Qz .byte (g.2.2.2.2.1) mnil (.slice (g.2.2.1) (g.2.1).length (g.2.2.2.1)) (g.2.1))∧(Qz .byte (g.2.2.2.2.2.2.2.2.1) mnil (.slice (g.2.2.2.2.2.2.1) (g.2.2.2.2.2.1).length (g.2.2.2.2.2.2.2.1)) (g.2.2.2.2.2.1))∧(Qz .byte (g.2.2.2.2.2.2.2.2.2.2.2.2.1) mnil (.slice (g.2.2.2.2.2.2.2.2.2.2.1) (g.2.2.2.2.2.2.2.2.2.1).length (g.2.2.2.2.2.2.2.2.2.2.2.1)) (g.2.2.2.2.2.2.2.2.2.1))∧(Qz .byte (g.2.2.2.2.2.2.2.2.2.2.2.2.2.2.2.2) mnil (.slice (g.2.2.2.2.2.2.2.2.2.2.2.2.2.2.1) (g.2.2.2.2.2.2.2.2.2.2.2.2.2.1).length (g.2.2.2.2.2.2.2.2.2.2.2.2.2.2.2.1)) (g.2.2.2.2.2.2.2.2.2.2.2.2.2.1))) (fun g=>d1.toNat - (g.1)) (0,d0.2.1.1,q1_A1,q1_c1,q1_n1,d0.2.1.2.1,q1_A2,q1_c2,q1_n2,d0.2.1.2.2.1,q1_A3,q1_c3,q1_n3,d0.2.1.2.2.2,q1_A4,q1_c4,q1_n4) (⟨by omega,by rfl,(Ow.ownl q1_1 rfl mnil),(Ow.ownl q1_2 rfl mnil),(Ow.ownl q1_3 rfl mnil),(Ow.ownl q1_4 rfl mnil)⟩) ⟨esn,fun _ h=>h.sub [107,102,103,104,105,106,0]⟩ ?_
 rintro ⟨k,b0,b0_A,b0_c,b0_m,b1,b1_A,b1_c,b1_m,b2,b2_A,b2_c,b2_m,b3,b3_A,b3_c,b3_m⟩ ⟨hk,hb,h_b0,h_b1,h_b2,h_b3⟩
 replace hk:k≤d1.toNat∧k≤d0.2.2.1.length:=hk
 replace hb:(b0,b1,b2,b3)=Qc9 d0.2.1 ((d0.2.2.1.map JY).take k):=hb
 replace h_b0:Qz .byte b0_m mnil (.slice b0_A b0.length b0_c) b0:=h_b0
 replace h_b1:Qz .byte b1_m mnil (.slice b1_A b1.length b1_c) b1:=h_b1
 replace h_b2:Qz .byte b2_m mnil (.slice b2_A b2.length b2_c) b2:=h_b2
 replace h_b3:Qz .byte b3_m mnil (.slice b3_A b3.length b3_c) b3:=h_b3
 show VC _ _ _ _ _ [(4,.int .i64 (((k:Nat):Int))),(0,Vp g0),(1,.int .i64 (d1))] [(107,Qo g0 (.cells #[.bool d0.1,.slice b0_A (b0.length) (b0_c),.slice b1_A (b1.length) (b1_c),.slice b2_A (b2.length) (b2_c),.slice b3_A (b3.length) (b3_c),.slice q1_A5 (d0.2.2.1.length) (q1_c5),.bool d0.2.2.2.1,.bool d0.2.2.2.2.1,.int .i64 (d0.2.2.2.2.2.1),.int .i64 (d0.2.2.2.2.2.2)] q1_E (0,0))),(102,b0_m),(103,b1_m),(104,b2_m),(105,b3_m),(106,q1_n5),(0,Ju (wm W) (m0))]
 have l_b0:b0.length≤b0_c:=by obtain ⟨_,_,he,hl,_⟩:=h_b0.slice;simp only [Value.slice.injEq] at he;omega
 have k_b0:b0_c≤9223372036854775807:=by obtain ⟨_,_,he,_,hl⟩:=h_b0.slice;simp only [Value.slice.injEq,maxLen] at he hl;omega
 have l_b1:b1.length≤b1_c:=by obtain ⟨_,_,he,hl,_⟩:=h_b1.slice;simp only [Value.slice.injEq] at he;omega
 have k_b1:b1_c≤9223372036854775807:=by obtain ⟨_,_,he,_,hl⟩:=h_b1.slice;simp only [Value.slice.injEq,maxLen] at he hl;omega
 have l_b2:b2.length≤b2_c:=by obtain ⟨_,_,he,hl,_⟩:=h_b2.slice;simp only [Value.slice.injEq] at he;omega
 have k_b2:b2_c≤9223372036854775807:=by obtain ⟨_,_,he,_,hl⟩:=h_b2.slice;simp only [Value.slice.injEq,maxLen] at he hl;omega
 have l_b3:b3.length≤b3_c:=by obtain ⟨_,_,he,hl,_⟩:=h_b3.slice;simp only [Value.slice.injEq] at he;omega
 have k_b3:b3_c≤9223372036854775807:=by obtain ⟨_,_,he,_,hl⟩:=h_b3.slice;simp only [Value.slice.injEq,maxLen] at he hl;omega
 refine VC.seq (VC.rs (VO.mv (VO.mv (VO.z (.lss rfl rfl) (VO.mv ?_)))))
 refine VO.dec (t:=9) rfl (fun hc8=>?_) (fun hc8=>?_)
 refine VO.w (.mv rfl) (VO.w (.mv rfl) (VO.w (.nilp rfl) (VO.w (.fa rfl Zt rfl) (VO.w (.ld1 107 rfl QeM rfl (Qa rfl rfl)) (VO.w (.lenS rfl QcC) (VO.w (.lss rfl rfl) (VO.z (.pT rfl rfl) (VO.k4 0 1 4 17 ?_))))))))
 refine VC.cond rfl (fun hc9=>?_) (fun hc9=>?_)
 refine VC.skip (Qg (VC.seq (VC.block (VC.rs (VO.mv (VO.z (.nilp rfl) (VO.z (.fa rfl Zt rfl) (VO.z (.ld1 107 rfl QeM rfl (Qa rfl rfl)) (VO.mv ?_)))))))))
 obtain ⟨x10,hx10⟩:∃ z_,(d0.2.2.1)[k]? =some z_:=⟨_,List.getElem?_eq_getElem J7⟩
 obtain ⟨gg10,oo10,ec10,ea10,hce10,hre10⟩:=(Ow.rd q1_5 (Qb _)).elem hx10
 cases ea10
 obtain ⟨q10_A3,q10_c3,rfl,q10_0,q10_2,q10_3⟩:=Qbk (x0:=x10.1) (x1:=x10.2.1) (x2:=x10.2.2.1) (x3:=x10.2.2.2) hre10
 simp only [inK] at q10_0 q10_2
 refine VO.z (.ixI k rfl rfl QcC rfl J7) ?_
 refine VO.z (.ldA 106 rfl QiL rfl hce10) ?_
 refine VO.alloc 112 rfl QiI (fun g11=>?_)
 refine VO.store (k:=4) (c':=[.int .i64 (x10.1),.bool x10.2.1,.int .i64 (x10.2.2.1),.slice q10_A3 (x10.2.2.2.length) (q10_c3)]) 112 rfl rfl (.inl QiL) rfl rfl rfl rfl rfl ?_
 refine VO.p8 112 107 102 103 104 105 106 0 (VO.k5 0 1 4 5 17 ?_)
 refine VC.regD _ 14 [(0,true),(1,true),(2,true),(3,true),(4,true),(5,true),(6,true),(7,true),(8,true),(9,true),(10,true),(12,true),(13,true),(11,false)] follows (by kernel_rfl) (fun _ h=>h.sub [112,107,102,103,104,105,106,0]) ?_
 refine VD.z rfl (.mv rfl) (VD.z rfl (.fa rfl QdP rfl) (VD.z rfl (.ld1 112 rfl tk3 rfl (Qa rfl rfl)) (VD.z rfl (.mv rfl) (VD.z rfl (.fa rfl QdP rfl) (VD.z rfl (.ld1 112 rfl tk3 rfl (Qa rfl rfl)) (VD.z rfl (.nilp rfl) (VD.z rfl (.fa rfl Zt rfl) ?_)))))))
 rcases (show x10.1=(0:Int)∨x10.1=(1:Int)∨x10.1=(2:Int)∨x10.1=(3:Int) from by exact J7) with hi13 | hi13 | hi13 | hi13
 refine VD.z rfl (.ixa (i:=0) (o:=1) rfl rfl X0 hi13 rfl rfl) ?_
 refine VD.z rfl (.ld1 107 rfl QcS rfl (Qa rfl rfl)) (VD.z rfl (.ldA 112 rfl QiL rfl (Qa rfl rfl)) (VD.z rfl (.nilp rfl) (VD.z rfl (.fa rfl Zt rfl) ?_)))
 refine VD.callN 114 rfl rfl (.inl rfl) Qfr rfl (fun _ h=>h.sub [112,107,102,103,104,105,106,0]) (fun W hW=>Qc3 W (Qz.rd h_b0 (hW.t 102) (JW _)) (Rd.mono hre10 (hW.t 106)) X6 X5) (fun v14 m14 hv14=>?_)
 obtain ⟨s14_0,rfl,f14_0⟩:=hv14
 obtain ⟨A14_0,c14_0,eq14_0,l14_0,k14_0⟩:=f14_0.slc
 subst eq14_0
 refine VD.nil rfl ?_ rfl
 refine VO.z (.ixa (i:=0) (o:=1) rfl rfl X0 hi13 rfl rfl) ?_
 refine VO.s1 107 QcS ?_
 refine VO.k5 0 1 4 5 17 (Jh (Qg ?_))
 refine VC.reg ?_
 refine VO.mv ?_
 refine VO.z (.add (c:=((k+1:Nat):Int)) rfl rfl Qp ⟨by exact J7,by exact J7⟩) ?_
 refine VO.as (VO.k5 0 1 4 5 17 ?_)
 exact Qg ⟨⟨k+1,Qhf b0 x10,A14_0,c14_0,m14,b1,b1_A,b1_c,b1_m,b2,b2_A,b2_c,b2_m,b3,b3_A,b3_c,b3_m⟩,⟨by omega,by first | (have h_:=Je hb (JF ‹d0.2.2.1[k]? =some _›);rw [ZK,← ZO,QhG (Ye ‹_=(0:Int)›),Qa4 (Ye ‹_=(0:Int)›)] at h_;exact h_) | (have h_:=Je hb (JF ‹d0.2.2.1[k]? =some _›);rw [ZK,← ZO,QhF (Ye ‹_=(1:Int)›),Qa3 (Ye ‹_=(1:Int)›)] at h_;exact h_) | (have h_:=Je hb (JF ‹d0.2.2.1[k]? =some _›);rw [ZK,← ZO,QhE (Ye ‹_=(2:Int)›),Qa2 (Ye ‹_=(2:Int)›)] at h_;exact h_) | (have h_:=Je hb (JF ‹d0.2.2.1[k]? =some _›);rw [ZK,← ZO,QhD (Ye ‹_=(3:Int)›),Qa1 (Ye ‹_=(3:Int)›)] at h_;exact h_),(Ow.ownl f14_0 rfl mnil),h_b1,h_b2,h_b3⟩,by (dsimp only;omega),⟨esn,fun _ h=>Inv.sub (Inv.num h 114 102 rfl) [107,102,103,104,105,106,0]⟩⟩
 refine VD.z rfl (.ixa (i:=1) (o:=2) rfl rfl X0 hi13 rfl rfl) ?_
 refine VD.z rfl (.ld1 107 rfl QcS rfl (Qa rfl rfl)) (VD.z rfl (.ldA 112 rfl QiL rfl (Qa rfl rfl)) (VD.z rfl (.nilp rfl) (VD.z rfl (.fa rfl Zt rfl) ?_)))
 refine VD.callN 115 rfl rfl (.inl rfl) Qfr rfl (fun _ h=>h.sub [112,107,102,103,104,105,106,0]) (fun W hW=>Qc3 W (Qz.rd h_b1 (hW.t 103) (JW _)) (Rd.mono hre10 (hW.t 106)) X6 X5) (fun v15 m15 hv15=>?_)
 obtain ⟨s15_0,rfl,f15_0⟩:=hv15
 obtain ⟨A15_0,c15_0,eq15_0,l15_0,k15_0⟩:=f15_0.slc
 subst eq15_0
 refine VD.nil rfl ?_ rfl
 refine VO.z (.ixa (i:=1) (o:=2) rfl rfl X0 hi13 rfl rfl) ?_
 refine VO.s1 107 QcS ?_
 refine VO.k5 0 1 4 5 17 (Jh (Qg ?_))
 refine VC.reg ?_
 refine VO.mv ?_
 refine VO.z (.add (c:=((k+1:Nat):Int)) rfl rfl Qp ⟨by exact J7,by exact J7⟩) ?_
 refine VO.as (VO.k5 0 1 4 5 17 ?_)
 exact Qg ⟨⟨k+1,b0,b0_A,b0_c,b0_m,Qhf b1 x10,A15_0,c15_0,m15,b2,b2_A,b2_c,b2_m,b3,b3_A,b3_c,b3_m⟩,⟨by omega,by first | (have h_:=Je hb (JF ‹d0.2.2.1[k]? =some _›);rw [ZK,← ZO,QhG (Ye ‹_=(0:Int)›),Qa4 (Ye ‹_=(0:Int)›)] at h_;exact h_) | (have h_:=Je hb (JF ‹d0.2.2.1[k]? =some _›);rw [ZK,← ZO,QhF (Ye ‹_=(1:Int)›),Qa3 (Ye ‹_=(1:Int)›)] at h_;exact h_) | (have h_:=Je hb (JF ‹d0.2.2.1[k]? =some _›);rw [ZK,← ZO,QhE (Ye ‹_=(2:Int)›),Qa2 (Ye ‹_=(2:Int)›)] at h_;exact h_) | (have h_:=Je hb (JF ‹d0.2.2.1[k]? =some _›);rw [ZK,← ZO,QhD (Ye ‹_=(3:Int)›),Qa1 (Ye ‹_=(3:Int)›)] at h_;exact h_),h_b0,(Ow.ownl f15_0 rfl mnil),h_b2,h_b3⟩,by (dsimp only;omega),⟨esn,fun _ h=>Inv.sub (Inv.num h 115 103 rfl) [107,102,103,104,105,106,0]⟩⟩
 refine VD.z rfl (.ixa (i:=2) (o:=3) rfl rfl X0 hi13 rfl rfl) ?_
 refine VD.z rfl (.ld1 107 rfl QcS rfl (Qa rfl rfl)) (VD.z rfl (.ldA 112 rfl QiL rfl (Qa rfl rfl)) (VD.z rfl (.nilp rfl) (VD.z rfl (.fa rfl Zt rfl) ?_)))
 refine VD.callN 116 rfl rfl (.inl rfl) Qfr rfl (fun _ h=>h.sub [112,107,102,103,104,105,106,0]) (fun W hW=>Qc3 W (Qz.rd h_b2 (hW.t 104) (JW _)) (Rd.mono hre10 (hW.t 106)) X6 X5) (fun v16 m16 hv16=>?_)
 obtain ⟨s16_0,rfl,f16_0⟩:=hv16
 obtain ⟨A16_0,c16_0,eq16_0,l16_0,k16_0⟩:=f16_0.slc
 subst eq16_0
 refine VD.nil rfl ?_ rfl
 refine VO.z (.ixa (i:=2) (o:=3) rfl rfl X0 hi13 rfl rfl) ?_
 refine VO.s1 107 QcS ?_
 refine VO.k5 0 1 4 5 17 (Jh (Qg ?_))
 refine VC.reg ?_
 refine VO.mv ?_
 refine VO.z (.add (c:=((k+1:Nat):Int)) rfl rfl Qp ⟨by exact J7,by exact J7⟩) ?_
 refine VO.as (VO.k5 0 1 4 5 17 ?_)
 exact Qg ⟨⟨k+1,b0,b0_A,b0_c,b0_m,b1,b1_A,b1_c,b1_m,Qhf b2 x10,A16_0,c16_0,m16,b3,b3_A,b3_c,b3_m⟩,⟨by omega,by first | (have h_:=Je hb (JF ‹d0.2.2.1[k]? =some _›);rw [ZK,← ZO,QhG (Ye ‹_=(0:Int)›),Qa4 (Ye ‹_=(0:Int)›)] at h_;exact h_) | (have h_:=Je hb (JF ‹d0.2.2.1[k]? =some _›);rw [ZK,← ZO,QhF (Ye ‹_=(1:Int)›),Qa3 (Ye ‹_=(1:Int)›)] at h_;exact h_) | (have h_:=Je hb (JF ‹d0.2.2.1[k]? =some _›);rw [ZK,← ZO,QhE (Ye ‹_=(2:Int)›),Qa2 (Ye ‹_=(2:Int)›)] at h_;exact h_) | (have h_:=Je hb (JF ‹d0.2.2.1[k]? =some _›);rw [ZK,← ZO,QhD (Ye ‹_=(3:Int)›),Qa1 (Ye ‹_=(3:Int)›)] at h_;exact h_),h_b0,h_b1,(Ow.ownl f16_0 rfl mnil),h_b3⟩,by (dsimp only;omega),⟨esn,fun _ h=>Inv.sub (Inv.num h 116 104 rfl) [107,102,103,104,105,106,0]⟩⟩
 refine VD.z rfl (.ixa (i:=3) (o:=4) rfl rfl X0 hi13 rfl rfl) ?_
 refine VD.z rfl (.ld1 107 rfl QcS rfl (Qa rfl rfl)) (VD.z rfl (.ldA 112 rfl QiL rfl (Qa rfl rfl)) (VD.z rfl (.nilp rfl) (VD.z rfl (.fa rfl Zt rfl) ?_)))
 refine VD.callN 117 rfl rfl (.inl rfl) Qfr rfl (fun _ h=>h.sub [112,107,102,103,104,105,106,0]) (fun W hW=>Qc3 W (Qz.rd h_b3 (hW.t 105) (JW _)) (Rd.mono hre10 (hW.t 106)) X6 X5) (fun v17 m17 hv17=>?_)
 obtain ⟨s17_0,rfl,f17_0⟩:=hv17
 obtain ⟨A17_0,c17_0,eq17_0,l17_0,k17_0⟩:=f17_0.slc
 subst eq17_0
 refine VD.nil rfl ?_ rfl
 refine VO.z (.ixa (i:=3) (o:=4) rfl rfl X0 hi13 rfl rfl) ?_
 refine VO.s1 107 QcS ?_
 refine VO.k5 0 1 4 5 17 (Jh (Qg ?_))
 refine VC.reg ?_
 refine VO.mv ?_
 refine VO.z (.add (c:=((k+1:Nat):Int)) rfl rfl Qp ⟨by exact J7,by exact J7⟩) ?_
 refine VO.as (VO.k5 0 1 4 5 17 ?_)
 exact Qg ⟨⟨k+1,b0,b0_A,b0_c,b0_m,b1,b1_A,b1_c,b1_m,b2,b2_A,b2_c,b2_m,Qhf b3 x10,A17_0,c17_0,m17⟩,⟨by omega,by first | (have h_:=Je hb (JF ‹d0.2.2.1[k]? =some _›);rw [ZK,← ZO,QhG (Ye ‹_=(0:Int)›),Qa4 (Ye ‹_=(0:Int)›)] at h_;exact h_) | (have h_:=Je hb (JF ‹d0.2.2.1[k]? =some _›);rw [ZK,← ZO,QhF (Ye ‹_=(1:Int)›),Qa3 (Ye ‹_=(1:Int)›)] at h_;exact h_) | (have h_:=Je hb (JF ‹d0.2.2.1[k]? =some _›);rw [ZK,← ZO,QhE (Ye ‹_=(2:Int)›),Qa2 (Ye ‹_=(2:Int)›)] at h_;exact h_) | (have h_:=Je hb (JF ‹d0.2.2.1[k]? =some _›);rw [ZK,← ZO,QhD (Ye ‹_=(3:Int)›),Qa1 (Ye ‹_=(3:Int)›)] at h_;exact h_),h_b0,h_b1,h_b2,(Ow.ownl f17_0 rfl mnil)⟩,by (dsimp only;omega),⟨esn,fun _ h=>Inv.sub (Inv.num h 117 105 rfl) [107,102,103,104,105,106,0]⟩⟩
 · refine VC.exit (JU (JU (JT ?_)))
   refine ⟨_,_,QE (rs:=[]) rfl .nil,fun W_ hI=>Q2 (l:=[Qo g0 (.cells #[.bool d0.1,.slice b0_A (b0.length) (b0_c),.slice b1_A (b1.length) (b1_c),.slice b2_A (b2.length) (b2_c),.slice b3_A (b3.length) (b3_c),.slice q1_A5 (d0.2.2.1.length) (q1_c5),.bool d0.2.2.2.1,.bool d0.2.2.2.2.1,.int .i64 (d0.2.2.2.2.2.1),.int .i64 (d0.2.2.2.2.2.2)] q1_E (0,0)),b0_m,b1_m,b2_m,b3_m,q1_n5]) hI [107,102,103,104,105,106] rfl rfl (Qb _) (fun hS_=>?_)⟩
   dsimp only [Qu]
   have hm0_:(toR (QfN (Qk d0) d1.toNat) d0.2.2.2.2.2.1:QD)=(d0.1,(b0,b1,b2,b3),d0.2.2):=by first | rfl | (exact QmJ hb Qp)
   refine ⟨?_,?_⟩
   rotate_left
   · rw [hm0_];exact (J4 _ _ _ _ _ _ _ _ _ _ hS_ (Qz.ow h_b0 rfl) (Qz.ow h_b1 rfl) (Qz.ow h_b2 rfl) (Qz.ow h_b3 rfl) q1_5 QaJ QaJ)
   all_goals (first | rfl | (simp [*];done))
 · refine VO.gN (VO.gN (VO.gN (VO.gN (VO.gN (VO.gN (VO.gN (VO.z (.pF rfl rfl) (VO.k4 0 1 4 17 (VC.condF rfl (VC.exit (JU ?_)))))))))))
   refine JU (JT ?_)
   refine ⟨_,_,QE (rs:=[]) rfl .nil,fun W_ hI=>Q2 (l:=[Qo g0 (.cells #[.bool d0.1,.slice b0_A (b0.length) (b0_c),.slice b1_A (b1.length) (b1_c),.slice b2_A (b2.length) (b2_c),.slice b3_A (b3.length) (b3_c),.slice q1_A5 (d0.2.2.1.length) (q1_c5),.bool d0.2.2.2.1,.bool d0.2.2.2.2.1,.int .i64 (d0.2.2.2.2.2.1),.int .i64 (d0.2.2.2.2.2.2)] q1_E (0,0)),b0_m,b1_m,b2_m,b3_m,q1_n5]) hI [107,102,103,104,105,106] rfl rfl (Qb _) (fun hS_=>?_)⟩
   dsimp only [Qu]
   have hm0_:(toR (QfN (Qk d0) d1.toNat) d0.2.2.2.2.2.1:QD)=(d0.1,(b0,b1,b2,b3),d0.2.2):=by first | rfl | (exact QmJ hb Qp)
   refine ⟨?_,?_⟩
   rotate_left
   · rw [hm0_];exact (J4 _ _ _ _ _ _ _ _ _ _ hS_ (Qz.ow h_b0 rfl) (Qz.ow h_b1 rfl) (Qz.ow h_b2 rfl) (Qz.ow h_b3 rfl) q1_5 QaJ QaJ)
   all_goals (first | rfl | (simp [*];done))
theorem Qjg:JE Tryz.prog 144=true:=by kernel_rfl
theorem Qj9:JE Tryz.prog 64=true:=by kernel_rfl
theorem Y6 {P:Prop} (h:P:=by first | rfl | (rw [Qds (by assumption)] <;> rfl) | (rw [Qdr (by assumption) (fun q_:inF d1=>by obtain ⟨q1_,q2_⟩:=q_;omega)] <;> rfl) | (rw [Y8 (by assumption) (Decidable.not_not.2 (show inF d1 from ⟨by omega,by omega⟩)),QbC hp hn (by simp only [List.length_drop];omega) (by rw [← hfr];exact Zj (by assumption))] <;> rfl) | (rw [Y8 (by assumption) (Decidable.not_not.2 (show inF d1 from ⟨by omega,by omega⟩)),Qez hp (by simp only [List.length_drop];omega)] <;> rfl) | (rw [Y8 (by assumption) (Decidable.not_not.2 (show inF d1 from ⟨by omega,by omega⟩)),QbC hp hn (by simp only [List.length_drop];omega) (by rw [← hfr];exact Zj (by assumption)),if_neg (by assumption)];rfl) | (rw [Y8 (by assumption) (Decidable.not_not.2 (show inF d1 from ⟨by omega,by omega⟩)),QbC hp hn (by simp only [List.length_drop];omega) (by rw [← hfr];exact Zj (by assumption))];exact congrArg (Value.int _) (if_neg (Zj (by assumption))))):P:=h
theorem Y5 {P:Prop} (h:P:=by first | rfl | (rw [Qds (by assumption),Zf];done) | (rw [Qdr (by assumption) (fun q_:inF d1=>by obtain ⟨q1_,q2_⟩:=q_;omega),Zf];done) | (rw [Y8 (by assumption) (Decidable.not_not.2 (show inF d1 from ⟨by omega,by omega⟩)),QbC hp hn (by simp only [List.length_drop];omega) (by rw [← hfr];exact Zj (by assumption))];exact QkJ hr hfr) | (rw [Y8 (by assumption) (Decidable.not_not.2 (show inF d1 from ⟨by omega,by omega⟩)),Qez hp (by simp only [List.length_drop];omega)];exact hr.symm)):P:=h
set_option maxHeartbeats 1000000 in
theorem Qme (W:World) {m0:Mem} (hm:mle (m0) (wm W)) {g0:Nat} {d0:QD} (h0:Ow (.ptr QH) m0 [Vp g0] (g0,d0)) (d1:Int) (h1:inK .i64 d1) {v2:Value} {d2:List UInt8} (h2:Rd (.sl .byte) (Ju (wm W) (m0)) [v2] d2) (e0:okR d0) (e1:wD (Qk d0)+3*d2.length≤1000000000000):Qc Tryz.prog 150 [Vp g0,.int .i64 d1,v2] W (m0) (fun v m'=>v= .int .i64 ((Q7 (Qk d0) d1 d2).2)∧Ow (.ptr QH) m' [Vp g0] (g0,toR (Q7 (Qk d0) d1 d2).1 d0.2.2.2.2.2.1)):=by
 have h1':=h1;simp only [inK] at h1'
 obtain ⟨A2,c2,rfl,l2,k2⟩:=h2.slc
 refine Qc.ofB (n:=53) hm Tryz.func150 rfl rfl rfl ?_
 refine VC.rs (VO.as (VO.k4 0 1 2 6 (VC.rs (VO.mv ?_))))
 refine VO.call 1 rfl Qj9 rfl rfl (fun W hW=>Qc4 W (hW.t 1) h0) (fun v1 m1 hv1=>?_)
 obtain ⟨rfl,w1_0⟩:=hv1
 refine VO.as (VO.k5 0 1 2 6 7 (VC.seq (VC.rs (VO.mv (VO.z (.neq rfl rfl) (VO.p2 1 0 (VO.k6 0 1 2 6 7 13 ?_)))))))
 refine VC.cond rfl (fun hc2=>?_) (fun hc2=>?_)
 refine VC.rs (VO.mv (VO.as (VO.k6 0 1 2 6 7 13 (VC.ret (QK ?_)))))
 exact ZD 6 1 rfl w1_0 (by first | rfl | exact Y5) (by first | rfl | exact Y6)
 refine VC.skip (Qg (VC.seq (VC.rs (VO.mv (VO.z (.lss rfl rfl) (VO.mv ?_))))))
 refine VO.dec (t:=17) rfl (fun hc3=>?_) (fun hc3=>?_)
 refine VO.gN (VO.gN (VO.z (.pT rfl rfl) (VO.k7 0 1 2 6 7 13 20 (VC.condT rfl (VC.rs (VO.as (VO.k7 0 1 2 6 7 13 20 (VC.ret (QK ?_)))))))))
 exact ZD 6 1 rfl w1_0 (by first | rfl | exact Y5) (by first | rfl | exact Y6)
 refine VO.w (.mv rfl) (VO.w (.geq rfl rfl) (VO.z (.pF rfl rfl) (VO.k7 0 1 2 6 7 13 20 ?_)))
 refine VC.cond rfl (fun hc4=>?_) (fun hc4=>?_)
 refine VC.rs (VO.as (VO.k7 0 1 2 6 7 13 20 (VC.ret (QK ?_))))
 exact ZD 6 1 rfl w1_0 (by first | rfl | exact Y5) (by first | rfl | exact Y6)
 refine VC.skip (Qg (VC.seq (VC.rs (VO.as (VO.k8 0 1 2 6 7 8 13 20 (VC.block ?_))))))
 refine VC.loop (G:=QD × Mem × Nat × Nat × QS) (fun g=>[(8,.int .i64 ((((g.2.2.1):Nat):Int))),(0,Vp g0),(1,.int .i64 (d1)),(2,.slice A2 (d2.length) (c2)),(13,.bool (decide (¬ (Jt (Qk d0))=0))),(20,.bool (decide (4≤d1)))]) (fun g=>[(1,(g.2.1)),(0,Ju (wm W) (m0))]) (fun g=>((g.1)=toR (g.2.2.2.2) d0.2.2.2.2.2.1)∧(okD (g.2.2.2.2)∧nf (g.2.2.2.2))∧(Jq d2.length (Qk d0) d1 d2=Jq (g.2.2.2.1) (g.2.2.2.2) d1 (d2.drop (g.2.2.1)))∧((d2.drop (g.2.2.1)).length≤(g.2.2.2.1))∧(wD (g.2.2.2.2)+3*(d2.drop (g.2.2.1)).length≤1000000000000)∧((g.2.2.1)≤d2.length+64)∧(Ow (.ptr QH) (g.2.1) [Vp g0] (g0,(g.1)))) (fun g=>d2.length - (g.2.2.1)) (d0,m1,0,d2.length,Qk d0) (⟨by exact (Zf d0).symm,by exact ⟨e0,YF d0⟩,by rfl,by simp,by simpa using e1,by (dsimp only;omega),w1_0⟩) ⟨esn,fun _ h=>h.sub [1,0]⟩ ?_
 rintro ⟨r,r_m,at_,n,D⟩ ⟨hr,hD,hp,hn,hw,hat,h_r⟩
 replace hr:r=toR D d0.2.2.2.2.2.1:=hr
 replace hD:okD D∧nf D:=hD
 replace hp:Jq d2.length (Qk d0) d1 d2=Jq n D d1 (d2.drop at_):=hp
 replace hn:(d2.drop at_).length≤n:=hn
 replace hw:wD D+3*(d2.drop at_).length≤1000000000000:=hw
 replace hat:at_≤d2.length+64:=hat
 replace h_r:Ow (.ptr QH) r_m [Vp g0] (g0,r):=h_r
 show VC _ _ _ _ _ [(8,.int .i64 (((at_:Nat):Int))),(0,Vp g0),(1,.int .i64 (d1)),(2,.slice A2 (d2.length) (c2)),(13,.bool (decide (¬ (Jt (Qk d0))=0))),(20,.bool (decide (4≤d1)))] [(1,r_m),(0,Ju (wm W) (m0))]
 have hfr:Qk r=D:=by rw [hr];exact Xs hD.1 hD.2
 have hok:okR r:=by unfold okR;rw [hfr];exact hD.1
 have hwr:wD (Qk r)=wD D:=by rw [hfr]
 refine VC.seq (VC.rs (VO.mv (VO.mv (VO.z (.lenS rfl Jz) (VO.z (.lss rfl rfl) (VO.p2 1 0 (VO.k7 0 1 2 8 13 20 24 ?_)))))))
 refine VC.cond rfl (fun hc5=>?_) (fun hc5=>?_)
 refine VC.skip (Qg (VC.seq (VC.block (VC.rs (VO.mv ?_)))))
 refine VO.call 1 rfl Qjg rfl rfl (fun W hW=>QgV W (hW.t 1) h_r Qf bd) (fun v6 m6 hv6=>?_)
 obtain ⟨rfl,w6_0⟩:=hv6
 have hfa9:=(Qjt (show okD (Qk r) from (show okR r by assumption)))
 refine VO.as (VO.k8 0 1 2 7 8 13 20 24 (VC.seq (VC.rs (VO.mv (VO.z (.neq rfl rfl) (VO.k9 0 1 2 7 8 13 20 24 30 ?_))))))
 refine VC.cond rfl (fun hc10=>?_) (fun hc10=>?_)
 refine VC.rs (VO.mv (VO.as (VO.p2 1 0 (VO.k10 0 1 2 6 7 8 13 20 24 30 (VC.ret (QK (Jf (QK (QK (Jf (QK ?_)))))))))))
 exact ZD 6 1 rfl w6_0 (by first | rfl | exact Y5) (by first | rfl | exact Y6)
 refine VC.skip (Qg (VC.rs (VO.as (VO.p2 1 0 (VO.k10 0 1 2 7 8 9 13 20 24 30 ?_)))))
 obtain ⟨q11_E,q11_A1,q11_c1,q11_A2,q11_c2,q11_A3,q11_c3,q11_A4,q11_c4,q11_A5,q11_c5,q11_n1,q11_n2,q11_n3,q11_n4,q11_n5,_,q11_S,q11_1,q11_2,q11_3,q11_4,q11_5,q11_8,q11_9⟩:=QB w6_0
 simp only [inK] at q11_8 q11_9
 refine VC.inv _ (fun _ h=>h.parts (i:=1) rfl q11_S [117,112,113,114,115,116]) ?_
 refine VC.regD _ 19 [(0,true),(1,true),(2,true),(3,true),(4,true),(5,true),(6,true),(7,true),(8,true),(9,true),(10,true),(11,true),(12,true),(13,true),(14,true),(15,false),(16,true),(17,false),(18,false)] follows (by kernel_rfl) (fun _ h=>h.sub [117,112,113,114,115,0]) ?_
 refine VD.z rfl (.mv rfl) (VD.z rfl (.mv rfl) (VD.z rfl (.nilp rfl) (VD.z rfl (.fa rfl Zt rfl) (VD.z rfl (.ld1 117 rfl QeM rfl (Qa rfl rfl)) (VD.z rfl (.mv rfl) (VD.z rfl (.mv rfl) (VD.z rfl (.mv rfl) (VD.z rfl (.mv rfl) (VD.z rfl (.mv rfl) (VD.z rfl (.lenS rfl Jz) (VD.z rfl (.mv rfl) ?_)))))))))))
 refine VD.z rfl (.add (c:=((at_+64:Nat):Int)) rfl rfl Qp ⟨bd,bd⟩) ?_
 refine VD.z rfl (.minM rfl rfl) ?_
 obtain ⟨A18,hA18,hs18⟩:=h2.sub' 1 at_ ((min ((d2.length:Nat):Int) ((at_+64:Nat):Int)).toNat) rfl bd bd
 refine VD.z rfl (.slI at_ ((min ((d2.length:Nat):Int) ((at_+64:Nat):Int)).toNat) A18 rfl rfl rfl Jz rfl bd hA18 bd bd) ?_
 refine VD.inv _ (fun _ h=>h.nilc 120) ?_
 obtain ⟨mo19,cs19,hM19,hA19,hC19⟩:=(Qz.nil .byte mnil mnil)
 obtain ⟨all19,hS19,hR19⟩:=Rd.srcI (P:=Tryz.prog) (hs18) Tryz.underlying97
 refine VD.app 120 rfl rfl rfl rfl Jz tz5 rfl rfl hM19 hA19 (hS19 _ 0 rfl) hR19.nice bdm bd (by decide) (fun _ _ h=>h.sub [117,112,113,114,115,0]) (fun v19 m19 hN19=>?_)
 have ho19:Qz .byte m19 mnil v19 ((d2.take ((min ((d2.length:Nat):Int) ((at_+64:Nat):Int)).toNat)).drop at_):=Qz.more hC19 hN19 (Q8.mono hR19 fun _ _ h=>Rd.flat rfl h _)
 obtain ⟨A19,c19,rfl,l19,k19⟩:=ho19.slc
 refine VD.z rfl (.bst (cs:=[.int .i64 (d1),.bool false,.int .i64 (0),.slice A19 (((d2.take ((min ((d2.length:Nat):Int) ((at_+64:Nat):Int)).toNat)).drop at_).length) (c19)]) rfl QdP QiI rfl) ?_
 refine VD.bsl (cs:=[.int .i64 (d1),.bool false,.int .i64 (0),.slice A19 (((d2.take ((min ((d2.length:Nat):Int) ((at_+64:Nat):Int)).toNat)).drop at_).length) (c19)]) 122 rfl rfl rfl QcC QiI rfl rfl (fun _ h=>h.sub [117,112,113,114,115,0]) (fun g21=>?_)
 refine VD.appO (e:=YP) 116 120 122 rfl rfl rfl rfl QcC QiI rfl rfl rfl rfl q11_5 (QdZ _ _ _ _ (Qt.one (Qb _)) bdk bdk (Qz.ow ho19 rfl)) Tryz.underlying116 (Qa rfl rfl) bdm bd (by decide) (fun _ _ h=>h.sub [117,112,113,114,115,0]) (fun v23 m23 ho23=>?_)
 obtain ⟨A23,c23,rfl,l23,k23⟩:=ho23.slc
 refine VD.nil rfl ?_ rfl
 refine VO.z (.nilp rfl) (VO.z (.fa rfl Zt rfl) ?_)
 refine VO.s1 117 QeM ?_
 refine VO.clsP 124 [117,112,113,114,115,116] rfl (fun hg24=>(J4 _ _ _ _ _ _ _ _ _ _ hg24 q11_1 q11_2 q11_3 q11_4 ho23 bdk bdk)) (fun mc24 ho24=>?_)
 refine VO.k10 0 1 2 7 8 9 13 20 24 30 (Jh (Qg ?_))
 refine VC.reg ?_
 refine VO.mv ?_
 refine VO.z (.add (c:=((at_+64:Nat):Int)) rfl rfl Qp ⟨bd,bd⟩) ?_
 refine VO.as (VO.k10 0 1 2 7 8 9 13 20 24 30 ?_)
 exact Qg ⟨⟨((toR (QM (Qk r)).1 r.2.2.2.2.2.1).1,((toR (QM (Qk r)).1 r.2.2.2.2.2.1).2.1),((toR (QM (Qk r)).1 r.2.2.2.2.2.1).2.2.1)++[((d1,false,0,(d2.take ((min ((d2.length:Nat):Int) ((at_+64:Nat):Int)).toNat)).drop at_):Xy)],(toR (QM (Qk r)).1 r.2.2.2.2.2.1).2.2.2),mc24,at_+64,n - 1,Qew (QM D).1 (0,d1,(d2.drop at_).take 64,0)⟩,⟨by exact QiY hr hfr (Qol Qp),by exact Ql3 hD.1 hD.2 (show inF d1 from ⟨by omega,by omega⟩) (by simp only [List.length_drop];omega),by exact QiX hp hn (by simp only [List.length_drop];omega) (by rw [← hfr];exact X8 Qf),by (simp only [List.length_drop] at*;omega),by exact Nat.le_trans (Qof hD.1 (by simp only [List.length_drop];omega)) hw,by (dsimp only;omega),ho24⟩,by (dsimp only;omega),⟨esn,fun _ h=>Inv.sub (Inv.num h 124 1 rfl) [1,0]⟩⟩
 refine VC.exit (JU (JU (JT (Qg (VC.rs (VO.as (VO.k8 0 1 2 6 8 13 20 24 (VC.ret ?_))))))))
 exact ZD 6 1 rfl h_r (by first | rfl | exact Y5) (by first | rfl | exact Y6)
theorem QqZ:JE Tryz.prog 145=true:=by kernel_rfl
theorem QmU:JE Tryz.prog 61=true:=by kernel_rfl
theorem YM {P:Prop} (h:P:=by first | (rw [Qkn (by assumption)] <;> rfl) | (rw [Qco (by assumption) (.inl (fun q_:inF d1=>by obtain ⟨q1_,q2_⟩:=q_;omega))] <;> rfl) | (rw [Qco (by assumption) (.inr (.inl (by assumption)))] <;> rfl) | (rw [Qco (by assumption) (.inr (.inr (by assumption)))] <;> rfl) | (rw [Qkm (by assumption) (Decidable.not_not.2 (show inF d1 from ⟨by omega,by omega⟩)) (by assumption) (by assumption) (Decidable.not_not.2 (X8 (by assumption)))];done) | (rw [QdL (by assumption) (Decidable.not_not.2 (show inF d1 from ⟨by omega,by omega⟩)) (by assumption) (by assumption) (Zj (by assumption))];exact congrArg (Value.int _) (if_neg (Zj (by assumption)))) | (rw [QdL (by assumption) (Decidable.not_not.2 (show inF d1 from ⟨by omega,by omega⟩)) (by assumption) (by assumption) (Zj (by assumption))];rfl) | (rw [QdL (by assumption) (Decidable.not_not.2 (show inF d1 from ⟨by omega,by omega⟩)) (by assumption) (by assumption) (Zj (by assumption)),if_neg (Zj (by assumption))])):P:=h
theorem YJ {P:Prop} (h:P:=by first | (rw [Qkn (by assumption),Zf];done) | (rw [Qco (by assumption) (.inl (fun q_:inF d1=>by obtain ⟨q1_,q2_⟩:=q_;omega)),Zf];done) | (rw [Qco (by assumption) (.inr (.inl (by assumption))),Zf];done) | (rw [Qco (by assumption) (.inr (.inr (by assumption))),Zf];done) | (rw [Qkm (by assumption) (Decidable.not_not.2 (show inF d1 from ⟨by omega,by omega⟩)) (by assumption) (by assumption) (Decidable.not_not.2 (X8 (by assumption)))];exact (Qmd (Zf d0).symm rfl).symm) | (rw [QdL (by assumption) (Decidable.not_not.2 (show inF d1 from ⟨by omega,by omega⟩)) (by assumption) (by assumption) (Zj (by assumption))])):P:=h
theorem Qqr (W:World) {m0:Mem} (hm:mle (m0) (wm W)) {g0:Nat} {d0:QD} (h0:Ow (.ptr QH) m0 [Vp g0] (g0,d0)) (d1:Int) (h1:inK .i64 d1) (d2:Int) (h2:inK .i64 d2) (e0:okR d0) (e1:wD (Qk d0)≤1000000000000):Qc Tryz.prog 109 [Vp g0,.int .i64 d1,.int .i64 d2] W (m0) (fun v m'=>v= .int .i64 ((Qbx (Qk d0) d1 d2).2)∧Ow (.ptr QH) m' [Vp g0] (g0,toR (Qbx (Qk d0) d1 d2).1 d0.2.2.2.2.2.1)):=by
 have h1':=h1;simp only [inK] at h1'
 have h2':=h2;simp only [inK] at h2'
 refine Qc.ofB (n:=48) hm Tryz.func109 rfl rfl rfl ?_
 refine VC.rs (VO.as (VO.k4 0 1 2 6 (VC.rs (VO.mv ?_))))
 refine VO.call 1 rfl Qj9 rfl rfl (fun W hW=>Qc4 W (hW.t 1) h0) (fun v1 m1 hv1=>?_)
 obtain ⟨rfl,w1_0⟩:=hv1
 refine VO.as (VO.k5 0 1 2 6 7 (VC.seq (VC.rs (VO.mv (VO.z (.neq rfl rfl) (VO.p2 1 0 (VO.k6 0 1 2 6 7 11 ?_)))))))
 refine VC.cond rfl (fun hc2=>?_) (fun hc2=>?_)
 refine VC.rs (VO.mv (VO.as (VO.k6 0 1 2 6 7 11 (VC.ret (QK ?_)))))
 exact ZD 6 1 rfl w1_0 (by first | rfl | exact YJ) (by first | rfl | exact YM)
 refine VC.skip (Qg (VC.seq (VC.rs (VO.mv (VO.z (.lss rfl rfl) (VO.mv ?_))))))
 refine VO.dec (t:=15) rfl (fun hc3=>?_) (fun hc3=>?_)
 refine VO.gN (VO.gN (VO.z (.pT rfl rfl) (VO.mv (VO.gN (VO.gN (VO.z (.pT rfl rfl) (VO.mv (VO.gN (VO.gN (VO.gN (VO.gN ?_)))))))))))
 refine VO.gN (VO.gN (VO.z (.pT rfl rfl) (VO.k7 0 1 2 6 7 11 30 (VC.condT rfl (VC.rs (VO.as (VO.k7 0 1 2 6 7 11 30 (VC.ret (QK ?_)))))))))
 exact ZD 6 1 rfl w1_0 (by first | rfl | exact YJ) (by first | rfl | exact YM)
 refine VO.w (.mv rfl) (VO.w (.geq rfl rfl) (VO.z (.pF rfl rfl) (VO.mv ?_)))
 refine VO.dec (t:=19) rfl (fun hc4=>?_) (fun hc4=>?_)
 refine VO.gN (VO.gN (VO.z (.pT rfl rfl) (VO.mv (VO.gN (VO.gN (VO.gN (VO.gN (VO.gN (VO.gN (VO.z (.pT rfl rfl) (VO.k7 0 1 2 6 7 11 30 ?_)))))))))))
 refine VC.condT rfl (VC.rs (VO.as (VO.k7 0 1 2 6 7 11 30 (VC.ret (QK ?_)))))
 exact ZD 6 1 rfl w1_0 (by first | rfl | exact YJ) (by first | rfl | exact YM)
 refine VO.w (.mv rfl) (VO.w (.lss rfl rfl) (VO.z (.pF rfl rfl) (VO.mv ?_)))
 refine VO.dec (t:=23) rfl (fun hc5=>?_) (fun hc5=>?_)
 refine VO.gN (VO.gN (VO.gN (VO.gN (VO.gN (VO.gN (VO.z (.pT rfl rfl) (VO.k7 0 1 2 6 7 11 30 (VC.condT rfl (VC.rs (VO.as (VO.k7 0 1 2 6 7 11 30 ?_)))))))))))
 refine VC.ret (QK ?_)
 exact ZD 6 1 rfl w1_0 (by first | rfl | exact YJ) (by first | rfl | exact YM)
 refine VO.w (.mv rfl) (VO.w (.mv rfl) (VO.w (.mv rfl) ?_))
 refine VO.gcall 1 rfl ⟨_,rfl,rfl⟩ QmU rfl rfl (fun W hW=>Qe1 W (hW.t 1) w1_0 d1 bdk Qf bd (by first | assumption | exact ⟨by omega,by omega⟩)) (fun v6 m6 hv6=>?_)
 obtain ⟨s6_0,p6_0,p6_1,rfl,hS6,f6_0,w6_0⟩:=hv6
 refine VO.inv _ (fun _ h=>h.parts (i:=1) rfl hS6 [107,108]) ?_
 obtain ⟨A6_0,c6_0,eq6_0,l6_0,k6_0⟩:=f6_0.slc
 subst eq6_0
 refine VO.w (.lenS rfl Jz) (VO.w (.gtr rfl rfl) (VO.z (.pF rfl rfl) (VO.k7 0 1 2 6 7 11 30 ?_)))
 refine VC.cond rfl (fun hc10=>?_) (fun hc10=>?_)
 refine VC.rs (VO.as (VO.k7 0 1 2 6 7 11 30 (VC.ret (QK ?_))))
 exact ZD 6 108 rfl w6_0 (by first | rfl | exact YJ) (by first | rfl | exact YM)
 refine VC.skip (Qg (VC.rs (VO.mv ?_)))
 refine VO.call 108 rfl Qjg rfl rfl (fun W hW=>QgV W (hW.t 108) w6_0 Qf bd) (fun v11 m11 hv11=>?_)
 obtain ⟨rfl,w11_0⟩:=hv11
 have hfa14:=(Qjt (show okD (Qk d0) from (show okR d0 by assumption)))
 refine VO.as (VO.k7 0 1 2 6 7 11 30 (VC.seq (VC.rs (VO.mv (VO.z (.neq rfl rfl) (VO.p2 108 0 (VO.k8 0 1 2 6 7 11 30 34 ?_)))))))
 refine VC.cond rfl (fun hc15=>?_) (fun hc15=>?_)
 refine VC.rs (VO.mv (VO.as (VO.k8 0 1 2 6 7 11 30 34 (VC.ret (QK ?_)))))
 exact ZD 6 108 rfl w11_0 (by first | rfl | exact YJ) (by first | rfl | exact YM)
 refine VC.skip (Qg (VC.rs (VO.mv (VO.mv (VO.z (.nilp rfl) (VO.z (.fa rfl Zt rfl) ?_))))))
 obtain ⟨q16_E,q16_A1,q16_c1,q16_A2,q16_c2,q16_A3,q16_c3,q16_A4,q16_c4,q16_A5,q16_c5,q16_n1,q16_n2,q16_n3,q16_n4,q16_n5,_,q16_S,q16_1,q16_2,q16_3,q16_4,q16_5,q16_8,q16_9⟩:=QB w11_0
 simp only [inK] at q16_8 q16_9
 refine VO.inv _ (fun _ h=>h.parts (i:=108) rfl q16_S [122,117,118,119,120,121]) ?_
 refine VO.z (.ld1 122 rfl QeM rfl (Qa rfl rfl)) (VO.mv (VO.mv ?_))
 refine VO.z (.bst (cs:=[.int .i64 (d1),.bool true,.int .i64 (d2),.slice none (0) (0)]) rfl QdP QiI rfl) ?_
 refine VO.bsl (cs:=[.int .i64 (d1),.bool true,.int .i64 (d2),.slice none (0) (0)]) 124 rfl rfl QcC QiI rfl rfl (fun g23=>?_)
 refine VO.inv ((126,mnil)::_) (fun _ h=>h.nilc 126) ?_
 refine VO.appO (e:=YP) 121 126 124 rfl rfl rfl QcC QiI rfl rfl rfl rfl q16_5 (QdZ _ _ _ _ (Qt.nilAt 0 (Qt.nil _)) bdk bdk (Ow.nil _ _)) Tryz.underlying116 (Qa rfl rfl) bdm bd (by decide) (fun v25 m25 ho25=>?_)
 obtain ⟨A25,c25,rfl,l25,k25⟩:=ho25.slc
 refine VO.z (.nilp rfl) (VO.z (.fa rfl Zt rfl) ?_)
 refine VO.s1 122 QeM ?_
 refine VO.clsP 127 [122,117,118,119,120,121] rfl (fun hg27=>(J4 _ _ _ _ _ _ _ _ _ _ hg27 q16_1 q16_2 q16_3 q16_4 ho25 bdk bdk)) (fun mc27 ho27=>?_)
 refine VO.k8 0 1 2 6 7 11 30 34 (VC.rs (VO.as (VO.k8 0 1 2 6 7 11 30 34 (VC.ret ?_))))
 exact ZD 6 127 rfl ho27 (by first | rfl | exact YJ) (by first | rfl | exact YM)
theorem QjQ (W:World) {m0:Mem} (hm:mle (m0) (wm W)) {g0:Nat} {d0:QD} (h0:Ow (.ptr QH) m0 [Vp g0] (g0,d0)) (e0:okR d0) (e1:wD (Qk d0)≤1000000000000):Qc Tryz.prog 110 [Vp g0] W (m0) (fun v m'=>v= .int .i64 ((Zh (Qk d0)).2)∧Ow (.ptr QH) m' [Vp g0] (g0,toR (Zh (Qk d0)).1 d0.2.2.2.2.2.1)):=by
 refine Qc.ofB (n:=24) hm Tryz.func110 rfl rfl rfl ?_
 refine VC.rs (VO.as (VO.k2 0 2 (VC.rs (VO.mv ?_))))
 refine VO.call 1 rfl Qj9 rfl rfl (fun W hW=>Qc4 W (hW.t 1) h0) (fun v1 m1 hv1=>?_)
 obtain ⟨rfl,w1_0⟩:=hv1
 refine VO.as (VO.k3 0 2 3 (VC.seq (VC.rs (VO.mv (VO.z (.neq rfl rfl) (VO.p2 1 0 (VO.k4 0 2 3 7 ?_)))))))
 refine VC.cond rfl (fun hc2=>?_) (fun hc2=>?_)
 ·refine VC.rs (VO.mv (VO.as (VO.k4 0 2 3 7 (VC.ret (QK ?_)))))
  exact ZD 2 1 rfl w1_0 (by first | rfl | (first | (rw [Y9 Qf,Zf];done) | (rw [YY Qf (Decidable.not_not.2 (X8 Qf))];exact (QdB (Xx e0) (XV (YF d0)) Qp).symm) | (rw [ZV Qf (Zj Qf)]))) (by first | rfl | (first | (rw [Y9 Qf] <;> rfl) | (rw [YY Qf (Decidable.not_not.2 (X8 Qf))];done) | (rw [ZV Qf (Zj Qf)];exact congrArg (Value.int _) (if_neg (Zj Qf))) | (rw [ZV Qf (Zj Qf)];rfl)))
 refine VC.skip (Qg (VC.rs (VO.mv ?_)))
 refine VO.call 1 rfl Qjg rfl rfl (fun W hW=>QgV W (hW.t 1) w1_0 Qf bd) (fun v3 m3 hv3=>?_)
 obtain ⟨rfl,w3_0⟩:=hv3
 have hfa4:=(Qqg (show okR d0 by assumption))
 have hfa5:=(Qqe (show okR d0 by assumption))
 refine VO.as (VO.k4 0 2 3 7 (VC.seq (VC.rs (VO.mv (VO.z (.neq rfl rfl) (VO.k5 0 2 3 7 12 ?_))))))
 refine VC.cond rfl (fun hc7=>?_) (fun hc7=>?_)
 ·refine VC.rs (VO.mv (VO.as (VO.p2 1 0 (VO.k5 0 2 3 7 12 (VC.ret (QK ?_))))))
  exact ZD 2 1 rfl w3_0 (by first | rfl | (first | (rw [Y9 Qf,Zf];done) | (rw [YY Qf (Decidable.not_not.2 (X8 Qf))];exact (QdB (Xx e0) (XV (YF d0)) Qp).symm) | (rw [ZV Qf (Zj Qf)]))) (by first | rfl | (first | (rw [Y9 Qf] <;> rfl) | (rw [YY Qf (Decidable.not_not.2 (X8 Qf))];done) | (rw [ZV Qf (Zj Qf)];exact congrArg (Value.int _) (if_neg (Zj Qf))) | (rw [ZV Qf (Zj Qf)];rfl)))
 ·refine VC.skip (Qg (VC.rs (VO.mv (VO.mv (VO.z (.nilp rfl) (VO.z (.fa rfl Zt rfl) ?_))))))
  obtain ⟨q8_E,q8_A1,q8_c1,q8_A2,q8_c2,q8_A3,q8_c3,q8_A4,q8_c4,q8_A5,q8_c5,q8_n1,q8_n2,q8_n3,q8_n4,q8_n5,_,q8_S,q8_1,q8_2,q8_3,q8_4,q8_5,q8_8,q8_9⟩:=QB w3_0
  have q8_r5:=q8_5.rm
  simp only [inK] at q8_8 q8_9
  refine VO.inv _ (fun _ h=>h.parts (i:=1) rfl q8_S [114,109,110,111,112,113]) ?_
  refine VO.z (.ld1 114 rfl QeM rfl (Qa rfl rfl)) (VO.z (.lenS rfl QcC) ?_)
  refine VO.clsP 116 [114,109,110,111,112,113] rfl (fun hg16=>(Ji (toR (QM (Qk d0)).1 d0.2.2.2.2.2.1) hg16 q8_1 q8_2 q8_3 q8_4 q8_5 bdk bdk)) (fun mc16 ho16=>?_)
  refine VO.call 116 rfl QqZ rfl rfl (fun W hW=>Qoi W (hW.t 116) ho16 ((((toR (QM (Qk d0)).1 d0.2.2.2.2.2.1).2.2.1).length:Nat):Int) bdk Qf bd bd) (fun v15 m15 hv15=>?_)
  obtain ⟨rfl,w15_0⟩:=hv15
  refine VO.p2 116 0 (VO.k5 0 2 3 7 12 (VC.rs (VO.mv (VO.z (.nilp rfl) (VO.z (.fa rfl Zt rfl) ?_)))))
  obtain ⟨q17_E,q17_A1,q17_c1,q17_A2,q17_c2,q17_A3,q17_c3,q17_A4,q17_c4,q17_A5,q17_c5,q17_n1,q17_n2,q17_n3,q17_n4,q17_n5,_,q17_S,q17_1,q17_2,q17_3,q17_4,q17_5,q17_8,q17_9⟩:=QB w15_0
  simp only [inK] at q17_8 q17_9
  refine VO.inv _ (fun _ h=>h.parts (i:=116) rfl q17_S [123,118,119,120,121,122]) ?_
  refine VO.s1 123 QeM ?_
  refine VO.clsP 124 [123,118,119,120,121] rfl (fun hg24=>(J4 _ _ _ _ _ _ _ _ _ _ (Qt.nilAt 5 hg24) q17_1 q17_2 q17_3 q17_4 (Ow.nil _ _) bdk bdk)) (fun mc24 ho24=>?_)
  refine VO.k5 0 2 3 7 12 (VC.rs (VO.as (VO.k5 0 2 3 7 12 (VC.ret ?_))))
  exact ZD 2 124 rfl ho24 (by first | rfl | (first | (rw [Y9 Qf,Zf];done) | (rw [YY Qf (Decidable.not_not.2 (X8 Qf))];exact (QdB (Xx e0) (XV (YF d0)) Qp).symm) | (rw [ZV Qf (Zj Qf)]))) (by first | rfl | (first | (rw [Y9 Qf] <;> rfl) | (rw [YY Qf (Decidable.not_not.2 (X8 Qf))];done) | (rw [ZV Qf (Zj Qf)];exact congrArg (Value.int _) (if_neg (Zj Qf))) | (rw [ZV Qf (Zj Qf)];rfl)))
theorem Qoj (W:World) {m0:Mem} (hm:mle (m0) (wm W)) {g0:Nat} {d0:QD} (h0:Ow (.ptr QH) m0 [Vp g0] (g0,d0)) (d1:Int) (h1:inK .i64 d1) (e0:okR d0):Qc Tryz.prog 31 [Vp g0,.int .i64 d1] W (m0) (fun v m'=>v= .int .i64 ((Zi (Qk d0) d1).2)∧Ow (.ptr QH) m' [Vp g0] (g0,toR (Zi (Qk d0) d1).1 d0.2.2.2.2.2.1)):=by
 have h1':=h1;simp only [inK] at h1'
 refine Qc.ofB (n:=20) hm Tryz.func31 rfl rfl rfl ?_
 refine VC.rs (VO.as (VO.k3 0 1 4 (VC.rs (VO.mv ?_))))
 refine VO.call 1 rfl Qj9 rfl rfl (fun W hW=>Qc4 W (hW.t 1) h0) (fun v1 m1 hv1=>?_)
 obtain ⟨rfl,w1_0⟩:=hv1
 refine VO.as (VO.k4 0 1 4 5 (VC.seq (VC.rs (VO.mv (VO.z (.neq rfl rfl) (VO.p2 1 0 (VO.k5 0 1 4 5 9 ?_)))))))
 refine VC.cond rfl (fun hc2=>?_) (fun hc2=>?_)
 ·refine VC.rs (VO.mv (VO.as (VO.k5 0 1 4 5 9 (VC.ret (QK ?_)))))
  exact ZD 4 1 rfl w1_0 (by first | rfl | (first | (rw [show Zi (Qk d0) d1=(Qk d0,Jt (Qk d0)) from if_pos Qf,Zf];done) | (rw [show Zi (Qk d0) d1=(Qk d0,2) from by unfold Zi;rw [if_neg Qf,if_pos Qf],Zf];done) | exact congrArg Prod.fst (show (toR (Zi (Qk d0) d1).1 d0.2.2.2.2.2.1,(0:Int))=((d0.1,d0.2.1,d0.2.2.1,d0.2.2.2.1,true,d1,d0.2.2.2.2.2.2),0) from by unfold Zi;rw [if_neg Qf,if_neg Qf];simp [toR,Qk]))) (by first | rfl | (first | (rw [show Zi (Qk d0) d1=(Qk d0,Jt (Qk d0)) from if_pos Qf] <;> rfl) | (rw [show Zi (Qk d0) d1=(Qk d0,2) from by unfold Zi;rw [if_neg Qf,if_pos Qf]] <;> rfl) | (unfold Zi;rw [if_neg Qf,if_neg Qf])))
 refine VC.skip (Qg (VC.seq (VC.rs (VO.mv (VO.z (.lss rfl rfl) (VO.k6 0 1 4 5 9 12 ?_))))))
 refine VC.cond rfl (fun hc3=>?_) (fun hc3=>?_)
 ·refine VC.rs (VO.as (VO.k6 0 1 4 5 9 12 (VC.ret (QK ?_))))
  exact ZD 4 1 rfl w1_0 (by first | rfl | (first | (rw [show Zi (Qk d0) d1=(Qk d0,Jt (Qk d0)) from if_pos Qf,Zf];done) | (rw [show Zi (Qk d0) d1=(Qk d0,2) from by unfold Zi;rw [if_neg Qf,if_pos Qf],Zf];done) | exact congrArg Prod.fst (show (toR (Zi (Qk d0) d1).1 d0.2.2.2.2.2.1,(0:Int))=((d0.1,d0.2.1,d0.2.2.1,d0.2.2.2.1,true,d1,d0.2.2.2.2.2.2),0) from by unfold Zi;rw [if_neg Qf,if_neg Qf];simp [toR,Qk]))) (by first | rfl | (first | (rw [show Zi (Qk d0) d1=(Qk d0,Jt (Qk d0)) from if_pos Qf] <;> rfl) | (rw [show Zi (Qk d0) d1=(Qk d0,2) from by unfold Zi;rw [if_neg Qf,if_pos Qf]] <;> rfl) | (unfold Zi;rw [if_neg Qf,if_neg Qf])))
 ·refine VC.skip (Qg (VC.rs (VO.mv (VO.mv (VO.mv (VO.z (.nilp rfl) (VO.z (.fa rfl Zt rfl) ?_)))))))
  obtain ⟨q4_E,q4_A1,q4_c1,q4_A2,q4_c2,q4_A3,q4_c3,q4_A4,q4_c4,q4_A5,q4_c5,q4_n1,q4_n2,q4_n3,q4_n4,q4_n5,_,q4_S,q4_1,q4_2,q4_3,q4_4,q4_5,q4_8,q4_9⟩:=QB w1_0
  simp only [inK] at q4_8 q4_9
  refine VO.inv _ (fun _ h=>h.parts (i:=1) rfl q4_S [110,105,106,107,108,109]) ?_
  refine VO.s1 110 tk4 ?_
  refine VO.z (.nilp rfl) (VO.z (.fa rfl Zt rfl) ?_)
  refine VO.s1 110 tk3 ?_
  refine VO.clsP 111 [110,105,106,107,108,109] rfl (fun hg11=>(J4 _ _ _ _ _ _ _ _ _ _ hg11 q4_1 q4_2 q4_3 q4_4 q4_5 bdk bdk)) (fun mc11 ho11=>?_)
  refine VO.k6 0 1 4 5 9 12 (VC.rs (VO.as (VO.p2 111 0 (VO.k6 0 1 4 5 9 12 (VC.ret ?_)))))
  exact ZD 4 111 rfl ho11 (by first | rfl | (first | (rw [show Zi (Qk d0) d1=(Qk d0,Jt (Qk d0)) from if_pos Qf,Zf];done) | (rw [show Zi (Qk d0) d1=(Qk d0,2) from by unfold Zi;rw [if_neg Qf,if_pos Qf],Zf];done) | exact congrArg Prod.fst (show (toR (Zi (Qk d0) d1).1 d0.2.2.2.2.2.1,(0:Int))=((d0.1,d0.2.1,d0.2.2.1,d0.2.2.2.1,true,d1,d0.2.2.2.2.2.2),0) from by unfold Zi;rw [if_neg Qf,if_neg Qf];simp [toR,Qk]))) (by first | rfl | (first | (rw [show Zi (Qk d0) d1=(Qk d0,Jt (Qk d0)) from if_pos Qf] <;> rfl) | (rw [show Zi (Qk d0) d1=(Qk d0,2) from by unfold Zi;rw [if_neg Qf,if_pos Qf]] <;> rfl) | (unfold Zi;rw [if_neg Qf,if_neg Qf])))
theorem Qmf (W:World) {m0:Mem} (hm:mle (m0) (wm W)) {g0:Nat} {d0:QD} (h0:Ow (.ptr QH) m0 [Vp g0] (g0,d0)):Qc Tryz.prog 39 [Vp g0] W (m0) (fun v m'=>v= .int .i64 (Qgv (Qk d0))∧Ow (.ptr QH) m' [Vp g0] (g0,d0)):=by
 refine Qc.ofB (n:=9) hm Tryz.func39 rfl rfl rfl ?_
 refine VC.rs (VO.as (VO.k2 0 2 (VC.seq (VC.rs (VO.mv ?_)))))
 refine VO.call 1 rfl Qpm rfl rfl (fun W hW=>QjR W (hW.t 1) h0) (fun v1 m1 hv1=>?_)
 obtain ⟨rfl,w1_0⟩:=hv1
 refine VO.k3 0 2 4 ?_
 refine VC.cond rfl (fun hc2=>?_) (fun hc2=>?_)
 ·refine VC.rs (VO.as (VO.p2 1 0 (VO.k3 0 2 4 (VC.ret (QK ?_)))))
  exact ZD 2 1 rfl w1_0 (by first | rfl | (simp [*];done)) (by first | rfl | (first | (simp [Qgv,Qk, *];done)))
 ·refine VC.skip (Qg (VC.rs (VO.mv (VO.z (.nilp rfl) (VO.z (.fa rfl Zt rfl) ?_)))))
  obtain ⟨q3_E,q3_A1,q3_c1,q3_A2,q3_c2,q3_A3,q3_c3,q3_A4,q3_c4,q3_A5,q3_c5,q3_n1,q3_n2,q3_n3,q3_n4,q3_n5,_,q3_S,q3_1,q3_2,q3_3,q3_4,q3_5,q3_8,q3_9⟩:=QB w1_0
  simp only [inK] at q3_8 q3_9
  refine VO.inv _ (fun _ h=>h.parts (i:=1) rfl q3_S [109,104,105,106,107,108]) ?_
  refine VO.z (.ld1 109 rfl tk3 rfl (Qa rfl rfl)) (VO.as ?_)
  refine VO.clsP 110 [109,104,105,106,107,108] rfl (fun hg10=>(Ji d0 hg10 q3_1 q3_2 q3_3 q3_4 q3_5 bdk bdk)) (fun mc10 ho10=>?_)
  refine VO.p2 110 0 (VO.k3 0 2 4 (VC.ret ?_))
  exact ZD 2 110 rfl ho10 (by first | rfl | (simp [*];done)) (by first | rfl | (first | (simp [Qgv,Qk, *];done)))
abbrev qA (B : Qr) (s : RS) : Int × RS := Qh B 1 s
abbrev qT (B : Qr) (s : RS) : Qr × RS := Qw B (Qh B 16 (qA B s).2).1 (Qh B 16 (qA B s).2).2
abbrev qV (B : Qr) (s : RS) : Qr × RS := Qw B (Qh B 32 (qT B s).2).1 (Qh B 32 (qT B s).2).2
def YD (B : Qr) (s : RS) : DOp × RS :=
  if (qA B s).1 = 1 then
    if (qV B s).2.2 = true ∨ ¬ Q4 (true, (qT B s).1, (qV B s).1) = 0 then ((false, [], []), ((qV B s).2.1, true)) else ((true, (qT B s).1, (qV B s).1), (qV B s).2)
  else if (qT B s).2.2 = true ∨ ¬ Q4 (false, (qT B s).1, []) = 0 then ((false, [], []), ((qT B s).2.1, true)) else ((false, (qT B s).1, []), (qT B s).2)
section
variable {B b : Qr} {s : RS} {a m : Int}
theorem Qqn (h:(qA B s).1=1) (hb:(qV B s).2.2=true∨¬ Q4 (decide ((qA B s).1=1),(qT B s).1,(qV B s).1)=0):YD B s=((false,[],[]),((qV B s).2.1,true)):=by
 rw [decide_eq_true h] at hb;unfold YD;rw [if_pos h,if_pos hb]
theorem Qqm (h:(qA B s).1=1) (h1:(qV B s).2.2=false) (h2:¬ ¬ Q4 (decide ((qA B s).1=1),(qT B s).1,(qV B s).1)=0):YD B s=((decide ((qA B s).1=1),(qT B s).1,(qV B s).1),(qV B s).2):=by
 rw [decide_eq_true h] at h2 ⊢;unfold YD;rw [if_pos h,if_neg (by rintro (q | q);rw [h1] at q;cases q;exact h2 q)]
theorem Qqp (h:¬ (qA B s).1=1) (hb:(qT B s).2.2=true∨¬ Q4 (decide ((qA B s).1=1),(qT B s).1,[])=0):YD B s=((false,[],[]),((qT B s).2.1,true)):=by
 rw [decide_eq_false h] at hb;unfold YD;rw [if_neg h,if_pos hb]
theorem Qqo (h:¬ (qA B s).1=1) (h1:(qT B s).2.2=false) (h2:¬ ¬ Q4 (decide ((qA B s).1=1),(qT B s).1,[])=0):YD B s=((decide ((qA B s).1=1),(qT B s).1,[]),(qT B s).2):=by
 rw [decide_eq_false h] at h2 ⊢;unfold YD;rw [if_neg h,if_neg (by rintro (q | q);rw [h1] at q;cases q;exact h2 q)]
theorem qT_ok (h:rOk B s):rOk B (qT B s).2∧((qT B s).1.length:Int)≤16:=by
 have h1:=J9 (m:=1) h (by decide)
 have h2:=J9 (m:=16) h1.1 (by decide)
 have h3:=ZW (n:=(Qh B 16 (qA B s).2).1) h2.1 h2.2.1
 have h4:=h2.2.2.2.1 (by decide)
 exact ⟨h3.1,Int.le_trans h3.2 h4⟩
theorem qV_ok (h:rOk B s):rOk B (qV B s).2∧((qV B s).1.length:Int)≤32:=by
 have h0:=(qT_ok h).1
 have h2:=J9 (m:=32) h0 (by decide)
 have h3:=ZW (n:=(Qh B 32 (qT B s).2).1) h2.1 h2.2.1
 have h4:=h2.2.2.2.1 (by decide)
 exact ⟨h3.1,Int.le_trans h3.2 h4⟩
theorem Qe0 (h:rOk B s):rOk B (YD B s).2∧(YD B s).1.2.1.length≤16∧(YD B s).1.2.2.length≤32:=by
 have h1:=qT_ok h;have h2:=qV_ok h
 unfold YD;split
 ·split
  ·exact ⟨h2.1,Nat.zero_le _,Nat.zero_le _⟩
  ·exact ⟨h2.1,by dsimp only;omega,by dsimp only;omega⟩
 ·split
  ·exact ⟨h1.1,Nat.zero_le _,Nat.zero_le _⟩
  ·exact ⟨h1.1,by dsimp only;omega,Nat.zero_le _⟩
theorem QoZ : ∀ {r : Qr} {i x y n : Nat}, 1 ≤ i → vgo i x r = some (y, n) → 2 ^ (7 * i) ≤ y
  | [], i, x, y, n, _, h => by rw [vgo] at h; cases h
  | c :: r, i, x, y, n, hi, h => by
    rw [vgo] at h
    split at h
    · cases h
    · split at h
      · have h1 := QoZ (by omega) h
        have h2 : 2 ^ (7 * i) ≤ 2 ^ (7 * (i + 1)) := Nat.pow_le_pow_right (by decide) (by omega)
        omega
      · split at h
        · cases h
        · rename_i h1 h2 h3
          simp only [Option.some.injEq, Prod.mk.injEq] at h
          have h4 : 1 ≤ c.toNat := by omega
          have h5 : c.toNat % 128 = c.toNat := Nat.mod_eq_of_lt (by omega)
          rw [h5] at h
          have h6 : 1 * 2 ^ (7 * i) ≤ c.toNat * 2 ^ (7 * i) := Nat.mul_le_mul_right _ h4
          omega
theorem Qry:¬ sE ([]:Qr) 1=0:=by decide
theorem Qrz {c : UInt8} {r : Qr} (h : 1 < c.toNat) : ¬ sE (c :: r) 1 = 0 := by
  unfold sE Qbs QaV
  rw [vgo]
  rw [if_neg (by omega)]
  by_cases hc : c.toNat ≥ 128
  · rw [if_pos hc]
    cases hv : vgo (0 + 1) (0 + c.toNat % 128 * 2 ^ (7 * 0)) r with
    | none => decide
    | some p =>
      obtain ⟨y, n⟩ := p
      have h1 := QoZ (by omega) hv
      have h2 : (128 : Nat) ≤ y := h1
      dsimp only
      rw [if_neg (by omega)]; decide
  · rw [if_neg hc, if_neg (by omega)]
    have h5 : c.toNat % 128 = c.toNat := Nat.mod_eq_of_lt (by omega)
    dsimp only
    rw [if_neg (by rw [h5]; omega)]; decide
theorem Qnv {c:UInt8} {r:Qr} (h:¬ 1 < c.toNat):sE (c::r) 1=0∧sX (c::r) 1=c.toNat∧sN (c::r) 1=1:=by
 have h5:c.toNat % 128=c.toNat:=Nat.mod_eq_of_lt (by omega)
 have e:Qbs (c::r) 1=some (c.toNat,1):=by
  unfold Qbs QaV
  rw [vgo,if_neg (by omega),if_neg (by omega),if_neg (by omega),h5]
  dsimp only
  rw [if_pos (by omega)];simp
 unfold sE sX sN;rw [e];exact ⟨rfl,rfl,rfl⟩
theorem Qcn (B:Qr) (h0:0≤a) (n:Nat):B.drop (a+(n:Int)).toNat=(B.drop a.toNat).drop n:=by
 rw [List.drop_drop];congr 1;omega
theorem Qlz (h0:0≤a) (ha:a≤B.length) (hm:0≤m) (hm2:m≤1000):
  ((tRd (B.drop a.toNat) m).2.2=true∧Qw B (Qh B m (a,false)).1 (Qh B m (a,false)).2=((tRd (B.drop a.toNat) m).1,(a+(tRd (B.drop a.toNat) m).2.1,false)))∨
  ((tRd (B.drop a.toNat) m).2.2=false∧(Qw B (Qh B m (a,false)).1 (Qh B m (a,false)).2).2.2=true):=by
 have hb:=Yj (B.drop a.toNat) m (by omega)
 rw [List.length_drop] at hb
 by_cases h:sE (B.drop a.toNat) m=0
 ·rw [ZL rfl h]
  by_cases h2:(sN (B.drop a.toNat) m:Int)+sX (B.drop a.toNat) m≤(B.drop a.toNat).length
  ·left
   have h2':=h2
   rw [List.length_drop] at h2'
   have e:tRd (B.drop a.toNat) m=(((B.drop a.toNat).drop (sN (B.drop a.toNat) m)).take (sX (B.drop a.toNat) m),(sN (B.drop a.toNat) m:Int)+sX (B.drop a.toNat) m,true):=if_pos ⟨h,h2⟩
   refine ⟨by rw [e],?_⟩
   rw [e,QcM rfl (by dsimp only;omega)]
   dsimp only
   rw [Qcn B h0,Int.toNat_natCast,Int.add_assoc]
  ·right
   rw [List.length_drop] at h2
   refine ⟨by rw [QgR (by rw [List.length_drop];omega)],by rw [Qad (.inr (by dsimp only;omega))]⟩
 ·right
  exact ⟨by rw [QgS h],by rw [ZF rfl h,Qad (.inl rfl)]⟩
theorem Qgb (h:s.2=true):(Qh B m s).2.2=true:=by rw [YS h];exact h
theorem Qpc {n:Int} {t:RS} (h:t.2=true):(Qw B n t).2.2=true:=QhS h
theorem Qql (h0 : 0 ≤ a) (ha : a ≤ B.length) :
    ((Yq (B.drop a.toNat)).2.2 = 0 ∧ YD B (a, false) = ((Yq (B.drop a.toNat)).1, (a + (Yq (B.drop a.toNat)).2.1, false))) ∨ (¬ (Yq (B.drop a.toNat)).2.2 = 0 ∧ (YD B (a, false)).2.2 = true) := by
  have stuckT : (qA B (a, false)).2.2 = true → (qA B (a, false)).1 = 0 → (YD B (a, false)).2.2 = true := fun h h1 => by
    have h2 : (qT B (a, false)).2.2 = true := Qpc (Qgb h)
    unfold YD; rw [if_neg (by rw [h1]; decide), if_pos (.inl h2)]
  cases hb : B.drop a.toNat with
  | nil =>
    right
    refine ⟨by decide, stuckT ?_ ?_⟩ <;> (show _ = _; rw [show qA B (a, false) = (0, (a, true)) from ZF rfl (by rw [hb]; exact Qry)])
  | cons c r =>
    have hl : (B.length : Int) - a = r.length + 1 := by
      have := congrArg List.length hb; rw [List.length_drop, List.length_cons] at this; omega
    by_cases hc : 1 < c.toNat
    · right
      refine ⟨by rw [QhX (x := c) rfl (by omega)]; decide, stuckT ?_ ?_⟩ <;> (show _ = _; rw [show qA B (a, false) = (0, (a, true)) from ZF rfl (by rw [hb]; exact Qrz hc)])
    · obtain ⟨e1, e2, e3⟩ := Qnv (r := r) hc
      have eA : qA B (a, false) = ((c.toNat : Int), (a + 1, false)) := by
        have := ZL (B := B) (m := 1) (s := (a, false)) rfl (by rw [hb]; exact e1)
        rw [hb, e2, e3] at this; exact this
      have hd : B.drop (a + 1).toNat = r := by
        rw [show a + 1 = a + ((1 : Nat) : Int) from rfl, Qcn B h0, hb]; rfl
      have hc0 : (c :: r)[0]? = some c := rfl
      have hT := Qlz (B := B) (a := a + 1) (m := 16) (by omega) (by omega) (by decide) (by decide)
      rw [hd] at hT
      have eT : qT B (a, false) = Qw B (Qh B 16 (a + 1, false)).1 (Qh B 16 (a + 1, false)).2 := by unfold qT; rw [eA]
      have fT := QcX r (m := 16) (by decide) (by decide)
      rcases hT with ⟨t1, t2⟩ | ⟨t1, t2⟩
      · rw [← eT] at t2
        by_cases h1 : (c.toNat : Int) = 1
        · have hd2 : B.drop (a + 1 + (tRd r 16).2.1).toNat = (c :: r).drop (1 + (tRd r 16).2.1).toNat := by
            rw [show a + 1 + (tRd r 16).2.1 = a + (((1 + (tRd r 16).2.1).toNat : Nat) : Int) by omega, Qcn B h0, hb]
          have hV := Qlz (B := B) (a := a + 1 + (tRd r 16).2.1) (m := 32) (by omega) (by omega) (by decide) (by decide)
          rw [hd2] at hV
          have eV : qV B (a, false) = Qw B (Qh B 32 (a + 1 + (tRd r 16).2.1, false)).1 (Qh B 32 (a + 1 + (tRd r 16).2.1, false)).2 := by unfold qV; rw [t2]
          rcases hV with ⟨v1, v2⟩ | ⟨v1, v2⟩
          · rw [← eV] at v2
            have eO : Yq (c :: r) = Qe8 (true, (tRd r 16).1, (tRd ((c :: r).drop (1 + (tRd r 16).2.1).toNat) 32).1) (1 + (tRd r 16).2.1 + (tRd ((c :: r).drop (1 + (tRd r 16).2.1).toNat) 32).2.1) := by
              rw [QgY (b := c :: r) (by simp; omega) hc0 (by omega) t1 h1 v1, decide_eq_true h1]; rfl
            rw [eO]
            by_cases ho : Q4 (true, (tRd r 16).1, (tRd ((c :: r).drop (1 + (tRd r 16).2.1).toNat) 32).1) = 0
            · rw [Qch (not_not_intro ho)]
              left
              refine ⟨rfl, ?_⟩
              unfold YD; rw [eA, if_pos h1, if_neg (by rw [v2, t2]; rintro (q | q); cases q; exact q ho), v2, t2]
              simp only [Prod.mk.injEq, true_and, and_true]; omega
            · rw [Qda ho]
              right
              refine ⟨by decide, ?_⟩
              unfold YD; rw [eA, if_pos h1, if_pos (.inr (by rw [v2, t2]; exact ho))]
          · rw [← eV] at v2
            right
            refine ⟨by rw [QjT (b := c :: r) (by simp; omega) hc0 (by omega) t1 h1 v1]; decide, ?_⟩
            unfold YD; rw [eA, if_pos h1, if_pos (.inl v2)]
        · have eO : Yq (c :: r) = Qe8 (false, (tRd r 16).1, []) (1 + (tRd r 16).2.1) := by
            rw [QgZ (b := c :: r) (by simp; omega) hc0 (by omega) t1 h1, decide_eq_false h1]; rfl
          rw [eO]
          by_cases ho : Q4 (false, (tRd r 16).1, []) = 0
          · rw [Qch (not_not_intro ho)]
            left
            refine ⟨rfl, ?_⟩
            unfold YD; rw [eA, if_neg h1, if_neg (by rw [t2]; rintro (q | q); cases q; exact q ho), t2]
            simp only [Prod.mk.injEq, true_and, and_true]; omega
          · rw [Qda ho]
            right
            refine ⟨by decide, ?_⟩
            unfold YD; rw [eA, if_neg h1, if_pos (.inr (by rw [t2]; exact ho))]
      · rw [← eT] at t2
        right
        refine ⟨by rw [QjU (b := c :: r) t1]; decide, ?_⟩
        unfold YD; split
        · rename_i h1
          have hv : (qV B (a, false)).2.2 = true := Qpc (Qgb t2)
          rw [if_pos (.inl hv)]
        · rw [if_pos (.inl t2)]
def Z4 (B : Qr) : Nat → RS → List DOp × RS
  | 0, s => ([], s)
  | n + 1, s => if s.2 = true then ([], s) else ((YD B s).1 :: (Z4 B n (YD B s).2).1, (Z4 B n (YD B s).2).2)
theorem Qcg {k:Int} (h:k≤0∨s.2=true):Z4 B k.toNat s=([],s):=by
 rcases h with h | h
 ·rw [show k.toNat=0 by omega];rfl
 ·cases k.toNat with
  | zero=>rfl
  | succ n=>exact if_pos h
theorem QkP {k:Int} (h:0 < k) (hs:s.2=false):Z4 B k.toNat s=((YD B s).1::(Z4 B (k - 1).toNat (YD B s).2).1,(Z4 B (k - 1).toNat (YD B s).2).2):=by
 rw [show k.toNat=(k - 1).toNat+1 by omega,Z4,if_neg (by rw [hs];decide)]
theorem Qml {L l:List DOp} {e:RS} {k:Int} (h:(L,e)=(l++(Z4 B k.toNat s).1,(Z4 B k.toNat s).2)) (hk:0 < k) (hs:s.2=false):(L,e)=((l++[(YD B s).1])++(Z4 B (k - 1).toNat (YD B s).2).1,(Z4 B (k - 1).toNat (YD B s).2).2):=by
 rw [h,QkP hk hs];simp
theorem Qop {L l:List DOp} {e:RS} {k:Int} (h:(L,e)=(l++(Z4 B k.toNat s).1,(Z4 B k.toNat s).2)) (hk:k≤0∨s.2=true):L=l∧e=s:=by
 rw [Qcg hk] at h;simp only [List.append_nil,Prod.mk.injEq] at h;exact h
theorem Qmm : ∀ {n : Nat} {a : Int}, 0 ≤ a → a ≤ B.length →
    (∃ l c a', YC n (B.drop a.toNat) = some (l, c) ∧ Z4 B n (a, false) = (l, (a', false)) ∧ 0 ≤ a' ∧ a' ≤ B.length ∧ c = B.drop a'.toNat) ∨ (YC n (B.drop a.toNat) = none ∧ (Z4 B n (a, false)).2.2 = true)
  | 0, a, h0, ha => .inl ⟨[], B.drop a.toNat, a, rfl, rfl, h0, ha, rfl⟩
  | n + 1, a, h0, ha => by
    have hp : Z4 B (n + 1) (a, false) = ((YD B (a, false)).1 :: (Z4 B n (YD B (a, false)).2).1, (Z4 B n (YD B (a, false)).2).2) := if_neg Bool.false_ne_true
    rcases Qql (B := B) h0 ha with ⟨h1, h2⟩ | ⟨h1, h2⟩
    · have hz := Qmo h1
      rw [List.length_drop] at hz
      have hd : (B.drop a.toNat).drop (Yq (B.drop a.toNat)).2.1.toNat = B.drop (a + (Yq (B.drop a.toNat)).2.1).toNat := by
        rw [List.drop_drop]; congr 1; omega
      rw [hp, h2, YC, if_pos h1, hd]
      rcases Qmm (n := n) (a := a + (Yq (B.drop a.toNat)).2.1) (by omega) (by omega) with ⟨l, c, a', e1, e2, e3, e4, e5⟩ | ⟨e1, e2⟩
      · exact .inl ⟨_, c, a', by rw [e1]; rfl, by rw [e2], e3, e4, e5⟩
      · exact .inr ⟨by rw [e1]; rfl, e2⟩
    · right
      refine ⟨by rw [YC, if_neg h1], ?_⟩
      rw [hp]; dsimp only
      have : ∀ k t, t.2 = true → (Z4 B k t).2.2 = true := fun k t ht => by
        cases k with
        | zero => exact ht
        | succ k => rw [Z4, if_pos ht]; exact ht
      exact this n _ h2
def Qf9 (B : Qr) : Jv × Int :=
  if ((Z4 B (Qh B 1024 (Qh B bMx (Qh B bMx (0, false)).2).2).1.toNat (Qh B 1024 (Qh B bMx (Qh B bMx (0, false)).2).2).2).2.2 = false ∧ (Z4 B (Qh B 1024 (Qh B bMx (Qh B bMx (0, false)).2).2).1.toNat (Qh B 1024 (Qh B bMx (Qh B bMx (0, false)).2).2).2).2.1 = B.length) ∧
    QP ((Qh B bMx (0, false)).1, (Qh B bMx (Qh B bMx (0, false)).2).1, (Z4 B (Qh B 1024 (Qh B bMx (Qh B bMx (0, false)).2).2).1.toNat (Qh B 1024 (Qh B bMx (Qh B bMx (0, false)).2).2).2).1) = 0
  then (((Qh B bMx (0, false)).1, (Qh B bMx (Qh B bMx (0, false)).2).1, (Z4 B (Qh B 1024 (Qh B bMx (Qh B bMx (0, false)).2).2).1.toNat (Qh B 1024 (Qh B bMx (Qh B bMx (0, false)).2).2).2).1), 0) else ((0, 0, []), 5)
theorem Ql9 (B : Qr) : Qf9 B = Qm B := by
  by_cases h1 : sE B bMx = 0
  · have e1 : Qh B bMx (0, false) = ((sX B bMx : Int), (0 + (sN B bMx : Int), false)) := ZL rfl (by exact h1)
    have hb1 := Yj B bMx (by decide)
    have d1 : B.drop (0 + (sN B bMx : Int)).toNat = dB1 B := by rw [Qcn B (Int.le_refl 0)]; rfl
    by_cases h2 : sE (dB1 B) bMx = 0
    · have e2 : Qh B bMx (0 + (sN B bMx : Int), false) = ((sX (dB1 B) bMx : Int), (0 + (sN B bMx : Int) + (sN (dB1 B) bMx : Int), false)) := by
        have := ZL (B := B) (m := bMx) (s := (0 + (sN B bMx : Int), false)) rfl (by rw [d1]; exact h2)
        rw [d1] at this; exact this
      have hb2 := Yj (dB1 B) bMx (by decide)
      rw [List.length_drop] at hb2
      have d2 : B.drop (0 + (sN B bMx : Int) + (sN (dB1 B) bMx : Int)).toNat = dB2 B := by rw [Qcn B (by omega), d1]
      by_cases h3 : sE (dB2 B) 1024 = 0
      · have e3 : Qh B 1024 (0 + (sN B bMx : Int) + (sN (dB1 B) bMx : Int), false) = ((sX (dB2 B) 1024 : Int), (0 + (sN B bMx : Int) + (sN (dB1 B) bMx : Int) + (sN (dB2 B) 1024 : Int), false)) := by
          have := ZL (B := B) (m := 1024) (s := (0 + (sN B bMx : Int) + (sN (dB1 B) bMx : Int), false)) rfl (by rw [d2]; exact h3)
          rw [d2] at this; exact this
        have hb3 := Yj (dB2 B) 1024 (by decide)
        rw [List.length_drop, List.length_drop] at hb3
        have d3 : B.drop (0 + (sN B bMx : Int) + (sN (dB1 B) bMx : Int) + (sN (dB2 B) 1024 : Int)).toNat = dB3 B := by rw [Qcn B (by omega), d2]
        rw [QbN (not_not_intro h1) (not_not_intro h2) (not_not_intro h3)]
        unfold Qf9 QbO
        rw [e1]; dsimp only; rw [e2]; dsimp only; rw [e3]; dsimp only; rw [Int.toNat_natCast]
        rcases Qmm (B := B) (n := sX (dB2 B) 1024) (a := 0 + (sN B bMx : Int) + (sN (dB1 B) bMx : Int) + (sN (dB2 B) 1024 : Int)) (by omega) (by omega) with ⟨l, c, a', q1, q2, q3, q4, q5⟩ | ⟨q1, q2⟩
        · rw [d3] at q1
          rw [q1, q2]; dsimp only
          cases c with
          | nil =>
            have hl := congrArg List.length q5
            rw [List.length_nil, List.length_drop] at hl
            by_cases hc : QP ((sX B bMx : Int), (sX (dB1 B) bMx : Int), l) = 0
            · rw [if_pos ⟨⟨rfl, by omega⟩, hc⟩]; exact (if_pos hc).symm
            · rw [if_neg (fun q => hc q.2)]; exact (if_neg hc).symm
          | cons y c =>
            have hl := congrArg List.length q5
            rw [List.length_cons, List.length_drop] at hl
            rw [if_neg (fun q => by have := q.1.2; omega)]
        · rw [d3] at q1
          rw [q1, if_neg (fun q => by have := q.1.1; rw [q2] at this; cases this)]
      · rw [QjK h3]
        have e3 : Qh B 1024 (0 + (sN B bMx : Int) + (sN (dB1 B) bMx : Int), false) = (0, (0 + (sN B bMx : Int) + (sN (dB1 B) bMx : Int), true)) := ZF rfl (by rw [d2]; exact h3)
        unfold Qf9; rw [e1]; dsimp only; rw [e2]; dsimp only; rw [e3]; dsimp only
        exact if_neg fun q => by have := q.1.1; rw [Qcg (.inr rfl)] at this; cases this
    · rw [QjL h2]
      have e2 : Qh B bMx (0 + (sN B bMx : Int), false) = (0, (0 + (sN B bMx : Int), true)) := ZF rfl (by rw [d1]; exact h2)
      unfold Qf9; rw [e1]; dsimp only; rw [e2]; dsimp only; rw [YS (s := (0 + (sN B bMx : Int), true)) rfl]
      exact if_neg fun q => by have := q.1.1; rw [Qcg (.inr rfl)] at this; cases this
  · rw [QjM h1]
    have e1 : Qh B bMx (0, false) = (0, (0, true)) := ZF rfl h1
    unfold Qf9; rw [e1]; dsimp only; rw [YS (s := ((0 : Int), true)) rfl]; dsimp only; rw [YS (s := ((0 : Int), true)) rfl]
    exact if_neg fun q => by have := q.1.1; rw [Qcg (.inr rfl)] at this; cases this
theorem Qnm {l:List DOp} {k:Int} {e:RS} (hp:Z4 B (Qh B 1024 (Qh B bMx (Qh B bMx (0,false)).2).2).1.toNat (Qh B 1024 (Qh B bMx (Qh B bMx (0,false)).2).2).2=(l++(Z4 B k.toNat e).1,(Z4 B k.toNat e).2)) (hk:k≤0∨e.2=true):
  Qm B=if (e.2=false∧e.1=B.length)∧QP ((Qh B bMx (0,false)).1,(Qh B bMx (Qh B bMx (0,false)).2).1,l)=0 then (((Qh B bMx (0,false)).1,(Qh B bMx (Qh B bMx (0,false)).2).1,l),0) else ((0,0,[]),5):=by
 have hf:=Qop hp hk
 rw [← Ql9];unfold Qf9;rw [← hf.1,← hf.2]
theorem QoI {l:List DOp} {k:Int} {e:RS} (hp:Z4 B (Qh B 1024 (Qh B bMx (Qh B bMx (0,false)).2).2).1.toNat (Qh B 1024 (Qh B bMx (Qh B bMx (0,false)).2).2).2=(l++(Z4 B k.toNat e).1,(Z4 B k.toNat e).2)) (hk:k≤0∨e.2=true)
  (h:¬ (e.2=false∧e.1=B.length)):Qm B=((0,0,[]),5):=by rw [Qnm hp hk,if_neg fun q=>h q.1]
theorem QoH {l:List DOp} {k:Int} {e:RS} (hp:Z4 B (Qh B 1024 (Qh B bMx (Qh B bMx (0,false)).2).2).1.toNat (Qh B 1024 (Qh B bMx (Qh B bMx (0,false)).2).2).2=(l++(Z4 B k.toNat e).1,(Z4 B k.toNat e).2)) (hk:k≤0∨e.2=true)
  (h:¬ QP ((Qh B bMx (0,false)).1,(Qh B bMx (Qh B bMx (0,false)).2).1,l)=0):Qm B=((0,0,[]),5):=by rw [Qnm hp hk,if_neg fun q=>h q.2]
theorem QoG {l:List DOp} {k:Int} {e:RS} (hp:Z4 B (Qh B 1024 (Qh B bMx (Qh B bMx (0,false)).2).2).1.toNat (Qh B 1024 (Qh B bMx (Qh B bMx (0,false)).2).2).2=(l++(Z4 B k.toNat e).1,(Z4 B k.toNat e).2)) (hk:k≤0∨e.2=true)
  (h:¬ ¬ (e.2=false∧e.1=B.length)) (h2:¬ ¬ QP ((Qh B bMx (0,false)).1,(Qh B bMx (Qh B bMx (0,false)).2).1,l)=0):Qm B=(((Qh B bMx (0,false)).1,(Qh B bMx (Qh B bMx (0,false)).2).1,l),0):=by rw [Qnm hp hk,if_pos ⟨Decidable.not_not.1 h,Decidable.not_not.1 h2⟩]
end
theorem Qq0:JE Tryz.prog 141=true:=by kernel_rfl
theorem Qm1:JE Tryz.prog 142=true:=by kernel_rfl
theorem Qjh:JE Tryz.prog 143=true:=by kernel_rfl
theorem QqO:JE Tryz.prog 164=true:=by kernel_rfl
theorem ZM {P:Prop} (h:P:=by congr 1;first | exact (Qc0 (by omega)).symm | exact (QdV (by omega) (by omega)).symm | exact (QaD (by omega) (QjB ‹d0.2.2[k]? =some _› (by assumption))).symm | exact (QaD (by omega) (QjA ‹d0.2.2[k]? =some _› (by omega) (by assumption) (by assumption))).symm | exact (Qc1 (by omega) (by omega) (by have h_:=hu;rw [List.take_of_length_le (by omega)] at h_;exact h_)).symm):P:=h
set_option maxHeartbeats 1000000 in
theorem QdC (W:World) {v0:List Value} {d0:Jv} (h0:Rd YB (wm W) v0 d0):Qc Tryz.prog 143 [.agg v0.toArray] W (mnil) (fun v m'=>v= .int .i64 (QP d0)):=by
 obtain ⟨p0_A2,p0_c2,rfl,p0_0,p0_1,p0_2⟩:=ZX (x0:=d0.1) (x1:=d0.2.1) (x2:=d0.2.2) h0
 simp only [inK] at p0_0 p0_1
 refine Qc.ofA (n:=57) Tryz.func143 rfl rfl rfl ?_
 refine VC.rs ?_
 refine VO.box (cs:=[.int .i64 (d0.1),.int .i64 (d0.2.1),.slice p0_A2 (d0.2.2.length) (p0_c2)]) 102 rfl rfl rfl (fun g1=>?_)
 refine VO.as (VO.k3 0 1 2 (VC.seq (VC.rs (VO.z (.fa rfl J2 rfl) (VO.z (.ld1 102 rfl Jw rfl (Qa rfl rfl)) (VO.z (.lenS rfl QX) (VO.z (.gtr rfl rfl) (VO.k4 0 1 2 7 ?_))))))))
 refine VC.cond rfl (fun hc3=>?_) (fun hc3=>?_)
 refine VC.rs (VO.as (VO.p2 102 0 (VO.k4 0 1 2 7 (VC.ret (QK ?_)))))
 exact Yu 2 rfl (by first | rfl | exact ZM)
 refine VC.skip (Qg (VC.seq (VC.rs (VO.z (.fa rfl J2 rfl) (VO.z (.ld1 102 rfl tk3 rfl (Qa rfl rfl)) (VO.z (.lss rfl rfl) (VO.mv ?_)))))))
 refine VO.dec (t:=11) rfl (fun hc4=>?_) (fun hc4=>?_)
 refine VO.gN (VO.gN (VO.gN (VO.gN (VO.gN (VO.z (.pT rfl rfl) (VO.mv (VO.gN (VO.gN (VO.gN (VO.z (.pT rfl rfl) (VO.p2 102 0 ?_)))))))))))
 refine VO.k5 0 1 2 7 22 (VC.condT rfl (VC.rs (VO.as (VO.k5 0 1 2 7 22 (VC.ret (QK ?_))))))
 exact Yu 2 rfl (by first | rfl | exact ZM)
 refine VO.w (.fa rfl J2 rfl) (VO.w (.ld1 102 rfl tk3 rfl (Qa rfl rfl)) (VO.w (.fa rfl J2 rfl) (VO.w (.ld1 102 rfl tk3 rfl (Qa rfl rfl)) (VO.w (.lss rfl rfl) (VO.z (.pF rfl rfl) (VO.mv ?_))))))
 refine VO.dec (t:=18) rfl (fun hc5=>?_) (fun hc5=>?_)
 refine VO.gN (VO.gN (VO.gN (VO.z (.pT rfl rfl) (VO.p2 102 0 (VO.k5 0 1 2 7 22 (VC.condT rfl (VC.rs (VO.as (VO.k5 0 1 2 7 22 (VC.ret (QK ?_)))))))))))
 exact Yu 2 rfl (by first | rfl | exact ZM)
 refine VO.w (.fa rfl J2 rfl) (VO.w (.ld1 102 rfl tk3 rfl (Qa rfl rfl)) (VO.w (.gtr rfl rfl) (VO.z (.pF rfl rfl) (VO.p2 102 0 (VO.k5 0 1 2 7 22 ?_)))))
 refine VC.cond rfl (fun hc6=>?_) (fun hc6=>?_)
 refine VC.rs (VO.as (VO.k5 0 1 2 7 22 (VC.ret (QK ?_))))
 exact Yu 2 rfl (by first | rfl | exact ZM)
 refine VC.skip (Qg (VC.seq (VC.rs (VO.as (VO.k6 0 1 2 3 7 22 (VC.block ?_))))))
 refine VC.loop (G:=Nat) (fun k=>[(3,.int .i64 (((k:Nat):Int))),(0,.agg [.int .i64 (d0.1),.int .i64 (d0.2.1),.slice p0_A2 (d0.2.2.length) (p0_c2)].toArray),(1,Vp g1),(7,.bool (decide (1024 < ((d0.2.2.length:Nat):Int)))),(22,.bool (decide (1048576 < d0.2.1)))]) (fun k=>[(102,Qo g1 (.cells #[.int .i64 (d0.1),.int .i64 (d0.2.1),.slice p0_A2 (d0.2.2.length) (p0_c2)] 92 (0,0))),(0,wm W)]) (fun k=>(k≤d0.2.2.length)∧(Ya (d0.2.2.take k))) (fun k=>d0.2.2.length - k) 0 (⟨by omega,by exact QgJ⟩) ⟨esn,fun _ h=>h.sub [102,0]⟩ ?_
 rintro k ⟨hk,hu⟩
 refine VC.seq (VC.rs (VO.mv (VO.z (.fa rfl J2 rfl) (VO.z (.ld1 102 rfl Jw rfl (Qa rfl rfl)) (VO.z (.lenS rfl QX) (VO.z (.lss rfl rfl) (VO.k6 0 1 3 7 22 27 ?_)))))))
 refine VC.cond rfl (fun hc7=>?_) (fun hc7=>?_)
 refine VC.skip (Qg (VC.seq (VC.block (VC.seq ?_))))
 refine VC.regD _ 24 [(0,true),(1,true),(2,true),(3,true),(4,true),(5,false),(6,true),(7,true),(8,true),(9,true),(10,true),(11,true),(12,true),(13,true),(14,true),(15,true),(16,true),(17,true),(18,true),(19,true),(20,true),(21,true),(22,true),(23,true)] follows (by kernel_rfl) (fun _ h=>h.sub [102,0]) ?_
 refine VD.z rfl (.fa rfl J2 rfl) (VD.z rfl (.ld1 102 rfl Jw rfl (Qa rfl rfl)) (VD.z rfl (.mv rfl) ?_))
 obtain ⟨x8,hx8⟩:∃ z_,(d0.2.2)[k]? =some z_:=⟨_,List.getElem?_eq_getElem bd⟩
 obtain ⟨gg8,oo8,ec8,ea8,hce8,hre8⟩:=p0_2.elem hx8
 cases ea8
 obtain ⟨rfl,q8_1,q8_2⟩:=Jr (x0:=x8.1) (x1:=x8.2.1) (x2:=x8.2.2) hre8
 simp only [maxLen] at q8_1
 simp only [maxLen] at q8_2
 refine VD.z rfl (.ixI k rfl rfl QX rfl bd) ?_
 refine VD.z rfl (.ldA 0 rfl Yx rfl hce8) ?_
 refine VD.callN 109 rfl rfl (.inl rfl) QdJ rfl (fun _ h=>h.sub [102,0]) (fun W hW=>YR W (Rd.mono hre8 (hW.t 0))) (fun v9 m9 hv9=>?_)
 subst hv9
 refine VD.z rfl (.neq rfl rfl) (VD.z rfl (.mv rfl) ?_)
 refine VD.dec (s:=37) rfl (fun hc10=>?_) (fun hc10=>?_)
 refine VD.gN rfl (VD.gN rfl (VD.gN rfl ?_))
 refine VD.gn rfl rfl (.inr ⟨_,rfl,rfl⟩) ?_
 refine VD.gn rfl rfl (.inr ⟨_,rfl,rfl⟩) ?_
 refine VD.gn rfl rfl (.inr ⟨_,rfl,rfl⟩) ?_
 refine VD.gn rfl rfl (.inr ⟨_,rfl,rfl⟩) ?_
 refine VD.gn rfl rfl (.inr ⟨_,rfl,rfl⟩) ?_
 refine VD.gn rfl rfl (.inr ⟨_,rfl,rfl⟩) ?_
 refine VD.gn rfl rfl (.inr ⟨_,rfl,rfl⟩) ?_
 refine VD.gn rfl rfl (.inr ⟨_,rfl,rfl⟩) ?_
 refine VD.gn rfl rfl (.inr ⟨_,rfl,rfl⟩) ?_
 refine VD.gn rfl rfl (.inr ⟨_,rfl,rfl⟩) ?_
 refine VD.gn rfl rfl (.inr ⟨_,rfl,rfl⟩) ?_
 refine VD.gn rfl rfl (.inr ⟨_,rfl,rfl⟩) ?_
 refine VD.gn rfl rfl (.inr ⟨_,rfl,rfl⟩) ?_
 refine VD.nil rfl ?_ rfl
 refine VO.gn rfl (.inr ⟨_,rfl,rfl⟩) ?_
 refine VO.gN (VO.z (.pT rfl rfl) (VO.p2 102 0 (VO.k7 0 1 3 7 22 27 56 (Qg (VC.condT rfl (VC.rs (VO.as (VO.k8 0 1 2 3 7 22 27 56 (VC.ret (Jf (QK ?_)))))))))))
 refine QK (Jf (QK ?_))
 exact Yu 2 rfl (by first | rfl | exact ZM)
 refine VD.w rfl (.mv rfl) (VD.w rfl (.gtr rfl rfl) (VD.w rfl (.mv rfl) ?_))
 refine VD.dec (s:=40) rfl (fun hc11=>?_) (fun hc11=>?_)
 refine VD.w rfl (.fa rfl J2 rfl) (VD.w rfl (.ld1 102 rfl Jw rfl (Qa rfl rfl)) (VD.w rfl (.mv rfl) ?_))
 refine VD.w rfl (.ixI k rfl rfl QX rfl bd) ?_
 refine VD.w rfl (.fa rfl JG rfl) ?_
 refine VD.w rfl (.ld1 0 rfl tk9 rfl (hce8.at1 (j:=1) rfl)) ?_
 refine VD.w rfl (.fa rfl J2 rfl) (VD.w rfl (.ld1 102 rfl Jw rfl (Qa rfl rfl)) (VD.w rfl (.mv rfl) ?_))
 refine VD.w rfl (.sub rfl rfl rfl ⟨bd,bd⟩) ?_
 obtain ⟨x13,hx13⟩:∃ z_,(d0.2.2)[(((k:Nat):Int) - 1).toNat]? =some z_:=⟨_,List.getElem?_eq_getElem bd⟩
 obtain ⟨gg13,oo13,ec13,ea13,hce13,hre13⟩:=p0_2.elem hx13
 cases ea13
 obtain ⟨rfl,q13_1,q13_2⟩:=Jr (x0:=x13.1) (x1:=x13.2.1) (x2:=x13.2.2) hre13
 simp only [maxLen] at q13_1
 simp only [maxLen] at q13_2
 refine VD.w rfl (.ixI ((((k:Nat):Int) - 1).toNat) rfl rfl QX bd bd) ?_
 refine VD.w rfl (.fa rfl JG rfl) ?_
 refine VD.w rfl (.ld1 0 rfl tk9 rfl (hce13.at1 (j:=1) rfl)) ?_
 refine VD.nil rfl ?_ rfl
 refine VO.w (.sleq rfl rfl) (VO.w (.pT rfl rfl) (VO.z (.pF rfl rfl) (VO.p2 102 0 (VO.k7 0 1 3 7 22 27 56 (Qg ?_)))))
 refine VC.cond rfl (fun hc14=>?_) (fun hc14=>?_)
 refine VC.rs (VO.as (VO.k8 0 1 2 3 7 22 27 56 (VC.ret (Jf (QK (QK (Jf (QK ?_))))))))
 exact Yu 2 rfl (by first | rfl | exact ZM)
 refine VC.skip (Jh (Qg ?_))
 refine VC.reg ?_
 refine VO.mv ?_
 refine VO.z (.add (c:=((k+1:Nat):Int)) rfl rfl Qp ⟨bd,bd⟩) ?_
 refine VO.as (VO.k7 0 1 3 7 22 27 56 ?_)
 exact Qg ⟨k+1,⟨by omega,by exact Qeg hu ‹d0.2.2[k]? =some _› Qf (by first | exact .inl Qp | exact .inr ⟨_,by assumption,by assumption⟩)⟩,bd,⟨esn,fun _ h=>Inv.sub h [102,0]⟩⟩
 refine VD.gN rfl (VD.gN rfl (VD.gN rfl (VD.gN rfl (VD.gN rfl (VD.gN rfl (VD.gN rfl (VD.gN rfl (VD.gN rfl (VD.gN rfl (VD.gN rfl (VD.gN rfl ?_)))))))))))
 refine VD.gN rfl ?_
 refine VD.nil rfl ?_ rfl
 refine VO.gN (VO.w (.pF rfl rfl) (VO.z (.pF rfl rfl) (VO.p2 102 0 (VO.k7 0 1 3 7 22 27 56 (Qg (VC.condF rfl (VC.skip (Jh (Qg ?_)))))))))
 refine VC.reg ?_
 refine VO.mv ?_
 refine VO.z (.add (c:=((k+1:Nat):Int)) rfl rfl Qp ⟨bd,bd⟩) ?_
 refine VO.as (VO.k7 0 1 3 7 22 27 56 ?_)
 exact Qg ⟨k+1,⟨by omega,by exact Qeg hu ‹d0.2.2[k]? =some _› Qf (by first | exact .inl Qp | exact .inr ⟨_,by assumption,by assumption⟩)⟩,bd,⟨esn,fun _ h=>Inv.sub h [102,0]⟩⟩
 refine VC.exit (JU (JU (JT (Qg (VC.rs (VO.as (VO.p2 102 0 (VO.k7 0 1 2 3 7 22 27 (VC.ret ?_)))))))))
 exact Yu 2 rfl (by first | rfl | exact ZM)
theorem QC {P:Prop} (h:P:=by first | exact bd | (have h_:=X2 ‹¬ ¬ Q4 d1=0›;omega) | (have h_:=X2 ‹¬ ¬ Q4 d1=0›;simp only [List.length_append,List.length_nil,List.length_cons] at*;omega)):P:=h
set_option maxHeartbeats 1000000 in
theorem Qi4 (W:World) {v0:Value} {d0:List UInt8} (h0:Rd (.sl .byte) (wm W) [v0] d0) {v1:List Value} {d1:DOp} (h1:Rd TOp (wm W) v1 d1) (e0:d0.length≤140737488351500):Qc Tryz.prog 164 [v0,.agg v1.toArray] W (mnil) (fun v m'=>∃ (s0:Value),v= .tuple #[s0,.int .i64 ((Z6 d0 d1).2)]∧Ow (.sl .byte) m' [s0] ((Z6 d0 d1).1)):=by
 obtain ⟨A0,c0,rfl,l0,k0⟩:=h0.slc
 obtain ⟨rfl,p1_1,p1_2⟩:=Jr (x0:=d1.1) (x1:=d1.2.1) (x2:=d1.2.2) h1
 simp only [maxLen] at p1_1
 simp only [maxLen] at p1_2
 refine Qc.ofA (n:=44) Tryz.func164 rfl rfl rfl ?_
 refine VC.rs ?_
 refine VO.box (cs:=[.bool d1.1,str (d1.2.1),str (d1.2.2)]) 102 rfl rfl rfl (fun g1=>?_)
 refine VO.as (VO.as (VO.k5 0 1 3 4 5 (VC.rs (VO.z (.ldA 102 rfl Yx rfl (Qa rfl rfl)) ?_))))
 refine VO.callN 103 rfl QdJ rfl (fun W hW=>YR W (Rd.mono h1 (hW.t 0))) (fun v3 m3 hv3=>?_)
 subst hv3
 refine VO.as (VO.k6 0 1 3 4 5 6 (VC.seq (VC.rs (VO.mv (VO.z (.neq rfl rfl) (VO.p2 102 0 (VO.k7 0 1 3 4 5 6 12 ?_)))))))
 refine VC.cond rfl (fun hc4=>?_) (fun hc4=>?_)
 · refine VC.rs (VO.mv (VO.as (VO.as (VO.k7 0 1 3 4 5 6 12 (VC.ret (QK ?_))))))
   refine QcA 4 5 [] fun hS_=>?_
   dsimp only [Qu]
   have he0:((Z6 d0 d1).1:Ty.Den (.sl .byte))=[]:=by first | rfl | (first | (rw [Zp Qf] <;> first | rfl | done) | (rw [Zn Qf Qf] <;> first | done | rfl | (simp [Yo, *];done)) | (rw [Zo Qf Qf] <;> first | done | rfl | (simp [Yo, *];done)))
   refine ⟨.slice none (0) (0),?_,?_⟩
   rotate_left
   · rw [he0];exact (Ow.nil _ _)
   all_goals (first | rfl | (first | (rw [Zp Qf] <;> first | rfl | done) | (rw [Zn Qf Qf] <;> first | done | rfl | (simp [Yo, *];done)) | (rw [Zo Qf Qf] <;> first | done | rfl | (simp [Yo, *];done))))
 refine VC.skip (Qg (VC.rs (VO.as (VO.k8 0 1 3 4 5 6 7 12 (VC.rs (VO.mv (VO.mv ?_)))))))
 refine VO.inv _ (fun _ h=>h.nilc 106) ?_
 obtain ⟨mo5,cs5,hM5,hA5,hC5⟩:=(Qz.nil .byte mnil mnil)
 obtain ⟨all5,hS5,hR5⟩:=Rd.srcI (P:=Tryz.prog) (h0) Tryz.underlying97
 refine VO.app 106 rfl rfl rfl Jz tz5 rfl rfl hM5 hA5 (hS5 _ 0 rfl) hR5.nice (by simp only [maxLen];(exact QC)) QC (by decide) (fun v5 m5 hN5=>?_)
 have ho5:Qz .byte m5 mnil v5 (d0):=Qz.more hC5 hN5 (Q8.mono hR5 fun _ _ h=>Rd.flat rfl h _)
 obtain ⟨A5,c5,rfl,l5,k5⟩:=ho5.slc
 refine VO.as (VO.k8 0 1 3 4 5 6 7 12 (VC.rs (VO.as (VO.p3 106 102 0 (VO.k9 0 1 3 4 5 6 7 8 12 (VC.seq (VC.rs (VO.z (.fa rfl JG rfl) (VO.z (.ld1 102 rfl tk4 rfl (Qa rfl rfl)) (VO.k10 0 1 3 4 5 6 7 8 12 18 ?_))))))))))
 refine VC.condB rfl (fun hc7=>?_) (fun hc7=>?_)
 · refine VC.reg ?_
   refine VO.as (VO.k10 0 1 3 4 5 6 7 8 12 18 (Qg (VC.rs (VO.mv (VO.mv ?_)))))
   refine VO.bsl (cs:=[.int .u8 (1)]) 109 rfl rfl Jz tz5 rfl rfl (fun g8=>?_)
   obtain ⟨mo10,cs10,hM10,hA10,hC10⟩:=ho5
   refine VO.app 106 rfl rfl rfl Jz tz5 rfl rfl hM10 hA10 (.row 109 _ _ _ 1 1 _ _ Tryz.underlying97 rfl (Qa rfl rfl)) (by simp [Value.oneCell']) (by simp only [maxLen];(exact QC)) QC (by decide) (fun v10 m10 hN10=>?_)
   have ho10:Qz .byte m10 mnil v10 (d0++[UInt8.ofNat 1]):=Qz.one hC10 hN10 (Qbj QC)
   obtain ⟨A10,c10,rfl,l10,k10⟩:=ho10.slc
   refine VO.as (VO.p3 106 102 0 (VO.k10 0 1 3 4 5 6 7 8 12 18 (VC.rs (VO.mv (VO.z (.fa rfl JG rfl) (VO.z (.ld1 102 rfl tk9 rfl (Qa rfl rfl)) ?_))))))
   refine VO.z (.lenT rfl Tryz.underlying9) ?_
   refine VO.callN 111 rfl QcQ rfl (fun W hW=>QcJ W (Qz.rd ho10 (hW.t 106) (JW _)) ((d1.2.1.length:Nat):Int) (by simp only [inK];(exact QC)) QC QC) (fun v11 m11 hv11=>?_)
   obtain ⟨s11_0,rfl,f11_0⟩:=hv11
   have hfa12:=Z5 (x:=((d1.2.1.length:Nat):Int).toNat) Qp
   obtain ⟨A11_0,c11_0,eq11_0,l11_0,k11_0⟩:=f11_0.slc
   subst eq11_0
   refine VO.as (VO.k10 0 1 3 4 5 6 7 8 12 18 (VC.rs (VO.mv (VO.z (.fa rfl JG rfl) (VO.z (.ld1 102 rfl tk9 rfl (Qa rfl rfl)) ?_)))))
   obtain ⟨mo13,cs13,hM13,hA13,hC13⟩:=(Ow.ownl f11_0 rfl mnil)
   refine VO.app 111 rfl rfl rfl Jz tz5 rfl rfl hM13 hA13 (.str _ Tryz.underlying9 rfl) (Qeu _) (by simp only [maxLen];(exact QC)) QC (by decide) (fun v13 m13 hN13=>?_)
   have ho13:Qz .byte m13 mnil v13 (((d0++[UInt8.ofNat 1])++ZT ((d1.2.1.length:Nat):Int).toNat)++d1.2.1):=Qz.more hC13 hN13 (QjO _ _)
   obtain ⟨A13,c13,rfl,l13,k13⟩:=ho13.slc
   refine VO.as (VO.k10 0 1 3 4 5 6 7 8 12 18 (VC.seq (VC.rs (VO.z (.fa rfl JG rfl) (VO.z (.ld1 102 rfl tk4 rfl (Qa rfl rfl)) (VO.p3 111 102 0 (VO.k11 0 1 3 4 5 6 7 8 12 18 33 ?_)))))))
   refine VC.condKT rfl hc7 ?_
   refine VC.rs (VO.mv (VO.z (.fa rfl JG rfl) (VO.z (.ld1 102 rfl tk9 rfl (Qa rfl rfl)) ?_)))
   refine VO.z (.lenT rfl Tryz.underlying9) ?_
   refine VO.callN 114 rfl QcQ rfl (fun W hW=>QcJ W (Qz.rd ho13 (hW.t 111) (JW _)) ((d1.2.2.length:Nat):Int) (by simp only [inK];(exact QC)) QC QC) (fun v14 m14 hv14=>?_)
   obtain ⟨s14_0,rfl,f14_0⟩:=hv14
   have hfa15:=Z5 (x:=((d1.2.2.length:Nat):Int).toNat) Qp
   obtain ⟨A14_0,c14_0,eq14_0,l14_0,k14_0⟩:=f14_0.slc
   subst eq14_0
   refine VO.as (VO.k11 0 1 3 4 5 6 7 8 12 18 33 ?_)
   refine VC.reg ?_
   refine VO.mv (VO.z (.fa rfl JG rfl) (VO.z (.ld1 102 rfl tk9 rfl (Qa rfl rfl)) ?_))
   obtain ⟨mo16,cs16,hM16,hA16,hC16⟩:=(Ow.ownl f14_0 rfl mnil)
   refine VO.app 114 rfl rfl rfl Jz tz5 rfl rfl hM16 hA16 (.str _ Tryz.underlying9 rfl) (Qeu _) (by simp only [maxLen];(exact QC)) QC (by decide) (fun v16 m16 hN16=>?_)
   have ho16:Qz .byte m16 mnil v16 (((((d0++[UInt8.ofNat 1])++ZT ((d1.2.1.length:Nat):Int).toNat)++d1.2.1)++ZT ((d1.2.2.length:Nat):Int).toNat)++d1.2.2):=Qz.more hC16 hN16 (QjO _ _)
   obtain ⟨A16,c16,rfl,l16,k16⟩:=ho16.slc
   refine VO.as (VO.k11 0 1 3 4 5 6 7 8 12 18 33 (Qg (VC.rs (VO.mv (VO.as (VO.as (VO.p3 114 102 0 (VO.k11 0 1 3 4 5 6 7 8 12 18 33 (VC.ret ?_)))))))))
   refine QcA 4 5 [114] fun hS_=>?_
   dsimp only [Qu]
   exact ⟨Value.slice A16 ((((((d0++[UInt8.ofNat 1])++ZT ((d1.2.1.length:Nat):Int).toNat)++d1.2.1)++ZT ((d1.2.2.length:Nat):Int).toNat)++d1.2.2).length) (c16),(by first | rfl | (first | (rw [Zp Qf] <;> first | rfl | done) | (rw [Zn Qf Qf] <;> first | done | rfl | (simp [Yo, *];done)) | (rw [Zo Qf Qf] <;> first | done | rfl | (simp [Yo, *];done)))),(Ow.cg (Ow.up (Qz.ow ho16 rfl) (hS_.1 _ (.head _))) (by first | rfl | (first | (rw [Zp Qf] <;> first | rfl | done) | (rw [Zn Qf Qf] <;> first | done | rfl | (simp [Yo, *];done)) | (rw [Zo Qf Qf] <;> first | done | rfl | (simp [Yo, *];done)))))⟩
 · refine VC.skip (Qg (VC.rs (VO.mv (VO.mv ?_))))
   refine VO.bsl (cs:=[.int .u8 (0)]) 118 rfl rfl Jz tz5 rfl rfl (fun g17=>?_)
   obtain ⟨mo19,cs19,hM19,hA19,hC19⟩:=ho5
   refine VO.app 106 rfl rfl rfl Jz tz5 rfl rfl hM19 hA19 (.row 118 _ _ _ 1 1 _ _ Tryz.underlying97 rfl (Qa rfl rfl)) (by simp [Value.oneCell']) (by simp only [maxLen];(exact QC)) QC (by decide) (fun v19 m19 hN19=>?_)
   have ho19:Qz .byte m19 mnil v19 (d0++[UInt8.ofNat 0]):=Qz.one hC19 hN19 (Qbj QC)
   obtain ⟨A19,c19,rfl,l19,k19⟩:=ho19.slc
   refine VO.as (VO.k10 0 1 3 4 5 6 7 8 12 18 (VC.rs (VO.mv (VO.z (.fa rfl JG rfl) (VO.z (.ld1 102 rfl tk9 rfl (Qa rfl rfl)) ?_)))))
   refine VO.z (.lenT rfl Tryz.underlying9) ?_
   refine VO.callN 120 rfl QcQ rfl (fun W hW=>QcJ W (Qz.rd ho19 (hW.t 106) (JW _)) ((d1.2.1.length:Nat):Int) (by simp only [inK];(exact QC)) QC QC) (fun v20 m20 hv20=>?_)
   obtain ⟨s20_0,rfl,f20_0⟩:=hv20
   have hfa21:=Z5 (x:=((d1.2.1.length:Nat):Int).toNat) Qp
   obtain ⟨A20_0,c20_0,eq20_0,l20_0,k20_0⟩:=f20_0.slc
   subst eq20_0
   refine VO.as (VO.p3 120 102 0 (VO.k10 0 1 3 4 5 6 7 8 12 18 (VC.rs (VO.mv (VO.z (.fa rfl JG rfl) (VO.z (.ld1 102 rfl tk9 rfl (Qa rfl rfl)) ?_))))))
   obtain ⟨mo22,cs22,hM22,hA22,hC22⟩:=(Ow.ownl f20_0 rfl mnil)
   refine VO.app 120 rfl rfl rfl Jz tz5 rfl rfl hM22 hA22 (.str _ Tryz.underlying9 rfl) (Qeu _) (by simp only [maxLen];(exact QC)) QC (by decide) (fun v22 m22 hN22=>?_)
   have ho22:Qz .byte m22 mnil v22 (((d0++[UInt8.ofNat 0])++ZT ((d1.2.1.length:Nat):Int).toNat)++d1.2.1):=Qz.more hC22 hN22 (QjO _ _)
   obtain ⟨A22,c22,rfl,l22,k22⟩:=ho22.slc
   refine VO.as (VO.k10 0 1 3 4 5 6 7 8 12 18 (VC.seq (VC.rs (VO.z (.fa rfl JG rfl) (VO.z (.ld1 102 rfl tk4 rfl (Qa rfl rfl)) (VO.k11 0 1 3 4 5 6 7 8 12 18 33 ?_))))))
   refine VC.condKF rfl hc7 ?_
   refine VC.skip (Qg (VC.rs (VO.mv (VO.as (VO.as (VO.p3 120 102 0 (VO.k11 0 1 3 4 5 6 7 8 12 18 33 (VC.ret ?_))))))))
   refine QcA 4 5 [120] fun hS_=>?_
   dsimp only [Qu]
   exact ⟨Value.slice A22 ((((d0++[UInt8.ofNat 0])++ZT ((d1.2.1.length:Nat):Int).toNat)++d1.2.1).length) (c22),(by first | rfl | (first | (rw [Zp Qf] <;> first | rfl | done) | (rw [Zn Qf Qf] <;> first | done | rfl | (simp [Yo, *];done)) | (rw [Zo Qf Qf] <;> first | done | rfl | (simp [Yo, *];done)))),(Ow.cg (Ow.up (Qz.ow ho22 rfl) (hS_.1 _ (.head _))) (by first | rfl | (first | (rw [Zp Qf] <;> first | rfl | done) | (rw [Zn Qf Qf] <;> first | done | rfl | (simp [Yo, *];done)) | (rw [Zo Qf Qf] <;> first | done | rfl | (simp [Yo, *];done)))))⟩
theorem Qi2 (W:World) {v0:List Value} {d0:Jv} (h0:Rd YB (wm W) v0 d0):Qc Tryz.prog 148 [.agg v0.toArray] W (mnil) (fun v m'=>∃ (s0:Value),v= .tuple #[s0,.int .i64 ((Qq d0).2)]∧Ow (.sl .byte) m' [s0] ((Qq d0).1)):=by
 have hrk:=QeX d0
 obtain ⟨p0_A2,p0_c2,rfl,p0_0,p0_1,p0_2⟩:=ZX (x0:=d0.1) (x1:=d0.2.1) (x2:=d0.2.2) h0
 simp only [inK] at p0_0 p0_1
 have p0_r2:=Rd.room p0_2
 refine Qc.ofA (n:=42) Tryz.func148 rfl rfl rfl ?_
 refine VC.rs ?_
 refine VO.box (cs:=[.int .i64 (d0.1),.int .i64 (d0.2.1),.slice p0_A2 (d0.2.2.length) (p0_c2)]) 102 rfl rfl rfl (fun g1=>?_)
 refine VO.as (VO.as (VO.k4 0 1 2 3 (VC.rs (VO.z (.ldA 102 rfl XI rfl (Qa rfl rfl)) ?_))))
 refine VO.callN 103 rfl Qjh rfl (fun W hW=>QdC W (Rd.mono h0 (hW.t 0))) (fun v3 m3 hv3=>?_)
 subst hv3
 refine VO.as (VO.k5 0 1 2 3 4 (VC.seq (VC.rs (VO.mv (VO.z (.neq rfl rfl) (VO.p2 102 0 (VO.k6 0 1 2 3 4 10 ?_)))))))
 refine VC.cond rfl (fun hc5=>?_) (fun hc5=>?_)
 ·refine VC.rs (VO.mv (VO.as (VO.as (VO.k6 0 1 2 3 4 10 (VC.ret (QK ?_))))))
  refine QcA 2 3 [] fun hS_=>?_
  dsimp only [Qu]
  have he0:((Qq d0).1:Ty.Den (.sl .byte))=[]:=by first | rfl | (first | (rw [Xe Qf] <;> rfl) | (rw [Yk Qf,hb,List.take_of_length_le Qp];simp [Qal];done))
  refine ⟨.slice none (0) (0),?_,?_⟩
  rotate_left
  ·rw [he0];exact (Ow.nil _ _)
  all_goals (first | rfl | (first | (rw [Xe Qf] <;> rfl) | (rw [Yk Qf] <;> rfl)))
 refine VC.skip (Qg (VC.rs (VO.z (.fa rfl J2 rfl) (VO.z (.ld1 102 rfl tk3 rfl (Qa rfl rfl)) ?_))))
 refine VO.callN 106 rfl QcQ rfl (fun W hW=>QcJ W (Rd.nil _ _ none 0 (Nat.zero_le _)) d0.1 bdk bd bd) (fun v6 m6 hv6=>?_)
 obtain ⟨s6_0,rfl,f6_0⟩:=hv6
 have hfa7:=Z5 (x:=d0.1.toNat) Qp
 simp only [List.nil_append] at f6_0
 obtain ⟨A6_0,c6_0,eq6_0,l6_0,k6_0⟩:=f6_0.slc
 subst eq6_0
 refine VO.as (VO.k7 0 1 2 3 4 5 10 (VC.rs (VO.mv (VO.z (.fa rfl J2 rfl) (VO.z (.ld1 102 rfl tk3 rfl (Qa rfl rfl)) ?_)))))
 refine VO.callN 108 rfl QcQ rfl (fun W hW=>QcJ W (Ow.rd f6_0 (hW.t 106)) d0.2.1 bdk bd bd) (fun v8 m8 hv8=>?_)
 obtain ⟨s8_0,rfl,f8_0⟩:=hv8
 have hfa9:=Z5 (x:=d0.2.1.toNat) Qp
 obtain ⟨A8_0,c8_0,eq8_0,l8_0,k8_0⟩:=f8_0.slc
 subst eq8_0
 refine VO.as (VO.k7 0 1 2 3 4 5 10 (VC.rs (VO.mv (VO.z (.fa rfl J2 rfl) (VO.z (.ld1 102 rfl Jw rfl (Qa rfl rfl)) (VO.z (.lenS rfl QX) ?_))))))
 refine VO.callN 110 rfl QcQ rfl (fun W hW=>QcJ W (Ow.rd f8_0 (hW.t 108)) ((d0.2.2.length:Nat):Int) bdk bd bd) (fun v10 m10 hv10=>?_)
 obtain ⟨s10_0,rfl,f10_0⟩:=hv10
 obtain ⟨A10_0,c10_0,eq10_0,l10_0,k10_0⟩:=f10_0.slc
 subst eq10_0
 refine VO.as (VO.p3 110 102 0 (VO.k7 0 1 2 3 4 5 10 (VC.seq (VC.rs (VO.as (VO.k8 0 1 2 3 4 5 6 10 (VC.block ?_)))))))
 refine VC.loop (G:=Nat × (List UInt8) × (Option Addr) × Nat × Mem) (fun g=>[(5,.slice (g.2.2.1) ((g.2.1).length) ((g.2.2.2.1))),(6,.int .i64 ((((g.1):Nat):Int))),(0,.agg [.int .i64 (d0.1),.int .i64 (d0.2.1),.slice p0_A2 (d0.2.2.length) (p0_c2)].toArray),(1,Vp g1),(2,.slice none (0) (0)),(3,.int .i64 (0)),(4,.int .i64 (QP d0)),(10,.bool (decide (¬ (QP d0)=0)))]) (fun g=>[(110,(g.2.2.2.2)),(102,Qo g1 (.cells #[.int .i64 (d0.1),.int .i64 (d0.2.1),.slice p0_A2 (d0.2.2.length) (p0_c2)] 92 (0,0))),(0,wm W)]) (fun g=>((g.1)≤d0.2.2.length)∧((g.2.1)=ZT d0.1.toNat++(ZT d0.2.1.toNat++ZT d0.2.2.length)++((d0.2.2.take (g.1)).map QdF).flatten)∧(Qz .byte (g.2.2.2.2) mnil (.slice (g.2.2.1) (g.2.1).length (g.2.2.2.1)) (g.2.1))) (fun g=>d0.2.2.length - (g.1)) (0,((ZT d0.1.toNat)++ZT d0.2.1.toNat)++ZT ((d0.2.2.length:Nat):Int).toNat,A10_0,c10_0,m10) (⟨by omega,by simp,(Ow.ownl f10_0 rfl mnil)⟩) ⟨esn,fun _ h=>h.sub [110,102,0]⟩ ?_
 rintro ⟨k,b,b_A,b_c,b_m⟩ ⟨hk,hb,h_b⟩
 replace hk:k≤d0.2.2.length:=hk
 replace hb:b=ZT d0.1.toNat++(ZT d0.2.1.toNat++ZT d0.2.2.length)++((d0.2.2.take k).map QdF).flatten:=hb
 replace h_b:Qz .byte b_m mnil (.slice b_A b.length b_c) b:=h_b
 show VC _ _ _ _ _ [(5,.slice b_A (b.length) (b_c)),(6,.int .i64 (((k:Nat):Int))),(0,.agg [.int .i64 (d0.1),.int .i64 (d0.2.1),.slice p0_A2 (d0.2.2.length) (p0_c2)].toArray),(1,Vp g1),(2,.slice none (0) (0)),(3,.int .i64 (0)),(4,.int .i64 (QP d0)),(10,.bool (decide (¬ (QP d0)=0)))] [(110,b_m),(102,Qo g1 (.cells #[.int .i64 (d0.1),.int .i64 (d0.2.1),.slice p0_A2 (d0.2.2.length) (p0_c2)] 92 (0,0))),(0,wm W)]
 have l_b:b.length≤b_c:=by obtain ⟨_,_,he,hl,_⟩:=h_b.slice;simp only [Value.slice.injEq] at he;omega
 have k_b:b_c≤9223372036854775807:=by obtain ⟨_,_,he,_,hl⟩:=h_b.slice;simp only [Value.slice.injEq,maxLen] at he hl;omega
 have rk:=JP (Decidable.not_not.1 ‹¬ ¬ QP d0=0›)
 have hbl:b.length≤30+60*k:=by (have h1_:=Qes (l:=d0.2.2.take k) (fun o ho=>rk.2.2.2.2.1 o (List.mem_of_mem_take ho));have h2_:=YQ (x:=d0.1.toNat) Qp;have h3_:=YQ (x:=d0.2.1.toNat) Qp;have h4_:=YQ (x:=d0.2.2.length) Qp;rw [hb];simp only [List.length_append,List.length_take] at*;omega)
 refine VC.seq (VC.rs (VO.mv (VO.z (.fa rfl J2 rfl) (VO.z (.ld1 102 rfl Jw rfl (Qa rfl rfl)) (VO.z (.lenS rfl QX) (VO.z (.lss rfl rfl) (VO.k9 0 1 2 3 4 5 6 10 28 ?_)))))))
 refine VC.cond rfl (fun hc12=>?_) (fun hc12=>?_)
 ·refine VC.skip (Qg (VC.seq (VC.block ?_)))
  refine VC.reg ?_
  refine VO.mv (VO.z (.fa rfl J2 rfl) (VO.z (.ld1 102 rfl Jw rfl (Qa rfl rfl)) (VO.mv ?_)))
  obtain ⟨x13,hx13⟩:∃ z_,(d0.2.2)[k]? =some z_:=⟨_,List.getElem?_eq_getElem bd⟩
  obtain ⟨gg13,oo13,ec13,ea13,hce13,hre13⟩:=p0_2.elem hx13
  cases ea13
  obtain ⟨rfl,q13_1,q13_2⟩:=Jr (x0:=x13.1) (x1:=x13.2.1) (x2:=x13.2.2) hre13
  simp only [maxLen] at q13_1
  simp only [maxLen] at q13_2
  refine VO.z (.ixI k rfl rfl QX rfl bd) ?_
  refine VO.z (.ldA 0 rfl Yx rfl hce13) ?_
  refine VO.callN 114 rfl QqO rfl (fun W hW=>Qi4 W (Qz.rd h_b (hW.t 110) (JW _)) (Rd.mono hre13 (hW.t 0)) bd) (fun v14 m14 hv14=>?_)
  obtain ⟨s14_0,rfl,f14_0⟩:=hv14
  obtain ⟨A14_0,c14_0,eq14_0,l14_0,k14_0⟩:=f14_0.slc
  subst eq14_0
  refine VO.mv (VO.z (.ext rfl rfl) (VO.z (.ext rfl rfl) (VO.as (VO.p3 114 102 0 (VO.k9 0 1 2 3 4 5 6 10 28 (Jh (Qg ?_)))))))
  refine VC.reg ?_
  refine VO.mv ?_
  refine VO.z (.add (c:=((k+1:Nat):Int)) rfl rfl Qp ⟨bd,bd⟩) ?_
  refine VO.as (VO.k9 0 1 2 3 4 5 6 10 28 ?_)
  exact Qg ⟨⟨k+1,(Z6 b x13).1,A14_0,c14_0,m14⟩,⟨by omega,by (rw [hb];exact Qip ‹d0.2.2[k]? =some _› (rk.2.2.2.2.1 _ (List.mem_of_getElem? ‹d0.2.2[k]? =some _›))),(Ow.ownl f14_0 rfl mnil)⟩,bd,⟨esn,fun _ h=>Inv.sub (Inv.num h 114 110 rfl) [110,102,0]⟩⟩
 ·refine VC.exit (JU (JU (JT (Qg (VC.rs (VO.mv (VO.as (VO.as (VO.p3 110 102 0 (VO.k9 0 1 2 3 4 5 6 10 28 (VC.ret ?_)))))))))))
  refine QcA 2 3 [110] fun hS_=>?_
  dsimp only [Qu]
  exact ⟨Value.slice b_A (b.length) (b_c),(by first | rfl | (first | (rw [Xe Qf] <;> rfl) | (rw [Yk Qf] <;> rfl))),(Ow.cg (Ow.up (Qz.ow h_b rfl) (hS_.1 _ (.head _))) (by first | rfl | (first | (rw [Xe Qf] <;> rfl) | (rw [Yk Qf,hb,List.take_of_length_le Qp];simp [Qal];done))))⟩
theorem QL {P:Prop} (h:P:=by first | (rw [Qqn (by assumption) (by first | exact .inl (by assumption) | exact .inr (by assumption))] <;> first | rfl | done) | (rw [Qqm (by assumption) (by assumption) (by assumption)] <;> first | rfl | done) | (rw [Qqp (by assumption) (by first | exact .inl (by assumption) | exact .inr (by assumption))] <;> first | rfl | done) | (rw [Qqo (by assumption) (by assumption) (by assumption)] <;> first | rfl | done)):P:=h
set_option maxHeartbeats 1000000 in
theorem Qmg (W:World) {g0:Nat} {E0:TypeId} {d0:XT} {b0_0:Value} (hm:mle (Qo g0 (.cells [(b0_0:Value),.int .i64 d0.2.1,.bool d0.2.2].toArray E0 (0,0))) (wm W)) (h0_0:Rd (.sl .byte) (Ju (wm W) (Qo g0 (.cells [(b0_0:Value),.int .i64 d0.2.1,.bool d0.2.2].toArray E0 (0,0)))) [b0_0] d0.1) (h0_1:inK .i64 d0.2.1) (e0:rOk d0.1 d0.2):Qc Tryz.prog 141 [Vp g0] W (Qo g0 (.cells [(b0_0:Value),.int .i64 d0.2.1,.bool d0.2.2].toArray E0 (0,0))) (fun v m'=>∃ (s0:List Value),v= .agg s0.toArray∧Ow TOp m' s0 ((YD d0.1 d0.2).1)∧m'=Qo g0 (.cells [(b0_0:Value),.int .i64 ((YD d0.1 d0.2).2.1),.bool ((YD d0.1 d0.2).2.2)].toArray E0 (0,0))∧inK .i64 ((YD d0.1 d0.2).2.1)):=by
 have e0_:=e0;obtain ⟨e0a,e0b⟩:=e0_
 obtain ⟨A0_0,c0_0,rfl,l0_0,k0_0⟩:=h0_0.slc
 have h0_1':=h0_1;simp only [inK] at h0_1'
 refine Qc.ofB (n:=39) hm Tryz.func141 rfl rfl rfl ?_
 refine VC.rs ?_
 refine VO.alloc 102 rfl YX (fun g1=>?_)
 refine VO.k2 0 2 (VC.rs (VO.mv ?_))
 refine VO.call 1 rfl QcR rfl rfl (fun W hW=>Qam W (d0:=d0) (hW.t 1) (Rd.mono h0_0 (hW.o 1 0)) bdk 1 bdk XE) (fun v3 m3 hv3=>?_)
 obtain ⟨rfl,rfl,w3_0_1⟩:=hv3
 have hfa4:=(J9 (B:=d0.1) (m:=1) (s:=d0.2) XE Qp).1
 have hfa5:=(J9 (B:=d0.1) (m:=1) (s:=d0.2) XE Qp).1.1
 have hfa6:=(J9 (B:=d0.1) (m:=1) (s:=d0.2) XE Qp).1.2
 have hfa7:=(J9 (B:=d0.1) (m:=1) (s:=d0.2) XE Qp).2
 simp only [inK] at w3_0_1
 refine VO.as (VO.k3 0 2 3 (VC.rs (VO.mv (VO.mv ?_))))
 refine VO.call 1 rfl QcR rfl rfl (fun W hW=>Qam W (d0:=(d0.1,(Qh d0.1 1 d0.2).2)) (hW.t 1) (Rd.mono h0_0 (hW.o 1 0)) bdk 16 bdk XE) (fun v8 m8 hv8=>?_)
 try dsimp only at hv8
 obtain ⟨rfl,rfl,w8_0_1⟩:=hv8
 have hfa9:=(J9 (B:=d0.1) (m:=16) (s:=((Qh d0.1 1 d0.2).2)) XE Qp).1
 have hfa10:=(J9 (B:=d0.1) (m:=16) (s:=((Qh d0.1 1 d0.2).2)) XE Qp).1.1
 have hfa11:=(J9 (B:=d0.1) (m:=16) (s:=((Qh d0.1 1 d0.2).2)) XE Qp).1.2
 have hfa12:=(J9 (B:=d0.1) (m:=16) (s:=((Qh d0.1 1 d0.2).2)) XE Qp).2
 simp only [inK] at w8_0_1
 refine VO.call 1 rfl Qji rfl rfl (fun W hW=>QdD W (d0:=(d0.1,(Qh d0.1 16 ((Qh d0.1 1 d0.2).2)).2)) (hW.t 1) (Rd.mono h0_0 (hW.o 1 0)) bdk ((Qh d0.1 16 ((Qh d0.1 1 d0.2).2)).1) bdk XE bd bd) (fun v13 m13 hv13=>?_)
 try dsimp only at hv13
 obtain ⟨s13_0,p13_0,rfl,hS13,f13_0,w13_0_1⟩:=hv13
 refine VO.inv _ (fun _ h=>h.parts (i:=1) rfl hS13 [114,115]) ?_
 have hfa16:=(ZW (B:=d0.1) (n:=((Qh d0.1 16 ((Qh d0.1 1 d0.2).2)).1)) (s:=((Qh d0.1 16 ((Qh d0.1 1 d0.2).2)).2)) XE Qp).1
 have hfa17:=(ZW (B:=d0.1) (n:=((Qh d0.1 16 ((Qh d0.1 1 d0.2).2)).1)) (s:=((Qh d0.1 16 ((Qh d0.1 1 d0.2).2)).2)) XE Qp).1.1
 have hfa18:=(ZW (B:=d0.1) (n:=((Qh d0.1 16 ((Qh d0.1 1 d0.2).2)).1)) (s:=((Qh d0.1 16 ((Qh d0.1 1 d0.2).2)).2)) XE Qp).1.2
 have hfa19:=(ZW (B:=d0.1) (n:=((Qh d0.1 16 ((Qh d0.1 1 d0.2).2)).1)) (s:=((Qh d0.1 16 ((Qh d0.1 1 d0.2).2)).2)) XE Qp).2
 simp only [inK] at w13_0_1
 obtain ⟨A13_0,c13_0,eq13_0,l13_0,k13_0⟩:=f13_0.slc
 subst eq13_0
 refine VO.as (VO.p4 114 115 102 0 (VO.k4 0 2 3 4 (VC.rs (VO.mv (VO.z (.eql rfl rfl) (VO.mv ?_))))))
 refine VO.z (.b2s 114 rfl Tryz.underlying97 Tryz.underlying9 Tryz.underlying5 rfl (Ow.rd f13_0 (Qb _))) ?_
 refine VO.z (.bst (cs:=[.bool (decide (((Qh d0.1 1 d0.2).1)=1)),str ((Qw d0.1 ((Qh d0.1 16 ((Qh d0.1 1 d0.2).2)).1) ((Qh d0.1 16 ((Qh d0.1 1 d0.2).2)).2)).1),str ([])]) rfl JG YX rfl) ?_
 refine VO.alloc 121 rfl YX (fun g20=>?_)
 refine VO.store (k:=3) (c':=[.bool (decide (((Qh d0.1 1 d0.2).1)=1)),str ((Qw d0.1 ((Qh d0.1 16 ((Qh d0.1 1 d0.2).2)).1) ((Qh d0.1 16 ((Qh d0.1 1 d0.2).2)).2)).1),str ([])]) 121 rfl rfl (.inl Yx) rfl rfl rfl rfl rfl ?_
 refine VO.k5 0 2 3 4 5 (VC.seq (VC.rs (VO.mv (VO.z (.eql rfl rfl) (VO.k6 0 2 3 4 5 18 ?_)))))
 refine VC.cond rfl (fun hc22=>?_) (fun hc22=>?_)
 refine VC.reg ?_
 refine VO.mv (VO.mv ?_)
 refine VO.call 115 rfl QcR rfl rfl (fun W hW=>Qam W (d0:=(d0.1,(Qw d0.1 ((Qh d0.1 16 ((Qh d0.1 1 d0.2).2)).1) ((Qh d0.1 16 ((Qh d0.1 1 d0.2).2)).2)).2)) (hW.t 115) (Rd.mono h0_0 (hW.o 115 0)) bdk 32 bdk XE) (fun v23 m23 hv23=>?_)
 try dsimp only at hv23
 obtain ⟨rfl,rfl,w23_0_1⟩:=hv23
 have hfa24:=(J9 (B:=d0.1) (m:=32) (s:=((Qw d0.1 ((Qh d0.1 16 ((Qh d0.1 1 d0.2).2)).1) ((Qh d0.1 16 ((Qh d0.1 1 d0.2).2)).2)).2)) XE Qp).1
 have hfa25:=(J9 (B:=d0.1) (m:=32) (s:=((Qw d0.1 ((Qh d0.1 16 ((Qh d0.1 1 d0.2).2)).1) ((Qh d0.1 16 ((Qh d0.1 1 d0.2).2)).2)).2)) XE Qp).1.1
 have hfa26:=(J9 (B:=d0.1) (m:=32) (s:=((Qw d0.1 ((Qh d0.1 16 ((Qh d0.1 1 d0.2).2)).1) ((Qh d0.1 16 ((Qh d0.1 1 d0.2).2)).2)).2)) XE Qp).1.2
 have hfa27:=(J9 (B:=d0.1) (m:=32) (s:=((Qw d0.1 ((Qh d0.1 16 ((Qh d0.1 1 d0.2).2)).1) ((Qh d0.1 16 ((Qh d0.1 1 d0.2).2)).2)).2)) XE Qp).2
 simp only [inK] at w23_0_1
 refine VO.call 115 rfl Qji rfl rfl (fun W hW=>QdD W (d0:=(d0.1,(Qh d0.1 32 ((Qw d0.1 ((Qh d0.1 16 ((Qh d0.1 1 d0.2).2)).1) ((Qh d0.1 16 ((Qh d0.1 1 d0.2).2)).2)).2)).2)) (hW.t 115) (Rd.mono h0_0 (hW.o 115 0)) bdk ((Qh d0.1 32 ((Qw d0.1 ((Qh d0.1 16 ((Qh d0.1 1 d0.2).2)).1) ((Qh d0.1 16 ((Qh d0.1 1 d0.2).2)).2)).2)).1) bdk XE bd bd) (fun v28 m28 hv28=>?_)
 try dsimp only at hv28
 obtain ⟨s28_0,p28_0,rfl,hS28,f28_0,w28_0_1⟩:=hv28
 refine VO.inv _ (fun _ h=>h.parts (i:=115) rfl hS28 [129,130]) ?_
 have hfa31:=(ZW (B:=d0.1) (n:=((Qh d0.1 32 ((Qw d0.1 ((Qh d0.1 16 ((Qh d0.1 1 d0.2).2)).1) ((Qh d0.1 16 ((Qh d0.1 1 d0.2).2)).2)).2)).1)) (s:=((Qh d0.1 32 ((Qw d0.1 ((Qh d0.1 16 ((Qh d0.1 1 d0.2).2)).1) ((Qh d0.1 16 ((Qh d0.1 1 d0.2).2)).2)).2)).2)) XE Qp).1
 have hfa32:=(ZW (B:=d0.1) (n:=((Qh d0.1 32 ((Qw d0.1 ((Qh d0.1 16 ((Qh d0.1 1 d0.2).2)).1) ((Qh d0.1 16 ((Qh d0.1 1 d0.2).2)).2)).2)).1)) (s:=((Qh d0.1 32 ((Qw d0.1 ((Qh d0.1 16 ((Qh d0.1 1 d0.2).2)).1) ((Qh d0.1 16 ((Qh d0.1 1 d0.2).2)).2)).2)).2)) XE Qp).1.1
 have hfa33:=(ZW (B:=d0.1) (n:=((Qh d0.1 32 ((Qw d0.1 ((Qh d0.1 16 ((Qh d0.1 1 d0.2).2)).1) ((Qh d0.1 16 ((Qh d0.1 1 d0.2).2)).2)).2)).1)) (s:=((Qh d0.1 32 ((Qw d0.1 ((Qh d0.1 16 ((Qh d0.1 1 d0.2).2)).1) ((Qh d0.1 16 ((Qh d0.1 1 d0.2).2)).2)).2)).2)) XE Qp).1.2
 have hfa34:=(ZW (B:=d0.1) (n:=((Qh d0.1 32 ((Qw d0.1 ((Qh d0.1 16 ((Qh d0.1 1 d0.2).2)).1) ((Qh d0.1 16 ((Qh d0.1 1 d0.2).2)).2)).2)).1)) (s:=((Qh d0.1 32 ((Qw d0.1 ((Qh d0.1 16 ((Qh d0.1 1 d0.2).2)).1) ((Qh d0.1 16 ((Qh d0.1 1 d0.2).2)).2)).2)).2)) XE Qp).2
 simp only [inK] at w28_0_1
 obtain ⟨A28_0,c28_0,eq28_0,l28_0,k28_0⟩:=f28_0.slc
 subst eq28_0
 refine VO.z (.b2s 129 rfl Tryz.underlying97 Tryz.underlying9 Tryz.underlying5 rfl (Ow.rd f28_0 (Qb _))) ?_
 refine VO.z (.fa rfl JG rfl) ?_
 refine VO.store (k:=1) (c':=[.bool (decide (((Qh d0.1 1 d0.2).1)=1)),str ((Qw d0.1 ((Qh d0.1 16 ((Qh d0.1 1 d0.2).2)).1) ((Qh d0.1 16 ((Qh d0.1 1 d0.2).2)).2)).1),str ((Qw d0.1 ((Qh d0.1 32 ((Qw d0.1 ((Qh d0.1 16 ((Qh d0.1 1 d0.2).2)).1) ((Qh d0.1 16 ((Qh d0.1 1 d0.2).2)).2)).2)).1) ((Qh d0.1 32 ((Qw d0.1 ((Qh d0.1 16 ((Qh d0.1 1 d0.2).2)).1) ((Qh d0.1 16 ((Qh d0.1 1 d0.2).2)).2)).2)).2)).1)]) 121 rfl rfl (.inr ⟨tk9,rfl⟩) rfl rfl rfl rfl rfl ?_
 refine VO.p5 130 121 114 102 0 (VO.k6 0 2 3 4 5 18 (Qg (VC.seq (VC.rs (VO.mv (VO.z (.nilp rfl) (VO.z (.fa rfl ZP rfl) (VO.z (.ld1 130 rfl tk4 rfl (Qa rfl rfl)) (VO.mv ?_)))))))))
 refine VO.decB (t:=29) rfl (fun hc35=>?_) (fun hc35=>?_)
 · refine VO.gN (VO.gN (VO.gN (VO.z (.pT rfl rfl) (VO.k7 0 2 3 4 5 18 33 (VC.condT rfl (VC.rs (VO.mv (VO.z (.nilp rfl) (VO.z (.fa rfl ZP rfl) ?_)))))))))
   refine VO.store (k:=1) (c':=[.slice A0_0 (d0.1.length) (c0_0),.int .i64 ((Qw d0.1 ((Qh d0.1 32 ((Qw d0.1 ((Qh d0.1 16 ((Qh d0.1 1 d0.2).2)).1) ((Qh d0.1 16 ((Qh d0.1 1 d0.2).2)).2)).2)).1) ((Qh d0.1 32 ((Qw d0.1 ((Qh d0.1 16 ((Qh d0.1 1 d0.2).2)).1) ((Qh d0.1 16 ((Qh d0.1 1 d0.2).2)).2)).2)).2)).2.1),.bool true]) 130 rfl rfl (.inr ⟨tk4,rfl⟩) rfl rfl rfl rfl rfl ?_
   refine VO.k7 0 2 3 4 5 18 33 (VC.rs ?_)
   refine VO.z (.bst (cs:=[.bool false,str ([]),str ([])]) rfl JG YX rfl) ?_
   refine VO.store (k:=3) (c':=[.bool false,str ([]),str ([])]) 102 rfl rfl (.inl Yx) rfl rfl rfl rfl rfl ?_
   refine VO.p5 130 121 114 102 0 (VO.k7 0 2 3 4 5 18 33 (VC.ret (QK ?_)))
   refine ⟨_,_,QE (rs:=[.cell 2 64]) rfl (.agg 102 rfl Yx rfl ⟨_,_,_,Qn _ _,Nat.le_of_ble_eq_true rfl,rfl⟩ .nil),fun W_ hI=>Q2 (l:=[Qo g0 (.cells #[.slice A0_0 (d0.1.length) (c0_0),.int .i64 ((Qw d0.1 ((Qh d0.1 32 ((Qw d0.1 ((Qh d0.1 16 ((Qh d0.1 1 d0.2).2)).1) ((Qh d0.1 16 ((Qh d0.1 1 d0.2).2)).2)).2)).1) ((Qh d0.1 32 ((Qw d0.1 ((Qh d0.1 16 ((Qh d0.1 1 d0.2).2)).1) ((Qh d0.1 16 ((Qh d0.1 1 d0.2).2)).2)).2)).2)).2.1),.bool true] E0 (0,0))]) hI [130] rfl rfl (Qb _) (fun hS_=>?_)⟩
   dsimp only [Qu]
   have he0:((YD d0.1 d0.2).1:Ty.Den TOp)=(false,[],[]):=by first | rfl | (exact QL)
   have hm0_1:((YD d0.1 d0.2).2.1:Int)=(Qw d0.1 ((Qh d0.1 32 ((Qw d0.1 ((Qh d0.1 16 ((Qh d0.1 1 d0.2).2)).1) ((Qh d0.1 16 ((Qh d0.1 1 d0.2).2)).2)).2)).1) ((Qh d0.1 32 ((Qw d0.1 ((Qh d0.1 16 ((Qh d0.1 1 d0.2).2)).1) ((Qh d0.1 16 ((Qh d0.1 1 d0.2).2)).2)).2)).2)).2.1:=by first | rfl | (exact QL)
   have hm0_2:((YD d0.1 d0.2).2.2:Bool)=true:=by first | rfl | (exact QL)
   refine ⟨[.bool false,str ([]),str ([])],?_,?_,?_,?_⟩
   rotate_left
   · rw [he0];exact (Ow.of (m:=mnil) rfl (Xl (m:=_) false [] [] bdm bdm))
   · rw [hm0_1,hm0_2,ZA]
   · rw [hm0_1];exact (show inK .i64 _ by simp only [inK];(first | exact bd))
   all_goals (first | rfl | (exact QL))
 refine VO.w (.ldA 121 rfl Yx rfl (Qa rfl rfl)) ?_
 refine VO.gcallN 136 rfl ⟨_,rfl,rfl⟩ QdJ rfl (fun W hW=>YR W (Xl (m:=wm W) (decide (((Qh d0.1 1 d0.2).1)=1)) ((Qw d0.1 ((Qh d0.1 16 ((Qh d0.1 1 d0.2).2)).1) ((Qh d0.1 16 ((Qh d0.1 1 d0.2).2)).2)).1) ((Qw d0.1 ((Qh d0.1 32 ((Qw d0.1 ((Qh d0.1 16 ((Qh d0.1 1 d0.2).2)).1) ((Qh d0.1 16 ((Qh d0.1 1 d0.2).2)).2)).2)).1) ((Qh d0.1 32 ((Qw d0.1 ((Qh d0.1 16 ((Qh d0.1 1 d0.2).2)).1) ((Qh d0.1 16 ((Qh d0.1 1 d0.2).2)).2)).2)).2)).1) bdm bdm)) (fun v36 m36 hv36=>?_)
 try dsimp only at hv36
 subst hv36
 refine VO.w (.neq rfl rfl) (VO.z (.pF rfl rfl) (VO.k7 0 2 3 4 5 18 33 ?_))
 refine VC.cond rfl (fun hc37=>?_) (fun hc37=>?_)
 · refine VC.rs (VO.mv (VO.z (.nilp rfl) (VO.z (.fa rfl ZP rfl) ?_)))
   refine VO.store (k:=1) (c':=[.slice A0_0 (d0.1.length) (c0_0),.int .i64 ((Qw d0.1 ((Qh d0.1 32 ((Qw d0.1 ((Qh d0.1 16 ((Qh d0.1 1 d0.2).2)).1) ((Qh d0.1 16 ((Qh d0.1 1 d0.2).2)).2)).2)).1) ((Qh d0.1 32 ((Qw d0.1 ((Qh d0.1 16 ((Qh d0.1 1 d0.2).2)).1) ((Qh d0.1 16 ((Qh d0.1 1 d0.2).2)).2)).2)).2)).2.1),.bool true]) 130 rfl rfl (.inr ⟨tk4,rfl⟩) rfl rfl rfl rfl rfl ?_
   refine VO.k7 0 2 3 4 5 18 33 (VC.rs ?_)
   refine VO.z (.bst (cs:=[.bool false,str ([]),str ([])]) rfl JG YX rfl) ?_
   refine VO.store (k:=3) (c':=[.bool false,str ([]),str ([])]) 102 rfl rfl (.inl Yx) rfl rfl rfl rfl rfl ?_
   refine VO.p5 130 121 114 102 0 (VO.k7 0 2 3 4 5 18 33 (VC.ret (QK ?_)))
   refine ⟨_,_,QE (rs:=[.cell 2 64]) rfl (.agg 102 rfl Yx rfl ⟨_,_,_,Qn _ _,Nat.le_of_ble_eq_true rfl,rfl⟩ .nil),fun W_ hI=>Q2 (l:=[Qo g0 (.cells #[.slice A0_0 (d0.1.length) (c0_0),.int .i64 ((Qw d0.1 ((Qh d0.1 32 ((Qw d0.1 ((Qh d0.1 16 ((Qh d0.1 1 d0.2).2)).1) ((Qh d0.1 16 ((Qh d0.1 1 d0.2).2)).2)).2)).1) ((Qh d0.1 32 ((Qw d0.1 ((Qh d0.1 16 ((Qh d0.1 1 d0.2).2)).1) ((Qh d0.1 16 ((Qh d0.1 1 d0.2).2)).2)).2)).2)).2.1),.bool true] E0 (0,0))]) hI [130] rfl rfl (Qb _) (fun hS_=>?_)⟩
   dsimp only [Qu]
   have he0:((YD d0.1 d0.2).1:Ty.Den TOp)=(false,[],[]):=by first | rfl | (exact QL)
   have hm0_1:((YD d0.1 d0.2).2.1:Int)=(Qw d0.1 ((Qh d0.1 32 ((Qw d0.1 ((Qh d0.1 16 ((Qh d0.1 1 d0.2).2)).1) ((Qh d0.1 16 ((Qh d0.1 1 d0.2).2)).2)).2)).1) ((Qh d0.1 32 ((Qw d0.1 ((Qh d0.1 16 ((Qh d0.1 1 d0.2).2)).1) ((Qh d0.1 16 ((Qh d0.1 1 d0.2).2)).2)).2)).2)).2.1:=by first | rfl | (exact QL)
   have hm0_2:((YD d0.1 d0.2).2.2:Bool)=true:=by first | rfl | (exact QL)
   refine ⟨[.bool false,str ([]),str ([])],?_,?_,?_,?_⟩
   rotate_left
   · rw [he0];exact (Ow.of (m:=mnil) rfl (Xl (m:=_) false [] [] bdm bdm))
   · rw [hm0_1,hm0_2,ZA]
   · rw [hm0_1];exact (show inK .i64 _ by simp only [inK];(first | exact bd))
   all_goals (first | rfl | (exact QL))
 · refine VC.skip (Qg (VC.rs (VO.z (.ldA 121 rfl Yx rfl (Qa rfl rfl)) ?_)))
   refine VO.store (k:=3) (c':=[.bool (decide (((Qh d0.1 1 d0.2).1)=1)),str ((Qw d0.1 ((Qh d0.1 16 ((Qh d0.1 1 d0.2).2)).1) ((Qh d0.1 16 ((Qh d0.1 1 d0.2).2)).2)).1),str ((Qw d0.1 ((Qh d0.1 32 ((Qw d0.1 ((Qh d0.1 16 ((Qh d0.1 1 d0.2).2)).1) ((Qh d0.1 16 ((Qh d0.1 1 d0.2).2)).2)).2)).1) ((Qh d0.1 32 ((Qw d0.1 ((Qh d0.1 16 ((Qh d0.1 1 d0.2).2)).1) ((Qh d0.1 16 ((Qh d0.1 1 d0.2).2)).2)).2)).2)).1)]) 102 rfl rfl (.inl Yx) rfl rfl rfl rfl rfl ?_
   refine VO.k7 0 2 3 4 5 18 33 (VC.ret ?_)
   refine ⟨_,_,QE (rs:=[.cell 2 64]) rfl (.agg 102 rfl Yx rfl ⟨_,_,_,Qn _ _,Nat.le_of_ble_eq_true rfl,rfl⟩ .nil),fun W_ hI=>Q2 (l:=[Qo g0 (.cells #[.slice A0_0 (d0.1.length) (c0_0),.int .i64 ((Qw d0.1 ((Qh d0.1 32 ((Qw d0.1 ((Qh d0.1 16 ((Qh d0.1 1 d0.2).2)).1) ((Qh d0.1 16 ((Qh d0.1 1 d0.2).2)).2)).2)).1) ((Qh d0.1 32 ((Qw d0.1 ((Qh d0.1 16 ((Qh d0.1 1 d0.2).2)).1) ((Qh d0.1 16 ((Qh d0.1 1 d0.2).2)).2)).2)).2)).2.1),.bool ((Qw d0.1 ((Qh d0.1 32 ((Qw d0.1 ((Qh d0.1 16 ((Qh d0.1 1 d0.2).2)).1) ((Qh d0.1 16 ((Qh d0.1 1 d0.2).2)).2)).2)).1) ((Qh d0.1 32 ((Qw d0.1 ((Qh d0.1 16 ((Qh d0.1 1 d0.2).2)).1) ((Qh d0.1 16 ((Qh d0.1 1 d0.2).2)).2)).2)).2)).2.2)] E0 (0,0))]) hI [130] rfl rfl (Qb _) (fun hS_=>?_)⟩
   dsimp only [Qu]
   have he0:((YD d0.1 d0.2).1:Ty.Den TOp)=(decide (((Qh d0.1 1 d0.2).1)=1),(Qw d0.1 ((Qh d0.1 16 ((Qh d0.1 1 d0.2).2)).1) ((Qh d0.1 16 ((Qh d0.1 1 d0.2).2)).2)).1,(Qw d0.1 ((Qh d0.1 32 ((Qw d0.1 ((Qh d0.1 16 ((Qh d0.1 1 d0.2).2)).1) ((Qh d0.1 16 ((Qh d0.1 1 d0.2).2)).2)).2)).1) ((Qh d0.1 32 ((Qw d0.1 ((Qh d0.1 16 ((Qh d0.1 1 d0.2).2)).1) ((Qh d0.1 16 ((Qh d0.1 1 d0.2).2)).2)).2)).2)).1):=by first | rfl | (exact QL)
   have hm0_1:((YD d0.1 d0.2).2.1:Int)=(Qw d0.1 ((Qh d0.1 32 ((Qw d0.1 ((Qh d0.1 16 ((Qh d0.1 1 d0.2).2)).1) ((Qh d0.1 16 ((Qh d0.1 1 d0.2).2)).2)).2)).1) ((Qh d0.1 32 ((Qw d0.1 ((Qh d0.1 16 ((Qh d0.1 1 d0.2).2)).1) ((Qh d0.1 16 ((Qh d0.1 1 d0.2).2)).2)).2)).2)).2.1:=by first | rfl | (exact QL)
   have hm0_2:((YD d0.1 d0.2).2.2:Bool)=(Qw d0.1 ((Qh d0.1 32 ((Qw d0.1 ((Qh d0.1 16 ((Qh d0.1 1 d0.2).2)).1) ((Qh d0.1 16 ((Qh d0.1 1 d0.2).2)).2)).2)).1) ((Qh d0.1 32 ((Qw d0.1 ((Qh d0.1 16 ((Qh d0.1 1 d0.2).2)).1) ((Qh d0.1 16 ((Qh d0.1 1 d0.2).2)).2)).2)).2)).2.2:=by first | rfl | (exact QL)
   refine ⟨[.bool (decide (((Qh d0.1 1 d0.2).1)=1)),str ((Qw d0.1 ((Qh d0.1 16 ((Qh d0.1 1 d0.2).2)).1) ((Qh d0.1 16 ((Qh d0.1 1 d0.2).2)).2)).1),str ((Qw d0.1 ((Qh d0.1 32 ((Qw d0.1 ((Qh d0.1 16 ((Qh d0.1 1 d0.2).2)).1) ((Qh d0.1 16 ((Qh d0.1 1 d0.2).2)).2)).2)).1) ((Qh d0.1 32 ((Qw d0.1 ((Qh d0.1 16 ((Qh d0.1 1 d0.2).2)).1) ((Qh d0.1 16 ((Qh d0.1 1 d0.2).2)).2)).2)).2)).1)],?_,?_,?_,?_⟩
   rotate_left
   · rw [he0];exact (Ow.of (m:=mnil) rfl (Xl (m:=_) (decide (((Qh d0.1 1 d0.2).1)=1)) ((Qw d0.1 ((Qh d0.1 16 ((Qh d0.1 1 d0.2).2)).1) ((Qh d0.1 16 ((Qh d0.1 1 d0.2).2)).2)).1) ((Qw d0.1 ((Qh d0.1 32 ((Qw d0.1 ((Qh d0.1 16 ((Qh d0.1 1 d0.2).2)).1) ((Qh d0.1 16 ((Qh d0.1 1 d0.2).2)).2)).2)).1) ((Qh d0.1 32 ((Qw d0.1 ((Qh d0.1 16 ((Qh d0.1 1 d0.2).2)).1) ((Qh d0.1 16 ((Qh d0.1 1 d0.2).2)).2)).2)).2)).1) bdm bdm))
   · rw [hm0_1,hm0_2,ZA]
   · rw [hm0_1];exact (show inK .i64 _ by simp only [inK];(first | exact bd))
   all_goals (first | rfl | (exact QL))
 refine VC.skip (Qg (VC.seq (VC.rs (VO.mv (VO.z (.nilp rfl) (VO.z (.fa rfl ZP rfl) (VO.z (.ld1 115 rfl tk4 rfl (Qa rfl rfl)) (VO.mv ?_))))))))
 refine VO.decB (t:=29) rfl (fun hc38=>?_) (fun hc38=>?_)
 · refine VO.gN (VO.gN (VO.gN (VO.z (.pT rfl rfl) (VO.p5 121 114 115 102 0 (VO.k7 0 2 3 4 5 18 33 (VC.condT rfl (VC.rs (VO.mv (VO.z (.nilp rfl) (VO.z (.fa rfl ZP rfl) ?_))))))))))
   refine VO.store (k:=1) (c':=[.slice A0_0 (d0.1.length) (c0_0),.int .i64 ((Qw d0.1 ((Qh d0.1 16 ((Qh d0.1 1 d0.2).2)).1) ((Qh d0.1 16 ((Qh d0.1 1 d0.2).2)).2)).2.1),.bool true]) 115 rfl rfl (.inr ⟨tk4,rfl⟩) rfl rfl rfl rfl rfl ?_
   refine VO.k7 0 2 3 4 5 18 33 (VC.rs ?_)
   refine VO.z (.bst (cs:=[.bool false,str ([]),str ([])]) rfl JG YX rfl) ?_
   refine VO.store (k:=3) (c':=[.bool false,str ([]),str ([])]) 102 rfl rfl (.inl Yx) rfl rfl rfl rfl rfl ?_
   refine VO.k7 0 2 3 4 5 18 33 (VC.ret (QK ?_))
   refine ⟨_,_,QE (rs:=[.cell 2 64]) rfl (.agg 102 rfl Yx rfl ⟨_,_,_,Qn _ _,Nat.le_of_ble_eq_true rfl,rfl⟩ .nil),fun W_ hI=>Q2 (l:=[Qo g0 (.cells #[.slice A0_0 (d0.1.length) (c0_0),.int .i64 ((Qw d0.1 ((Qh d0.1 16 ((Qh d0.1 1 d0.2).2)).1) ((Qh d0.1 16 ((Qh d0.1 1 d0.2).2)).2)).2.1),.bool true] E0 (0,0))]) hI [115] rfl rfl (Qb _) (fun hS_=>?_)⟩
   dsimp only [Qu]
   have he0:((YD d0.1 d0.2).1:Ty.Den TOp)=(false,[],[]):=by first | rfl | (exact QL)
   have hm0_1:((YD d0.1 d0.2).2.1:Int)=(Qw d0.1 ((Qh d0.1 16 ((Qh d0.1 1 d0.2).2)).1) ((Qh d0.1 16 ((Qh d0.1 1 d0.2).2)).2)).2.1:=by first | rfl | (exact QL)
   have hm0_2:((YD d0.1 d0.2).2.2:Bool)=true:=by first | rfl | (exact QL)
   refine ⟨[.bool false,str ([]),str ([])],?_,?_,?_,?_⟩
   rotate_left
   · rw [he0];exact (Ow.of (m:=mnil) rfl (Xl (m:=_) false [] [] bdm bdm))
   · rw [hm0_1,hm0_2,ZA]
   · rw [hm0_1];exact (show inK .i64 _ by simp only [inK];(first | exact bd))
   all_goals (first | rfl | (exact QL))
 refine VO.w (.ldA 121 rfl Yx rfl (Qa rfl rfl)) ?_
 refine VO.gcallN 139 rfl ⟨_,rfl,rfl⟩ QdJ rfl (fun W hW=>YR W (Xl (m:=wm W) (decide (((Qh d0.1 1 d0.2).1)=1)) ((Qw d0.1 ((Qh d0.1 16 ((Qh d0.1 1 d0.2).2)).1) ((Qh d0.1 16 ((Qh d0.1 1 d0.2).2)).2)).1) [] bdm bdm)) (fun v39 m39 hv39=>?_)
 try dsimp only at hv39
 subst hv39
 refine VO.w (.neq rfl rfl) (VO.z (.pF rfl rfl) (VO.p5 121 114 115 102 0 (VO.k7 0 2 3 4 5 18 33 ?_)))
 refine VC.cond rfl (fun hc40=>?_) (fun hc40=>?_)
 · refine VC.rs (VO.mv (VO.z (.nilp rfl) (VO.z (.fa rfl ZP rfl) ?_)))
   refine VO.store (k:=1) (c':=[.slice A0_0 (d0.1.length) (c0_0),.int .i64 ((Qw d0.1 ((Qh d0.1 16 ((Qh d0.1 1 d0.2).2)).1) ((Qh d0.1 16 ((Qh d0.1 1 d0.2).2)).2)).2.1),.bool true]) 115 rfl rfl (.inr ⟨tk4,rfl⟩) rfl rfl rfl rfl rfl ?_
   refine VO.k7 0 2 3 4 5 18 33 (VC.rs ?_)
   refine VO.z (.bst (cs:=[.bool false,str ([]),str ([])]) rfl JG YX rfl) ?_
   refine VO.store (k:=3) (c':=[.bool false,str ([]),str ([])]) 102 rfl rfl (.inl Yx) rfl rfl rfl rfl rfl ?_
   refine VO.k7 0 2 3 4 5 18 33 (VC.ret (QK ?_))
   refine ⟨_,_,QE (rs:=[.cell 2 64]) rfl (.agg 102 rfl Yx rfl ⟨_,_,_,Qn _ _,Nat.le_of_ble_eq_true rfl,rfl⟩ .nil),fun W_ hI=>Q2 (l:=[Qo g0 (.cells #[.slice A0_0 (d0.1.length) (c0_0),.int .i64 ((Qw d0.1 ((Qh d0.1 16 ((Qh d0.1 1 d0.2).2)).1) ((Qh d0.1 16 ((Qh d0.1 1 d0.2).2)).2)).2.1),.bool true] E0 (0,0))]) hI [115] rfl rfl (Qb _) (fun hS_=>?_)⟩
   dsimp only [Qu]
   have he0:((YD d0.1 d0.2).1:Ty.Den TOp)=(false,[],[]):=by first | rfl | (exact QL)
   have hm0_1:((YD d0.1 d0.2).2.1:Int)=(Qw d0.1 ((Qh d0.1 16 ((Qh d0.1 1 d0.2).2)).1) ((Qh d0.1 16 ((Qh d0.1 1 d0.2).2)).2)).2.1:=by first | rfl | (exact QL)
   have hm0_2:((YD d0.1 d0.2).2.2:Bool)=true:=by first | rfl | (exact QL)
   refine ⟨[.bool false,str ([]),str ([])],?_,?_,?_,?_⟩
   rotate_left
   · rw [he0];exact (Ow.of (m:=mnil) rfl (Xl (m:=_) false [] [] bdm bdm))
   · rw [hm0_1,hm0_2,ZA]
   · rw [hm0_1];exact (show inK .i64 _ by simp only [inK];(first | exact bd))
   all_goals (first | rfl | (exact QL))
 · refine VC.skip (Qg (VC.rs (VO.z (.ldA 121 rfl Yx rfl (Qa rfl rfl)) ?_)))
   refine VO.store (k:=3) (c':=[.bool (decide (((Qh d0.1 1 d0.2).1)=1)),str ((Qw d0.1 ((Qh d0.1 16 ((Qh d0.1 1 d0.2).2)).1) ((Qh d0.1 16 ((Qh d0.1 1 d0.2).2)).2)).1),str ([])]) 102 rfl rfl (.inl Yx) rfl rfl rfl rfl rfl ?_
   refine VO.k7 0 2 3 4 5 18 33 (VC.ret ?_)
   refine ⟨_,_,QE (rs:=[.cell 2 64]) rfl (.agg 102 rfl Yx rfl ⟨_,_,_,Qn _ _,Nat.le_of_ble_eq_true rfl,rfl⟩ .nil),fun W_ hI=>Q2 (l:=[Qo g0 (.cells #[.slice A0_0 (d0.1.length) (c0_0),.int .i64 ((Qw d0.1 ((Qh d0.1 16 ((Qh d0.1 1 d0.2).2)).1) ((Qh d0.1 16 ((Qh d0.1 1 d0.2).2)).2)).2.1),.bool ((Qw d0.1 ((Qh d0.1 16 ((Qh d0.1 1 d0.2).2)).1) ((Qh d0.1 16 ((Qh d0.1 1 d0.2).2)).2)).2.2)] E0 (0,0))]) hI [115] rfl rfl (Qb _) (fun hS_=>?_)⟩
   dsimp only [Qu]
   have he0:((YD d0.1 d0.2).1:Ty.Den TOp)=(decide (((Qh d0.1 1 d0.2).1)=1),(Qw d0.1 ((Qh d0.1 16 ((Qh d0.1 1 d0.2).2)).1) ((Qh d0.1 16 ((Qh d0.1 1 d0.2).2)).2)).1,[]):=by first | rfl | (exact QL)
   have hm0_1:((YD d0.1 d0.2).2.1:Int)=(Qw d0.1 ((Qh d0.1 16 ((Qh d0.1 1 d0.2).2)).1) ((Qh d0.1 16 ((Qh d0.1 1 d0.2).2)).2)).2.1:=by first | rfl | (exact QL)
   have hm0_2:((YD d0.1 d0.2).2.2:Bool)=(Qw d0.1 ((Qh d0.1 16 ((Qh d0.1 1 d0.2).2)).1) ((Qh d0.1 16 ((Qh d0.1 1 d0.2).2)).2)).2.2:=by first | rfl | (exact QL)
   refine ⟨[.bool (decide (((Qh d0.1 1 d0.2).1)=1)),str ((Qw d0.1 ((Qh d0.1 16 ((Qh d0.1 1 d0.2).2)).1) ((Qh d0.1 16 ((Qh d0.1 1 d0.2).2)).2)).1),str ([])],?_,?_,?_,?_⟩
   rotate_left
   · rw [he0];exact (Ow.of (m:=mnil) rfl (Xl (m:=_) (decide (((Qh d0.1 1 d0.2).1)=1)) ((Qw d0.1 ((Qh d0.1 16 ((Qh d0.1 1 d0.2).2)).1) ((Qh d0.1 16 ((Qh d0.1 1 d0.2).2)).2)).1) [] bdm bdm))
   · rw [hm0_1,hm0_2,ZA]
   · rw [hm0_1];exact (show inK .i64 _ by simp only [inK];(first | exact bd))
   all_goals (first | rfl | (exact QL))
theorem Jy {P:Prop} (h:P:=by first | (rw [QoI hp (by first | exact .inl (by omega) | exact .inr (by assumption)) (by assumption)] <;> first | rfl | done) | (rw [QoH hp (by first | exact .inl (by omega) | exact .inr (by assumption)) (by assumption)] <;> first | rfl | done) | (rw [QoG hp (by first | exact .inl (by omega) | exact .inr (by assumption)) (by assumption) (by assumption)] <;> first | rfl | done)):P:=h
set_option maxHeartbeats 1000000 in
theorem Qi3 (W:World) {v0:Value} {d0:List UInt8} (h0:Rd (.sl .byte) (wm W) [v0] d0) (e0:d0.length≤140737488355000):Qc Tryz.prog 107 [v0] W (mnil) (fun v m'=>∃ (s0:List Value),v= .tuple #[.agg s0.toArray,.int .i64 ((Qm d0).2)]∧Ow YB m' s0 ((Qm d0).1)):=by
 obtain ⟨A0,c0,rfl,l0,k0⟩:=h0.slc
 refine Qc.ofA (n:=45) Tryz.func107 rfl rfl rfl ?_
 refine VC.rs ?_
 refine VO.alloc 102 rfl QbA (fun g1=>?_)
 refine VO.as (VO.k3 0 2 3 (VC.rs (VO.mv ?_)))
 refine VO.z (.bst (cs:=[.slice A0 (d0.length) (c0),.int .i64 (0),.bool false]) rfl ZP tz180 rfl) ?_
 refine VO.box (cs:=[.slice A0 (d0.length) (c0),.int .i64 (0),.bool false]) 104 rfl rfl rfl (fun g3=>?_)
 refine VO.as (VO.k4 0 2 3 4 (VC.rs (VO.mv ?_)))
 refine VO.call 104 rfl QcR rfl rfl (fun W hW=>Qam W (d0:=(d0,0,false)) (hW.t 104) (Rd.mono h0 (hW.o 104 0)) bdk 1048576 bdk XE) (fun v5 m5 hv5=>?_)
 try dsimp only at hv5
 obtain ⟨rfl,rfl,w5_0_1⟩:=hv5
 have hfa6:=(J9 (B:=d0) (m:=1048576) (s:=(0,false)) XE Qp).1
 have hfa7:=(J9 (B:=d0) (m:=1048576) (s:=(0,false)) XE Qp).1.1
 have hfa8:=(J9 (B:=d0) (m:=1048576) (s:=(0,false)) XE Qp).1.2
 have hfa9:=(J9 (B:=d0) (m:=1048576) (s:=(0,false)) XE Qp).2
 simp only [inK] at w5_0_1
 refine VO.mv ?_
 refine VO.call 104 rfl QcR rfl rfl (fun W hW=>Qam W (d0:=(d0,(Qh d0 1048576 (0,false)).2)) (hW.t 104) (Rd.mono h0 (hW.o 104 0)) bdk 1048576 bdk XE) (fun v10 m10 hv10=>?_)
 try dsimp only at hv10
 obtain ⟨rfl,rfl,w10_0_1⟩:=hv10
 have hfa11:=(J9 (B:=d0) (m:=1048576) (s:=((Qh d0 1048576 (0,false)).2)) XE Qp).1
 have hfa12:=(J9 (B:=d0) (m:=1048576) (s:=((Qh d0 1048576 (0,false)).2)) XE Qp).1.1
 have hfa13:=(J9 (B:=d0) (m:=1048576) (s:=((Qh d0 1048576 (0,false)).2)) XE Qp).1.2
 have hfa14:=(J9 (B:=d0) (m:=1048576) (s:=((Qh d0 1048576 (0,false)).2)) XE Qp).2
 simp only [inK] at w10_0_1
 refine VO.z (.bst (cs:=[.int .i64 ((Qh d0 1048576 (0,false)).1),.int .i64 ((Qh d0 1048576 ((Qh d0 1048576 (0,false)).2)).1),.slice none (0) (0)]) rfl J2 QbA rfl) ?_
 refine VO.alloc 116 rfl QbA (fun g15=>?_)
 refine VO.store (k:=3) (c':=[.int .i64 ((Qh d0 1048576 (0,false)).1),.int .i64 ((Qh d0 1048576 ((Qh d0 1048576 (0,false)).2)).1),.slice none (0) (0)]) 116 rfl rfl (.inl XI) rfl rfl rfl rfl rfl ?_
 refine VO.p4 116 104 102 0 (VO.k5 0 2 3 4 5 (VC.seq (VC.rs (VO.mv ?_))))
 refine VO.call 104 rfl QcR rfl rfl (fun W hW=>Qam W (d0:=(d0,(Qh d0 1048576 ((Qh d0 1048576 (0,false)).2)).2)) (hW.t 104) (Rd.mono h0 (hW.o 104 0)) bdk 1024 bdk XE) (fun v17 m17 hv17=>?_)
 try dsimp only at hv17
 obtain ⟨rfl,rfl,w17_0_1⟩:=hv17
 have hfa18:=(J9 (B:=d0) (m:=1024) (s:=((Qh d0 1048576 ((Qh d0 1048576 (0,false)).2)).2)) XE Qp).1
 have hfa19:=(J9 (B:=d0) (m:=1024) (s:=((Qh d0 1048576 ((Qh d0 1048576 (0,false)).2)).2)) XE Qp).1.1
 have hfa20:=(J9 (B:=d0) (m:=1024) (s:=((Qh d0 1048576 ((Qh d0 1048576 (0,false)).2)).2)) XE Qp).1.2
 have hfa21:=(J9 (B:=d0) (m:=1024) (s:=((Qh d0 1048576 ((Qh d0 1048576 (0,false)).2)).2)) XE Qp).2
 simp only [inK] at w17_0_1
 refine VO.as (VO.k6 0 2 3 4 5 6 (VC.block ?_))
 refine VC.inv ((122,mnil)::_) (fun _ h=>h.nilc 122) ?_
 refine VC.loop (G:=Int × (List DOp) × (Option Addr) × Nat × Mem × Int × Bool) (fun g=>[(6,.int .i64 ((g.1))),(0,.slice A0 (d0.length) (c0)),(2,Vp g1),(3,.int .i64 (0)),(4,Vp g3),(5,Vp g15)]) (fun g=>[(122,(g.2.2.2.2.1)),(104,Qo g3 (.cells #[.slice A0 (d0.length) (c0),.int .i64 ((g.2.2.2.2.2.1)),.bool (g.2.2.2.2.2.2)] 180 (0,0))),(116,Qo g15 (.cells #[.int .i64 ((Qh d0 1048576 (0,false)).1),.int .i64 ((Qh d0 1048576 ((Qh d0 1048576 (0,false)).2)).1),.slice (g.2.2.1) ((g.2.1).length) ((g.2.2.2.1))] 92 (0,0))),(102,Qo g1 (.cells #[.int .i64 (0),.int .i64 (0),.slice none (0) (0)] 92 (0,0))),(0,wm W)]) (fun g=>(Z4 d0 (Qh d0 1024 (Qh d0 1048576 (Qh d0 1048576 (0,false)).2).2).1.toNat (Qh d0 1024 (Qh d0 1048576 (Qh d0 1048576 (0,false)).2).2).2=((g.2.1)++(Z4 d0 (g.1).toNat ((g.2.2.2.2.2.1),(g.2.2.2.2.2.2))).1,(Z4 d0 (g.1).toNat ((g.2.2.2.2.2.1),(g.2.2.2.2.2.2))).2))∧(rOk d0 ((g.2.2.2.2.2.1),(g.2.2.2.2.2.2)))∧((g.1)≤1024)∧((g.2.1).length+(g.1).toNat≤1024)∧(Qz TOp (g.2.2.2.2.1) mnil (.slice (g.2.2.1) (g.2.1).length (g.2.2.2.1)) (g.2.1))) (fun g=>(g.1).toNat) ((Qh d0 1024 ((Qh d0 1048576 ((Qh d0 1048576 (0,false)).2)).2)).1,[],none,0,mnil,(Qh d0 1024 ((Qh d0 1048576 ((Qh d0 1048576 (0,false)).2)).2)).2.1,(Qh d0 1024 ((Qh d0 1048576 ((Qh d0 1048576 (0,false)).2)).2)).2.2) (⟨by rfl,by assumption,by omega,by (simp;omega),(Qz.nil TOp mnil mnil)⟩) ⟨esn,fun _ h=>h.sub [122,104,116,102,0]⟩ ?_
 rintro ⟨k,l,l_A,l_c,l_m,at_,bad⟩ ⟨hp,hok,hk,hlen,h_l⟩
 replace hp:Z4 d0 (Qh d0 1024 (Qh d0 1048576 (Qh d0 1048576 (0,false)).2).2).1.toNat (Qh d0 1024 (Qh d0 1048576 (Qh d0 1048576 (0,false)).2).2).2=(l++(Z4 d0 k.toNat (at_,bad)).1,(Z4 d0 k.toNat (at_,bad)).2):=hp
 replace hok:rOk d0 (at_,bad):=hok
 replace hk:k≤1024:=hk
 replace hlen:l.length+k.toNat≤1024:=hlen
 replace h_l:Qz TOp l_m mnil (.slice l_A l.length l_c) l:=h_l
 show VC _ _ _ _ _ [(6,.int .i64 (k)),(0,.slice A0 (d0.length) (c0)),(2,Vp g1),(3,.int .i64 (0)),(4,Vp g3),(5,Vp g15)] [(122,l_m),(104,Qo g3 (.cells #[.slice A0 (d0.length) (c0),.int .i64 (at_),.bool bad] 180 (0,0))),(116,Qo g15 (.cells #[.int .i64 ((Qh d0 1048576 (0,false)).1),.int .i64 ((Qh d0 1048576 ((Qh d0 1048576 (0,false)).2)).1),.slice l_A (l.length) (l_c)] 92 (0,0))),(102,Qo g1 (.cells #[.int .i64 (0),.int .i64 (0),.slice none (0) (0)] 92 (0,0))),(0,wm W)]
 have l_l:l.length≤l_c:=by obtain ⟨_,_,he,hl,_⟩:=h_l.slice;simp only [Value.slice.injEq] at he;omega
 have k_l:l_c≤9223372036854775807:=by obtain ⟨_,_,he,_,hl⟩:=h_l.slice;simp only [Value.slice.injEq,maxLen] at he hl;omega
 obtain ⟨hoka,hokb⟩:=(show 0≤at_∧at_≤d0.length from hok)
 refine VC.seq (VC.rs (VO.mv (VO.z (.gtr rfl rfl) (VO.mv ?_))))
 refine VO.dec (t:=19) rfl (fun hc23=>?_) (fun hc23=>?_)
 refine VO.w (.mv rfl) (VO.w (.nilp rfl) (VO.w (.fa rfl ZP rfl) (VO.w (.ld1 104 rfl tk4 rfl (Qa rfl rfl)) (VO.w (.not rfl) (VO.z (.pT rfl rfl) (VO.k7 0 2 3 4 5 6 25 ?_))))))
 refine VC.condBN rfl (fun hc24=>?_) (fun hc24=>?_)
 refine VC.skip (Qg (VC.seq (VC.block ?_)))
 refine VC.regD _ 5 [(0,true),(1,true),(2,true),(3,false),(4,false)] follows (by kernel_rfl) (fun _ h=>h.sub [122,116,102,0]) ?_
 refine VD.z rfl (.fa rfl J2 rfl) (VD.z rfl (.ld1 116 rfl Jw rfl (Qa rfl rfl)) (VD.z rfl (.mv rfl) ?_))
 refine VD.call 104 rfl rfl (.inl rfl) Qq0 rfl rfl (fun _ _ h=>h.sub [122,116,102,0]) (fun W hW=>Qmg W (d0:=(d0,at_,bad)) (hW.t 104) (Rd.mono h0 (hW.o 104 0)) bdk XE) (fun v25 m25 hv25=>?_)
 try dsimp only at hv25
 obtain ⟨s25_0,rfl,f25_0,rfl,w25_0_1⟩:=hv25
 have hfa26:=(Qe0 (B:=d0) (s:=(at_,bad)) XE).1
 have hfa27:=(Qe0 (B:=d0) (s:=(at_,bad)) XE).1.1
 have hfa28:=(Qe0 (B:=d0) (s:=(at_,bad)) XE).1.2
 have hfa29:=(Qe0 (B:=d0) (s:=(at_,bad)) XE).2.1
 have hfa30:=(Qe0 (B:=d0) (s:=(at_,bad)) XE).2.2
 simp only [inK] at w25_0_1
 obtain ⟨rfl,q25_0_1,q25_0_2⟩:=Jr (x0:=((YD d0 (at_,bad)).1).1) (x1:=((YD d0 (at_,bad)).1).2.1) (x2:=((YD d0 (at_,bad)).1).2.2) (f25_0.rd (Qb _))
 simp only [maxLen] at q25_0_1
 simp only [maxLen] at q25_0_2
 refine VD.bsl (cs:=[.bool (((YD d0 (at_,bad)).1).1),str (((YD d0 (at_,bad)).1).2.1),str (((YD d0 (at_,bad)).1).2.2)]) 132 rfl rfl rfl QX YX rfl rfl (fun _ h=>h.sub [122,116,102,0]) (fun g31=>?_)
 refine VD.nil rfl ?_ rfl
 obtain ⟨mo33,cs33,hM33,hA33,hC33⟩:=h_l
 refine VO.app 122 rfl rfl rfl QX YX rfl rfl hM33 hA33 (.row 132 _ _ _ 1 1 _ _ Tryz.underlying34 rfl (Qa rfl rfl)) (by simp [Value.oneCell']) bdm bd (by decide) (fun v33 m33 hN33=>?_)
 have ho33:Qz TOp m33 mnil v33 (l++[((YD d0 (at_,bad)).1)]):=Qz.one hC33 hN33 (show Rd TOp _ _ ((YD d0 (at_,bad)).1) from (Xl (m:=_) (((YD d0 (at_,bad)).1).1) (((YD d0 (at_,bad)).1).2.1) (((YD d0 (at_,bad)).1).2.2) bdm bdm))
 obtain ⟨A33,c33,rfl,l33,k33⟩:=ho33.slc
 refine VO.z (.fa rfl J2 rfl) ?_
 refine VO.store (k:=1) (c':=[.int .i64 ((Qh d0 1048576 (0,false)).1),.int .i64 ((Qh d0 1048576 ((Qh d0 1048576 (0,false)).2)).1),.slice A33 ((l++[((YD d0 (at_,bad)).1)]).length) (c33)]) 116 rfl rfl (.inr ⟨Jw,rfl⟩) rfl rfl rfl rfl rfl ?_
 refine VO.p5 104 122 116 102 0 (VO.k7 0 2 3 4 5 6 25 (Jh (Qg ?_)))
 refine VC.reg ?_
 refine VO.mv ?_
 refine VO.z (.sub rfl rfl rfl ⟨bd,bd⟩) ?_
 refine VO.as (VO.k7 0 2 3 4 5 6 25 ?_)
 exact Qg ⟨⟨k - 1,l++[((YD d0 (at_,bad)).1)],A33,c33,m33,(YD d0 (at_,bad)).2.1,(YD d0 (at_,bad)).2.2⟩,⟨by exact Qml hp Qp Qf,by assumption,by omega,by (simp only [List.length_append,List.length_cons,List.length_nil];omega),ho33⟩,bd,⟨esn,fun _ h=>Inv.sub h [122,104,116,102,0]⟩⟩
 refine VC.exit (JU (JU (JT (Qg (VC.seq (VC.rs (VO.mv ?_)))))))
 refine VO.call 104 rfl Qm1 rfl rfl (fun W hW=>QjS W (d0:=(d0,at_,bad)) (hW.t 104) (Rd.mono h0 (hW.o 104 0)) bdk) (fun v34 m34 hv34=>?_)
 try dsimp only at hv34
 obtain ⟨rfl,rfl,w34_0_1⟩:=hv34
 simp only [inK] at w34_0_1
 refine VO.z (.notD rfl) (VO.mv ?_)
 refine VO.dec (t:=38) rfl (fun hc35=>?_) (fun hc35=>?_)
 · refine VO.gN (VO.gN (VO.gN (VO.z (.pT rfl rfl) (VO.p5 104 122 116 102 0 (VO.k8 0 2 3 4 5 6 25 42 (VC.condT rfl (VC.rs ?_)))))))
   refine VO.z (.bst (cs:=[.int .i64 (0),.int .i64 (0),.slice none (0) (0)]) rfl J2 QbA rfl) ?_
   refine VO.store (k:=3) (c':=[.int .i64 (0),.int .i64 (0),.slice none (0) (0)]) 102 rfl rfl (.inl XI) rfl rfl rfl rfl rfl ?_
   refine VO.as (VO.k8 0 2 3 4 5 6 25 42 (VC.ret (QK ?_)))
   refine ⟨_,_,QE (rs:=[.cell 2 92,.tmp 3]) rfl (.agg 102 rfl XI rfl ⟨_,_,_,Qn _ _,Nat.le_of_ble_eq_true rfl,rfl⟩ (.tmp rfl .nil)),fun W_ hI=>Q2 (l:=[]) hI [] rfl rfl (Qb _) (fun hS_=>?_)⟩
   dsimp only [Qu]
   have he0:((Qm d0).1:Ty.Den YB)=(0,0,[]):=by first | rfl | (exact Jy)
   refine ⟨[.int .i64 (0),.int .i64 (0),.slice none (0) (0)],?_,?_⟩
   rotate_left
   · rw [he0];exact (Yb _ _ _ (Qt.nilAt 0 hS_) bdk bdk (Ow.nil _ _))
   all_goals (first | rfl | (exact Jy))
 refine VO.w (.ldA 116 rfl XI rfl (Qa rfl rfl)) ?_
 refine VO.gcallN 136 rfl ⟨_,rfl,rfl⟩ Qjh rfl (fun W hW=>QdC W (Qh4 (m:=wm W) ((Qh d0 1048576 (0,false)).1) ((Qh d0 1048576 ((Qh d0 1048576 (0,false)).2)).1) l bdk bdk (Qz.rd h_l (hW.t 122) (JW _)))) (fun v36 m36 hv36=>?_)
 try dsimp only at hv36
 subst hv36
 refine VO.w (.neq rfl rfl) (VO.z (.pF rfl rfl) (VO.p5 104 122 116 102 0 (VO.k8 0 2 3 4 5 6 25 42 ?_)))
 refine VC.cond rfl (fun hc38=>?_) (fun hc38=>?_)
 · refine VC.rs ?_
   refine VO.z (.bst (cs:=[.int .i64 (0),.int .i64 (0),.slice none (0) (0)]) rfl J2 QbA rfl) ?_
   refine VO.store (k:=3) (c':=[.int .i64 (0),.int .i64 (0),.slice none (0) (0)]) 102 rfl rfl (.inl XI) rfl rfl rfl rfl rfl ?_
   refine VO.as (VO.k8 0 2 3 4 5 6 25 42 (VC.ret (QK ?_)))
   refine ⟨_,_,QE (rs:=[.cell 2 92,.tmp 3]) rfl (.agg 102 rfl XI rfl ⟨_,_,_,Qn _ _,Nat.le_of_ble_eq_true rfl,rfl⟩ (.tmp rfl .nil)),fun W_ hI=>Q2 (l:=[]) hI [] rfl rfl (Qb _) (fun hS_=>?_)⟩
   dsimp only [Qu]
   have he0:((Qm d0).1:Ty.Den YB)=(0,0,[]):=by first | rfl | (exact Jy)
   refine ⟨[.int .i64 (0),.int .i64 (0),.slice none (0) (0)],?_,?_⟩
   rotate_left
   · rw [he0];exact (Yb _ _ _ (Qt.nilAt 0 hS_) bdk bdk (Ow.nil _ _))
   all_goals (first | rfl | (exact Jy))
 · refine VC.skip (Qg (VC.rs (VO.z (.ldA 116 rfl XI rfl (Qa rfl rfl)) ?_)))
   refine VO.store (k:=3) (c':=[.int .i64 ((Qh d0 1048576 (0,false)).1),.int .i64 ((Qh d0 1048576 ((Qh d0 1048576 (0,false)).2)).1),.slice l_A (l.length) (l_c)]) 102 rfl rfl (.inl XI) rfl rfl rfl rfl rfl ?_
   refine VO.as (VO.k8 0 2 3 4 5 6 25 42 (VC.ret ?_))
   refine ⟨_,_,QE (rs:=[.cell 2 92,.tmp 3]) rfl (.agg 102 rfl XI rfl ⟨_,_,_,Qn _ _,Nat.le_of_ble_eq_true rfl,rfl⟩ (.tmp rfl .nil)),fun W_ hI=>Q2 (l:=[l_m]) hI [122] rfl rfl (Qb _) (fun hS_=>?_)⟩
   dsimp only [Qu]
   have he0:((Qm d0).1:Ty.Den YB)=((Qh d0 1048576 (0,false)).1,(Qh d0 1048576 ((Qh d0 1048576 (0,false)).2)).1,l):=by first | rfl | (exact Jy)
   refine ⟨[.int .i64 ((Qh d0 1048576 (0,false)).1),.int .i64 ((Qh d0 1048576 ((Qh d0 1048576 (0,false)).2)).1),.slice l_A (l.length) (l_c)],?_,?_⟩
   rotate_left
   · rw [he0];exact (Yb _ _ _ hS_ bdk bdk (Qz.ow h_l rfl))
   all_goals (first | rfl | (exact Jy))
 refine VO.gN (VO.gN (VO.gN (VO.gN (VO.gN (VO.z (.pF rfl rfl) (VO.k7 0 2 3 4 5 6 25 (VC.condF rfl (VC.exit (JU (JU (JT ?_)))))))))))
 refine Qg (VC.seq (VC.rs (VO.mv ?_)))
 refine VO.call 104 rfl Qm1 rfl rfl (fun W hW=>QjS W (d0:=(d0,at_,bad)) (hW.t 104) (Rd.mono h0 (hW.o 104 0)) bdk) (fun v39 m39 hv39=>?_)
 try dsimp only at hv39
 obtain ⟨rfl,rfl,w39_0_1⟩:=hv39
 simp only [inK] at w39_0_1
 refine VO.z (.notD rfl) (VO.mv ?_)
 refine VO.dec (t:=38) rfl (fun hc40=>?_) (fun hc40=>?_)
 · refine VO.gN (VO.gN (VO.gN (VO.z (.pT rfl rfl) (VO.p5 104 122 116 102 0 (VO.k8 0 2 3 4 5 6 25 42 (VC.condT rfl (VC.rs ?_)))))))
   refine VO.z (.bst (cs:=[.int .i64 (0),.int .i64 (0),.slice none (0) (0)]) rfl J2 QbA rfl) ?_
   refine VO.store (k:=3) (c':=[.int .i64 (0),.int .i64 (0),.slice none (0) (0)]) 102 rfl rfl (.inl XI) rfl rfl rfl rfl rfl ?_
   refine VO.as (VO.k8 0 2 3 4 5 6 25 42 (VC.ret (QK ?_)))
   refine ⟨_,_,QE (rs:=[.cell 2 92,.tmp 3]) rfl (.agg 102 rfl XI rfl ⟨_,_,_,Qn _ _,Nat.le_of_ble_eq_true rfl,rfl⟩ (.tmp rfl .nil)),fun W_ hI=>Q2 (l:=[]) hI [] rfl rfl (Qb _) (fun hS_=>?_)⟩
   dsimp only [Qu]
   have he0:((Qm d0).1:Ty.Den YB)=(0,0,[]):=by first | rfl | (exact Jy)
   refine ⟨[.int .i64 (0),.int .i64 (0),.slice none (0) (0)],?_,?_⟩
   rotate_left
   · rw [he0];exact (Yb _ _ _ (Qt.nilAt 0 hS_) bdk bdk (Ow.nil _ _))
   all_goals (first | rfl | (exact Jy))
 refine VO.w (.ldA 116 rfl XI rfl (Qa rfl rfl)) ?_
 refine VO.gcallN 141 rfl ⟨_,rfl,rfl⟩ Qjh rfl (fun W hW=>QdC W (Qh4 (m:=wm W) ((Qh d0 1048576 (0,false)).1) ((Qh d0 1048576 ((Qh d0 1048576 (0,false)).2)).1) l bdk bdk (Qz.rd h_l (hW.t 122) (JW _)))) (fun v41 m41 hv41=>?_)
 try dsimp only at hv41
 subst hv41
 refine VO.w (.neq rfl rfl) (VO.z (.pF rfl rfl) (VO.p5 104 122 116 102 0 (VO.k8 0 2 3 4 5 6 25 42 ?_)))
 refine VC.cond rfl (fun hc43=>?_) (fun hc43=>?_)
 · refine VC.rs ?_
   refine VO.z (.bst (cs:=[.int .i64 (0),.int .i64 (0),.slice none (0) (0)]) rfl J2 QbA rfl) ?_
   refine VO.store (k:=3) (c':=[.int .i64 (0),.int .i64 (0),.slice none (0) (0)]) 102 rfl rfl (.inl XI) rfl rfl rfl rfl rfl ?_
   refine VO.as (VO.k8 0 2 3 4 5 6 25 42 (VC.ret (QK ?_)))
   refine ⟨_,_,QE (rs:=[.cell 2 92,.tmp 3]) rfl (.agg 102 rfl XI rfl ⟨_,_,_,Qn _ _,Nat.le_of_ble_eq_true rfl,rfl⟩ (.tmp rfl .nil)),fun W_ hI=>Q2 (l:=[]) hI [] rfl rfl (Qb _) (fun hS_=>?_)⟩
   dsimp only [Qu]
   have he0:((Qm d0).1:Ty.Den YB)=(0,0,[]):=by first | rfl | (exact Jy)
   refine ⟨[.int .i64 (0),.int .i64 (0),.slice none (0) (0)],?_,?_⟩
   rotate_left
   · rw [he0];exact (Yb _ _ _ (Qt.nilAt 0 hS_) bdk bdk (Ow.nil _ _))
   all_goals (first | rfl | (exact Jy))
 · refine VC.skip (Qg (VC.rs (VO.z (.ldA 116 rfl XI rfl (Qa rfl rfl)) ?_)))
   refine VO.store (k:=3) (c':=[.int .i64 ((Qh d0 1048576 (0,false)).1),.int .i64 ((Qh d0 1048576 ((Qh d0 1048576 (0,false)).2)).1),.slice l_A (l.length) (l_c)]) 102 rfl rfl (.inl XI) rfl rfl rfl rfl rfl ?_
   refine VO.as (VO.k8 0 2 3 4 5 6 25 42 (VC.ret ?_))
   refine ⟨_,_,QE (rs:=[.cell 2 92,.tmp 3]) rfl (.agg 102 rfl XI rfl ⟨_,_,_,Qn _ _,Nat.le_of_ble_eq_true rfl,rfl⟩ (.tmp rfl .nil)),fun W_ hI=>Q2 (l:=[l_m]) hI [122] rfl rfl (Qb _) (fun hS_=>?_)⟩
   dsimp only [Qu]
   have he0:((Qm d0).1:Ty.Den YB)=((Qh d0 1048576 (0,false)).1,(Qh d0 1048576 ((Qh d0 1048576 (0,false)).2)).1,l):=by first | rfl | (exact Jy)
   refine ⟨[.int .i64 ((Qh d0 1048576 (0,false)).1),.int .i64 ((Qh d0 1048576 ((Qh d0 1048576 (0,false)).2)).1),.slice l_A (l.length) (l_c)],?_,?_⟩
   rotate_left
   · rw [he0];exact (Yb _ _ _ hS_ bdk bdk (Qz.ow h_l rfl))
   all_goals (first | rfl | (exact Jy))
abbrev JB : Ty := .pair .bool (.pair (.ptr QH) (.pair (.sl YB) .bool))
abbrev Qag := Bool × (Nat × QD) × (List Jv) × Bool
theorem Qe3 {m:Mem} {cs:List Value} {x0:Bool} {x1:Nat × QD} {x2:List Jv} {x3:Bool} (h:Ow JB m cs (x0,x1,x2,x3)):∃ (A2:Option Addr),∃ (c2:Nat),∃ (n1:Mem),∃ (n2:Mem),cs=[(.bool x0:Value),.pointer (some ⟨x1.1,0,none⟩),.slice A2 x2.length c2,.bool x3]∧Qt m [n1,n2]∧Ow (.ptr QH) n1 [.pointer (some ⟨x1.1,0,none⟩)] x1∧Ow (.sl YB) n2 [.slice A2 x2.length c2] x2:=by
 obtain ⟨p1,q1,ma1,mb1,rfl,dj1,la1,lb1,u1,w1⟩:=Ow.pair h
 obtain rfl:=(show _=_ from u1)
 obtain ⟨p3,q3,ma3,mb3,rfl,dj3,la3,lb3,u3,w3⟩:=Ow.pair w1
 have z4:=u3
 obtain ⟨rfl,_⟩:=u3
 obtain ⟨p5,q5,ma5,mb5,rfl,dj5,la5,lb5,u5,w5⟩:=Ow.pair w3
 have z6:=u5
 obtain ⟨A6,c6,rfl,_⟩:=Ow.slice1 u5
 obtain rfl:=(show _=_ from w5)
 exact ⟨A6,c6,_,_,rfl,(Qt.app dj1 la1 lb1 (Qt.nil _) (Qt.app dj3 la3 lb3 (Qt.one (Qb _)) (Qt.app dj5 la5 lb5 (Qt.one (Qb _)) (Qt.nil _)))),z4,z6⟩
theorem Qg2 {m:Mem} {n1 n2:Mem} (x0:Bool) (x1:Nat × QD) (x2:List Jv) (x3:Bool) (hS:Qt m [n1,n2]) {v1:Value} (h1:Ow (.ptr QH) n1 [v1] x1) {v2:Value} (h2:Ow (.sl YB) n2 [v2] x2):Ow JB m [.bool x0,v1,v2,.bool x3] (x0,x1,x2,x3):=by
 obtain ⟨e1,la1,lb1,Sa1,Sb1⟩:=Qt.cut (l:=[]) (r:=[n1,n2]) hS
 obtain ⟨e2,la2,lb2,Sa2,Sb2⟩:=Qt.cut (l:=[n1]) (r:=[n2]) Sb1
 obtain ⟨e3,la3,lb3,Sa3,Sb3⟩:=Qt.cut (l:=[n2]) (r:=[]) Sb2
 exact (Ow.mkPair (c1:=[_]) e1 la1 lb1 (show Ow .bool _ [_] _ from rfl) (Ow.mkPair (c1:=[_]) e2 la2 lb2 (h1.up (Sa2.1 _ (.head _))) (Ow.mkPair (c1:=[_]) e3 la3 lb3 (h2.up (Sa3.1 _ (.head _))) (show Ow .bool _ [_] _ from rfl))))
theorem Ja {m:Mem} {cs:List Value} {g:Nat} {x0:Bool} {x1:Nat × QD} {x2:List Jv} {x3:Bool} (h:Ow (.ptr JB) m cs (g,(x0,x1,x2,x3))):∃ (E:TypeId),∃ (A2:Option Addr),∃ (c2:Nat),∃ (n1:Mem),∃ (n2:Mem),cs=[.pointer (some ⟨g,0,none⟩)]∧Qt m [Qo g (.cells [(.bool x0:Value),.pointer (some ⟨x1.1,0,none⟩),.slice A2 x2.length c2,.bool x3].toArray E (0,0)),n1,n2]∧Ow (.ptr QH) n1 [.pointer (some ⟨x1.1,0,none⟩)] x1∧Ow (.sl YB) n2 [.slice A2 x2.length c2] x2:=by
 obtain ⟨rfl,rc,E,m1,hd,l0,l1,h1⟩:=Ow.opnP h
 obtain ⟨A2,c2,n1,n2,rfl,hS,f1,f2⟩:=Qe3 h1
 exact ⟨E,A2,c2,n1,n2,rfl,Qt.app hd l0 l1 (Qt.one (Qb _)) hS,f1,f2⟩
theorem Jd {m:Mem} {g:Nat} {E:TypeId} {n1 n2:Mem}{v1:Value}{v2:Value} (x0:Bool) (x1:Nat × QD) (x2:List Jv) (x3:Bool) (hS:Qt m [Qo g (.cells [.bool x0,v1,v2,.bool x3].toArray E (0,0)),n1,n2]) (h1:Ow (.ptr QH) n1 [v1] x1) (h2:Ow (.sl YB) n2 [v2] x2):Ow (.ptr JB) m [.pointer (some ⟨g,0,none⟩)] (g,(x0,x1,x2,x3)):=
 Ow.clsP hS fun hS=>Qg2 x0 x1 x2 x3 hS h1 h2
section
variable {d : QS} {R : ZR} {br : Bool} {l l' : List Jv} {c x : Jv} {q : QS × Int} {f n to k t : Int} {b : Qr}
theorem QmA : ∀ (k : Nat) {d : QS} {b : Qr}, (Jq k d f b).1.1 = d.1
  | 0, _, _ => rfl
  | k + 1, d, b => by
    unfold Jq
    split
    · rfl
    · split
      · exact (QmA k).trans (Qar d)
      · exact Qar d
theorem Qgg:(Q7 d f b).1.1=d.1:=by
 unfold Q7;split
 ·rfl
 ·split
  ·rfl
  ·exact QmA _
theorem Qmz:(Zh d).1.1=d.1:=by
 unfold Zh;split
 ·rfl
 ·split
  ·exact Qar d
  ·exact Qar d
theorem ro_of {D:QS} (h:okD D) (hn:nf D) (x:Int):okR (toR D x)∧Qk (toR D x)=D:=⟨QjV h hn,Xs h hn⟩
theorem QmB (R:ZR):(Qk R).1=R.1:=rfl
theorem Qly (h:((Zr d.2.2.2.2.2.1 d.2.2.2.2.2.2 f).length:Int)=n):QbI d f n=(d,0):=if_pos h
theorem QnV (h:¬ ((Zr d.2.2.2.2.2.1 d.2.2.2.2.2.2 f).length:Int)=n) (h2:¬ (Qbx d f n).2=0):QbI d f n=Qbx d f n:=by unfold QbI;rw [if_neg h,if_pos h2]
theorem QeK (h:¬ ((Zr d.2.2.2.2.2.1 d.2.2.2.2.2.2 f).length:Int)=n) (h2:¬ ¬ (Qbx d f n).2=0):QbI d f n=Zh (Qbx d f n).1:=by unfold QbI;rw [if_neg h,if_neg h2]
theorem Qru (ho:onD d) (hf:inF f) (h0:0≤n) (h1:n≤(Zr d.2.2.2.2.2.1 d.2.2.2.2.2.2 f).length) (h:¬ (Qbx d f n).2=0):(Qbx d f n).2=6:=by
 have hw:¬ ¬ Jt d=0:=not_not_intro (Qci ho)
 by_cases hb:(QM d).2=true
 ·rw [Qkm hw (not_not_intro hf) (by omega) (by omega) (not_not_intro hb)] at h;exact absurd rfl h
 ·rw [QdL hw (not_not_intro hf) (by omega) (by omega) hb]
theorem cut_on (ho:onD d) (hf:inF f) (h0:0≤n) (h1:n≤(Zr d.2.2.2.2.2.1 d.2.2.2.2.2.2 f).length) (h:¬ ¬ (Qbx d f n).2=0):onD (Qbx d f n).1:=by
 have hw:¬ ¬ Jt d=0:=not_not_intro (Qci ho)
 by_cases hb:(QM d).2=true
 ·rw [Qkm hw (not_not_intro hf) (by omega) (by omega) (not_not_intro hb)]
  refine ⟨(Qar d).trans ho.1,?_⟩
  rcases Qcp d with q | q
  ·exact q.2.trans ho.2
  ·rw [hb] at q;cases q.1
 ·rw [QdL hw (not_not_intro hf) (by omega) (by omega) hb] at h;exact absurd (by show ¬ (6:Int)=0;decide) h
theorem QjE (ho:onD d) (h:¬ (Zh d).2=0):(Zh d).2=6:=by
 have hw:¬ ¬ Jt d=0:=not_not_intro (Qci ho)
 by_cases hb:(QM d).2=true
 ·rw [YY hw (not_not_intro hb)] at h;exact absurd rfl h
 ·rw [ZV hw hb]
theorem xon (h:R.1=true) (h2:¬ R.2.2.2.1=false):onD (Qk R):=⟨h,by show (!R.2.2.2.1)=false;simpa using h2⟩
theorem xon1 (h:R.1=true) (h2:R.2.2.2.1=true):onD (Qk R):=xon h (by rw [h2];decide)
theorem Ql7 (h:okR R) (hf:inF f):(Zr R.2.1 (R.2.2.1.map JY) f).length≤wD (Qk R):=by
 have h1:=QoP (d:=Qk R) h hf
 have h2:=QoO (d:=Qk R) f
 rw [← h1] at h2;exact h2
theorem Xf (h:((Zr R.2.1 (R.2.2.1.map JY) f).length:Int)=n):toR (QbI (Qk R) f n).1 R.2.2.2.2.2.1=R∧(QbI (Qk R) f n).2=0:=by
 rw [Qly (d:=Qk R) h];exact ⟨Zf R,rfl⟩
theorem QbP (h:¬ ((Zr R.2.1 (R.2.2.1.map JY) f).length:Int)=n) (h2:¬ (Qbx (Qk R) f n).2=0):QbI (Qk R) f n=Qbx (Qk R) f n:=QnV (d:=Qk R) h h2
theorem Qc2 (h:¬ ((Zr R.2.1 (R.2.2.1.map JY) f).length:Int)=n) (ho:onD (Qk R)) (hf:inF f) (hb:0≤n∧n≤((Zr R.2.1 (R.2.2.1.map JY) f).length:Int)) (h2:¬ (Qbx (Qk R) f n).2=0):(QbI (Qk R) f n).2=6:=by
 rw [QbP h h2];exact Qru ho hf hb.1 hb.2 h2
theorem Qcd (h0:okR R) (h:¬ ((Zr R.2.1 (R.2.2.1.map JY) f).length:Int)=n) (h2:¬ ¬ (Qbx (Qk R) f n).2=0):toR (QbI (Qk R) f n).1 R.2.2.2.2.2.1=toR (Zh (Qk (toR (Qbx (Qk R) f n).1 R.2.2.2.2.2.1))).1 (toR (Qbx (Qk R) f n).1 R.2.2.2.2.2.1).2.2.2.2.2.1:=by
 rw [QeK (d:=Qk R) h h2,Xs (Qiq h0) (QhZ (YF R)),QcV Qdw]
theorem Qce (h0:okR R) (h:¬ ((Zr R.2.1 (R.2.2.1.map JY) f).length:Int)=n) (ho:onD (Qk R)) (hf:inF f) (hb:0≤n∧n≤((Zr R.2.1 (R.2.2.1.map JY) f).length:Int)) (h2:¬ ¬ (Qbx (Qk R) f n).2=0) (h3:¬ (Zh (Qk (toR (Qbx (Qk R) f n).1 R.2.2.2.2.2.1))).2=0):(QbI (Qk R) f n).2=6:=by
 rw [Xs (Qiq h0) (QhZ (YF R))] at h3
 rw [QeK (d:=Qk R) h h2];exact QjE (cut_on ho hf hb.1 hb.2 h2) h3
theorem Qel (h0:okR R) (h:¬ ((Zr R.2.1 (R.2.2.1.map JY) f).length:Int)=n) (h2:¬ ¬ (Qbx (Qk R) f n).2=0) (h3:¬ ¬ (Zh (Qk (toR (Qbx (Qk R) f n).1 R.2.2.2.2.2.1))).2=0):(QbI (Qk R) f n).2=0:=by
 rw [Xs (Qiq h0) (QhZ (YF R))] at h3
 rw [QeK (d:=Qk R) h h2];exact Decidable.not_not.1 h3
theorem QkZ:(QJ d br l x).1.1.1=d.1:=by
 unfold QJ;split
 ·rfl
 ·split
  ·rfl
  ·split
   ·rfl
   ·split
    ·exact Qgg
    ·split <;> exact Qmz.trans Qgg
theorem Qov (h:nf d):nf (QJ d br l x).1.1:=by
 unfold QJ;split
 ·exact h
 ·split
  ·exact h
  ·split
   ·exact h
   ·split
    ·exact Qcj h
    ·split <;> exact Qqz (Qcj h)
theorem Qkx (h:R.1=true) (h2:R.2.2.2.1=true):QpX (Qk R)=QbI (Qk R) 2 (Qea (Zr R.2.1 (R.2.2.1.map JY) 2)).2∧(Qea (XX (Qk R) 2).1).1=(Qea (Zr R.2.1 (R.2.2.1.map JY) 2)).1:=by
 have ho:=Qci (xon1 h h2)
 have hr:=Qmb ho (show inF 2 by decide)
 have e:XX (Qk R) 2=(Zr R.2.1 (R.2.2.1.map JY) 2,0):=hr
 refine ⟨?_,by rw [e]⟩
 unfold QpX;rw [if_neg (not_not_intro ho),e]
theorem xoff (h:R.2.2.2.1=false):¬ onD (Qk R):=fun q=>by
 have h1:(!R.2.2.2.1)=false:=q.2
 rw [h] at h1;cases h1
theorem Qli (ho:onD d) (hf:inF f) (h:¬ (Q7 d f b).2=0):(Q7 d f b).2=6:=by
 rw [Y8 (not_not_intro (Qci ho)) (not_not_intro hf)] at h ⊢
 exact (Qpi b.length (d:=d) (f:=f) (b:=b)).resolve_left h
theorem go_on : ∀ (n : Nat) {d : QS} {b : Qr}, onD d → (Jq n d f b).2 = 0 → onD (Jq n d f b).1
  | 0, _, _, ho, _ => ho
  | n + 1, d, b, ho, h => by
    unfold Jq at h ⊢
    split at h
    · rename_i h1; rw [if_pos h1]; exact ho
    · rename_i h1; rw [if_neg h1]
      split at h
      · rename_i h2; rw [if_pos h2]
        refine go_on n ⟨(Qar d).trans ho.1, ?_⟩ h
        rcases Qcp d with q | q
        · exact q.2.trans ho.2
        · rw [h2] at q; cases q.1
      · cases h
theorem QnM (ho:onD d) (hf:inF f) (h:(Q7 d f b).2=0):onD (Q7 d f b).1:=by
 rw [Y8 (not_not_intro (Qci ho)) (not_not_intro hf)] at h ⊢
 exact go_on _ ho h
theorem xf_br (h:br=true):QJ d br l x=((d,true,l),6):=Qdh (.inl h)
theorem xf_off (h:R.2.2.2.1=false):QJ (Qk R) br l x=((Qk R,true,l),6):=Qdh (.inr (xoff h))
theorem Qlb (h0:R.1=true) (h:br=false) (h2:R.2.2.2.1=true):¬ (br=true∨¬ onD (Qk R)):=by
 rintro (q | q)
 ·rw [h] at q;cases q
 ·exact q (xon1 h0 h2)
section
variable (h0 : R.1 = true) (h : br = false) (h2 : R.2.2.2.1 = true)
include h0 h h2
theorem xf_enc (h3:¬ (Qq x).2=0):QJ (Qk R) br l x=((Qk R,br,l),(Qq x).2):=Qil (Qlb h0 h h2) h3
theorem QnK (h3:¬ ¬ (Qq x).2=0) (h4:¬ x.1 - 1=Qy l):QJ (Qk R) br l x=((Qk R,br,l),15):=Qft (Qlb h0 h h2) h3 (by omega)
theorem QnJ (h3:¬ ¬ (Qq x).2=0) (h4:¬ ¬ x.1 - 1=Qy l) (h5:¬ (Q7 (Qk R) 2 (Jg [] (Qq x).1).1).2=0):QJ (Qk R) br l x=(((Q7 (Qk R) 2 (Jg [] (Qq x).1).1).1,true,l),6):=by
 rw [Qfs (Qlb h0 h h2) h3 (by omega) h5,Qli (xon1 h0 h2) (by decide) h5]
theorem QiB (h1:okR R) (h3:¬ ¬ (Qq x).2=0) (h4:¬ ¬ x.1 - 1=Qy l) (h5:¬ ¬ (Q7 (Qk R) 2 (Jg [] (Qq x).1).1).2=0) (h6:¬ (Zh (Qk (toR (Q7 (Qk R) 2 (Jg [] (Qq x).1).1).1 R.2.2.2.2.2.1))).2=0):
  (QJ (Qk R) br l x).1.2=(true,l)∧(QJ (Qk R) br l x).2=6∧toR (QJ (Qk R) br l x).1.1 R.2.2.2.2.2.1=toR (Zh (Qk (toR (Q7 (Qk R) 2 (Jg [] (Qq x).1).1).1 R.2.2.2.2.2.1))).1 (toR (Q7 (Qk R) 2 (Jg [] (Qq x).1).1).1 R.2.2.2.2.2.1).2.2.2.2.2.1:=by
 have h5:=Decidable.not_not.1 h5
 rw [Xs (Qay h1) (Qcj (YF R))] at h6 ⊢
 rw [Qgq (Qlb h0 h h2) h3 (by omega) h5 h6,QjE (QnM (xon1 h0 h2) (by decide) h5) h6]
 exact ⟨rfl,rfl,(QcV Qdw).symm⟩
theorem QiC (h1:okR R) (h3:¬ ¬ (Qq x).2=0) (h4:¬ ¬ x.1 - 1=Qy l) (h5:¬ ¬ (Q7 (Qk R) 2 (Jg [] (Qq x).1).1).2=0) (h6:¬ ¬ (Zh (Qk (toR (Q7 (Qk R) 2 (Jg [] (Qq x).1).1).1 R.2.2.2.2.2.1))).2=0):
  (QJ (Qk R) br l x).1.2=(br,l++[x])∧(QJ (Qk R) br l x).2=0∧toR (QJ (Qk R) br l x).1.1 R.2.2.2.2.2.1=toR (Zh (Qk (toR (Q7 (Qk R) 2 (Jg [] (Qq x).1).1).1 R.2.2.2.2.2.1))).1 (toR (Q7 (Qk R) 2 (Jg [] (Qq x).1).1).1 R.2.2.2.2.2.1).2.2.2.2.2.1:=by
 have h5:=Decidable.not_not.1 h5
 rw [Xs (Qay h1) (Qcj (YF R))] at h6 ⊢
 rw [Qgr (Qlb h0 h h2) h3 (by omega) h5 h6]
 exact ⟨rfl,rfl,(QcV Qdw).symm⟩
end
end
def QgG (l : List Jv) : List DOp := (l.map (·.2.2)).flatten
section
variable {l : List Jv} {L y t : List DOp} {o x : DOp} {q : Qr} {k : Nat} {r : Jv}
theorem Qrk (h:∀ x∈y,¬ x.2.1=q):ZH y q=none:=by
 unfold ZH;exact List.find?_eq_none.2 fun x hx=>by simpa using h x hx
theorem Qqy (h:okU l):∀ x∈l,Ya x.2.2:=fun x hx=>(JP (QaT h x hx)).2.2.2.2
theorem QpO (h:okU l):∀ o∈QgG l,Q4 o=0:=fun o ho=>by
 obtain ⟨y,hy,ho⟩:=List.mem_flatten.1 ho
 obtain ⟨c,hc,rfl⟩:=List.mem_map.1 hy
 exact (Qqy h c hc).1 o ho
theorem Qle (hx:l[k]? =some r):QgG (l.take k)++r.2.2=QgG (l.take (k+1)):=by
 rw [Zc hx];unfold QgG;rw [List.map_append,List.flatten_append];simp
theorem QgF : ∀ {l : List Jv}, (∀ x ∈ l, x.2.2.length ≤ 1024) → (QgG l).length ≤ 1024 * l.length
  | [], _ => Nat.le_refl _
  | x :: l, h => by
    have h1 := QgF fun y hy => h y (.tail _ hy)
    have h2 := h x (.head _)
    rw [show QgG (x :: l) = x.2.2 ++ QgG l from rfl, List.length_append, List.length_cons]; omega
theorem Qlf (h:okU l) (k:Nat):(QgG (l.take k)).length≤1024*l.length:=by
 have h1:=QgF (l:=l.take k) fun x hx=>Qg0 h x (List.mem_of_mem_take hx)
 have h2:=List.length_take (i:=k) (l:=l)
 omega
theorem Qhq (h:okU l):(QgG l).length≤1024*l.length:=QgF (Qg0 h)
theorem QpD {y z:DOp} (hn:∀ o∈L.take k,¬ o.2.1=q) (he:x.2.1=q) (hx:L[k]? =some x) (hy:L[k]? =some y) (hz:L[k]? =some z):ZH L q=some (z.1,q,y.2.2):=by
 have e1:=Option.some.inj (hx.symm.trans hy);have e2:=Option.some.inj (hx.symm.trans hz)
 subst e1 e2 he
 have:L=L.take k++x::L.drop (k+1):=by rw [← Z2 hx,List.take_append_drop]
 rw [this];unfold ZH
 rw [List.find?_append,List.find?_eq_none.2 (fun y hy=>by simpa using hn y hy),List.find?_cons,decide_eq_true rfl];rfl
theorem Qrl (hn:∀ o∈L.take k,¬ o.2.1=q) (hx:L[k]? =some x) (he:¬ x.2.1=q):∀ o∈L.take (k+1),¬ o.2.1=q:=fun o ho=>by
 rw [Zc hx,List.mem_append,List.mem_singleton] at ho
 rcases ho with ho | rfl
 ·exact hn o ho
 ·exact he
theorem QpE (hn:∀ o∈L.take k,¬ o.2.1=q) (hk:L.length≤k):ZH L q=none:=by
 rw [List.take_of_length_le hk] at hn;exact Qrk hn
end
theorem Qrd:JE Tryz.prog 106=true:=by kernel_rfl
theorem Qrc:JE Tryz.prog 107=true:=by kernel_rfl
theorem QnR (W:World) {v0:List Value} {d0:Jv} (h0:Rd YB (wm W) v0 d0) (e0:d0.2.2.length≤3518437208800):Qc Tryz.prog 151 [.agg v0.toArray] W (mnil) (fun v m'=>∃ (s0:List Value),v= .agg s0.toArray∧Ow YB m' s0 (d0)):=by
 obtain ⟨p0_A2,p0_c2,rfl,p0_0,p0_1,p0_2⟩:=ZX (x0:=d0.1) (x1:=d0.2.1) (x2:=d0.2.2) h0
 simp only [inK] at p0_0 p0_1
 refine Qc.ofA (n:=13) Tryz.func151 rfl rfl rfl ?_
 refine VC.rs ?_
 refine VO.box (cs:=[.int .i64 (d0.1),.int .i64 (d0.2.1),.slice p0_A2 (d0.2.2.length) (p0_c2)]) 102 rfl rfl rfl (fun g1=>?_)
 refine VO.alloc 104 rfl QbA (fun g3=>?_)
 refine VO.k3 0 1 2 (VC.rs (VO.as (VO.k4 0 1 2 3 (VC.seq ?_))))
 refine VC.regD _ 8 [(0,true),(1,true),(2,true),(3,true),(4,true),(5,true),(6,true),(7,false)] follows (by kernel_rfl) (fun _ h=>h.sub [104,102,0]) ?_
 refine VD.z rfl (.fa rfl J2 rfl) (VD.z rfl (.ld1 102 rfl tk3 rfl (Qa rfl rfl)) (VD.z rfl (.fa rfl J2 rfl) (VD.z rfl (.ld1 102 rfl tk3 rfl (Qa rfl rfl)) (VD.z rfl (.mv rfl) (VD.z rfl (.fa rfl J2 rfl) (VD.z rfl (.ld1 102 rfl Jw rfl (Qa rfl rfl)) ?_))))))
 refine VD.inv _ (fun _ h=>h.nilc 106) ?_
 obtain ⟨mo5,cs5,hM5,hA5,hC5⟩:=(Qz.nil TOp mnil mnil)
 obtain ⟨all5,hS5,hR5⟩:=Rd.srcI (P:=Tryz.prog) (p0_2) Tryz.underlying34
 refine VD.app 106 rfl rfl rfl rfl QX YX rfl rfl hM5 hA5 (hS5 _ 0 rfl) hR5.nice bdm bd (by decide) (fun _ _ h=>h.sub [104,102,0]) (fun v5 m5 hN5=>?_)
 have ho5:Qz TOp m5 mnil v5 (d0.2.2):=Qz.more hC5 hN5 (Q8.mono hR5 fun _ _ h=>Rd.flat rfl h _)
 obtain ⟨A5,c5,rfl,l5,k5⟩:=ho5.slc
 refine VD.nil rfl ?_ rfl
 refine VO.z (.bst (cs:=[.int .i64 (d0.1),.int .i64 (d0.2.1),.slice A5 ((d0.2.2).length) (c5)]) rfl J2 QbA rfl) ?_
 refine VO.store (k:=3) (c':=[.int .i64 (d0.1),.int .i64 (d0.2.1),.slice A5 ((d0.2.2).length) (c5)]) 104 rfl rfl (.inl XI) rfl rfl rfl rfl rfl ?_
 refine VO.p4 106 104 102 0 (VO.k4 0 1 2 3 (Qg (VC.ret ?_)))
 refine ⟨_,_,QE (rs:=[.cell 2 92]) rfl (.agg 104 rfl XI rfl ⟨_,_,_,Qn _ _,Nat.le_of_ble_eq_true rfl,rfl⟩ .nil),fun W_ hI=>Q2 (l:=[m5]) hI [106] rfl rfl (Qb _) (fun hS_=>?_)⟩
 dsimp only [Qu]
 have he0:(d0:Ty.Den YB)=d0:=by first | rfl | (simp [*];done)
 refine ⟨[.int .i64 (d0.1),.int .i64 (d0.2.1),.slice A5 ((d0.2.2).length) (c5)],?_,?_⟩
 rotate_left
 ·rw [he0];exact (show Ow YB _ _ d0 from (Yb d0.1 d0.2.1 d0.2.2 hS_ bdk bdk (Qz.ow ho5 rfl)))
 all_goals (first | rfl | (simp [*];done))
theorem YU {P:Prop} (h:P:=by first | exact congrArg Prod.fst (Zu hl (QdA (by assumption))) | exact (congrArg Prod.fst (Zu hl (QdA (by assumption)))).symm | (rw [Zu hl (QdA (by assumption))];done) | exact congrArg Prod.fst (Zu hl (Qdz (by assumption))) | exact (congrArg Prod.fst (Zu hl (Qdz (by assumption)))).symm | (rw [Zu hl (Qdz (by assumption))];done) | exact congrArg Prod.fst (Zu hl (Qdy hen (by omega))) | exact (congrArg Prod.fst (Zu hl (Qdy hen (by omega)))).symm | (rw [Zu hl (Qdy hen (by omega))];done)):P:=h
set_option maxHeartbeats 4000000 in
theorem QnP (W:World) {v0:Value} {d0:List UInt8} (h0:Rd (.sl .byte) (wm W) [v0] d0) (e0:d0.length≤140737488355000):Qc Tryz.prog 60 [v0] W (mnil) (fun v m'=>∃ (s0:Value),v= .tuple #[s0,.int .i64 ((Qea d0).2)]∧Ow (.sl YB) m' [s0] ((Qea d0).1)):=by
 obtain ⟨A0,c0,rfl,l0,k0⟩:=h0.slc
 refine Qc.ofA (n:=48) Tryz.func60 rfl rfl rfl ?_
 refine VC.rs (VO.as (VO.as (VO.k3 0 2 3 (VC.rs (VO.as (VO.k4 0 2 3 4 (VC.rs (VO.as (VO.as (VO.p1 0 (VO.k6 0 2 3 4 5 6 ?_)))))))))))
 refine VC.block ?_
 refine VC.inv ((101,mnil)::_) (fun _ h=>h.nilc 101) ?_
 refine VC.loop (G:=(List Jv) × (Option Addr) × Nat × Mem × Int × Int) (fun g=>[(4,.slice (g.2.1) ((g.1).length) ((g.2.2.1))),(5,.int .i64 ((g.2.2.2.2.1))),(6,.int .i64 ((g.2.2.2.2.2))),(0,.slice A0 (d0.length) (c0))]) (fun g=>[(101,(g.2.2.2.1)),(0,wm W)]) (fun g=>(QhR d0 (g.1) (g.2.2.2.2.1))∧((g.2.2.2.2.2)=Qy (g.1))∧(Ow (.sl YB) (g.2.2.2.1) [.slice (g.2.1) (g.1).length (g.2.2.1)] (g.1))) (fun g=>((d0.length:Int) - (g.2.2.2.2.1)).toNat) ([],none,0,mnil,0,0) (⟨by exact Ql5 d0,by rfl,(Ow.nil YB mnil)⟩) ⟨esn,fun _ h=>h.sub [101,0]⟩ ?_
 rintro ⟨l,l_A,l_c,l_m,at_,en⟩ ⟨hl,hen,h_l⟩
 replace hl:QhR d0 l at_:=hl
 replace hen:en=Qy l:=hen
 replace h_l:Ow (.sl YB) l_m [.slice l_A l.length l_c] l:=h_l
 show VC _ _ _ _ _ [(4,.slice l_A (l.length) (l_c)),(5,.int .i64 (at_)),(6,.int .i64 (en)),(0,.slice A0 (d0.length) (c0))] [(101,l_m),(0,wm W)]
 have l_l:l.length≤l_c:=by obtain ⟨_,_,he,hl,_⟩:=h_l.slice;simp only [Value.slice.injEq] at he;omega
 have k_l:l_c≤9223372036854775807:=by obtain ⟨_,_,he,_,hl⟩:=h_l.slice;simp only [Value.slice.injEq,maxLen] at he hl;omega
 have hat0:=hl.1;have hat1:=hl.2.1
 have hrb:=XS (d0.drop at_.toNat)
 have hll:=Za hl.2.2.1
 refine VC.block (VC.rs (VO.mv (VO.mv ?_)))
 obtain ⟨A2,hA2,hs2⟩:=h0.drop 1 ((at_).toNat) rfl bd
 refine VO.z (.slLI ((at_).toNat) A2 rfl rfl Jz bd hA2 bd) ?_
 refine VO.callN 103 rfl Qrd rfl (fun W hW=>Qni W (Rd.mono hs2 (hW.t 0))) (fun v3 m3 hv3=>?_)
 obtain ⟨s3_0,rfl,f3_0⟩:=hv3
 have hfa4:=XS (d0.drop ((at_).toNat))
 obtain ⟨A3_0,c3_0,eq3_0,l3_0,k3_0⟩:=f3_0.slc
 subst eq3_0
 refine VO.mv (VO.z (.ext rfl rfl) (VO.z (.ext rfl rfl) (VO.z (.ext rfl rfl) (VO.as (VO.as (VO.as (VO.k7 0 4 5 6 7 8 9 (VC.seq (VC.rs (VO.mv (VO.z (.neq rfl rfl) ?_)))))))))))
 refine VO.k8 0 4 5 6 7 8 9 20 ?_
 refine VC.cond rfl (fun hc5=>?_) (fun hc5=>?_)
 refine VC.rs (VO.mv (VO.mv (VO.as (VO.as (VO.p3 103 101 0 (VO.k10 0 2 3 4 5 6 7 8 9 20 (VC.ret (QK (Jf (QK (Jf ?_)))))))))))
 refine QcA 2 3 [101] fun hS_=>?_
 dsimp only [Qu]
 exact ⟨Value.slice l_A (l.length) (l_c),(by first | rfl | exact YU),(Ow.cg (Ow.up h_l (hS_.1 _ (.head _))) (by first | rfl | exact YU))⟩
 refine VC.skip (Qg (VC.rs (VO.mv ?_)))
 refine VO.callN 106 rfl Qrc rfl (fun W hW=>Qi3 W (Ow.rd f3_0 (hW.t 103)) bd) (fun v6 m6 hv6=>?_)
 obtain ⟨s6_0,rfl,f6_0⟩:=hv6
 have hfa7:=QcD ((JJ (d0.drop ((at_).toNat))).1)
 obtain ⟨q6_0_A2,q6_0_c2,q6_0_n2,rfl,q6_0_S,q6_0_0,q6_0_1,q6_0_2⟩:=QbQ (x0:=((Qm ((JJ (d0.drop ((at_).toNat))).1)).1).1) (x1:=((Qm ((JJ (d0.drop ((at_).toNat))).1)).1).2.1) (x2:=((Qm ((JJ (d0.drop ((at_).toNat))).1)).1).2.2) f6_0
 simp only [inK] at q6_0_0 q6_0_1
 refine VO.inv _ (fun _ h=>h.parts (i:=106) rfl q6_0_S [108]) ?_
 refine VO.mv (VO.z (.ext rfl rfl) (VO.z (.ext rfl rfl) ?_))
 refine VO.alloc 110 rfl QbA (fun g9=>?_)
 refine VO.store (k:=3) (c':=[.int .i64 (((Qm ((JJ (d0.drop ((at_).toNat))).1)).1).1),.int .i64 (((Qm ((JJ (d0.drop ((at_).toNat))).1)).1).2.1),.slice q6_0_A2 ((((Qm ((JJ (d0.drop ((at_).toNat))).1)).1).2.2).length) (q6_0_c2)]) 110 rfl rfl (.inl XI) rfl rfl rfl rfl rfl ?_
 refine VO.as (VO.p5 110 108 103 101 0 (VO.k9 0 4 5 6 7 8 9 10 20 (VC.seq (VC.rs (VO.mv (VO.z (.neq rfl rfl) (VO.mv ?_)))))))
 refine VO.dec (t:=30) rfl (fun hc11=>?_) (fun hc11=>?_)
 refine VO.gN (VO.gN (VO.gN (VO.gN (VO.gN (VO.z (.pT rfl rfl) (VO.k10 0 4 5 6 7 8 9 10 20 36 (VC.condT rfl (VC.rs (VO.mv (VO.mv (VO.as ?_)))))))))))
 refine VO.as (VO.k12 0 2 3 4 5 6 7 8 9 10 20 36 (VC.ret (QK (Jf (QK (Jf ?_))))))
 refine QcA 2 3 [101] fun hS_=>?_
 dsimp only [Qu]
 exact ⟨Value.slice l_A (l.length) (l_c),(by first | rfl | exact YU),(Ow.cg (Ow.up h_l (hS_.1 _ (.head _))) (by first | rfl | exact YU))⟩
 refine VO.w (.fa rfl J2 rfl) (VO.w (.ld1 110 rfl tk3 rfl (Qa rfl rfl)) ?_)
 refine VO.w (.sub rfl rfl rfl ⟨bd,bd⟩) ?_
 refine VO.w (.mv rfl) (VO.w (.neq rfl rfl) (VO.z (.pF rfl rfl) (VO.k10 0 4 5 6 7 8 9 10 20 36 ?_)))
 refine VC.cond rfl (fun hc12=>?_) (fun hc12=>?_)
 refine VC.rs (VO.mv (VO.mv (VO.as (VO.as (VO.k12 0 2 3 4 5 6 7 8 9 10 20 36 (VC.ret (QK (Jf (QK (Jf ?_))))))))))
 refine QcA 2 3 [101] fun hS_=>?_
 dsimp only [Qu]
 exact ⟨Value.slice l_A (l.length) (l_c),(by first | rfl | exact YU),(Ow.cg (Ow.up h_l (hS_.1 _ (.head _))) (by first | rfl | exact YU))⟩
 refine VC.skip (Qg (VC.rs (VO.mv (VO.z (.ldA 110 rfl XI rfl (Qa rfl rfl)) ?_))))
 refine VO.bsl (cs:=[.int .i64 (((Qm ((JJ (d0.drop ((at_).toNat))).1)).1).1),.int .i64 (((Qm ((JJ (d0.drop ((at_).toNat))).1)).1).2.1),.slice q6_0_A2 ((((Qm ((JJ (d0.drop ((at_).toNat))).1)).1).2.2).length) (q6_0_c2)]) 114 rfl rfl XH QbA rfl rfl (fun g13=>?_)
 refine VO.appO (e:=YB) 101 108 114 rfl rfl rfl XH QbA rfl rfl rfl rfl h_l (show Ow YB _ _ ((Qm ((JJ (d0.drop ((at_).toNat))).1)).1) from (Yb (((Qm ((JJ (d0.drop ((at_).toNat))).1)).1).1) (((Qm ((JJ (d0.drop ((at_).toNat))).1)).1).2.1) (((Qm ((JJ (d0.drop ((at_).toNat))).1)).1).2.2) (Qt.one (Qb _)) bdk bdk q6_0_2)) Tryz.underlying45 (Qa rfl rfl) bdm bd (by decide) (fun v15 m15 ho15=>?_)
 obtain ⟨A15,c15,rfl,l15,k15⟩:=ho15.slc
 refine VO.as (VO.k10 0 4 5 6 7 8 9 10 20 36 (VC.rs (VO.z (.fa rfl J2 rfl) (VO.z (.ld1 110 rfl tk3 rfl (Qa rfl rfl)) (VO.as (VO.p4 101 110 103 0 (VO.k10 0 4 5 6 7 8 9 10 20 36 ?_)))))))
 refine VC.reg ?_
 refine VO.mv (VO.mv ?_)
 refine VO.z (.add rfl rfl rfl ⟨bd,bd⟩) ?_
 refine VO.as (VO.k10 0 4 5 6 7 8 9 10 20 36 (Jh ?_))
 exact Qg ⟨⟨l++[((Qm ((JJ (d0.drop ((at_).toNat))).1)).1)],A15,c15,m15,at_+((JJ (d0.drop ((at_).toNat))).2.1),((Qm ((JJ (d0.drop ((at_).toNat))).1)).1).2.1⟩,⟨by exact Qf8 hl (Qek hen Qf Qf Qp),by exact Qfv.symm,ho15⟩,by (have h_:=QcZ (Qek hen Qf Qf Qp);simp only [List.length_drop] at*;omega),⟨esn,fun _ h=>Inv.sub h [101,0]⟩⟩
theorem Qjk:JE Tryz.prog 113=true:=by kernel_rfl
theorem Xo:tst Tryz.prog 122=some [(0,1),(1,1),(2,1),(3,1)]:=by kernel_rfl
theorem QgI (W:World) {br_:Bool} {l_:List Jv} {R_:QD} {gr_:Nat} {m0:Mem} (hm:mle (m0) (wm W)) {g0:Nat} (h0:Ow (.ptr JB) m0 [Vp g0] (g0,(true,(gr_,R_),l_,br_))):Qc Tryz.prog 113 [Vp g0] W (m0) (fun v m'=>v= .bool (decide (False))∧Ow (.ptr JB) m' [Vp g0] (g0,(true,(gr_,R_),l_,br_))):=by
 refine Qc.ofB (n:=12) hm Tryz.func113 rfl rfl rfl ?_
 refine VC.rs (VO.as (VO.k2 0 2 (VC.rs (VO.mv ?_))))
 refine VO.z (.pnil rfl rfl Tryz.underlying72 rfl) ?_
 refine VO.mv (VO.w (.mv rfl) (VO.w (.nilp rfl) (VO.w (.fa rfl Xo rfl) ?_)))
 obtain ⟨q1_E,q1_A2,q1_c2,q1_n1,q1_n2,_,q1_S,q1_1,q1_2⟩:=Ja (x0:=true) (x1:=(gr_,R_)) (x2:=l_) (x3:=br_) h0
 dsimp only at q1_1
 refine VO.inv _ (fun _ h=>h.parts (i:=1) rfl q1_S [104,102,103]) ?_
 refine VO.w (.ld1 104 rfl tk4 rfl (Qa rfl rfl)) (VO.w (.not rfl) (VO.z (.pF rfl rfl) (VO.as ?_)))
 refine VO.clsP 105 [104,102,103] rfl (fun hg5=>(Jd _ _ _ _ hg5 q1_1 q1_2)) (fun mc5 ho5=>?_)
 refine VO.k2 0 2 (VC.ret ?_)
 exact ZD 2 105 rfl ho5 (by first | rfl | (simp [*];done)) (by first | rfl | (rfl))
theorem QeF (W:World) {br_:Bool} {l_:List Jv} {R_:QD} {gr_:Nat} {m0:Mem} (hm:mle (m0) (wm W)) {g0:Nat} (h0:Ow (.ptr JB) m0 [Vp g0] (g0,(true,(gr_,R_),l_,br_))) (e0:okU l_):Qc Tryz.prog 67 [Vp g0] W (m0) (fun v m'=>v= .int .i64 (Qy l_)∧Ow (.ptr JB) m' [Vp g0] (g0,(true,(gr_,R_),l_,br_))):=by
 have hll:=Za e0
 refine Qc.ofB (n:=26) hm Tryz.func67 rfl rfl rfl ?_
 refine VC.rs (VO.as (VO.k2 0 2 (VC.seq (VC.rs (VO.mv ?_)))))
 refine VO.call 1 rfl Qjk rfl rfl (fun W hW=>QgI W (hW.t 1) h0) (fun v1 m1 hv1=>?_)
 try dsimp only at hv1
 obtain ⟨rfl,w1_0⟩:=hv1
 refine VO.mv ?_
 refine VO.dec (t:=5) rfl (fun hc2=>?_) (fun hc2=>?_)
 exact hc2.elim
 refine VO.w (.mv rfl) (VO.w (.nilp rfl) (VO.w (.fa rfl Xo rfl) ?_))
 obtain ⟨q3_E,q3_A2,q3_c2,q3_n1,q3_n2,_,q3_S,q3_1,q3_2⟩:=Ja (x0:=true) (x1:=(gr_,R_)) (x2:=l_) (x3:=br_) w1_0
 dsimp only at q3_1
 refine VO.inv _ (fun _ h=>h.parts (i:=1) rfl q3_S [106,104,105]) ?_
 refine VO.w (.ld1 106 rfl QhA rfl (Qa rfl rfl)) (VO.w (.lenS rfl XH) (VO.w (.eql rfl rfl) (VO.z (.pF rfl rfl) ?_)))
 refine VO.clsP 107 [106,104,105] rfl (fun hg7=>(Jd _ _ _ _ hg7 q3_1 q3_2)) (fun mc7 ho7=>?_)
 refine VO.k3 0 2 12 ?_
 refine VC.cond rfl (fun hc8=>?_) (fun hc8=>?_)
 ·refine VC.rs (VO.as (VO.p2 107 0 (VO.k3 0 2 12 (VC.ret (QK ?_)))))
  exact ZD 2 107 rfl ho7 (by first | rfl | (simp [*];done)) (by first | rfl | (first | exact congrArg (Value.int _) (QdK ‹l_[_]? =some _› Qp).symm | exact congrArg (Value.int _) (Xb Qp).symm | exact congrArg (Value.int _) (Xb (not_not_intro Qf)).symm))
 ·refine VC.skip (Qg (VC.seq ?_))
  obtain ⟨q9_E,q9_A2,q9_c2,q9_n1,q9_n2,_,q9_S,q9_1,q9_2⟩:=Ja (x0:=true) (x1:=(gr_,R_)) (x2:=l_) (x3:=br_) ho7
  dsimp only at q9_1
  refine VC.inv _ (fun _ h=>h.parts (i:=107) rfl q9_S [112,110,111]) ?_
  refine VC.regD _ 10 [(0,true),(1,true),(2,true),(3,true),(4,true),(5,true),(6,true),(7,true),(8,true),(9,true)] follows (by kernel_rfl) (fun _ h=>h.sub [112,110,111,0]) ?_
  refine VD.z rfl (.mv rfl) (VD.z rfl (.nilp rfl) (VD.z rfl (.fa rfl Xo rfl) (VD.z rfl (.ld1 112 rfl QhA rfl (Qa rfl rfl)) (VD.z rfl (.mv rfl) (VD.z rfl (.nilp rfl) (VD.z rfl (.fa rfl Xo rfl) (VD.z rfl (.ld1 112 rfl QhA rfl (Qa rfl rfl)) (VD.z rfl (.lenS rfl XH) ?_))))))))
  refine VD.z rfl (.sub rfl rfl rfl ⟨bd,bd⟩) ?_
  refine VD.nil rfl ?_ rfl
  obtain ⟨x13,hx13⟩:∃ z_,(l_)[(((l_.length:Nat):Int) - 1).toNat]? =some z_:=⟨_,List.getElem?_eq_getElem bd⟩
  obtain ⟨gg13,oo13,ec13,ea13,hce13,hre13⟩:=(Ow.rd q9_2 (Qb _)).elem hx13
  cases ea13
  obtain ⟨q13_A2,q13_c2,rfl,q13_0,q13_1,q13_2⟩:=ZX (x0:=x13.1) (x1:=x13.2.1) (x2:=x13.2.2) hre13
  simp only [inK] at q13_0 q13_1
  refine VO.z (.ixI ((((l_.length:Nat):Int) - 1).toNat) rfl rfl XH bd bd) ?_
  refine VO.z (.fa rfl J2 rfl) ?_
  refine VO.z (.ld1 111 rfl tk3 rfl (hce13.at1 (j:=1) rfl)) ?_
  refine VO.as ?_
  refine VO.clsP 114 [112,110,111] rfl (fun hg14=>(Jd _ _ _ _ hg14 q9_1 q9_2)) (fun mc14 ho14=>?_)
  refine VO.p2 114 0 (VO.k3 0 2 12 (Qg (VC.ret ?_)))
  exact ZD 2 114 rfl ho14 (by first | rfl | (simp [*];done)) (by first | rfl | (first | exact congrArg (Value.int _) (QdK ‹l_[_]? =some _› Qp).symm | exact congrArg (Value.int _) (Xb Qp).symm | exact congrArg (Value.int _) (Xb (not_not_intro Qf)).symm))
theorem QpW (W:World) {br_:Bool} {l_:List Jv} {R_:QD} {gr_:Nat} {m0:Mem} (hm:mle (m0) (wm W)) {g0:Nat} (h0:Ow (.ptr JB) m0 [Vp g0] (g0,(true,(gr_,R_),l_,br_))) (e0:okU l_):Qc Tryz.prog 123 [Vp g0] W (m0) (fun v m'=>∃ (s0:Value),∃ (p0:Mem),∃ (p1:Mem),v=s0∧Qt m' [p0,p1]∧Ow (.sl TOp) p0 [s0] (QgG l_)∧Ow (.ptr JB) p1 [Vp g0] (g0,(true,(gr_,R_),l_,br_))):=by
 have hll:=Za e0
 refine Qc.ofB (n:=28) hm Tryz.func123 rfl rfl rfl ?_
 refine VC.rs (VO.as (VO.k2 0 2 (VC.rs (VO.as (VO.k3 0 2 3 (VC.seq (VC.rs (VO.mv ?_))))))))
 refine VO.call 1 rfl Qjk rfl rfl (fun W hW=>QgI W (hW.t 1) h0) (fun v1 m1 hv1=>?_)
 try dsimp only at hv1
 obtain ⟨rfl,w1_0⟩:=hv1
 refine VO.p2 1 0 (VO.k4 0 2 3 6 ?_)
 refine VC.cond rfl (fun hc2=>?_) (fun hc2=>?_)
 exact hc2.elim
 refine VC.skip (Qg (VC.seq (VC.rs (VO.as (VO.k5 0 2 3 4 6 (VC.block ?_))))))
 refine VC.inv ((103,mnil)::_) (fun _ h=>h.nilc 103) ?_
 refine VC.loop (G:=Nat × (List DOp) × (Option Addr) × Nat × Mem × Mem) (fun g=>[(3,.slice (g.2.2.1) ((g.2.1).length) ((g.2.2.2.1))),(4,.int .i64 ((((g.1):Nat):Int))),(0,Vp g0),(2,.slice none (0) (0)),(6,.bool (decide (False)))]) (fun g=>[(103,(g.2.2.2.2.1)),(1,(g.2.2.2.2.2)),(0,Ju (wm W) (m0))]) (fun g=>((g.1)≤l_.length)∧((g.2.1)=QgG (l_.take (g.1)))∧(Qz TOp (g.2.2.2.2.1) mnil (.slice (g.2.2.1) (g.2.1).length (g.2.2.2.1)) (g.2.1))∧(Ow (.ptr JB) (g.2.2.2.2.2) [Vp g0] (g0,(true,(gr_,R_),l_,br_)))) (fun g=>l_.length - (g.1)) (0,[],none,0,mnil,m1) (⟨by omega,by rfl,(Qz.nil TOp mnil mnil),w1_0⟩) ⟨esn,fun _ h=>h.sub [103,1,0]⟩ ?_
 rintro ⟨k,out,out_A,out_c,out_m,x_m⟩ ⟨hk,ho,h_out,h_x⟩
 replace hk:k≤l_.length:=hk
 replace ho:out=QgG (l_.take k):=ho
 replace h_out:Qz TOp out_m mnil (.slice out_A out.length out_c) out:=h_out
 replace h_x:Ow (.ptr JB) x_m [Vp g0] (g0,(true,(gr_,R_),l_,br_)):=h_x
 show VC _ _ _ _ _ [(3,.slice out_A (out.length) (out_c)),(4,.int .i64 (((k:Nat):Int))),(0,Vp g0),(2,.slice none (0) (0)),(6,.bool (decide (False)))] [(103,out_m),(1,x_m),(0,Ju (wm W) (m0))]
 have l_out:out.length≤out_c:=by obtain ⟨_,_,he,hl,_⟩:=h_out.slice;simp only [Value.slice.injEq] at he;omega
 have k_out:out_c≤9223372036854775807:=by obtain ⟨_,_,he,_,hl⟩:=h_out.slice;simp only [Value.slice.injEq,maxLen] at he hl;omega
 have hlo:out.length≤1024*l_.length:=by rw [ho];exact Qlf e0 k
 refine VC.seq (VC.rs (VO.mv (VO.mv (VO.z (.nilp rfl) (VO.z (.fa rfl Xo rfl) ?_)))))
 obtain ⟨q4_E,q4_A2,q4_c2,q4_n1,q4_n2,_,q4_S,q4_1,q4_2⟩:=Ja (x0:=true) (x1:=(gr_,R_)) (x2:=l_) (x3:=br_) h_x
 dsimp only at q4_1
 have q4_r2:=q4_2.rm
 refine VO.inv _ (fun _ h=>h.parts (i:=1) rfl q4_S [107,105,106]) ?_
 refine VO.z (.ld1 107 rfl QhA rfl (Qa rfl rfl)) (VO.z (.lenS rfl XH) (VO.z (.lss rfl rfl) ?_))
 refine VO.clsP 108 [107,105,106] rfl (fun hg8=>(Jd _ _ _ _ hg8 q4_1 q4_2)) (fun mc8 ho8=>?_)
 refine VO.k6 0 2 3 4 6 14 ?_
 refine VC.cond rfl (fun hc9=>?_) (fun hc9=>?_)
 ·refine VC.skip (Qg (VC.seq (VC.block ?_)))
  refine VC.reg ?_
  refine VO.mv (VO.mv (VO.z (.nilp rfl) (VO.z (.fa rfl Xo rfl) ?_)))
  obtain ⟨q10_E,q10_A2,q10_c2,q10_n1,q10_n2,_,q10_S,q10_1,q10_2⟩:=Ja (x0:=true) (x1:=(gr_,R_)) (x2:=l_) (x3:=br_) ho8
  dsimp only at q10_1
  refine VO.inv _ (fun _ h=>h.parts (i:=108) rfl q10_S [113,111,112]) ?_
  refine VO.z (.ld1 113 rfl QhA rfl (Qa rfl rfl)) (VO.mv ?_)
  obtain ⟨x14,hx14⟩:∃ z_,(l_)[k]? =some z_:=⟨_,List.getElem?_eq_getElem (by first | exact bd | (have h_:=QbR e0 ‹l_[_]? =some _›;omega))⟩
  obtain ⟨gg14,oo14,ec14,ea14,hce14,hre14⟩:=(Ow.rd q10_2 (Qb _)).elem hx14
  cases ea14
  obtain ⟨q14_A2,q14_c2,rfl,q14_0,q14_1,q14_2⟩:=ZX (x0:=x14.1) (x1:=x14.2.1) (x2:=x14.2.2) hre14
  simp only [inK] at q14_0 q14_1
  refine VO.z (.ixI k rfl rfl XH rfl (by first | exact bd | (have h_:=QbR e0 ‹l_[_]? =some _›;omega))) ?_
  refine VO.z (.fa rfl J2 rfl) ?_
  refine VO.z (.ld1 112 rfl Jw rfl (hce14.at1 (j:=2) rfl)) ?_
  obtain ⟨mo15,cs15,hM15,hA15,hC15⟩:=h_out
  obtain ⟨all15,hS15,hR15⟩:=Rd.srcI (P:=Tryz.prog) (q14_2) Tryz.underlying34
  refine VO.app 103 rfl rfl rfl QX YX rfl rfl hM15 hA15 (hS15 _ 112 rfl) hR15.nice (by simp only [maxLen];(first | exact bd | (have h_:=QbR e0 ‹l_[_]? =some _›;omega))) (by first | exact bd | (have h_:=QbR e0 ‹l_[_]? =some _›;omega)) (by decide) (fun v15 m15 hN15=>?_)
  have ho15:Qz TOp m15 mnil v15 (out++x14.2.2):=Qz.more hC15 hN15 (Q8.mono hR15 fun _ _ h=>Rd.flat rfl h _)
  obtain ⟨A15,c15,rfl,l15,k15⟩:=ho15.slc
  refine VO.as ?_
  refine VO.clsP 116 [113,111,112] rfl (fun hg16=>(Jd _ _ _ _ hg16 q10_1 q10_2)) (fun mc16 ho16=>?_)
  refine VO.p3 116 103 0 (VO.k6 0 2 3 4 6 14 (Jh (Qg ?_)))
  refine VC.reg ?_
  refine VO.mv ?_
  refine VO.z (.add (c:=((k+1:Nat):Int)) rfl rfl Qp ⟨by first | exact bd | (have h_:=QbR e0 ‹l_[_]? =some _›;omega),by first | exact bd | (have h_:=QbR e0 ‹l_[_]? =some _›;omega)⟩) ?_
  refine VO.as (VO.k6 0 2 3 4 6 14 ?_)
  exact Qg ⟨⟨k+1,out++x14.2.2,A15,c15,m15,mc16⟩,⟨by omega,by (rw [ho];exact Qle ‹l_[k]? =some _›),ho15,ho16⟩,by first | exact bd | (have h_:=QbR e0 ‹l_[_]? =some _›;omega),⟨esn,fun _ h=>Inv.sub (Inv.num h 116 1 rfl) [103,1,0]⟩⟩
 ·refine VC.exit (JU (JU (JT (Qg (VC.rs (VO.mv (VO.as (VO.p3 108 103 0 (VO.k6 0 2 3 4 6 14 (VC.ret ?_))))))))))
  refine XC 2 [103,108] fun hS_=>?_
  dsimp only [Qu]
  refine ⟨.slice out_A (out.length) (out_c),Zs [out_m],Zs [mc8],?_,?_,?_,?_⟩
  rotate_left
  ·exact Qt.grp (ls:=[[out_m],[mc8]]) hS_
  ·exact Ow.cg (Ow.up (Qz.ow h_out rfl) ((Qt.self hS_ (List.Sublist.cons_cons _ (List.Sublist.cons _ List.Sublist.slnil))).1 _ (.head _))) (by first | rfl | (rw [ho,List.take_of_length_le Qp]))
  ·exact Ow.cgP (Ow.up ho8 ((Qt.self hS_ (List.Sublist.cons _ (List.Sublist.cons_cons _ List.Sublist.slnil))).1 _ (.head _))) (by first | rfl | (rw [ho,List.take_of_length_le Qp]))
  all_goals (first | rfl | (simp [*];done))
theorem QlI (W:World) {m0:Mem} (hm:mle (m0) (wm W)) {g0:Nat} {d0:JL} (h0:Ow (.ptr QR) m0 [Vp g0] (g0,d0)) (d1:List UInt8) (h1:d1.length≤maxLen) (e0:d0.1=true) (e1:d0.2.length≤1700000000000):Qc Tryz.prog 120 [Vp g0,str d1] W (m0) (fun v m'=>v= .tuple #[str ((Qja (ZH d0.2 d1)).1),.bool ((Qja (ZH d0.2 d1)).2.1),.bool ((Qja (ZH d0.2 d1)).2.2)]∧Ow (.ptr QR) m' [Vp g0] (g0,d0)):=by
 have h1':=h1;simp only [maxLen] at h1'
 refine Qc.ofB (n:=45) hm Tryz.func120 rfl rfl rfl ?_
 refine VC.rs (VO.as (VO.as (VO.as (VO.k5 0 1 4 5 6 (VC.seq (VC.rs (VO.mv ?_)))))))
 refine VO.call 1 rfl Qjf rfl rfl (fun W hW=>QeO W (hW.t 1) h0) (fun v1 m1 hv1=>?_)
 obtain ⟨rfl,w1_0⟩:=hv1
 refine VO.k6 0 1 4 5 6 9 ?_
 refine VC.cond rfl (fun hc2=>?_) (fun hc2=>?_)
 exact absurd (e0.symm.trans hc2) (by decide)
 refine VC.skip (Qg (VC.seq (VC.rs (VO.as (VO.p2 1 0 (VO.k7 0 1 4 5 6 7 9 (VC.block ?_)))))))
 refine VC.loop (G:=Nat × Mem) (fun g=>[(7,.int .i64 ((((g.1):Nat):Int))),(0,Vp g0),(1,str (d1)),(9,.bool (decide (d0.1=false)))]) (fun g=>[(1,(g.2)),(0,Ju (wm W) (m0))]) (fun g=>((g.1)≤d0.2.length)∧(∀ o∈d0.2.take (g.1),¬ o.2.1=d1)∧(Ow (.ptr QR) (g.2) [Vp g0] (g0,d0))) (fun g=>d0.2.length - (g.1)) (0,m1) (⟨by omega,by (intro x_ h_;cases h_),w1_0⟩) ⟨esn,fun _ h=>h.sub [1,0]⟩ ?_
 rintro ⟨k,t_m⟩ ⟨hk,hg,h_t⟩
 replace hk:k≤d0.2.length:=hk
 replace hg:∀ o∈d0.2.take k,¬ o.2.1=d1:=hg
 replace h_t:Ow (.ptr QR) t_m [Vp g0] (g0,d0):=h_t
 show VC _ _ _ _ _ [(7,.int .i64 (((k:Nat):Int))),(0,Vp g0),(1,str (d1)),(9,.bool (decide (d0.1=false)))] [(1,t_m),(0,Ju (wm W) (m0))]
 refine VC.seq (VC.rs (VO.mv (VO.mv (VO.z (.nilp rfl) (VO.z (.fa rfl XD rfl) ?_)))))
 obtain ⟨q3_E,q3_A1,q3_c1,q3_n1,_,q3_S,q3_1⟩:=Q3 h_t
 refine VO.inv _ (fun _ h=>h.parts (i:=1) rfl q3_S [105,104]) ?_
 refine VO.z (.ld1 105 rfl Jw rfl (Qa rfl rfl)) (VO.z (.lenS rfl QX) (VO.z (.lss rfl rfl) ?_))
 refine VO.clsP 106 [105,104] rfl (fun hg6=>(Jo d0 hg6 q3_1)) (fun mc6 ho6=>?_)
 refine VO.k5 0 1 7 9 16 ?_
 refine VC.cond rfl (fun hc7=>?_) (fun hc7=>?_)
 refine VC.skip (Qg (VC.seq (VC.block (VC.rs (VO.mv (VO.z (.nilp rfl) (VO.z (.fa rfl XD rfl) ?_)))))))
 obtain ⟨q8_E,q8_A1,q8_c1,q8_n1,_,q8_S,q8_1⟩:=Q3 ho6
 have q8_r1:=q8_1.rm
 refine VO.inv _ (fun _ h=>h.parts (i:=106) rfl q8_S [110,109]) ?_
 refine VO.z (.ld1 110 rfl Jw rfl (Qa rfl rfl)) (VO.mv ?_)
 obtain ⟨x11,hx11⟩:∃ z_,(d0.2)[k]? =some z_:=⟨_,List.getElem?_eq_getElem bd⟩
 obtain ⟨gg11,oo11,ec11,ea11,hce11,hre11⟩:=(Ow.ownl q8_1 rfl mnil).elem hx11
 cases ea11
 obtain ⟨rfl,q11_1,q11_2⟩:=Jr (x0:=x11.1) (x1:=x11.2.1) (x2:=x11.2.2) hre11
 simp only [maxLen] at q11_1
 simp only [maxLen] at q11_2
 refine VO.z (.ixI k rfl rfl QX rfl bd) ?_
 refine VO.z (.fa rfl JG rfl) ?_
 refine VO.z (.ld1 109 rfl tk9 rfl (hce11.at1 (j:=1) rfl)) ?_
 refine VO.mv (VO.z (.seql rfl rfl) ?_)
 refine VO.clsP 112 [110,109] rfl (fun hg12=>(Jo d0 hg12 q8_1)) (fun mc12 ho12=>?_)
 refine VO.k6 0 1 7 9 16 28 ?_
 refine VC.cond rfl (fun hc13=>?_) (fun hc13=>?_)
 ·refine VC.seq ?_
  obtain ⟨q14_E,q14_A1,q14_c1,q14_n1,_,q14_S,q14_1⟩:=Q3 ho12
  refine VC.inv _ (fun _ h=>h.parts (i:=112) rfl q14_S [116,115]) ?_
  refine VC.regD _ 18 [(0,true),(1,true),(2,true),(3,true),(4,true),(5,true),(6,true),(7,true),(8,true),(9,true),(10,true),(11,true),(12,true),(13,true),(14,true),(15,true),(16,true),(17,true)] follows (by kernel_rfl) (fun _ h=>h.sub [116,115,0]) ?_
  refine VD.z rfl (.mv rfl) (VD.z rfl (.nilp rfl) (VD.z rfl (.fa rfl XD rfl) (VD.z rfl (.ld1 116 rfl Jw rfl (Qa rfl rfl)) (VD.z rfl (.mv rfl) ?_))))
  obtain ⟨x17,hx17⟩:∃ z_,(d0.2)[k]? =some z_:=⟨_,List.getElem?_eq_getElem bd⟩
  obtain ⟨gg17,oo17,ec17,ea17,hce17,hre17⟩:=(Ow.ownl q14_1 rfl mnil).elem hx17
  cases ea17
  obtain ⟨rfl,q17_1,q17_2⟩:=Jr (x0:=x17.1) (x1:=x17.2.1) (x2:=x17.2.2) hre17
  simp only [maxLen] at q17_1
  simp only [maxLen] at q17_2
  refine VD.z rfl (.ixI k rfl rfl QX rfl bd) ?_
  refine VD.z rfl (.fa rfl JG rfl) ?_
  refine VD.z rfl (.ld1 115 rfl tk9 rfl (hce17.at1 (j:=2) rfl)) ?_
  refine VD.z rfl (.mv rfl) (VD.z rfl (.nilp rfl) (VD.z rfl (.fa rfl XD rfl) (VD.z rfl (.ld1 116 rfl Jw rfl (Qa rfl rfl)) (VD.z rfl (.mv rfl) ?_))))
  refine VD.z rfl (.ixI k rfl rfl QX rfl bd) ?_
  refine VD.z rfl (.fa rfl JG rfl) ?_
  refine VD.z rfl (.ld1 115 rfl tk4 rfl (hce17.at1 (j:=0) rfl)) ?_
  refine VD.z rfl (.as rfl) (VD.z rfl (.as rfl) ?_)
  refine VD.nil rfl ?_ rfl
  refine VO.as ?_
  refine VO.clsP 119 [116,115] rfl (fun hg19=>(Jo d0 hg19 q14_1)) (fun mc19 ho19=>?_)
  refine VO.p2 119 0 (VO.k9 0 1 4 5 6 7 9 16 28 (Qg (VC.ret (Jf (QK (QK (Jf (QK ?_))))))))
  refine Qcf 4 5 6 [119] fun hS_=>?_
  dsimp only [Qu]
  exact ⟨(by first | rfl | (first | (rw [QpE hg Qp];rfl) | (rw [QpD hg Qf ‹d0.2[k]? =some _› ‹d0.2[k]? =some _› ‹d0.2[k]? =some _›];rfl))),(Ow.cgP (Ow.up ho19 (hS_.1 _ (.head _))))⟩
 refine VC.skip (Jh (Qg ?_))
 refine VC.reg ?_
 refine VO.mv ?_
 refine VO.z (.add (c:=((k+1:Nat):Int)) rfl rfl Qp ⟨bd,bd⟩) ?_
 refine VO.as (VO.p2 112 0 (VO.k6 0 1 7 9 16 28 ?_))
 exact Qg ⟨⟨k+1,mc12⟩,⟨by omega,by exact Qrl hg ‹d0.2[k]? =some _› Qf,ho12⟩,bd,⟨esn,fun _ h=>Inv.sub (Inv.num h 112 1 rfl) [1,0]⟩⟩
 refine VC.exit (JU (JU (JT (Qg (VC.rs (VO.as (VO.as (VO.as (VO.k8 0 1 4 5 6 7 9 16 (VC.ret ?_))))))))))
 refine Qcf 4 5 6 [106] fun hS_=>?_
 dsimp only [Qu]
 exact ⟨(by first | rfl | (first | (rw [QpE hg Qp];rfl) | (rw [QpD hg Qf ‹d0.2[k]? =some _› ‹d0.2[k]? =some _› ‹d0.2[k]? =some _›];rfl))),(Ow.cgP (Ow.up ho6 (hS_.1 _ (.head _))))⟩
end Go.Proofs.YtonbpfncmlijnaaGreat
