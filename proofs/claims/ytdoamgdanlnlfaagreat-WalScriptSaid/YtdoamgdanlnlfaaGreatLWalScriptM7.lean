/- Part 7 of the proof of LWalScript: what it needs of the library, the walks and the plain laws. Conditions: those named in each theorem. -/
import Derived.Test.YtdoamgdanlnlfaaGreatLWalScriptM6
set_option linter.unusedVariables false
set_option linter.unusedSimpArgs false
set_option maxRecDepth 4000
namespace Go.Proofs.YtdoamgdanlnlfaaGreat
theorem QpB:JR Tryz.prog 10=true:=by kernel_rfl
theorem fnOk11:JR Tryz.prog 11=true:=by kernel_rfl
theorem fnOk13:JR Tryz.prog 13=true:=by kernel_rfl
theorem fnOk4:JR Tryz.prog 4=true:=by kernel_rfl
theorem fnOk5:JR Tryz.prog 5=true:=by kernel_rfl
theorem fnOk7:JR Tryz.prog 7=true:=by kernel_rfl
theorem fnOk9:JR Tryz.prog 9=true:=by kernel_rfl
theorem tz33:tz Tryz.prog 33=some [.pointer none,.pointer none,.pointer none,.pointer none]:=by kernel_rfl
theorem JG {P:Prop} (h:P:=by first | exact bd | (have h_:=hsm.1 _ (List.mem_of_getElem? ‹d0[_]? =some _›);omega)):P:=h
theorem XD {k:IntKind} {x:Int} (h:inK k x:=by simp only [inK];exact JG):inK k x:=h
set_option maxHeartbeats 8000000 in
theorem Qia (W:World) {v0:Value} {d0:List QbF} (h0:Rd (.sl QbD) (wm W) [v0] d0):Qi Tryz.prog 3 [v0] W (Qx) (fun v m'=>v= .bool true):=by
 obtain ⟨A0,c0,rfl,l0,k0⟩:=h0.slc
 refine Qi.ofA (n:=72) Tryz.func3 rfl rfl rfl ?_
 refine VC.rs (VO.as (VO.k2 0 2 (VC.seq (VC.rs ?_))))
 refine VO.callN 101 rfl fnOk4 rfl (fun W hW=>QlW W) (fun v1 m1 hv1=>?_)
 subst hv1
 refine VO.z (.not rfl) (VO.k3 0 2 6 (VC.condF rfl (VC.skip (Qm (VC.seq (VC.rs (VO.mv ?_)))))))
 refine VO.callN 102 rfl fnOk5 rfl (fun W hW=>QlF W (Rd.mono h0 (hW.t 0))) (fun v2 m2 hv2=>?_)
 subst hv2
 refine VO.z (.notD rfl) (VO.p1 0 (VO.k4 0 2 6 9 ?_))
 refine VC.cond rfl (fun hc3=>?_) (fun hc3=>?_)
 · refine VC.rs (VO.as (VO.k4 0 2 6 9 (VC.ret (QZ ?_))))
   exact Xl 2 rfl (by first | rfl | (simp [*];done))
 refine VC.skip (Qm (VC.rs ?_))
 refine VO.callN 104 rfl fnOk6 rfl (fun W hW=>QnN W) (fun v4 m4 hv4=>?_)
 obtain ⟨s4_0,rfl,f4_0⟩:=hv4
 have hfa5:=Qen
 have hfa6:=(show wD Qz=0 from rfl)
 refine VO.callN 107 rfl fnOk7 rfl (fun W hW=>QpT W) (fun v7 m7 hv7=>?_)
 obtain ⟨s7_0,rfl,f7_0⟩:=hv7
 have hfa8:=(show okR Qd0 from Qen)
 have hfa9:=(show wD (Qd Qd0)=0 from rfl)
 refine VO.z (.bst (cs:=[.pointer (some ⟨s4_0,0,none⟩),.pointer none,.pointer (some ⟨s7_0,0,none⟩),.pointer none]) rfl ZV tz33 rfl) ?_
 refine VO.box (cs:=[.pointer (some ⟨s4_0,0,none⟩),.pointer none,.pointer (some ⟨s7_0,0,none⟩),.pointer none]) 111 rfl rfl rfl (fun g10=>?_)
 refine VO.as (VO.k5 0 2 3 6 9 (VC.seq (VC.rs (VO.mv ?_))))
 refine VO.clsP 113 [111,104,107] rfl (fun hg13=>(Qgf (s4_0,Qz) none (s7_0,Qd0) none hg13 f4_0 f7_0)) (fun mc13 ho13=>?_)
 refine VO.call 113 rfl Qp7 rfl rfl (fun W hW=>QjK W (hW.t 113) ho13) (fun v12 m12 hv12=>?_)
 try dsimp only at hv12
 obtain ⟨gw2_12,gx2_12,rfl,w12_0⟩:=hv12
 refine VO.z (.not rfl) (VO.mv (VO.w (.mv rfl) (VO.w (.nilp rfl) (VO.w (.fa rfl ZV rfl) ?_))))
 obtain ⟨q14_E,q14_n1,q14_n3,_,q14_S,q14_1,q14_3⟩:=Jv (x0:=some s4_0) (x1:=(gw2_12,((s4_0,Qz),false,[],[]))) (x2:=some s7_0) (x3:=(gx2_12,(true,(s7_0,Qd0),[],false))) w12_0
 dsimp only at q14_1
 dsimp only at q14_3
 refine VO.inv _ (fun _ h=>h.parts (i:=113) rfl q14_S [117,115,116]) ?_
 refine VO.w (.ld1 117 rfl Qjs rfl (Qa rfl rfl)) ?_
 refine VO.w (.pnil rfl rfl Tryz.underlying31 rfl) ?_
 refine VO.z (.pF rfl rfl) ?_
 refine VO.clsP 118 [117,115,116] rfl (fun hg18=>(Jm (some s4_0) (gw2_12,((s4_0,Qz),false,[],[])) (some s7_0) (gx2_12,(true,(s7_0,Qd0),[],false)) hg18 q14_1 q14_3)) (fun mc18 ho18=>?_)
 refine VO.k6 0 2 3 6 9 23 (VC.condF rfl (VC.skip (Qm (VC.seq (VC.rs (VO.as (VO.p2 118 0 (VO.k7 0 2 3 4 6 9 23 (VC.block ?_)))))))))
 refine VC.loop (G:=Nat × Nat × QO × Bool × (List Qe) × (List Int) × Nat × Qy × (List Qe) × Bool × Mem) (fun g=>[(4,.int .i64 ((((g.1):Nat):Int))),(0,.slice A0 (d0.length) (c0)),(3,.pointer (some ⟨g10,0,none⟩)),(6,.bool false),(9,.bool (decide (¬ (Qgz d0)))),(23,.bool false)]) (fun g=>[(118,(g.2.2.2.2.2.2.2.2.2.2)),(0,wm W)]) (fun g=>((g.1)≤d0.length)∧(PW (2200*(g.1)) (g.2.2.1) (g.2.2.2.1) (g.2.2.2.2.1) (g.2.2.2.2.2.1) (g.2.2.2.2.2.2.2.1) (g.2.2.2.2.2.2.2.2.1) (g.2.2.2.2.2.2.2.2.2.1))∧(Ow (.ptr ZL) (g.2.2.2.2.2.2.2.2.2.2) [.pointer (some ⟨g10,0,none⟩)] (g10,((some s4_0),((g.2.1),((s4_0,(g.2.2.1)),(g.2.2.2.1),(g.2.2.2.2.1),(g.2.2.2.2.2.1))),(some s7_0),((g.2.2.2.2.2.2.1),(true,(s7_0,(g.2.2.2.2.2.2.2.1)),(g.2.2.2.2.2.2.2.2.1),(g.2.2.2.2.2.2.2.2.2.1))))))) (fun g=>d0.length - (g.1)) (0,gw2_12,Qz,false,[],[],gx2_12,Qd0,[],false,mc18) (⟨by (dsimp only;omega),by exact PW.up pw_new Qn,ho18⟩) ⟨esn,fun _ h=>h.sub [118,0]⟩ ?_
 rintro ⟨i,p_1g,p_1_0,p_1_1,p_1_2,p_1_3,p_3g,p_3_1,p_3_2,p_3_3,p_m⟩ ⟨hi,hp,h_p⟩
 replace hi:i≤d0.length:=hi
 replace hp:PW (2200*i) p_1_0 p_1_1 p_1_2 p_1_3 p_3_1 p_3_2 p_3_3:=hp
 replace h_p:Ow (.ptr ZL) p_m [.pointer (some ⟨g10,0,none⟩)] (g10,((some s4_0),(p_1g,((s4_0,p_1_0),p_1_1,p_1_2,p_1_3)),(some s7_0),(p_3g,(true,(s7_0,p_3_1),p_3_2,p_3_3)))):=h_p
 show VC _ _ _ _ _ [(4,.int .i64 (((i:Nat):Int))),(0,.slice A0 (d0.length) (c0)),(3,.pointer (some ⟨g10,0,none⟩)),(6,.bool false),(9,.bool (decide (¬ (Qgz d0)))),(23,.bool false)] [(118,p_m),(0,wm W)]
 have hsm:=Decidable.not_not.1 ‹¬ ¬ Qgz d0›
 have hsm2:=hsm.2
 have hpl:=hp.okl
 refine VC.seq (VC.rs (VO.mv (VO.mv (VO.z (.lenS rfl Qmw) (VO.z (.lss rfl rfl) (VO.k7 0 3 4 6 9 23 27 ?_))))))
 refine VC.cond rfl (fun hc19=>?_) (fun hc19=>?_)
 · refine VC.skip (Qm (VC.seq (VC.block (VC.rs (VO.mv (VO.mv (VO.mv ?_)))))))
   obtain ⟨x20,hx20⟩:∃ z_,(d0)[i]? =some z_:=⟨_,List.getElem?_eq_getElem JG⟩
   obtain ⟨gg20,oo20,ec20,ea20,hce20,hre20⟩:=h0.elem hx20
   cases ea20
   obtain ⟨q20_A5,q20_c5,rfl,q20_0,q20_1,q20_2,q20_3,q20_4,q20_5⟩:=Qay (x0:=x20.1) (x1:=x20.2.1) (x2:=x20.2.2.1) (x3:=x20.2.2.2.1) (x4:=x20.2.2.2.2.1) (x5:=x20.2.2.2.2.2) hre20
   simp only [inK] at q20_0 q20_1 q20_2 q20_3 q20_4
   have q20_r5:=Rd.room q20_5
   refine VO.z (.ixI i rfl rfl Qmw rfl JG) ?_
   refine VO.z (.ldA 0 rfl tk39 rfl hce20) ?_
   refine VO.call 118 rfl fnOk9 rfl rfl (fun W hW=>Qoo W (hW.t 118) h_p (Rd.mono hre20 (hW.o 118 0)) (by first | assumption) JG JG) (fun v21 m21 hv21=>?_)
   try dsimp only at hv21
   obtain ⟨gw2_21,gx2_21,D2_21,br2_21,l2_21,es2_21,R2_21,k2_21,bx2_21,rfl,w21_0,xf21_0⟩:=hv21
   refine VO.z (.not rfl) (VO.mv (VO.w (.mv rfl) ?_))
   refine VO.gcall 118 rfl ⟨_,rfl,rfl⟩ QpB rfl rfl (fun W hW=>QkK W (hW.t 118) w21_0 (by first | assumption) JG) (fun v22 m22 hv22=>?_)
   try dsimp only at hv22
   obtain ⟨rfl,w22_0⟩:=hv22
   refine VO.w (.not rfl) (VO.z (.pF rfl rfl) (VO.k8 0 3 4 6 9 23 27 41 (VC.condF rfl (VC.skip (JL (Qm ?_))))))
   refine VC.reg ?_
   refine VO.mv ?_
   refine VO.z (.add (c:=((i+1:Nat):Int)) rfl rfl Qn ⟨by exact JG,by exact JG⟩) ?_
   refine VO.as (VO.p2 118 0 (VO.k8 0 3 4 6 9 23 27 41 ?_))
   exact Qm ⟨⟨i+1,gw2_21,D2_21,br2_21,l2_21,es2_21,gx2_21,R2_21,k2_21,bx2_21,m22⟩,⟨by (dsimp only;omega),by exact PW.up Qo Qn,w22_0⟩,by (dsimp only;omega),⟨esn,fun _ h=>Inv.sub h [118,0]⟩⟩
 · refine VC.exit (Zh (Zh (Zi (Qm (VC.seq ?_)))))
   obtain ⟨q23_E,q23_n1,q23_n3,_,q23_S,q23_1,q23_3⟩:=Jv (x0:=(some s4_0)) (x1:=(p_1g,((s4_0,p_1_0),p_1_1,p_1_2,p_1_3))) (x2:=(some s7_0)) (x3:=(p_3g,(true,(s7_0,p_3_1),p_3_2,p_3_3))) h_p
   dsimp only at q23_1
   dsimp only at q23_3
   refine VC.inv _ (fun _ h=>h.parts (i:=118) rfl q23_S [126,124,125]) ?_
   refine VC.regD _ 22 [(0,true),(1,true),(2,true),(3,true),(5,true),(6,true),(7,true),(8,true),(4,false),(9,false),(10,false),(11,false),(12,true),(13,true),(14,true),(15,true),(16,true),(18,true),(19,true),(20,true),(21,true),(17,false)] follows (by kernel_rfl) (fun _ h=>h.sub [126,125,0]) ?_
   refine VD.z rfl (.mv rfl) (VD.z rfl (.nilp rfl) (VD.z rfl (.fa rfl ZV rfl) (VD.z rfl (.ld1 126 rfl Qjg rfl (Qa rfl rfl)) (VD.z rfl (.mv rfl) (VD.z rfl (.nilp rfl) (VD.z rfl (.fa rfl ZV rfl) (VD.z rfl (.ld1 126 rfl Qjg rfl (Qa rfl rfl)) ?_)))))))
   refine VD.call 124 rfl rfl (.inl rfl) Qi1 rfl rfl (fun _ _ h=>h.sub [126,125,0]) (fun W hW=>Qe1 W (hW.t 124) q23_1 1 XD 60 XD Qo) (fun v27 m27 hv27=>?_)
   try dsimp only at hv27
   obtain ⟨s27_0,p27_0,p27_1,rfl,hS27,f27_0,w27_0⟩:=hv27
   refine VD.inv _ (fun _ h=>h.parts (i:=124) rfl hS27 [128,129]) ?_
   obtain ⟨A27_0,c27_0,eq27_0,l27_0,k27_0⟩:=f27_0.slc
   subst eq27_0
   refine VD.call 129 rfl rfl (.inl rfl) Qi1 rfl rfl (fun _ _ h=>h.sub [126,125,0]) (fun W hW=>Qe1 W (hW.t 129) w27_0 1 XD 60 XD Qo) (fun v30 m30 hv30=>?_)
   try dsimp only at hv30
   obtain ⟨s30_0,p30_0,p30_1,rfl,hS30,f30_0,w30_0⟩:=hv30
   refine VD.inv _ (fun _ h=>h.parts (i:=129) rfl hS30 [131,132]) ?_
   obtain ⟨A30_0,c30_0,eq30_0,l30_0,k30_0⟩:=f30_0.slc
   subst eq30_0
   refine VD.bsl (cs:=[.slice A27_0 ((Xf p_1_2 1 60).length) (c27_0),.slice A30_0 ((Xf p_1_2 1 60).length) (c30_0)]) 134 rfl rfl rfl Qc3 tz41 rfl rfl (fun _ h=>h.sub [126,125,0]) (fun g33=>?_)
   refine VD.gather (l:=[QM g33 (.cells [Value.slice A27_0 ((Xf p_1_2 1 60).length) (c27_0),Value.slice A30_0 ((Xf p_1_2 1 60).length) (c30_0)].toArray 41 (0,0)),p27_0,p30_0]) 137 [134,128,131] rfl (fun hg36=>?_)
   have ho36:Ow (.sl (.sl Ql)) (Zc [QM g33 (.cells [Value.slice A27_0 ((Xf p_1_2 1 60).length) (c27_0),Value.slice A30_0 ((Xf p_1_2 1 60).length) (c30_0)].toArray 41 (0,0)),p27_0,p30_0]) [Value.slice (some ⟨g33,0,none⟩) (2) (2)] [Xf p_1_2 1 60,Xf p_1_2 1 60]:=Ow.lit 2 (QA.grp1 (ls:=[[p27_0],[p30_0]]) hg36) (Qg2.cons (m:=Zc [p27_0]) (c1:=[Value.slice A27_0 ((Xf p_1_2 1 60).length) (c27_0)]) (Ow.up f27_0 ((QA.self hg36 (List.Sublist.cons _ (List.Sublist.cons_cons _ (List.Sublist.cons _ List.Sublist.slnil)))).1 _ (.head _))) (Qg2.cons (m:=Zc [p30_0]) (c1:=[Value.slice A30_0 ((Xf p_1_2 1 60).length) (c30_0)]) (Ow.up f30_0 ((QA.self hg36 (List.Sublist.cons _ (List.Sublist.cons _ (List.Sublist.cons_cons _ List.Sublist.slnil)))).1 _ (.head _))) Qg2.nil)) rfl rfl
   refine VD.call 137 rfl rfl (.inl rfl) fnOk11 rfl rfl (fun _ _ h=>h.sub [126,125,0]) (fun W hW=>Qf6 W (hW.t 137) ho36 JG (by exact Qly _) (by exact QlA _) (by exact Qlz hp.okl)) (fun v35 m35 hv35=>?_)
   subst hv35
   refine VD.z rfl (.mv rfl) (VD.w rfl (.mv rfl) (VD.w rfl (.nilp rfl) (VD.w rfl (.fa rfl ZV rfl) (VD.w rfl (.ld1 126 rfl Qjg rfl (Qa rfl rfl)) (VD.w rfl (.mv rfl) (VD.w rfl (.nilp rfl) (VD.w rfl (.fa rfl ZV rfl) (VD.w rfl (.ld1 126 rfl Qjg rfl (Qa rfl rfl)) ?_))))))))
   refine VD.call 132 rfl rfl (.inr ⟨_,_,rfl,_,rfl,rfl⟩) Qnz rfl rfl (fun _ _ h=>h.sub [126,125,0]) (fun W hW=>Qd7 W (hW.t 132) w30_0 Qo) (fun v38 m38 hv38=>?_)
   try dsimp only at hv38
   obtain ⟨s38_0,p38_0,p38_1,rfl,hS38,f38_0,w38_0⟩:=hv38
   refine VD.inv _ (fun _ h=>h.parts (i:=132) rfl hS38 [139,140]) ?_
   obtain ⟨A38_0,c38_0,eq38_0,l38_0,k38_0⟩:=f38_0.slc
   subst eq38_0
   refine VD.nil rfl ?_ rfl
   refine VO.gcall 140 rfl ⟨_,rfl,rfl⟩ Qnz rfl rfl (fun W hW=>Qd7 W (hW.t 140) w38_0 Qo) (fun v41 m41 hv41=>?_)
   try dsimp only at hv41
   obtain ⟨s41_0,p41_0,p41_1,rfl,hS41,f41_0,w41_0⟩:=hv41
   refine VO.inv _ (fun _ h=>h.parts (i:=140) rfl hS41 [142,143]) ?_
   obtain ⟨A41_0,c41_0,eq41_0,l41_0,k41_0⟩:=f41_0.slc
   subst eq41_0
   refine VO.gbsl (cs:=[Value.slice A41_0 (((sOf p_1_2).1).length) (c41_0)]) 145 rfl ⟨_,rfl,rfl⟩ rfl Qha tz45 rfl rfl (fun g44=>?_)
   refine VO.gather (l:=[QM g44 (.cells [Value.slice A41_0 (((sOf p_1_2).1).length) (c41_0)].toArray 45 (0,0)),p41_0]) 148 [145,142] rfl (fun hg47=>?_)
   have ho47:Ow (.sl (.sl Zt)) (Zc [QM g44 (.cells [Value.slice A41_0 (((sOf p_1_2).1).length) (c41_0)].toArray 45 (0,0)),p41_0]) [Value.slice (some ⟨g44,0,none⟩) (1) (1)] [(sOf p_1_2).1]:=Ow.lit 1 (QA.grp1 (ls:=[[p41_0]]) hg47) (Qg2.cons (m:=Zc [p41_0]) (c1:=[Value.slice A41_0 (((sOf p_1_2).1).length) (c41_0)]) (Ow.up f41_0 ((QA.self hg47 (List.Sublist.cons _ (List.Sublist.cons_cons _ List.Sublist.slnil))).1 _ (.head _))) Qg2.nil) rfl rfl
   refine VO.gcall 139 rfl ⟨_,rfl,rfl⟩ fnOk13 rfl rfl (fun W hW=>Qgk W (hW.t 139) f38_0 (Ow.rd ho47 (hW.o 139 148)) JG (by exact QlQ hp.okl)) (fun v46 m46 hv46=>?_)
   subst hv46
   refine VO.z (.pT rfl rfl) (VO.mv (VO.w (.mv rfl) ?_))
   refine VO.clsP 150 [126,143,125] rfl (fun hg50=>(Jm (some s4_0) (p_1g,((s4_0,p_1_0),p_1_1,p_1_2,p_1_3)) (some s7_0) (p_3g,(true,(s7_0,p_3_1),p_3_2,p_3_3)) hg50 w41_0 q23_3)) (fun mc50 ho50=>?_)
   refine VO.gcall 150 rfl ⟨_,rfl,rfl⟩ QpB rfl rfl (fun W hW=>QkK W (hW.t 150) ho50 (by first | assumption) JG) (fun v49 m49 hv49=>?_)
   try dsimp only at hv49
   obtain ⟨rfl,w49_0⟩:=hv49
   refine VO.z (.pT rfl rfl) (VO.as (VO.k8 0 2 3 4 6 9 23 27 (Qm (VC.ret ?_))))
   exact Xl 2 rfl (by first | rfl | (simp [*];done))
section
open Go.ChangeShapes Go.WideShapes Go.ChangeAt Go.RowKit
theorem walScript_ok0:Qh5 Tryz.prog 60 (.sl QbD) (.inl 22)=true:=by kernel_rfl
set_option maxRecDepth 100000 in
theorem walScript_lifted (os:Os) (started:os.Started) (H:Type) (enc:TypeId × Value→H):
  ReturnsInHanded {} Tryz.checked os 3 .any (Rows.walScriptSpec.pre6 enc Tryz.prog Tryz.f3 Rows.walScriptRow.domain false) (Rows.walScriptSpec.post enc Tryz.prog Tryz.f3 false true false false):=by
 refine returnsInHanded_of_change (C:=Tryz.checked) (by kernel_rfl) started (by kernel_rfl) Tryz.func3
  (ChangeSpec.witness6 (enc:=enc) (C:=Tryz.checked) false ⟨#[], #[.slice none 0 0],[]⟩ 8 (by kernel_rfl) (by kernel_rfl) (by kernel_rfl) (by kernel_rfl)) ?_
 intro W base args ds gs before hval0 hW hcnd _
 have hval:∀ (j:Nat) t v,Tryz.f3.params[j]? =some t→args[j]? =some v→Value.okWide Tryz.prog W .any base t v:=hval0
 have hW':=hW
 obtain ⟨p,q,hA0,hV,rfl,hfz,hnd⟩:=hW
 have hA:DataW.TrodAll enc Tryz.prog W 0 (fun _=>true) true Tryz.f3.params.toList args.toList ds p:=hA0
 rw [Tryz.params3] at hA hval
 clear hA0 hval0
 obtain ⟨args⟩:=args
 obtain ⟨v0,r0,d0,e0,p0,q0,ha0,rfl,rfl,h0,hA0⟩:=trodAll_cons hA
 simp only at ha0;subst ha0
 obtain ⟨rfl,rfl,rfl⟩:=trodAll_nil hA0
 obtain ⟨x0,hx0⟩:=arg_sl 60 walScript_ok0 Tryz.underlying22 (hval 0 22 v0 rfl rfl) h0
 refine (QoT (Qia W hx0)).mono fun e W' ⟨he,hg⟩=>?_
 subst he
 exact ⟨_,rfl,QoE hW' hg laidOut_ok (by kernel_rfl) rfl Tryz.underlying4 rfl rfl rfl rfl⟩
theorem walScript_joined:joinedFacts Tryz.prog 3 Tryz.f3 Rows.walScriptSpec Rows.walScriptRow=true:=by
 unfold joinedFacts
 rw [laidOut_ok,mapsRowed_ok,stopsHeard_ok,mayEnter_ok,lifts_ok,make_ok]
 kernel_rfl
theorem walScript_proved:Rows.WalScriptSaid:=
  OpenClaim.holds_of_wide 3 Tryz.f3 rfl rfl rfl rfl rfl rfl rfl ⟨rfl,rfl,rfl,rfl,rfl⟩ rfl rfl rfl rfl rfl (by kernel_rfl) Tryz.func3 walScript_joined
    (of_decide_eq_true (by kernel_rfl)) (by unfold Func.isWrapper;first | (rw [if_pos (by decide+kernel)];kernel_rfl) | (rw [if_neg (by decide+kernel)];exact ⟨rfl,rfl⟩))
    (fun os started H enc _=>walScript_lifted os started H enc)
#print axioms walScript_proved
end
end Go.Proofs.YtdoamgdanlnlfaaGreat
