/- Part 6 of the proof of LRunScript: what it needs of the library, the walks and the plain laws. Conditions: those named in each theorem. -/
import Derived.Test.YtgmdjhdgaddigaaGreatLRunScriptM5
set_option linter.unusedVariables false
set_option linter.unusedSimpArgs false
set_option maxRecDepth 4000
namespace Go.Proofs.YtgmdjhdgaddigaaGreat
theorem Qno:JX Tryz.prog 10=true:=by kernel_rfl
theorem fnOk12:JX Tryz.prog 12=true:=by kernel_rfl
theorem fnOk4:JX Tryz.prog 4=true:=by kernel_rfl
theorem fnOk5:JX Tryz.prog 5=true:=by kernel_rfl
theorem fnOk7:JX Tryz.prog 7=true:=by kernel_rfl
theorem fnOk9:JX Tryz.prog 9=true:=by kernel_rfl
theorem tz34:tz Tryz.prog 34=some [.pointer none,.pointer none,.pointer none,.pointer none]:=by kernel_rfl
theorem QO {P:Prop} (h:P:=by first | exact bd | (have h_:=hsm.1 _ (List.mem_of_getElem? ‹d0[_]? =some _›);omega)):P:=h
set_option maxHeartbeats 8000000 in
theorem QgB (W:World) {v0:Value} {d0:List QaF} (h0:Rd (.sl QaE) (wm W) [v0] d0) {v1:Value} {d1:List (List UInt8)} (h1:Rd (.sl .str) (wm W) [v1] d1):Qg Tryz.prog 3 [v0,v1] W (Qr) (fun v m'=>v= .bool true):=by
 obtain ⟨A0,c0,rfl,l0,k0⟩:=h0.slc
 obtain ⟨A1,c1,rfl,l1,k1⟩:=h1.slc
 refine Qg.ofA (n:=82) Tryz.func3 rfl rfl rfl ?_
 refine VC.rs (VO.as (VO.k3 0 1 4 (VC.seq (VC.rs ?_))))
 refine VO.callN 101 rfl fnOk4 rfl (fun W hW=>QjB W) (fun v1 m1 hv1=>?_)
 subst hv1
 refine VO.z (.not rfl) (VO.k4 0 1 4 11 (VC.condF rfl (VC.skip (Qj (VC.seq (VC.rs (VO.mv ?_)))))))
 refine VO.callN 102 rfl fnOk5 rfl (fun W hW=>Qjl W (Rd.mono h0 (hW.t 0))) (fun v2 m2 hv2=>?_)
 subst hv2
 refine VO.z (.notD rfl) (VO.mv ?_)
 refine VO.dec (t:=15) rfl (fun hc3=>?_) (fun hc3=>?_)
 refine VO.gN (VO.gN (VO.gN (VO.z (.pT rfl rfl) (VO.p1 0 (VO.k5 0 1 4 11 19 (VC.condT rfl (VC.rs (VO.as (VO.k5 0 1 4 11 19 (VC.ret (QS ?_)))))))))))
 exact Xz 4 rfl (by first | rfl | (rfl))
 refine VO.w (.mv rfl) (VO.w (.lenS rfl QlW) (VO.w (.gtr rfl rfl) (VO.z (.pF rfl rfl) (VO.p1 0 (VO.k5 0 1 4 11 19 ?_)))))
 refine VC.cond rfl (fun hc4=>?_) (fun hc4=>?_)
 refine VC.rs (VO.as (VO.k5 0 1 4 11 19 (VC.ret (QS ?_))))
 exact Xz 4 rfl (by first | rfl | (rfl))
 refine VC.skip (Qj (VC.rs ?_))
 refine VO.callN 105 rfl fnOk6 rfl (fun W hW=>Qlt W) (fun v5 m5 hv5=>?_)
 obtain ⟨s5_0,rfl,f5_0⟩:=hv5
 have hfa6:=QcY
 have hfa7:=(show wD X7=0 from rfl)
 refine VO.callN 108 rfl fnOk7 rfl (fun W hW=>QnT W) (fun v8 m8 hv8=>?_)
 obtain ⟨s8_0,rfl,f8_0⟩:=hv8
 have hfa9:=(show okR QdA from QcY)
 have hfa10:=(show wD (Qc QdA)=0 from rfl)
 refine VO.z (.bst (cs:=[.pointer (some ⟨s5_0,0,none⟩),.pointer none,.pointer (some ⟨s8_0,0,none⟩),.pointer none]) rfl Yh tz34 rfl) ?_
 refine VO.box (cs:=[.pointer (some ⟨s5_0,0,none⟩),.pointer none,.pointer (some ⟨s8_0,0,none⟩),.pointer none]) 112 rfl rfl rfl (fun g11=>?_)
 refine VO.as (VO.k6 0 1 4 5 11 19 (VC.seq (VC.rs (VO.mv ?_))))
 refine VO.clsP 114 [112,105,108] rfl (fun hg14=>(QeC (s5_0,X7) none (s8_0,QdA) none hg14 f5_0 f8_0)) (fun mc14 ho14=>?_)
 refine VO.call 114 rfl Qn3 rfl rfl (fun W hW=>QhQ W (hW.t 114) ho14) (fun v13 m13 hv13=>?_)
 try dsimp only at hv13
 obtain ⟨gw2_13,gx2_13,rfl,w13_0⟩:=hv13
 refine VO.z (.not rfl) (VO.mv (VO.w (.mv rfl) (VO.w (.nilp rfl) (VO.w (.fa rfl Yh rfl) ?_))))
 obtain ⟨q15_E,q15_n1,q15_n3,_,q15_S,q15_1,q15_3⟩:=Jf (x0:=some s5_0) (x1:=(gw2_13,((s5_0,X7),false,[]))) (x2:=some s8_0) (x3:=(gx2_13,(true,(s8_0,QdA),[],false))) w13_0
 dsimp only at q15_1
 dsimp only at q15_3
 refine VO.inv _ (fun _ h=>h.parts (i:=114) rfl q15_S [118,116,117]) ?_
 refine VO.w (.ld1 118 rfl QlY rfl (Qa rfl rfl)) ?_
 refine VO.w (.pnil rfl rfl Tryz.underlying32 rfl) ?_
 refine VO.z (.pF rfl rfl) ?_
 refine VO.clsP 119 [118,116,117] rfl (fun hg19=>(Jo (some s5_0) (gw2_13,((s5_0,X7),false,[])) (some s8_0) (gx2_13,(true,(s8_0,QdA),[],false)) hg19 q15_1 q15_3)) (fun mc19 ho19=>?_)
 refine VO.k7 0 1 4 5 11 19 33 (VC.condF rfl (VC.skip (Qj (VC.seq (VC.rs (VO.as (VO.p2 119 0 (VO.k8 0 1 4 5 6 11 19 33 (VC.block ?_)))))))))
 refine VC.loop (G:=Nat × Nat × QG × Bool × (List Zn) × Nat × Qo × (List Zn) × Bool × Mem) (fun g=>[(6,.int .i64 ((((g.1):Nat):Int))),(0,.slice A0 (d0.length) (c0)),(1,.slice A1 (d1.length) (c1)),(5,.pointer (some ⟨g11,0,none⟩)),(11,.bool false),(19,.bool (decide (20 < ((d1.length:Nat):Int)))),(33,.bool false)]) (fun g=>[(119,(g.2.2.2.2.2.2.2.2.2)),(0,wm W)]) (fun g=>((g.1)≤d0.length)∧(PR (200000*(g.1)) (g.2.2.1) (g.2.2.2.1) (g.2.2.2.2.1) (g.2.2.2.2.2.2.1) (g.2.2.2.2.2.2.2.1) (g.2.2.2.2.2.2.2.2.1))∧(Ow (.ptr Zf) (g.2.2.2.2.2.2.2.2.2) [.pointer (some ⟨g11,0,none⟩)] (g11,((some s5_0),((g.2.1),((s5_0,(g.2.2.1)),(g.2.2.2.1),(g.2.2.2.2.1))),(some s8_0),((g.2.2.2.2.2.1),(true,(s8_0,(g.2.2.2.2.2.2.1)),(g.2.2.2.2.2.2.2.1),(g.2.2.2.2.2.2.2.2.1))))))) (fun g=>d0.length - (g.1)) (0,gw2_13,X7,false,[],gx2_13,QdA,[],false,mc19) (⟨by (dsimp only;omega),by exact PR.up pr_new Qx,ho19⟩) ⟨esn,fun _ h=>h.sub [119,0]⟩ ?_
 rintro ⟨i,p_1g,p_1_0,p_1_1,p_1_2,p_3g,p_3_1,p_3_2,p_3_3,p_m⟩ ⟨hi,hp,h_p⟩
 replace hi:i≤d0.length:=hi
 replace hp:PR (200000*i) p_1_0 p_1_1 p_1_2 p_3_1 p_3_2 p_3_3:=hp
 replace h_p:Ow (.ptr Zf) p_m [.pointer (some ⟨g11,0,none⟩)] (g11,((some s5_0),(p_1g,((s5_0,p_1_0),p_1_1,p_1_2)),(some s8_0),(p_3g,(true,(s8_0,p_3_1),p_3_2,p_3_3)))):=h_p
 show VC _ _ _ _ _ [(6,.int .i64 (((i:Nat):Int))),(0,.slice A0 (d0.length) (c0)),(1,.slice A1 (d1.length) (c1)),(5,.pointer (some ⟨g11,0,none⟩)),(11,.bool false),(19,.bool (decide (20 < ((d1.length:Nat):Int)))),(33,.bool false)] [(119,p_m),(0,wm W)]
 have hsm:=Decidable.not_not.1 ‹¬ ¬ QeW d0›
 have hsm2:=hsm.2
 have hpl:=hp.okl
 have hul:=Y3 hpl
 refine VC.seq (VC.rs (VO.mv (VO.mv (VO.z (.lenS rfl QjZ) (VO.z (.lss rfl rfl) (VO.k8 0 1 5 6 11 19 33 37 ?_))))))
 refine VC.cond rfl (fun hc20=>?_) (fun hc20=>?_)
 · refine VC.skip (Qj (VC.seq (VC.block (VC.rs (VO.mv (VO.mv (VO.mv ?_)))))))
   obtain ⟨x21,hx21⟩:∃ z_,(d0)[i]? =some z_:=⟨_,List.getElem?_eq_getElem QO⟩
   obtain ⟨gg21,oo21,ec21,ea21,hce21,hre21⟩:=h0.elem hx21
   cases ea21
   obtain ⟨q21_A5,q21_c5,rfl,q21_0,q21_1,q21_2,q21_3,q21_4,q21_5⟩:=XI (x0:=x21.1) (x1:=x21.2.1) (x2:=x21.2.2.1) (x3:=x21.2.2.2.1) (x4:=x21.2.2.2.2.1) (x5:=x21.2.2.2.2.2) hre21
   simp only [inK] at q21_0 q21_1 q21_2 q21_3 q21_4
   have q21_r5:=Rd.room q21_5
   refine VO.z (.ixI i rfl rfl QjZ rfl QO) ?_
   refine VO.z (.ldA 0 rfl tk40 rfl hce21) ?_
   refine VO.call 119 rfl fnOk9 rfl rfl (fun W hW=>Qmf W (hW.t 119) h_p (Rd.mono hre21 (hW.o 119 0)) (by first | assumption) QO QO) (fun v22 m22 hv22=>?_)
   try dsimp only at hv22
   obtain ⟨gw2_22,gx2_22,D2_22,br2_22,l2_22,R2_22,k2_22,bx2_22,rfl,w22_0,xf22_0⟩:=hv22
   refine VO.z (.not rfl) (VO.mv (VO.w (.mv rfl) (VO.w (.mv rfl) ?_)))
   refine VO.gcall 119 rfl ⟨_,rfl,rfl⟩ Qno rfl rfl (fun W hW=>QiC W (hW.t 119) w22_0 (Rd.mono h1 (hW.o 119 0)) (by first | assumption) QO) (fun v23 m23 hv23=>?_)
   try dsimp only at hv23
   obtain ⟨rfl,w23_0⟩:=hv23
   refine VO.w (.not rfl) (VO.z (.pF rfl rfl) (VO.k9 0 1 5 6 11 19 33 37 52 (VC.condF rfl (VC.skip (JE (Qj ?_))))))
   refine VC.reg ?_
   refine VO.mv ?_
   refine VO.z (.add (c:=((i+1:Nat):Int)) rfl rfl Qx ⟨by exact QO,by exact QO⟩) ?_
   refine VO.as (VO.p2 119 0 (VO.k9 0 1 5 6 11 19 33 37 52 ?_))
   exact Qj ⟨⟨i+1,gw2_22,D2_22,br2_22,l2_22,gx2_22,R2_22,k2_22,bx2_22,m23⟩,⟨by (dsimp only;omega),by exact PR.up Qd Qx,w23_0⟩,by (dsimp only;omega),⟨esn,fun _ h=>Inv.sub h [119,0]⟩⟩
 refine VC.exit (Zc (Zc (Zd (Qj (VC.rs (VO.as (VO.k9 0 1 5 6 7 11 19 33 37 (VC.seq (VC.seq ?_)))))))))
 obtain ⟨q24_E,q24_n1,q24_n3,_,q24_S,q24_1,q24_3⟩:=Jf (x0:=(some s5_0)) (x1:=(p_1g,((s5_0,p_1_0),p_1_1,p_1_2))) (x2:=(some s8_0)) (x3:=(p_3g,(true,(s8_0,p_3_1),p_3_2,p_3_3))) h_p
 dsimp only at q24_1
 dsimp only at q24_3
 refine VC.inv _ (fun _ h=>h.parts (i:=119) rfl q24_S [127,125,126]) ?_
 refine VC.regD _ 13 [(0,true),(1,true),(2,true),(3,true),(5,true),(6,true),(7,true),(8,true),(12,true),(4,false),(9,false),(10,false),(11,true)] follows (by kernel_rfl) (fun _ h=>h.sub [127,126,0]) ?_
 refine VD.z rfl (.mv rfl) (VD.z rfl (.nilp rfl) (VD.z rfl (.fa rfl Yh rfl) (VD.z rfl (.ld1 127 rfl QlZ rfl (Qa rfl rfl)) (VD.z rfl (.mv rfl) (VD.z rfl (.nilp rfl) (VD.z rfl (.fa rfl Yh rfl) (VD.z rfl (.ld1 127 rfl QlZ rfl (Qa rfl rfl)) (VD.z rfl (.mv rfl) ?_))))))))
 refine VD.call 125 rfl rfl (.inl rfl) Qlc rfl rfl (fun _ _ h=>h.sub [127,126,0]) (fun W hW=>QfE W (hW.t 125) q24_1 Qd) (fun v28 m28 hv28=>?_)
 try dsimp only at hv28
 obtain ⟨s28_0,p28_0,p28_1,rfl,hS28,f28_0,w28_0⟩:=hv28
 refine VD.inv _ (fun _ h=>h.parts (i:=125) rfl hS28 [129,130]) ?_
 obtain ⟨A28_0,c28_0,eq28_0,l28_0,k28_0⟩:=f28_0.slc
 subst eq28_0
 refine VD.call 130 rfl rfl (.inl rfl) Qlc rfl rfl (fun _ _ h=>h.sub [127,126,0]) (fun W hW=>QfE W (hW.t 130) w28_0 Qd) (fun v31 m31 hv31=>?_)
 try dsimp only at hv31
 obtain ⟨s31_0,p31_0,p31_1,rfl,hS31,f31_0,w31_0⟩:=hv31
 refine VD.inv _ (fun _ h=>h.parts (i:=130) rfl hS31 [132,133]) ?_
 obtain ⟨A31_0,c31_0,eq31_0,l31_0,k31_0⟩:=f31_0.slc
 subst eq31_0
 refine VD.appOs (e:=ZL) 129 132 rfl rfl rfl rfl Z3 X6 rfl rfl rfl f28_0 f31_0 Tryz.underlying43 (by simp only [maxLen];(exact QO)) QO (by decide) (fun _ _ h=>h.sub [127,126,0]) (fun v34 m34 ho34=>?_)
 obtain ⟨A34,c34,rfl,l34,k34⟩:=ho34.slc
 obtain ⟨hss,ml,mo,hdj,hml,hmo,hL,hF,hO⟩:=Ow.peelL (e:=TOp) ho34
 have hlh:=hF.len
 have hSpl:Qu (m34) [ml,mo]:= .two hdj hml hmo
 refine VD.inv _ (fun _ h=>h.parts (i:=129) rfl hSpl [129,135]) ?_
 refine VD.z rfl (.lenS rfl Z3) ?_
 refine VD.nil rfl ?_ rfl
 refine VO.clsP 136 [127,133,126] rfl (fun hg36=>(Jo (some s5_0) (p_1g,((s5_0,p_1_0),p_1_1,p_1_2)) (some s8_0) (p_3g,(true,(s8_0,p_3_1),p_3_2,p_3_3)) hg36 w31_0 q24_3)) (fun mc36 ho36=>?_)
 refine VO.p4 136 129 135 0 (VO.k12 0 1 5 6 7 11 19 33 37 63 64 65 (Qj (VC.block ?_)))
 refine VC.inv ((137,Qr)::_) (fun _ h=>h.nilc 137) ?_
 refine VC.loop (G:=Nat × (List Hd) × (Option Addr) × Nat × Mem) (fun g=>[(7,.slice (g.2.2.1) ((g.2.1).length) ((g.2.2.2.1))),(65,.int .i64 ((((g.1):Nat):Int))),(0,.slice A0 (d0.length) (c0)),(1,.slice A1 (d1.length) (c1)),(5,.pointer (some ⟨g11,0,none⟩)),(6,.int .i64 (((i:Nat):Int))),(11,.bool false),(19,.bool (decide (20 < ((d1.length:Nat):Int)))),(33,.bool false),(37,.bool (decide (((i:Nat):Int) < ((d0.length:Nat):Int)))),(63,.slice A34 ((p_1_2++p_1_2).length) (c34)),(64,.int .i64 ((((p_1_2++p_1_2).length:Nat):Int)))]) (fun g=>[(137,(g.2.2.2.2)),(136,mc36),(129,ml),(135,mo),(0,wm W)]) (fun g=>((g.1)≤hss.length)∧((g.2.1)=(hss.take (g.1)).map hdO)∧(Qz .hdr (g.2.2.2.2) Qr (.slice (g.2.2.1) (g.2.1).length (g.2.2.2.1)) (g.2.1))) (fun g=>hss.length - (g.1)) (0,[],none,0,Qr) (⟨by omega,by rfl,(Qz.nil .hdr Qr Qr)⟩) ⟨esn,fun _ h=>h.sub [137,136,129,135,0]⟩ ?_
 rintro ⟨k,all,all_A,all_c,all_m⟩ ⟨hk,ho,h_all⟩
 replace hk:k≤hss.length:=hk
 replace ho:all=(hss.take k).map hdO:=ho
 replace h_all:Qz .hdr all_m Qr (.slice all_A all.length all_c) all:=h_all
 show VC _ _ _ _ _ [(7,.slice all_A (all.length) (all_c)),(65,.int .i64 (((k:Nat):Int))),(0,.slice A0 (d0.length) (c0)),(1,.slice A1 (d1.length) (c1)),(5,.pointer (some ⟨g11,0,none⟩)),(6,.int .i64 (((i:Nat):Int))),(11,.bool false),(19,.bool (decide (20 < ((d1.length:Nat):Int)))),(33,.bool false),(37,.bool (decide (((i:Nat):Int) < ((d0.length:Nat):Int)))),(63,.slice A34 ((p_1_2++p_1_2).length) (c34)),(64,.int .i64 ((((p_1_2++p_1_2).length:Nat):Int)))] [(137,all_m),(136,mc36),(129,ml),(135,mo),(0,wm W)]
 have l_all:all.length≤all_c:=by obtain ⟨_,_,he,hl,_⟩:=h_all.slice;simp only [Value.slice.injEq] at he;omega
 have k_all:all_c≤9223372036854775807:=by obtain ⟨_,_,he,_,hl⟩:=h_all.slice;simp only [Value.slice.injEq,maxLen] at he hl;omega
 have hao:all.length≤k:=by rw [ho];simp;omega
 refine VC.rs (VO.z (.lss rfl rfl) (VO.nil (VC.seq ?_)))
 refine VC.cond rfl (fun hc38=>?_) (fun hc38=>?_)
 · refine VC.skip (Qj (VC.seq (VC.block (VC.rs ?_))))
   obtain ⟨x39,hx39⟩:∃ z_,(hss)[k]? =some z_:=⟨_,List.getElem?_eq_getElem QO⟩
   obtain ⟨gg39,oo39,ec39,ea39,hce39,hre39⟩:=(Ow.rd hL (Qb _)).elem hx39
   cases ea39
   obtain ⟨rfl,q39_0,q39_1⟩:=QnY (x0:=x39.1) (x1:=x39.2.1) (x2:=x39.2.2) hre39
   simp only [inK] at q39_0 q39_1
   refine VO.z (.ixI k rfl rfl Z3 rfl QO) ?_
   refine VO.z (.ldA 129 rfl Yx rfl hce39) ?_
   refine VO.alloc 141 rfl X6 (fun g40=>?_)
   refine VO.store (k:=3) (c':=[.int .i64 (x39.1),.int .i64 (x39.2.1),.slice x39.2.2.1 (x39.2.2.2.1) (x39.2.2.2.2)]) 141 rfl rfl (.inl Yx) rfl rfl rfl rfl rfl ?_
   refine VO.nil ?_
   refine VC.reg ?_
   refine VO.mv (VO.z (.fa rfl Jl rfl) (VO.z (.ld1 141 rfl YY rfl (Qa rfl rfl)) ?_))
   refine VO.bsl (cs:=[.slice x39.2.2.1 (x39.2.2.2.1) (x39.2.2.2.2)]) 143 rfl rfl QbD tz36 rfl rfl (fun g42=>?_)
   obtain ⟨mo44,cs44,hM44,hA44,hC44⟩:=h_all
   refine VO.app 137 rfl rfl rfl QbD tz36 rfl rfl hM44 hA44 (.row 143 _ _ _ 1 1 _ _ Tryz.underlying42 rfl (Qa rfl rfl)) (by simp [Value.oneCell']) (by simp only [maxLen];(exact QO)) QO (by decide) (fun v44 m44 hN44=>?_)
   have ho44:Qz .hdr m44 Qr v44 (all++[x39.2.2]):=Qz.one hC44 hN44 (show Rd .hdr _ [_] _ from rfl)
   obtain ⟨A44,c44,rfl,l44,k44⟩:=ho44.slc
   refine VO.as (VO.p6 141 137 136 129 135 0 (VO.nil (JE (Qj ?_))))
   refine VC.reg ?_
   refine VO.z (.add (c:=((k+1:Nat):Int)) rfl rfl Qx ⟨by exact QO,by exact QO⟩) ?_
   refine VO.mv (VO.nil ?_)
   exact Qj ⟨⟨k+1,all++[x39.2.2],A44,c44,m44⟩,⟨by omega,by (rw [ho,Yq ‹hss[k]? =some _›,List.map_append];rfl),ho44⟩,by exact QO,⟨esn,fun _ h=>Inv.sub h [137,136,129,135,0]⟩⟩
 · refine VC.exit (Zc (Zc (Zd (Qj (VC.rs (VO.mv ?_))))))
   refine VO.gather (l:=[all_m,mo]) 146 [137,135] rfl (fun hg45=>?_)
   have hops:Ow (.sl (.sl TOp)) (Zv [all_m,mo]) [Value.slice all_A (all.length) (all_c)] ((p_1_2++p_1_2).map fun x=>x.2.2):=Ow.mkOps hg45 (Qz.ow h_all rfl) (by have e_:all=hss.map hdO:=(by (rw [ho,List.take_of_length_le Qx];done));rw [e_,List.map_map];exact hO)
   refine VO.call 146 rfl fnOk12 rfl rfl (fun W hW=>Qh6 W (hW.t 146) hops (by (rw [List.length_map,List.length_append];omega)) (by exact Qjg _ hp.okl)) (fun v47 m47 hv47=>?_)
   subst hv47
   refine VO.mv (VO.w (.mv rfl) (VO.w (.mv rfl) ?_))
   refine VO.gcall 136 rfl ⟨_,rfl,rfl⟩ Qno rfl rfl (fun W hW=>QiC W (hW.t 136) ho36 (Rd.mono h1 (hW.o 136 0)) (by first | assumption) QO) (fun v48 m48 hv48=>?_)
   try dsimp only at hv48
   obtain ⟨rfl,w48_0⟩:=hv48
   refine VO.z (.pT rfl rfl) (VO.as (VO.nil (VC.ret ?_)))
   exact Xz 4 rfl (by first | rfl | (rfl))
section
open Go.ChangeShapes Go.WideShapes Go.ChangeAt Go.RowKit
theorem runScript_ok0:QfG Tryz.prog 60 (.sl QaE) (.inl 22)=true:=by kernel_rfl
theorem runScript_ok1:QfG Tryz.prog 60 (.sl .str) (.inl 23)=true:=by kernel_rfl
set_option maxRecDepth 100000 in
theorem runScript_lifted (os:Os) (started:os.Started) (H:Type) (enc:TypeId × Value→H):
  ReturnsInHanded {} Tryz.checked os 3 .any (Rows.runScriptSpec.pre6 enc Tryz.prog Tryz.f3 Rows.runScriptRow.domain false) (Rows.runScriptSpec.post enc Tryz.prog Tryz.f3 false true false false):=by
 refine returnsInHanded_of_change (C:=Tryz.checked) (by kernel_rfl) started (by kernel_rfl) Tryz.func3
  (ChangeSpec.witness6 (enc:=enc) (C:=Tryz.checked) false ⟨#[], #[.slice none 0 0,.slice none 0 0],[]⟩ 8 (by kernel_rfl) (by kernel_rfl) (by kernel_rfl) (by kernel_rfl)) ?_
 intro W base args ds gs before hval0 hW hcnd _
 have hval:∀ (j:Nat) t v,Tryz.f3.params[j]? =some t→args[j]? =some v→Value.okWide Tryz.prog W .any base t v:=hval0
 have hW':=hW
 obtain ⟨p,q,hA0,hV,rfl,hfz,hnd⟩:=hW
 have hA:DataW.TrodAll enc Tryz.prog W 0 (fun _=>true) true Tryz.f3.params.toList args.toList ds p:=hA0
 rw [Tryz.params3] at hA hval
 clear hA0 hval0
 obtain ⟨args⟩:=args
 obtain ⟨v0,r0,d0,e0,p0,q0,ha0,rfl,rfl,h0,hA0⟩:=trodAll_cons hA
 simp only at ha0;subst ha0
 obtain ⟨v1,r1,d1,e1,p1,q1,ha1,rfl,rfl,h1,hA1⟩:=trodAll_cons hA0
 subst ha1
 obtain ⟨rfl,rfl,rfl⟩:=trodAll_nil hA1
 obtain ⟨x0,hx0⟩:=Qnw 60 runScript_ok0 Tryz.underlying22 (hval 0 22 v0 rfl rfl) h0
 obtain ⟨x1,hx1⟩:=Qnw 60 runScript_ok1 Tryz.underlying23 (hval 1 23 v1 rfl rfl) h1
 refine (QmJ (QgB W hx0 hx1)).mono fun e W' ⟨he,hg⟩=>?_
 subst he
 exact ⟨_,rfl,Qmp hW' hg laidOut_ok (by kernel_rfl) rfl Tryz.underlying4 rfl rfl rfl rfl⟩
theorem runScript_joined:joinedFacts Tryz.prog 3 Tryz.f3 Rows.runScriptSpec Rows.runScriptRow=true:=by
 unfold joinedFacts
 rw [laidOut_ok,mapsRowed_ok,stopsHeard_ok,mayEnter_ok,lifts_ok,make_ok]
 kernel_rfl
theorem runScript_proved:Rows.RunScriptSaid:=
  OpenClaim.holds_of_wide 3 Tryz.f3 rfl rfl rfl rfl rfl rfl rfl ⟨rfl,rfl,rfl,rfl,rfl⟩ rfl rfl rfl rfl rfl (by kernel_rfl) Tryz.func3 runScript_joined
    (of_decide_eq_true (by kernel_rfl)) (by unfold Func.isWrapper;first | (rw [if_pos (by decide+kernel)];kernel_rfl) | (rw [if_neg (by decide+kernel)];exact ⟨rfl,rfl⟩))
    (fun os started H enc _=>runScript_lifted os started H enc)
#print axioms runScript_proved
end
end Go.Proofs.YtgmdjhdgaddigaaGreat
