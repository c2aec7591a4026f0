/- Part 3 of the proof of LWalScript: what it needs of the library, the walks and the plain laws. Conditions: those named in each theorem. -/
import Derived.Test.YtdoamgdanlnlfaaGreatLWalScriptM2
set_option linter.unusedVariables false
set_option linter.unusedSimpArgs false
set_option maxRecDepth 4000
namespace Go.Proofs.YtdoamgdanlnlfaaGreat
theorem QbW:JR Tryz.prog 113=true:=by kernel_rfl
theorem QjZ:JR Tryz.prog 116=true:=by kernel_rfl
theorem QjW:JR Tryz.prog 129=true:=by kernel_rfl
theorem Qcs:JR Tryz.prog 130=true:=by kernel_rfl
theorem Qqe:JR Tryz.prog 133=true:=by kernel_rfl
theorem Qqb:JR Tryz.prog 138=true:=by kernel_rfl
theorem QhE:JR Tryz.prog 141=true:=by kernel_rfl
theorem tz154:tz Tryz.prog 154=some [.slice none 0 0,.int .i64 0,.bool false]:=by kernel_rfl
theorem Yl {P:Prop} (h:P:=by have hf:=QpX hp (by first | exact .inl (by omega) | exact .inr (by assumption));first | (rw [QnS (Prod.ext hf.1 hf.2) (by first | exact .inl (by assumption) | exact .inr (by assumption))] <;> rfl) | (rw [Qmc (Prod.ext hf.1 hf.2) (by assumption) (by omega)] <;> rfl)):P:=h
set_option maxHeartbeats 1000000 in
theorem QoU (W:World) {v0:Value} {d0:List UInt8} (h0:Rd (.sl .byte) (wm W) [v0] d0):Qi Tryz.prog 124 [v0] W (Qx) (fun v m'=>∃ (s0:Value),v= .tuple #[s0,.int .i64 ((YD d0).2.1),.int .i64 ((YD d0).2.2)]∧Ow (.sl TOp) m' [s0] ((YD d0).1)):=by
 obtain ⟨A0,c0,rfl,l0,k0⟩:=h0.slc
 refine Qi.ofA (n:=48) Tryz.func124 rfl rfl rfl ?_
 refine VC.rs (VO.as (VO.as (VO.as (VO.k4 0 2 3 4 (VC.rs (VO.mv ?_))))))
 refine VO.z (.bst (cs:=[.slice A0 (d0.length) (c0),.int .i64 (0),.bool false]) rfl YW tz154 rfl) ?_
 refine VO.box (cs:=[.slice A0 (d0.length) (c0),.int .i64 (0),.bool false]) 102 rfl rfl rfl (fun g1=>?_)
 refine VO.as (VO.k5 0 2 3 4 5 (VC.rs (VO.as (VO.p2 102 0 (VO.k6 0 2 3 4 5 6 (VC.seq (VC.rs (VO.mv ?_))))))))
 refine VO.call 102 rfl QhF rfl rfl (fun W hW=>QhX W (d0:=(d0,0,false)) (hW.t 102) (Rd.mono h0 (hW.o 102 0)) bdk 8 bdk Z2) (fun v3 m3 hv3=>?_)
 try dsimp only at hv3
 obtain ⟨rfl,rfl,w3_0_1⟩:=hv3
 have hfa4:=(Q5 (B:=d0) (m:=8) (s:=(0,false)) Z2 Qn).1
 have hfa5:=(Q5 (B:=d0) (m:=8) (s:=(0,false)) Z2 Qn).1.1
 have hfa6:=(Q5 (B:=d0) (m:=8) (s:=(0,false)) Z2 Qn).1.2
 have hfa7:=(Q5 (B:=d0) (m:=8) (s:=(0,false)) Z2 Qn).2
 simp only [inK] at w3_0_1
 refine VO.as (VO.k7 0 2 3 4 5 6 7 (VC.block ?_))
 refine VC.inv ((108,Qx)::_) (fun _ h=>h.nilc 108) ?_
 refine VC.loop (G:=Int × (List UInt8) × (List DOp) × (Option Addr) × Nat × Mem × Int × Bool) (fun g=>[(2,.slice (g.2.2.2.1) ((g.2.2.1).length) ((g.2.2.2.2.1))),(6,str ((g.2.1))),(7,.int .i64 ((g.1))),(0,.slice A0 (d0.length) (c0)),(3,.int .i64 (0)),(4,.int .i64 (0)),(5,.pointer (some ⟨g1,0,none⟩))]) (fun g=>[(108,(g.2.2.2.2.2.1)),(102,QM g1 (.cells #[.slice A0 (d0.length) (c0),.int .i64 ((g.2.2.2.2.2.2.1)),.bool (g.2.2.2.2.2.2.2)] 154 (0,0))),(0,wm W)]) (fun g=>(QcV d0 (Qb d0 8 (0,false)).1.toNat [] (Qb d0 8 (0,false)).2=((g.2.2.1)++(QcV d0 (g.1).toNat (g.2.1) ((g.2.2.2.2.2.2.1),(g.2.2.2.2.2.2.2))).1,(QcV d0 (g.1).toNat (g.2.1) ((g.2.2.2.2.2.2.1),(g.2.2.2.2.2.2.2))).2))∧(rOk d0 ((g.2.2.2.2.2.2.1),(g.2.2.2.2.2.2.2)))∧((g.1)≤8)∧((g.2.2.1).length+(g.1).toNat≤8)∧((g.2.1).length+16*(g.1).toNat≤128)∧(QH TOp (g.2.2.2.2.2.1) Qx (.slice (g.2.2.2.1) (g.2.2.1).length (g.2.2.2.2.1)) (g.2.2.1))) (fun g=>(g.1).toNat) ((Qb d0 8 (0,false)).1,[],[],none,0,Qx,(Qb d0 8 (0,false)).2.1,(Qb d0 8 (0,false)).2.2) (⟨by rfl,by assumption,by omega,by (simp;omega),by (simp;omega),(QH.nil TOp Qx Qx)⟩) ⟨esn,fun _ h=>h.sub [108,102,0]⟩ ?_
 rintro ⟨k,last,l,l_A,l_c,l_m,at_,bad⟩ ⟨hp,hok,hk,hlen,hla,h_l⟩
 replace hp:QcV d0 (Qb d0 8 (0,false)).1.toNat [] (Qb d0 8 (0,false)).2=(l++(QcV d0 k.toNat last (at_,bad)).1,(QcV d0 k.toNat last (at_,bad)).2):=hp
 replace hok:rOk d0 (at_,bad):=hok
 replace hk:k≤8:=hk
 replace hlen:l.length+k.toNat≤8:=hlen
 replace hla:last.length+16*k.toNat≤128:=hla
 replace h_l:QH TOp l_m Qx (.slice l_A l.length l_c) l:=h_l
 show VC _ _ _ _ _ [(2,.slice l_A (l.length) (l_c)),(6,str (last)),(7,.int .i64 (k)),(0,.slice A0 (d0.length) (c0)),(3,.int .i64 (0)),(4,.int .i64 (0)),(5,.pointer (some ⟨g1,0,none⟩))] [(108,l_m),(102,QM g1 (.cells #[.slice A0 (d0.length) (c0),.int .i64 (at_),.bool bad] 154 (0,0))),(0,wm W)]
 have l_l:l.length≤l_c:=by obtain ⟨_,_,he,hl,_⟩:=h_l.slice;simp only [Value.slice.injEq] at he;omega
 have k_l:l_c≤9223372036854775807:=by obtain ⟨_,_,he,_,hl⟩:=h_l.slice;simp only [Value.slice.injEq,maxLen] at he hl;omega
 obtain ⟨hoka,hokb⟩:=(show 0≤at_∧at_≤d0.length from hok)
 refine VC.seq (VC.rs (VO.mv (VO.z (.gtr rfl rfl) (VO.mv ?_))))
 refine VO.dec (t:=16) rfl (fun hc9=>?_) (fun hc9=>?_)
 refine VO.w (.mv rfl) (VO.w (.nilp rfl) (VO.w (.fa rfl YW rfl) (VO.w (.ld1 102 rfl tk4 rfl (Qa rfl rfl)) (VO.w (.not rfl) (VO.z (.pT rfl rfl) (VO.k8 0 2 3 4 5 6 7 22 ?_))))))
 refine VC.condBN rfl (fun hc10=>?_) (fun hc10=>?_)
 refine VC.skip (Qm (VC.seq (VC.block (VC.rs (VO.mv (VO.mv ?_))))))
 refine VO.call 102 rfl Qqb rfl rfl (fun W hW=>bOp_ok W (d0:=(d0,at_,bad)) (hW.t 102) (Rd.mono h0 (hW.o 102 0)) bdk last bdm Z2 bd) (fun v11 m11 hv11=>?_)
 try dsimp only at hv11
 obtain ⟨s11_0,rfl,f11_0,rfl,w11_0_1⟩:=hv11
 have hfa12:=(QgD (B:=d0) (last:=last) (s:=(at_,bad)) Z2 Qn).1
 have hfa13:=(QgD (B:=d0) (last:=last) (s:=(at_,bad)) Z2 Qn).1.1
 have hfa14:=(QgD (B:=d0) (last:=last) (s:=(at_,bad)) Z2 Qn).1.2
 have hfa15:=(QgD (B:=d0) (last:=last) (s:=(at_,bad)) Z2 Qn).2.1
 have hfa16:=(QgD (B:=d0) (last:=last) (s:=(at_,bad)) Z2 Qn).2.2
 simp only [inK] at w11_0_1
 obtain ⟨rfl,q11_0_1,q11_0_2⟩:=XF (x0:=((rOp d0 last (at_,bad)).1).1) (x1:=((rOp d0 last (at_,bad)).1).2.1) (x2:=((rOp d0 last (at_,bad)).1).2.2) (f11_0.rd (Qc _))
 simp only [maxLen] at q11_0_1
 simp only [maxLen] at q11_0_2
 refine VO.alloc 118 rfl QcS (fun g17=>?_)
 refine VO.store (k:=3) (c':=[.bool (((rOp d0 last (at_,bad)).1).1),str (((rOp d0 last (at_,bad)).1).2.1),str (((rOp d0 last (at_,bad)).1).2.2)]) 118 rfl rfl (.inl Qc5) rfl rfl rfl rfl rfl ?_
 refine VO.p4 118 102 108 0 (VO.k9 0 2 3 4 5 6 7 8 22 (VC.rs (VO.mv (VO.z (.ldA 118 rfl Qc5 rfl (Qa rfl rfl)) ?_))))
 refine VO.bsl (cs:=[.bool (((rOp d0 last (at_,bad)).1).1),str (((rOp d0 last (at_,bad)).1).2.1),str (((rOp d0 last (at_,bad)).1).2.2)]) 120 rfl rfl ZH QcS rfl rfl (fun g19=>?_)
 obtain ⟨mo21,cs21,hM21,hA21,hC21⟩:=h_l
 refine VO.app 108 rfl rfl rfl ZH QcS rfl rfl hM21 hA21 (.row 120 _ _ _ 1 1 _ _ Tryz.underlying35 rfl (Qa rfl rfl)) (by simp [Value.oneCell']) bdm bd (by decide) (fun v21 m21 hN21=>?_)
 have ho21:QH TOp m21 Qx v21 (l++[((rOp d0 last (at_,bad)).1)]):=QH.one hC21 hN21 (show Rd TOp _ _ ((rOp d0 last (at_,bad)).1) from (QdI (m:=_) (((rOp d0 last (at_,bad)).1).1) (((rOp d0 last (at_,bad)).1).2.1) (((rOp d0 last (at_,bad)).1).2.2) bdm bdm))
 obtain ⟨A21,c21,rfl,l21,k21⟩:=ho21.slc
 refine VO.as (VO.k9 0 2 3 4 5 6 7 8 22 ?_)
 refine VC.reg ?_
 refine VO.z (.fa rfl Zy rfl) (VO.z (.ld1 118 rfl tk9 rfl (Qa rfl rfl)) (VO.as (VO.k9 0 2 3 4 5 6 7 8 22 (JL (Qm ?_)))))
 refine VC.reg ?_
 refine VO.mv ?_
 refine VO.z (.sub rfl rfl rfl ⟨bd,bd⟩) ?_
 refine VO.as (VO.p4 118 102 108 0 (VO.k9 0 2 3 4 5 6 7 8 22 ?_))
 exact Qm ⟨⟨k - 1,((rOp d0 last (at_,bad)).1).2.1,l++[((rOp d0 last (at_,bad)).1)],A21,c21,m21,(rOp d0 last (at_,bad)).2.1,(rOp d0 last (at_,bad)).2.2⟩,⟨by exact Qoq hp Qn Qo,by assumption,by omega,by (simp only [List.length_append,List.length_cons,List.length_nil];omega),by dsimp only;omega,ho21⟩,bd,⟨esn,fun _ h=>Inv.sub h [108,102,0]⟩⟩
 · refine VC.exit (Zh (Zh (Zi (Qm (VC.seq (VC.rs (VO.mv (VO.z (.nilp rfl) (VO.z (.fa rfl YW rfl) (VO.z (.ld1 102 rfl tk4 rfl (Qa rfl rfl)) (VO.mv ?_)))))))))))
   refine VO.known (t:=38) true rfl hc10 ?_
   refine VO.gN (VO.gN (VO.gN (VO.z (.pT rfl rfl) (VO.p3 108 102 0 (VO.k9 0 2 3 4 5 6 7 22 42 (VC.condT rfl (VC.rs (VO.as (VO.as (VO.as (VO.k9 0 2 3 4 5 6 7 22 42 ?_)))))))))))
   refine VC.ret (QZ ?_)
   refine QcT 2 3 4 [] fun hS_=>?_
   dsimp only [QE]
   have he0:((YD d0).1:Ty.Den (.sl TOp))=[]:=by first | rfl | (exact Yl)
   refine ⟨.slice none (0) (0),?_,?_⟩
   rotate_left
   · rw [he0];exact (Ow.nil _ _)
   all_goals (first | rfl | (exact Yl))
 refine VO.gN (VO.gN (VO.gN (VO.gN (VO.gN (VO.z (.pF rfl rfl) (VO.k8 0 2 3 4 5 6 7 22 (VC.condF rfl (VC.exit (Zh (Zh (Zi ?_)))))))))))
 refine Qm (VC.seq (VC.rs (VO.mv (VO.z (.nilp rfl) (VO.z (.fa rfl YW rfl) (VO.z (.ld1 102 rfl tk4 rfl (Qa rfl rfl)) (VO.mv ?_)))))))
 refine VO.decB (t:=38) rfl (fun hc22=>?_) (fun hc22=>?_)
 · refine VO.gN (VO.gN (VO.gN (VO.z (.pT rfl rfl) (VO.p3 108 102 0 (VO.k9 0 2 3 4 5 6 7 22 42 (VC.condT rfl (VC.rs (VO.as (VO.as (VO.as (VO.k9 0 2 3 4 5 6 7 22 42 ?_)))))))))))
   refine VC.ret (QZ ?_)
   refine QcT 2 3 4 [] fun hS_=>?_
   dsimp only [QE]
   have he0:((YD d0).1:Ty.Den (.sl TOp))=[]:=by first | rfl | (exact Yl)
   refine ⟨.slice none (0) (0),?_,?_⟩
   rotate_left
   · rw [he0];exact (Ow.nil _ _)
   all_goals (first | rfl | (exact Yl))
 refine VO.w (.mv rfl) ?_
 refine VO.gcallN 123 rfl ⟨_,rfl,rfl⟩ QjX rfl (fun W hW=>Qf4 W (QH.rd h_l (hW.t 108) (JF _))) (fun v23 m23 hv23=>?_)
 subst hv23
 have hfa24:=ZZ l
 refine VO.w (.neq rfl rfl) (VO.z (.pF rfl rfl) (VO.p3 108 102 0 (VO.k9 0 2 3 4 5 6 7 22 42 ?_)))
 refine VC.cond rfl (fun hc25=>?_) (fun hc25=>?_)
 · refine VC.rs (VO.as (VO.as (VO.as (VO.k9 0 2 3 4 5 6 7 22 42 (VC.ret (QZ ?_))))))
   refine QcT 2 3 4 [] fun hS_=>?_
   dsimp only [QE]
   have he0:((YD d0).1:Ty.Den (.sl TOp))=[]:=by first | rfl | (exact Yl)
   refine ⟨.slice none (0) (0),?_,?_⟩
   rotate_left
   · rw [he0];exact (Ow.nil _ _)
   all_goals (first | rfl | (exact Yl))
 refine VC.skip (Qm (VC.seq ?_))
 refine VC.regD _ 6 [(0,true),(1,true),(2,true),(3,true),(4,true),(5,true)] follows (by kernel_rfl) (fun _ h=>h.sub [108,102,0]) ?_
 refine VD.z rfl (.mv rfl) (VD.z rfl (.mv rfl) (VD.z rfl (.nilp rfl) (VD.z rfl (.fa rfl YW rfl) (VD.z rfl (.ld1 102 rfl tk3 rfl (Qa rfl rfl)) (VD.z rfl (.as rfl) ?_)))))
 refine VD.nil rfl ?_ rfl
 refine VO.as (VO.as (VO.k9 0 2 3 4 5 6 7 22 42 (Qm (VC.ret ?_))))
 refine QcT 2 3 4 [108] fun hS_=>?_
 dsimp only [QE]
 exact ⟨Value.slice l_A (l.length) (l_c),(by first | rfl | exact Yl),(Ow.cg (Ow.up (QH.ow h_l rfl) (hS_.1 _ (.head _))) (by first | rfl | exact Yl))⟩
theorem Qeg (W:World) {v0:Value} {d0:List DOp} (h0:Rd (.sl TOp) (wm W) [v0] d0):Qi Tryz.prog 116 [v0] W (Qx) (fun v m'=>v= .int .i64 (Qs d0)):=by
 obtain ⟨A0,c0,rfl,l0,k0⟩:=h0.slc
 refine Qi.ofA (n:=25) Tryz.func116 rfl rfl rfl ?_
 refine VC.rs (VO.as (VO.k2 0 2 (VC.seq (VC.rs (VO.mv (VO.z (.lenS rfl ZH) (VO.z (.eql rfl rfl) (VO.k3 0 2 7 ?_))))))))
 refine VC.cond rfl (fun hc1=>?_) (fun hc1=>?_)
 refine VC.rs (VO.as (VO.p1 0 (VO.k3 0 2 7 (VC.ret (QZ ?_)))))
 exact Xl 2 rfl (by first | rfl | (congr 1;first | exact (YH ‹_›).symm | exact (Xc ‹_›).symm | exact (XJ ‹_› ‹_› ‹d0[k]? =some _› ‹_›).symm | exact (Xd ‹¬ (d0.length:Int)=0› ‹¬ (8:Int) < d0.length› ha ‹_›).symm))
 refine VC.skip (Qm (VC.seq (VC.rs (VO.mv (VO.z (.lenS rfl ZH) (VO.z (.gtr rfl rfl) (VO.p1 0 (VO.k4 0 2 7 10 ?_))))))))
 refine VC.cond rfl (fun hc2=>?_) (fun hc2=>?_)
 refine VC.rs (VO.as (VO.k4 0 2 7 10 (VC.ret (QZ ?_))))
 exact Xl 2 rfl (by first | rfl | (congr 1;first | exact (YH ‹_›).symm | exact (Xc ‹_›).symm | exact (XJ ‹_› ‹_› ‹d0[k]? =some _› ‹_›).symm | exact (Xd ‹¬ (d0.length:Int)=0› ‹¬ (8:Int) < d0.length› ha ‹_›).symm))
 refine VC.skip (Qm (VC.seq (VC.rs (VO.as (VO.k5 0 2 3 7 10 (VC.block ?_))))))
 refine VC.loop (G:=Nat) (fun k=>[(3,.int .i64 (((k:Nat):Int))),(0,.slice A0 (d0.length) (c0)),(7,.bool (decide (((d0.length:Nat):Int)=0))),(10,.bool (decide (8 < ((d0.length:Nat):Int))))]) (fun k=>[(0,wm W)]) (fun k=>(k≤d0.length)∧(∀ o∈d0.take k,Qjh o)) (fun k=>d0.length - k) 0 (⟨by omega,by simp⟩) ⟨esn,fun _ h=>h.sub [0]⟩ ?_
 rintro k ⟨hk,ha⟩
 refine VC.seq (VC.rs (VO.mv (VO.mv (VO.z (.lenS rfl ZH) (VO.z (.lss rfl rfl) (VO.k5 0 3 7 10 14 ?_))))))
 refine VC.cond rfl (fun hc3=>?_) (fun hc3=>?_)
 refine VC.skip (Qm (VC.seq (VC.block (VC.rs (VO.mv (VO.mv ?_))))))
 obtain ⟨x4,hx4⟩:∃ z_,(d0)[k]? =some z_:=⟨_,List.getElem?_eq_getElem bd⟩
 obtain ⟨gg4,oo4,ec4,ea4,hce4,hre4⟩:=h0.elem hx4
 cases ea4
 obtain ⟨rfl,q4_1,q4_2⟩:=XF (x0:=x4.1) (x1:=x4.2.1) (x2:=x4.2.2) hre4
 simp only [maxLen] at q4_1
 simp only [maxLen] at q4_2
 refine VO.z (.ixI k rfl rfl ZH rfl bd) ?_
 refine VO.z (.ldA 0 rfl Qc5 rfl hce4) ?_
 refine VO.callN 105 rfl Qqe rfl (fun W hW=>Qhj W (Rd.mono hre4 (hW.t 0))) (fun v5 m5 hv5=>?_)
 subst hv5
 refine VO.as (VO.p1 0 (VO.k6 0 3 4 7 10 14 (VC.rs (VO.mv (VO.z (.neq rfl rfl) (VO.k7 0 3 4 7 10 14 23 ?_))))))
 refine VC.cond rfl (fun hc6=>?_) (fun hc6=>?_)
 refine VC.rs (VO.mv (VO.as (VO.k8 0 2 3 4 7 10 14 23 (VC.ret (JO (QZ (QZ (JO (QZ ?_)))))))))
 exact Xl 2 rfl (by first | rfl | (congr 1;first | exact (YH ‹_›).symm | exact (Xc ‹_›).symm | exact (XJ ‹_› ‹_› ‹d0[k]? =some _› ‹_›).symm | exact (Xd ‹¬ (d0.length:Int)=0› ‹¬ (8:Int) < d0.length› ha ‹_›).symm))
 refine VC.skip (JL (Qm ?_))
 refine VC.reg ?_
 refine VO.mv ?_
 refine VO.z (.add (c:=((k+1:Nat):Int)) rfl rfl Qn ⟨bd,bd⟩) ?_
 refine VO.as (VO.k7 0 3 4 7 10 14 23 ?_)
 exact Qm ⟨k+1,⟨by omega,by exact QhY ha ‹d0[k]? =some _› (Qm1 (Decidable.not_not.1 ‹¬ ¬ _›))⟩,bd,⟨esn,fun _ h=>Inv.sub h [0]⟩⟩
 refine VC.exit (Zh (Zh (Zi (Qm (VC.rs (VO.as (VO.p1 0 (VO.k6 0 2 3 7 10 14 (VC.ret ?_)))))))))
 exact Xl 2 rfl (by first | rfl | (congr 1;first | exact (YH ‹_›).symm | exact (Xc ‹_›).symm | exact (XJ ‹_› ‹_› ‹d0[k]? =some _› ‹_›).symm | exact (Xd ‹¬ (d0.length:Int)=0› ‹¬ (8:Int) < d0.length› ha ‹_›).symm))
theorem QbL (W:World) {v0:Value} {d0:List UInt8} (h0:Rd (.sl .byte) (wm W) [v0] d0) (d1:Int) (h1:inK .i64 d1) (e0:d0.length≤140737488355000) (e1:0≤d1):Qi Tryz.prog 134 [v0,.int .i64 d1] W (Qx) (fun v m'=>∃ (s0:Value),v=s0∧Ow (.sl .byte) m' [s0] (d0++JY d1.toNat)):=by
 obtain ⟨A0,c0,rfl,l0,k0⟩:=h0.slc
 have h1':=h1;simp only [inK] at h1'
 refine Qi.ofA (n:=9) Tryz.func134 rfl rfl rfl ?_
 refine VC.rs (VO.as (VO.k3 0 1 4 (VC.rs (VO.mv (VO.mv ?_)))))
 refine VO.z (.cvI (c:=((d1).toNat:Int)) rfl ⟨_,Tryz.underlying3⟩ Tryz.underlying130 (by rw [IntWalk.u64_in _ bd];first | omega | (first | exact bd))) ?_
 refine VO.callN 101 rfl Qny rfl (fun W hW=>QgE W (Rd.mono h0 (hW.t 0)) ((d1).toNat) bd bd) (fun v1 m1 hv1=>?_)
 obtain ⟨s1_0,rfl,f1_0⟩:=hv1
 have hfa2:=JT (x:=((d1).toNat)) (by first | omega | exact QkN Qo _)
 obtain ⟨A1_0,c1_0,eq1_0,l1_0,k1_0⟩:=f1_0.slc
 subst eq1_0
 refine VO.as (VO.k3 0 1 4 (VC.ret ?_))
 refine Yd 4 [101] fun hS_=>?_
 dsimp only [QE]
 exact ⟨Value.slice A1_0 ((d0++JY ((d1).toNat)).length) (c1_0),(by first | rfl | (simp [*];done)),(Ow.cg (Ow.up f1_0 (hS_.1 _ (.head _))))⟩
theorem Zm {P:Prop} (h:P:=by have hf:=Qos hp (by first | exact .inl (by omega) | exact .inr (by assumption));first | (rw [QjQ (Prod.ext hf.1 hf.2) (by first | exact .inl (by assumption) | exact .inr (by assumption))] <;> rfl) | (rw [QiD (Prod.ext hf.1 hf.2) (by assumption) (by omega)] <;> first | rfl | assumption)):P:=h
set_option maxHeartbeats 1000000 in
theorem Qok (W:World) {g0:Nat} {E0:TypeId} {d0:Qap} {b0_0:Value} (hm:mle (QM g0 (.cells [(b0_0:Value),.int .i64 d0.2.1,.bool d0.2.2].toArray E0 (0,0))) (wm W)) (h0_0:Rd (.sl .byte) (J4 (wm W) (QM g0 (.cells [(b0_0:Value),.int .i64 d0.2.1,.bool d0.2.2].toArray E0 (0,0)))) [b0_0] d0.1) (h0_1:inK .i64 d0.2.1) (e0:rOk d0.1 d0.2):Qi Tryz.prog 131 [.pointer (some ⟨g0,0,none⟩)] W (QM g0 (.cells [(b0_0:Value),.int .i64 d0.2.1,.bool d0.2.2].toArray E0 (0,0))) (fun v m'=>∃ (s0:Value),∃ (p0:Mem),v=s0∧QA m' [p0,QM g0 (.cells [(b0_0:Value),.int .i64 ((JE d0.1 d0.2).2.1),.bool ((JE d0.1 d0.2).2.2)].toArray E0 (0,0))]∧Ow (.sl TOp) p0 [s0] ((JE d0.1 d0.2).1)∧inK .i64 ((JE d0.1 d0.2).2.1)):=by
 have e0_:=e0;obtain ⟨e0a,e0b⟩:=e0_
 obtain ⟨A0_0,c0_0,rfl,l0_0,k0_0⟩:=h0_0.slc
 have h0_1':=h0_1;simp only [inK] at h0_1'
 refine Qi.ofB (n:=78) hm Tryz.func131 rfl rfl rfl ?_
 refine VC.rs (VO.as (VO.k2 0 2 (VC.rs (VO.as (VO.k3 0 2 3 (VC.rs (VO.as (VO.p2 0 1 (VO.k4 0 2 3 4 (VC.seq (VC.rs ?_)))))))))))
 refine VO.mv ?_
 refine VO.call 1 rfl Qcs rfl rfl (fun W hW=>Qaj W (d0:=d0) (hW.t 1) (Rd.mono h0_0 (hW.o 1 0)) bdk 8 bdk Z2) (fun v1 m1 hv1=>?_)
 obtain ⟨rfl,rfl,w1_0_1⟩:=hv1
 have hfa2:=(Q5 (B:=d0.1) (m:=8) (s:=d0.2) Z2 Qn).1
 have hfa3:=(Q5 (B:=d0.1) (m:=8) (s:=d0.2) Z2 Qn).1.1
 have hfa4:=(Q5 (B:=d0.1) (m:=8) (s:=d0.2) Z2 Qn).1.2
 have hfa5:=(Q5 (B:=d0.1) (m:=8) (s:=d0.2) Z2 Qn).2
 simp only [inK] at w1_0_1
 refine VO.as (VO.k5 0 2 3 4 5 (VC.block ?_))
 refine VC.inv ((106,Qx)::_) (fun _ h=>h.nilc 106) ?_
 refine VC.loop (G:=Int × (List UInt8) × (List DOp) × (Option Addr) × Nat × Mem × Int × Bool) (fun g=>[(3,.slice (g.2.2.2.1) ((g.2.2.1).length) ((g.2.2.2.2.1))),(4,str ((g.2.1))),(5,.int .i64 ((g.1))),(0,.pointer (some ⟨g0,0,none⟩)),(2,.slice none (0) (0))]) (fun g=>[(106,(g.2.2.2.2.2.1)),(1,QM g0 (.cells #[.slice A0_0 (d0.1.length) (c0_0),.int .i64 ((g.2.2.2.2.2.2.1)),.bool (g.2.2.2.2.2.2.2)] E0 (0,0))),(0,J4 (wm W) (QM g0 (.cells #[.slice A0_0 (d0.1.length) (c0_0),.int .i64 (d0.2.1),.bool d0.2.2] E0 (0,0))))]) (fun g=>(XP d0.1 (Qb d0.1 8 d0.2).1.toNat [] (Qb d0.1 8 d0.2).2=((g.2.2.1)++(XP d0.1 (g.1).toNat (g.2.1) ((g.2.2.2.2.2.2.1),(g.2.2.2.2.2.2.2))).1,(XP d0.1 (g.1).toNat (g.2.1) ((g.2.2.2.2.2.2.1),(g.2.2.2.2.2.2.2))).2))∧(rOk d0.1 ((g.2.2.2.2.2.2.1),(g.2.2.2.2.2.2.2)))∧((g.1)≤8)∧((g.2.2.1).length+(g.1).toNat≤8)∧((g.2.1).length+16*(g.1).toNat≤128)∧(QH TOp (g.2.2.2.2.2.1) Qx (.slice (g.2.2.2.1) (g.2.2.1).length (g.2.2.2.2.1)) (g.2.2.1))) (fun g=>(g.1).toNat) ((Qb d0.1 8 d0.2).1,[],[],none,0,Qx,(Qb d0.1 8 d0.2).2.1,(Qb d0.1 8 d0.2).2.2) (⟨by rfl,by assumption,by omega,by (simp;omega),by (simp;omega),(QH.nil TOp Qx Qx)⟩) ⟨esn,fun _ h=>h.sub [106,1,0]⟩ ?_
 rintro ⟨k,last,l,l_A,l_c,l_m,at_,bad⟩ ⟨hp,hok,hk,hlen,hla,h_l⟩
 replace hp:XP d0.1 (Qb d0.1 8 d0.2).1.toNat [] (Qb d0.1 8 d0.2).2=(l++(XP d0.1 k.toNat last (at_,bad)).1,(XP d0.1 k.toNat last (at_,bad)).2):=hp
 replace hok:rOk d0.1 (at_,bad):=hok
 replace hk:k≤8:=hk
 replace hlen:l.length+k.toNat≤8:=hlen
 replace hla:last.length+16*k.toNat≤128:=hla
 replace h_l:QH TOp l_m Qx (.slice l_A l.length l_c) l:=h_l
 show VC _ _ _ _ _ [(3,.slice l_A (l.length) (l_c)),(4,str (last)),(5,.int .i64 (k)),(0,.pointer (some ⟨g0,0,none⟩)),(2,.slice none (0) (0))] [(106,l_m),(1,QM g0 (.cells #[.slice A0_0 (d0.1.length) (c0_0),.int .i64 (at_),.bool bad] E0 (0,0))),(0,J4 (wm W) (QM g0 (.cells #[.slice A0_0 (d0.1.length) (c0_0),.int .i64 (d0.2.1),.bool d0.2.2] E0 (0,0))))]
 have l_l:l.length≤l_c:=by obtain ⟨_,_,he,hl,_⟩:=h_l.slice;simp only [Value.slice.injEq] at he;omega
 have k_l:l_c≤9223372036854775807:=by obtain ⟨_,_,he,_,hl⟩:=h_l.slice;simp only [Value.slice.injEq,maxLen] at he hl;omega
 obtain ⟨hoka,hokb⟩:=(show 0≤at_∧at_≤d0.1.length from hok)
 refine VC.seq (VC.rs (VO.mv (VO.z (.gtr rfl rfl) (VO.mv ?_))))
 refine VO.dec (t:=14) rfl (fun hc7=>?_) (fun hc7=>?_)
 refine VO.w (.mv rfl) (VO.w (.nilp rfl) (VO.w (.fa rfl Yb rfl) (VO.w (.ld1 1 rfl tk4 rfl (Qa rfl rfl)) (VO.w (.not rfl) (VO.z (.pT rfl rfl) (VO.k6 0 2 3 4 5 20 ?_))))))
 refine VC.condBN rfl (fun hc8=>?_) (fun hc8=>?_)
 refine VC.skip (Qm (VC.seq (VC.block (VC.rs (VO.mv ?_)))))
 refine VO.call 1 rfl Qcs rfl rfl (fun W hW=>Qaj W (d0:=(d0.1,at_,bad)) (hW.t 1) (Rd.mono h0_0 (hW.o 1 0)) bdk 1 bdk Z2) (fun v9 m9 hv9=>?_)
 try dsimp only at hv9
 obtain ⟨rfl,rfl,w9_0_1⟩:=hv9
 have hfa10:=(Q5 (B:=d0.1) (m:=1) (s:=(at_,bad)) Z2 Qn).1
 have hfa11:=(Q5 (B:=d0.1) (m:=1) (s:=(at_,bad)) Z2 Qn).1.1
 have hfa12:=(Q5 (B:=d0.1) (m:=1) (s:=(at_,bad)) Z2 Qn).1.2
 have hfa13:=(Q5 (B:=d0.1) (m:=1) (s:=(at_,bad)) Z2 Qn).2
 simp only [inK] at w9_0_1
 refine VO.as (VO.p3 1 106 0 (VO.k7 0 2 3 4 5 6 20 (VC.rs (VO.mv (VO.mv ?_)))))
 refine VO.z (.lenT rfl Tryz.underlying9) ?_
 refine VO.call 1 rfl Qcs rfl rfl (fun W hW=>Qaj W (d0:=(d0.1,(Qb d0.1 1 (at_,bad)).2)) (hW.t 1) (Rd.mono h0_0 (hW.o 1 0)) bdk ((last.length:Nat):Int) bdk Z2) (fun v14 m14 hv14=>?_)
 try dsimp only at hv14
 obtain ⟨rfl,rfl,w14_0_1⟩:=hv14
 have hfa15:=(Q5 (B:=d0.1) (m:=((last.length:Nat):Int)) (s:=((Qb d0.1 1 (at_,bad)).2)) Z2 Qn).1
 have hfa16:=(Q5 (B:=d0.1) (m:=((last.length:Nat):Int)) (s:=((Qb d0.1 1 (at_,bad)).2)) Z2 Qn).1.1
 have hfa17:=(Q5 (B:=d0.1) (m:=((last.length:Nat):Int)) (s:=((Qb d0.1 1 (at_,bad)).2)) Z2 Qn).1.2
 have hfa18:=(Q5 (B:=d0.1) (m:=((last.length:Nat):Int)) (s:=((Qb d0.1 1 (at_,bad)).2)) Z2 Qn).2
 simp only [inK] at w14_0_1
 refine VO.as (VO.k8 0 2 3 4 5 6 7 20 (VC.rs (VO.mv (VO.mv ?_))))
 refine VO.call 1 rfl Qcs rfl rfl (fun W hW=>Qaj W (d0:=(d0.1,(Qb d0.1 ((last.length:Nat):Int) ((Qb d0.1 1 (at_,bad)).2)).2)) (hW.t 1) (Rd.mono h0_0 (hW.o 1 0)) bdk 16 bdk Z2) (fun v19 m19 hv19=>?_)
 try dsimp only at hv19
 obtain ⟨rfl,rfl,w19_0_1⟩:=hv19
 have hfa20:=(Q5 (B:=d0.1) (m:=16) (s:=((Qb d0.1 ((last.length:Nat):Int) ((Qb d0.1 1 (at_,bad)).2)).2)) Z2 Qn).1
 have hfa21:=(Q5 (B:=d0.1) (m:=16) (s:=((Qb d0.1 ((last.length:Nat):Int) ((Qb d0.1 1 (at_,bad)).2)).2)) Z2 Qn).1.1
 have hfa22:=(Q5 (B:=d0.1) (m:=16) (s:=((Qb d0.1 ((last.length:Nat):Int) ((Qb d0.1 1 (at_,bad)).2)).2)) Z2 Qn).1.2
 have hfa23:=(Q5 (B:=d0.1) (m:=16) (s:=((Qb d0.1 ((last.length:Nat):Int) ((Qb d0.1 1 (at_,bad)).2)).2)) Z2 Qn).2
 simp only [inK] at w19_0_1
 refine VO.call 1 rfl QjW rfl rfl (fun W hW=>Qei W (d0:=(d0.1,(Qb d0.1 16 ((Qb d0.1 ((last.length:Nat):Int) ((Qb d0.1 1 (at_,bad)).2)).2)).2)) (hW.t 1) (Rd.mono h0_0 (hW.o 1 0)) bdk ((Qb d0.1 16 ((Qb d0.1 ((last.length:Nat):Int) ((Qb d0.1 1 (at_,bad)).2)).2)).1) bdk Z2 bd bd) (fun v24 m24 hv24=>?_)
 try dsimp only at hv24
 obtain ⟨s24_0,p24_0,rfl,hS24,f24_0,w24_0_1⟩:=hv24
 refine VO.inv _ (fun _ h=>h.parts (i:=1) rfl hS24 [125,126]) ?_
 have hfa27:=(Yx (B:=d0.1) (n:=((Qb d0.1 16 ((Qb d0.1 ((last.length:Nat):Int) ((Qb d0.1 1 (at_,bad)).2)).2)).1)) (s:=((Qb d0.1 16 ((Qb d0.1 ((last.length:Nat):Int) ((Qb d0.1 1 (at_,bad)).2)).2)).2)) Z2 Qn).1
 have hfa28:=(Yx (B:=d0.1) (n:=((Qb d0.1 16 ((Qb d0.1 ((last.length:Nat):Int) ((Qb d0.1 1 (at_,bad)).2)).2)).1)) (s:=((Qb d0.1 16 ((Qb d0.1 ((last.length:Nat):Int) ((Qb d0.1 1 (at_,bad)).2)).2)).2)) Z2 Qn).1.1
 have hfa29:=(Yx (B:=d0.1) (n:=((Qb d0.1 16 ((Qb d0.1 ((last.length:Nat):Int) ((Qb d0.1 1 (at_,bad)).2)).2)).1)) (s:=((Qb d0.1 16 ((Qb d0.1 ((last.length:Nat):Int) ((Qb d0.1 1 (at_,bad)).2)).2)).2)) Z2 Qn).1.2
 have hfa30:=(Yx (B:=d0.1) (n:=((Qb d0.1 16 ((Qb d0.1 ((last.length:Nat):Int) ((Qb d0.1 1 (at_,bad)).2)).2)).1)) (s:=((Qb d0.1 16 ((Qb d0.1 ((last.length:Nat):Int) ((Qb d0.1 1 (at_,bad)).2)).2)).2)) Z2 Qn).2
 simp only [inK] at w24_0_1
 obtain ⟨A24_0,c24_0,eq24_0,l24_0,k24_0⟩:=f24_0.slc
 subst eq24_0
 refine VO.as (VO.k9 0 2 3 4 5 6 7 8 20 (VC.seq ?_))
 refine VC.regD _ 10 [(0,true),(1,true),(2,true),(3,true),(4,true),(5,true),(6,true),(7,true),(8,true),(9,false)] follows (by kernel_rfl) (fun _ h=>h.sub [125,126,106,0]) ?_
 refine VD.z rfl (.mv rfl) (VD.z rfl (.eql rfl rfl) (VD.z rfl (.mv rfl) (VD.z rfl (.mv rfl) ?_)))
 refine VD.z rfl (.slTHI (((Qb d0.1 ((last.length:Nat):Int) ((Qb d0.1 1 (at_,bad)).2)).1).toNat) rfl rfl Tryz.underlying9 bd bd) ?_
 refine VD.z rfl (.mv rfl) ?_
 refine VD.z rfl (.b2s 125 rfl Tryz.underlying56 Tryz.underlying9 Tryz.underlying5 rfl (Ow.rd f24_0 (Qc _))) ?_
 refine VD.z rfl (.scat rfl rfl bd) ?_
 refine VD.z rfl (.bst (cs:=[.bool (decide (((Qb d0.1 1 (at_,bad)).1)=1)),str ((last.take (((Qb d0.1 ((last.length:Nat):Int) ((Qb d0.1 1 (at_,bad)).2)).1).toNat))++((QC d0.1 ((Qb d0.1 16 ((Qb d0.1 ((last.length:Nat):Int) ((Qb d0.1 1 (at_,bad)).2)).2)).1) ((Qb d0.1 16 ((Qb d0.1 ((last.length:Nat):Int) ((Qb d0.1 1 (at_,bad)).2)).2)).2)).1)),str ([])]) rfl Zy QcS rfl) ?_
 refine VD.alloc 132 rfl rfl QcS (fun _ _ h=>h.sub [125,126,106,0]) (fun g31=>?_)
 refine VD.nil rfl ?_ rfl
 refine VO.store (k:=3) (c':=[.bool (decide (((Qb d0.1 1 (at_,bad)).1)=1)),str ((last.take (((Qb d0.1 ((last.length:Nat):Int) ((Qb d0.1 1 (at_,bad)).2)).1).toNat))++((QC d0.1 ((Qb d0.1 16 ((Qb d0.1 ((last.length:Nat):Int) ((Qb d0.1 1 (at_,bad)).2)).2)).1) ((Qb d0.1 16 ((Qb d0.1 ((last.length:Nat):Int) ((Qb d0.1 1 (at_,bad)).2)).2)).2)).1)),str ([])]) 132 rfl rfl (.inl Qc5) rfl rfl rfl rfl rfl ?_
 refine VO.p5 132 125 126 106 0 (VO.k10 0 2 3 4 5 6 7 8 9 20 (Qm (VC.seq (VC.rs (VO.mv (VO.z (.eql rfl rfl) (VO.k11 0 2 3 4 5 6 7 8 9 20 43 ?_)))))))
 refine VC.cond rfl (fun hc33=>?_) (fun hc33=>?_)
 refine VC.reg ?_
 refine VO.mv (VO.mv ?_)
 refine VO.call 126 rfl Qcs rfl rfl (fun W hW=>Qaj W (d0:=(d0.1,(QC d0.1 ((Qb d0.1 16 ((Qb d0.1 ((last.length:Nat):Int) ((Qb d0.1 1 (at_,bad)).2)).2)).1) ((Qb d0.1 16 ((Qb d0.1 ((last.length:Nat):Int) ((Qb d0.1 1 (at_,bad)).2)).2)).2)).2)) (hW.t 126) (Rd.mono h0_0 (hW.o 126 0)) bdk 32 bdk Z2) (fun v34 m34 hv34=>?_)
 try dsimp only at hv34
 obtain ⟨rfl,rfl,w34_0_1⟩:=hv34
 have hfa35:=(Q5 (B:=d0.1) (m:=32) (s:=((QC d0.1 ((Qb d0.1 16 ((Qb d0.1 ((last.length:Nat):Int) ((Qb d0.1 1 (at_,bad)).2)).2)).1) ((Qb d0.1 16 ((Qb d0.1 ((last.length:Nat):Int) ((Qb d0.1 1 (at_,bad)).2)).2)).2)).2)) Z2 Qn).1
 have hfa36:=(Q5 (B:=d0.1) (m:=32) (s:=((QC d0.1 ((Qb d0.1 16 ((Qb d0.1 ((last.length:Nat):Int) ((Qb d0.1 1 (at_,bad)).2)).2)).1) ((Qb d0.1 16 ((Qb d0.1 ((last.length:Nat):Int) ((Qb d0.1 1 (at_,bad)).2)).2)).2)).2)) Z2 Qn).1.1
 have hfa37:=(Q5 (B:=d0.1) (m:=32) (s:=((QC d0.1 ((Qb d0.1 16 ((Qb d0.1 ((last.length:Nat):Int) ((Qb d0.1 1 (at_,bad)).2)).2)).1) ((Qb d0.1 16 ((Qb d0.1 ((last.length:Nat):Int) ((Qb d0.1 1 (at_,bad)).2)).2)).2)).2)) Z2 Qn).1.2
 have hfa38:=(Q5 (B:=d0.1) (m:=32) (s:=((QC d0.1 ((Qb d0.1 16 ((Qb d0.1 ((last.length:Nat):Int) ((Qb d0.1 1 (at_,bad)).2)).2)).1) ((Qb d0.1 16 ((Qb d0.1 ((last.length:Nat):Int) ((Qb d0.1 1 (at_,bad)).2)).2)).2)).2)) Z2 Qn).2
 simp only [inK] at w34_0_1
 refine VO.call 126 rfl QjW rfl rfl (fun W hW=>Qei W (d0:=(d0.1,(Qb d0.1 32 ((QC d0.1 ((Qb d0.1 16 ((Qb d0.1 ((last.length:Nat):Int) ((Qb d0.1 1 (at_,bad)).2)).2)).1) ((Qb d0.1 16 ((Qb d0.1 ((last.length:Nat):Int) ((Qb d0.1 1 (at_,bad)).2)).2)).2)).2)).2)) (hW.t 126) (Rd.mono h0_0 (hW.o 126 0)) bdk ((Qb d0.1 32 ((QC d0.1 ((Qb d0.1 16 ((Qb d0.1 ((last.length:Nat):Int) ((Qb d0.1 1 (at_,bad)).2)).2)).1) ((Qb d0.1 16 ((Qb d0.1 ((last.length:Nat):Int) ((Qb d0.1 1 (at_,bad)).2)).2)).2)).2)).1) bdk Z2 bd bd) (fun v39 m39 hv39=>?_)
 try dsimp only at hv39
 obtain ⟨s39_0,p39_0,rfl,hS39,f39_0,w39_0_1⟩:=hv39
 refine VO.inv _ (fun _ h=>h.parts (i:=126) rfl hS39 [140,141]) ?_
 have hfa42:=(Yx (B:=d0.1) (n:=((Qb d0.1 32 ((QC d0.1 ((Qb d0.1 16 ((Qb d0.1 ((last.length:Nat):Int) ((Qb d0.1 1 (at_,bad)).2)).2)).1) ((Qb d0.1 16 ((Qb d0.1 ((last.length:Nat):Int) ((Qb d0.1 1 (at_,bad)).2)).2)).2)).2)).1)) (s:=((Qb d0.1 32 ((QC d0.1 ((Qb d0.1 16 ((Qb d0.1 ((last.length:Nat):Int) ((Qb d0.1 1 (at_,bad)).2)).2)).1) ((Qb d0.1 16 ((Qb d0.1 ((last.length:Nat):Int) ((Qb d0.1 1 (at_,bad)).2)).2)).2)).2)).2)) Z2 Qn).1
 have hfa43:=(Yx (B:=d0.1) (n:=((Qb d0.1 32 ((QC d0.1 ((Qb d0.1 16 ((Qb d0.1 ((last.length:Nat):Int) ((Qb d0.1 1 (at_,bad)).2)).2)).1) ((Qb d0.1 16 ((Qb d0.1 ((last.length:Nat):Int) ((Qb d0.1 1 (at_,bad)).2)).2)).2)).2)).1)) (s:=((Qb d0.1 32 ((QC d0.1 ((Qb d0.1 16 ((Qb d0.1 ((last.length:Nat):Int) ((Qb d0.1 1 (at_,bad)).2)).2)).1) ((Qb d0.1 16 ((Qb d0.1 ((last.length:Nat):Int) ((Qb d0.1 1 (at_,bad)).2)).2)).2)).2)).2)) Z2 Qn).1.1
 have hfa44:=(Yx (B:=d0.1) (n:=((Qb d0.1 32 ((QC d0.1 ((Qb d0.1 16 ((Qb d0.1 ((last.length:Nat):Int) ((Qb d0.1 1 (at_,bad)).2)).2)).1) ((Qb d0.1 16 ((Qb d0.1 ((last.length:Nat):Int) ((Qb d0.1 1 (at_,bad)).2)).2)).2)).2)).1)) (s:=((Qb d0.1 32 ((QC d0.1 ((Qb d0.1 16 ((Qb d0.1 ((last.length:Nat):Int) ((Qb d0.1 1 (at_,bad)).2)).2)).1) ((Qb d0.1 16 ((Qb d0.1 ((last.length:Nat):Int) ((Qb d0.1 1 (at_,bad)).2)).2)).2)).2)).2)) Z2 Qn).1.2
 have hfa45:=(Yx (B:=d0.1) (n:=((Qb d0.1 32 ((QC d0.1 ((Qb d0.1 16 ((Qb d0.1 ((last.length:Nat):Int) ((Qb d0.1 1 (at_,bad)).2)).2)).1) ((Qb d0.1 16 ((Qb d0.1 ((last.length:Nat):Int) ((Qb d0.1 1 (at_,bad)).2)).2)).2)).2)).1)) (s:=((Qb d0.1 32 ((QC d0.1 ((Qb d0.1 16 ((Qb d0.1 ((last.length:Nat):Int) ((Qb d0.1 1 (at_,bad)).2)).2)).1) ((Qb d0.1 16 ((Qb d0.1 ((last.length:Nat):Int) ((Qb d0.1 1 (at_,bad)).2)).2)).2)).2)).2)) Z2 Qn).2
 simp only [inK] at w39_0_1
 obtain ⟨A39_0,c39_0,eq39_0,l39_0,k39_0⟩:=f39_0.slc
 subst eq39_0
 refine VO.z (.b2s 140 rfl Tryz.underlying56 Tryz.underlying9 Tryz.underlying5 rfl (Ow.rd f39_0 (Qc _))) ?_
 refine VO.z (.fa rfl Zy rfl) ?_
 refine VO.store (k:=1) (c':=[.bool (decide (((Qb d0.1 1 (at_,bad)).1)=1)),str ((last.take (((Qb d0.1 ((last.length:Nat):Int) ((Qb d0.1 1 (at_,bad)).2)).1).toNat))++((QC d0.1 ((Qb d0.1 16 ((Qb d0.1 ((last.length:Nat):Int) ((Qb d0.1 1 (at_,bad)).2)).2)).1) ((Qb d0.1 16 ((Qb d0.1 ((last.length:Nat):Int) ((Qb d0.1 1 (at_,bad)).2)).2)).2)).1)),str ((QC d0.1 ((Qb d0.1 32 ((QC d0.1 ((Qb d0.1 16 ((Qb d0.1 ((last.length:Nat):Int) ((Qb d0.1 1 (at_,bad)).2)).2)).1) ((Qb d0.1 16 ((Qb d0.1 ((last.length:Nat):Int) ((Qb d0.1 1 (at_,bad)).2)).2)).2)).2)).1) ((Qb d0.1 32 ((QC d0.1 ((Qb d0.1 16 ((Qb d0.1 ((last.length:Nat):Int) ((Qb d0.1 1 (at_,bad)).2)).2)).1) ((Qb d0.1 16 ((Qb d0.1 ((last.length:Nat):Int) ((Qb d0.1 1 (at_,bad)).2)).2)).2)).2)).2)).1)]) 132 rfl rfl (.inr ⟨tk9,rfl⟩) rfl rfl rfl rfl rfl ?_
 refine VO.k11 0 2 3 4 5 6 7 8 9 20 43 (Qm (VC.seq (VC.rs (VO.mv (VO.z (.fa rfl Zy rfl) (VO.z (.ld1 132 rfl tk9 rfl (Qa rfl rfl)) ?_))))))
 refine VO.callN 146 rfl QhE rfl (fun W hW=>QcB W last bdm ((last.take (((Qb d0.1 ((last.length:Nat):Int) ((Qb d0.1 1 (at_,bad)).2)).1).toNat))++((QC d0.1 ((Qb d0.1 16 ((Qb d0.1 ((last.length:Nat):Int) ((Qb d0.1 1 (at_,bad)).2)).2)).1) ((Qb d0.1 16 ((Qb d0.1 ((last.length:Nat):Int) ((Qb d0.1 1 (at_,bad)).2)).2)).2)).1)) bdm) (fun v46 m46 hv46=>?_)
 subst hv46
 have hfa47:=XM last ((last.take (((Qb d0.1 ((last.length:Nat):Int) ((Qb d0.1 1 (at_,bad)).2)).1).toNat))++((QC d0.1 ((Qb d0.1 16 ((Qb d0.1 ((last.length:Nat):Int) ((Qb d0.1 1 (at_,bad)).2)).2)).1) ((Qb d0.1 16 ((Qb d0.1 ((last.length:Nat):Int) ((Qb d0.1 1 (at_,bad)).2)).2)).2)).1))
 refine VO.mv (VO.z (.neq rfl rfl) (VO.p5 141 132 125 106 0 (VO.k12 0 2 3 4 5 6 7 8 9 20 43 55 ?_)))
 refine VC.cond rfl (fun hc48=>?_) (fun hc48=>?_)
 refine VC.reg ?_
 refine VO.mv (VO.z (.nilp rfl) (VO.z (.fa rfl Yb rfl) ?_))
 refine VO.store (k:=1) (c':=[.slice A0_0 (d0.1.length) (c0_0),.int .i64 ((QC d0.1 ((Qb d0.1 32 ((QC d0.1 ((Qb d0.1 16 ((Qb d0.1 ((last.length:Nat):Int) ((Qb d0.1 1 (at_,bad)).2)).2)).1) ((Qb d0.1 16 ((Qb d0.1 ((last.length:Nat):Int) ((Qb d0.1 1 (at_,bad)).2)).2)).2)).2)).1) ((Qb d0.1 32 ((QC d0.1 ((Qb d0.1 16 ((Qb d0.1 ((last.length:Nat):Int) ((Qb d0.1 1 (at_,bad)).2)).2)).1) ((Qb d0.1 16 ((Qb d0.1 ((last.length:Nat):Int) ((Qb d0.1 1 (at_,bad)).2)).2)).2)).2)).2)).2.1),.bool true]) 141 rfl rfl (.inr ⟨tk4,rfl⟩) rfl rfl rfl rfl rfl ?_
 refine VO.k12 0 2 3 4 5 6 7 8 9 20 43 55 (Qm (VC.rs (VO.mv (VO.z (.ldA 132 rfl Qc5 rfl (Qa rfl rfl)) ?_))))
 refine VO.bsl (cs:=[.bool (decide (((Qb d0.1 1 (at_,bad)).1)=1)),str ((last.take (((Qb d0.1 ((last.length:Nat):Int) ((Qb d0.1 1 (at_,bad)).2)).1).toNat))++((QC d0.1 ((Qb d0.1 16 ((Qb d0.1 ((last.length:Nat):Int) ((Qb d0.1 1 (at_,bad)).2)).2)).1) ((Qb d0.1 16 ((Qb d0.1 ((last.length:Nat):Int) ((Qb d0.1 1 (at_,bad)).2)).2)).2)).1)),str ((QC d0.1 ((Qb d0.1 32 ((QC d0.1 ((Qb d0.1 16 ((Qb d0.1 ((last.length:Nat):Int) ((Qb d0.1 1 (at_,bad)).2)).2)).1) ((Qb d0.1 16 ((Qb d0.1 ((last.length:Nat):Int) ((Qb d0.1 1 (at_,bad)).2)).2)).2)).2)).1) ((Qb d0.1 32 ((QC d0.1 ((Qb d0.1 16 ((Qb d0.1 ((last.length:Nat):Int) ((Qb d0.1 1 (at_,bad)).2)).2)).1) ((Qb d0.1 16 ((Qb d0.1 ((last.length:Nat):Int) ((Qb d0.1 1 (at_,bad)).2)).2)).2)).2)).2)).1)]) 150 rfl rfl ZH QcS rfl rfl (fun g49=>?_)
 obtain ⟨mo51,cs51,hM51,hA51,hC51⟩:=h_l
 refine VO.app 106 rfl rfl rfl ZH QcS rfl rfl hM51 hA51 (.row 150 _ _ _ 1 1 _ _ Tryz.underlying35 rfl (Qa rfl rfl)) (by simp [Value.oneCell']) bdm bd (by decide) (fun v51 m51 hN51=>?_)
 have ho51:QH TOp m51 Qx v51 (l++[(decide (((Qb d0.1 1 (at_,bad)).1)=1),(last.take (((Qb d0.1 ((last.length:Nat):Int) ((Qb d0.1 1 (at_,bad)).2)).1).toNat))++((QC d0.1 ((Qb d0.1 16 ((Qb d0.1 ((last.length:Nat):Int) ((Qb d0.1 1 (at_,bad)).2)).2)).1) ((Qb d0.1 16 ((Qb d0.1 ((last.length:Nat):Int) ((Qb d0.1 1 (at_,bad)).2)).2)).2)).1),(QC d0.1 ((Qb d0.1 32 ((QC d0.1 ((Qb d0.1 16 ((Qb d0.1 ((last.length:Nat):Int) ((Qb d0.1 1 (at_,bad)).2)).2)).1) ((Qb d0.1 16 ((Qb d0.1 ((last.length:Nat):Int) ((Qb d0.1 1 (at_,bad)).2)).2)).2)).2)).1) ((Qb d0.1 32 ((QC d0.1 ((Qb d0.1 16 ((Qb d0.1 ((last.length:Nat):Int) ((Qb d0.1 1 (at_,bad)).2)).2)).1) ((Qb d0.1 16 ((Qb d0.1 ((last.length:Nat):Int) ((Qb d0.1 1 (at_,bad)).2)).2)).2)).2)).2)).1)]):=QH.one hC51 hN51 (QdI (m:=_) (decide (((Qb d0.1 1 (at_,bad)).1)=1)) ((last.take (((Qb d0.1 ((last.length:Nat):Int) ((Qb d0.1 1 (at_,bad)).2)).1).toNat))++((QC d0.1 ((Qb d0.1 16 ((Qb d0.1 ((last.length:Nat):Int) ((Qb d0.1 1 (at_,bad)).2)).2)).1) ((Qb d0.1 16 ((Qb d0.1 ((last.length:Nat):Int) ((Qb d0.1 1 (at_,bad)).2)).2)).2)).1)) ((QC d0.1 ((Qb d0.1 32 ((QC d0.1 ((Qb d0.1 16 ((Qb d0.1 ((last.length:Nat):Int) ((Qb d0.1 1 (at_,bad)).2)).2)).1) ((Qb d0.1 16 ((Qb d0.1 ((last.length:Nat):Int) ((Qb d0.1 1 (at_,bad)).2)).2)).2)).2)).1) ((Qb d0.1 32 ((QC d0.1 ((Qb d0.1 16 ((Qb d0.1 ((last.length:Nat):Int) ((Qb d0.1 1 (at_,bad)).2)).2)).1) ((Qb d0.1 16 ((Qb d0.1 ((last.length:Nat):Int) ((Qb d0.1 1 (at_,bad)).2)).2)).2)).2)).2)).1) bdm bdm)
 obtain ⟨A51,c51,rfl,l51,k51⟩:=ho51.slc
 have hop:Qb5 d0.1 last (at_,bad)=((decide (((Qb d0.1 1 (at_,bad)).1)=1),(last.take (((Qb d0.1 ((last.length:Nat):Int) ((Qb d0.1 1 (at_,bad)).2)).1).toNat))++((QC d0.1 ((Qb d0.1 16 ((Qb d0.1 ((last.length:Nat):Int) ((Qb d0.1 1 (at_,bad)).2)).2)).1) ((Qb d0.1 16 ((Qb d0.1 ((last.length:Nat):Int) ((Qb d0.1 1 (at_,bad)).2)).2)).2)).1),(QC d0.1 ((Qb d0.1 32 ((QC d0.1 ((Qb d0.1 16 ((Qb d0.1 ((last.length:Nat):Int) ((Qb d0.1 1 (at_,bad)).2)).2)).1) ((Qb d0.1 16 ((Qb d0.1 ((last.length:Nat):Int) ((Qb d0.1 1 (at_,bad)).2)).2)).2)).2)).1) ((Qb d0.1 32 ((QC d0.1 ((Qb d0.1 16 ((Qb d0.1 ((last.length:Nat):Int) ((Qb d0.1 1 (at_,bad)).2)).2)).1) ((Qb d0.1 16 ((Qb d0.1 ((last.length:Nat):Int) ((Qb d0.1 1 (at_,bad)).2)).2)).2)).2)).2)).1),((QC d0.1 ((Qb d0.1 32 ((QC d0.1 ((Qb d0.1 16 ((Qb d0.1 ((last.length:Nat):Int) ((Qb d0.1 1 (at_,bad)).2)).2)).1) ((Qb d0.1 16 ((Qb d0.1 ((last.length:Nat):Int) ((Qb d0.1 1 (at_,bad)).2)).2)).2)).2)).1) ((Qb d0.1 32 ((QC d0.1 ((Qb d0.1 16 ((Qb d0.1 ((last.length:Nat):Int) ((Qb d0.1 1 (at_,bad)).2)).2)).1) ((Qb d0.1 16 ((Qb d0.1 ((last.length:Nat):Int) ((Qb d0.1 1 (at_,bad)).2)).2)).2)).2)).2)).2.1,true)):=by unfold Qb5 QX;dsimp only;(first | simp only [if_pos ‹(Qb d0.1 1 (at_,bad)).1=1›] | simp only [if_neg ‹¬ (Qb d0.1 1 (at_,bad)).1=1›]);(first | rw [if_pos Qo] | rw [if_neg Qo])
 have hs9:=QdE hp Qn Qo
 have ho9:=(QbM (last:=last) hok Qn).1
 have hl9:=(QbM (last:=last) hok Qn).2.1
 rw [hop] at hs9 ho9 hl9
 dsimp only at hs9 ho9 hl9
 refine VO.as (VO.k12 0 2 3 4 5 6 7 8 9 20 43 55 ?_)
 refine VC.reg ?_
 refine VO.z (.fa rfl Zy rfl) (VO.z (.ld1 132 rfl tk9 rfl (Qa rfl rfl)) (VO.as (VO.p5 141 132 125 106 0 (VO.k12 0 2 3 4 5 6 7 8 9 20 43 55 (JL (Qm ?_))))))
 refine VC.reg ?_
 refine VO.mv ?_
 refine VO.z (.sub rfl rfl rfl ⟨bd,bd⟩) ?_
 refine VO.as (VO.k12 0 2 3 4 5 6 7 8 9 20 43 55 ?_)
 exact Qm ⟨⟨k - 1,(last.take (((Qb d0.1 ((last.length:Nat):Int) ((Qb d0.1 1 (at_,bad)).2)).1).toNat))++((QC d0.1 ((Qb d0.1 16 ((Qb d0.1 ((last.length:Nat):Int) ((Qb d0.1 1 (at_,bad)).2)).2)).1) ((Qb d0.1 16 ((Qb d0.1 ((last.length:Nat):Int) ((Qb d0.1 1 (at_,bad)).2)).2)).2)).1),l++[(decide (((Qb d0.1 1 (at_,bad)).1)=1),(last.take (((Qb d0.1 ((last.length:Nat):Int) ((Qb d0.1 1 (at_,bad)).2)).1).toNat))++((QC d0.1 ((Qb d0.1 16 ((Qb d0.1 ((last.length:Nat):Int) ((Qb d0.1 1 (at_,bad)).2)).2)).1) ((Qb d0.1 16 ((Qb d0.1 ((last.length:Nat):Int) ((Qb d0.1 1 (at_,bad)).2)).2)).2)).1),(QC d0.1 ((Qb d0.1 32 ((QC d0.1 ((Qb d0.1 16 ((Qb d0.1 ((last.length:Nat):Int) ((Qb d0.1 1 (at_,bad)).2)).2)).1) ((Qb d0.1 16 ((Qb d0.1 ((last.length:Nat):Int) ((Qb d0.1 1 (at_,bad)).2)).2)).2)).2)).1) ((Qb d0.1 32 ((QC d0.1 ((Qb d0.1 16 ((Qb d0.1 ((last.length:Nat):Int) ((Qb d0.1 1 (at_,bad)).2)).2)).1) ((Qb d0.1 16 ((Qb d0.1 ((last.length:Nat):Int) ((Qb d0.1 1 (at_,bad)).2)).2)).2)).2)).2)).1)],A51,c51,m51,(QC d0.1 ((Qb d0.1 32 ((QC d0.1 ((Qb d0.1 16 ((Qb d0.1 ((last.length:Nat):Int) ((Qb d0.1 1 (at_,bad)).2)).2)).1) ((Qb d0.1 16 ((Qb d0.1 ((last.length:Nat):Int) ((Qb d0.1 1 (at_,bad)).2)).2)).2)).2)).1) ((Qb d0.1 32 ((QC d0.1 ((Qb d0.1 16 ((Qb d0.1 ((last.length:Nat):Int) ((Qb d0.1 1 (at_,bad)).2)).2)).1) ((Qb d0.1 16 ((Qb d0.1 ((last.length:Nat):Int) ((Qb d0.1 1 (at_,bad)).2)).2)).2)).2)).2)).2.1,true⟩,⟨by exact hs9,by exact ho9,by omega,by (simp only [List.length_append,List.length_cons,List.length_nil];omega),by dsimp only;omega,ho51⟩,bd,⟨esn,fun _ h=>Inv.sub (Inv.num h 141 1 rfl) [106,1,0]⟩⟩
 refine VC.skip (Qm (VC.rs (VO.mv (VO.z (.ldA 132 rfl Qc5 rfl (Qa rfl rfl)) ?_))))
 refine VO.bsl (cs:=[.bool (decide (((Qb d0.1 1 (at_,bad)).1)=1)),str ((last.take (((Qb d0.1 ((last.length:Nat):Int) ((Qb d0.1 1 (at_,bad)).2)).1).toNat))++((QC d0.1 ((Qb d0.1 16 ((Qb d0.1 ((last.length:Nat):Int) ((Qb d0.1 1 (at_,bad)).2)).2)).1) ((Qb d0.1 16 ((Qb d0.1 ((last.length:Nat):Int) ((Qb d0.1 1 (at_,bad)).2)).2)).2)).1)),str ((QC d0.1 ((Qb d0.1 32 ((QC d0.1 ((Qb d0.1 16 ((Qb d0.1 ((last.length:Nat):Int) ((Qb d0.1 1 (at_,bad)).2)).2)).1) ((Qb d0.1 16 ((Qb d0.1 ((last.length:Nat):Int) ((Qb d0.1 1 (at_,bad)).2)).2)).2)).2)).1) ((Qb d0.1 32 ((QC d0.1 ((Qb d0.1 16 ((Qb d0.1 ((last.length:Nat):Int) ((Qb d0.1 1 (at_,bad)).2)).2)).1) ((Qb d0.1 16 ((Qb d0.1 ((last.length:Nat):Int) ((Qb d0.1 1 (at_,bad)).2)).2)).2)).2)).2)).1)]) 153 rfl rfl ZH QcS rfl rfl (fun g52=>?_)
 obtain ⟨mo54,cs54,hM54,hA54,hC54⟩:=h_l
 refine VO.app 106 rfl rfl rfl ZH QcS rfl rfl hM54 hA54 (.row 153 _ _ _ 1 1 _ _ Tryz.underlying35 rfl (Qa rfl rfl)) (by simp [Value.oneCell']) bdm bd (by decide) (fun v54 m54 hN54=>?_)
 have ho54:QH TOp m54 Qx v54 (l++[(decide (((Qb d0.1 1 (at_,bad)).1)=1),(last.take (((Qb d0.1 ((last.length:Nat):Int) ((Qb d0.1 1 (at_,bad)).2)).1).toNat))++((QC d0.1 ((Qb d0.1 16 ((Qb d0.1 ((last.length:Nat):Int) ((Qb d0.1 1 (at_,bad)).2)).2)).1) ((Qb d0.1 16 ((Qb d0.1 ((last.length:Nat):Int) ((Qb d0.1 1 (at_,bad)).2)).2)).2)).1),(QC d0.1 ((Qb d0.1 32 ((QC d0.1 ((Qb d0.1 16 ((Qb d0.1 ((last.length:Nat):Int) ((Qb d0.1 1 (at_,bad)).2)).2)).1) ((Qb d0.1 16 ((Qb d0.1 ((last.length:Nat):Int) ((Qb d0.1 1 (at_,bad)).2)).2)).2)).2)).1) ((Qb d0.1 32 ((QC d0.1 ((Qb d0.1 16 ((Qb d0.1 ((last.length:Nat):Int) ((Qb d0.1 1 (at_,bad)).2)).2)).1) ((Qb d0.1 16 ((Qb d0.1 ((last.length:Nat):Int) ((Qb d0.1 1 (at_,bad)).2)).2)).2)).2)).2)).1)]):=QH.one hC54 hN54 (QdI (m:=_) (decide (((Qb d0.1 1 (at_,bad)).1)=1)) ((last.take (((Qb d0.1 ((last.length:Nat):Int) ((Qb d0.1 1 (at_,bad)).2)).1).toNat))++((QC d0.1 ((Qb d0.1 16 ((Qb d0.1 ((last.length:Nat):Int) ((Qb d0.1 1 (at_,bad)).2)).2)).1) ((Qb d0.1 16 ((Qb d0.1 ((last.length:Nat):Int) ((Qb d0.1 1 (at_,bad)).2)).2)).2)).1)) ((QC d0.1 ((Qb d0.1 32 ((QC d0.1 ((Qb d0.1 16 ((Qb d0.1 ((last.length:Nat):Int) ((Qb d0.1 1 (at_,bad)).2)).2)).1) ((Qb d0.1 16 ((Qb d0.1 ((last.length:Nat):Int) ((Qb d0.1 1 (at_,bad)).2)).2)).2)).2)).1) ((Qb d0.1 32 ((QC d0.1 ((Qb d0.1 16 ((Qb d0.1 ((last.length:Nat):Int) ((Qb d0.1 1 (at_,bad)).2)).2)).1) ((Qb d0.1 16 ((Qb d0.1 ((last.length:Nat):Int) ((Qb d0.1 1 (at_,bad)).2)).2)).2)).2)).2)).1) bdm bdm)
 obtain ⟨A54,c54,rfl,l54,k54⟩:=ho54.slc
 have hop:Qb5 d0.1 last (at_,bad)=((decide (((Qb d0.1 1 (at_,bad)).1)=1),(last.take (((Qb d0.1 ((last.length:Nat):Int) ((Qb d0.1 1 (at_,bad)).2)).1).toNat))++((QC d0.1 ((Qb d0.1 16 ((Qb d0.1 ((last.length:Nat):Int) ((Qb d0.1 1 (at_,bad)).2)).2)).1) ((Qb d0.1 16 ((Qb d0.1 ((last.length:Nat):Int) ((Qb d0.1 1 (at_,bad)).2)).2)).2)).1),(QC d0.1 ((Qb d0.1 32 ((QC d0.1 ((Qb d0.1 16 ((Qb d0.1 ((last.length:Nat):Int) ((Qb d0.1 1 (at_,bad)).2)).2)).1) ((Qb d0.1 16 ((Qb d0.1 ((last.length:Nat):Int) ((Qb d0.1 1 (at_,bad)).2)).2)).2)).2)).1) ((Qb d0.1 32 ((QC d0.1 ((Qb d0.1 16 ((Qb d0.1 ((last.length:Nat):Int) ((Qb d0.1 1 (at_,bad)).2)).2)).1) ((Qb d0.1 16 ((Qb d0.1 ((last.length:Nat):Int) ((Qb d0.1 1 (at_,bad)).2)).2)).2)).2)).2)).1),((QC d0.1 ((Qb d0.1 32 ((QC d0.1 ((Qb d0.1 16 ((Qb d0.1 ((last.length:Nat):Int) ((Qb d0.1 1 (at_,bad)).2)).2)).1) ((Qb d0.1 16 ((Qb d0.1 ((last.length:Nat):Int) ((Qb d0.1 1 (at_,bad)).2)).2)).2)).2)).1) ((Qb d0.1 32 ((QC d0.1 ((Qb d0.1 16 ((Qb d0.1 ((last.length:Nat):Int) ((Qb d0.1 1 (at_,bad)).2)).2)).1) ((Qb d0.1 16 ((Qb d0.1 ((last.length:Nat):Int) ((Qb d0.1 1 (at_,bad)).2)).2)).2)).2)).2)).2.1,(QC d0.1 ((Qb d0.1 32 ((QC d0.1 ((Qb d0.1 16 ((Qb d0.1 ((last.length:Nat):Int) ((Qb d0.1 1 (at_,bad)).2)).2)).1) ((Qb d0.1 16 ((Qb d0.1 ((last.length:Nat):Int) ((Qb d0.1 1 (at_,bad)).2)).2)).2)).2)).1) ((Qb d0.1 32 ((QC d0.1 ((Qb d0.1 16 ((Qb d0.1 ((last.length:Nat):Int) ((Qb d0.1 1 (at_,bad)).2)).2)).1) ((Qb d0.1 16 ((Qb d0.1 ((last.length:Nat):Int) ((Qb d0.1 1 (at_,bad)).2)).2)).2)).2)).2)).2.2)):=by unfold Qb5 QX;dsimp only;(first | simp only [if_pos ‹(Qb d0.1 1 (at_,bad)).1=1›] | simp only [if_neg ‹¬ (Qb d0.1 1 (at_,bad)).1=1›]);(first | rw [if_pos Qo] | rw [if_neg Qo])
 have hs9:=QdE hp Qn Qo
 have ho9:=(QbM (last:=last) hok Qn).1
 have hl9:=(QbM (last:=last) hok Qn).2.1
 rw [hop] at hs9 ho9 hl9
 dsimp only at hs9 ho9 hl9
 refine VO.as (VO.k12 0 2 3 4 5 6 7 8 9 20 43 55 ?_)
 refine VC.reg ?_
 refine VO.z (.fa rfl Zy rfl) (VO.z (.ld1 132 rfl tk9 rfl (Qa rfl rfl)) (VO.as (VO.k12 0 2 3 4 5 6 7 8 9 20 43 55 (JL (Qm ?_)))))
 refine VC.reg ?_
 refine VO.mv ?_
 refine VO.z (.sub rfl rfl rfl ⟨bd,bd⟩) ?_
 refine VO.as (VO.p5 141 132 125 106 0 (VO.k12 0 2 3 4 5 6 7 8 9 20 43 55 ?_))
 exact Qm ⟨⟨k - 1,(last.take (((Qb d0.1 ((last.length:Nat):Int) ((Qb d0.1 1 (at_,bad)).2)).1).toNat))++((QC d0.1 ((Qb d0.1 16 ((Qb d0.1 ((last.length:Nat):Int) ((Qb d0.1 1 (at_,bad)).2)).2)).1) ((Qb d0.1 16 ((Qb d0.1 ((last.length:Nat):Int) ((Qb d0.1 1 (at_,bad)).2)).2)).2)).1),l++[(decide (((Qb d0.1 1 (at_,bad)).1)=1),(last.take (((Qb d0.1 ((last.length:Nat):Int) ((Qb d0.1 1 (at_,bad)).2)).1).toNat))++((QC d0.1 ((Qb d0.1 16 ((Qb d0.1 ((last.length:Nat):Int) ((Qb d0.1 1 (at_,bad)).2)).2)).1) ((Qb d0.1 16 ((Qb d0.1 ((last.length:Nat):Int) ((Qb d0.1 1 (at_,bad)).2)).2)).2)).1),(QC d0.1 ((Qb d0.1 32 ((QC d0.1 ((Qb d0.1 16 ((Qb d0.1 ((last.length:Nat):Int) ((Qb d0.1 1 (at_,bad)).2)).2)).1) ((Qb d0.1 16 ((Qb d0.1 ((last.length:Nat):Int) ((Qb d0.1 1 (at_,bad)).2)).2)).2)).2)).1) ((Qb d0.1 32 ((QC d0.1 ((Qb d0.1 16 ((Qb d0.1 ((last.length:Nat):Int) ((Qb d0.1 1 (at_,bad)).2)).2)).1) ((Qb d0.1 16 ((Qb d0.1 ((last.length:Nat):Int) ((Qb d0.1 1 (at_,bad)).2)).2)).2)).2)).2)).1)],A54,c54,m54,(QC d0.1 ((Qb d0.1 32 ((QC d0.1 ((Qb d0.1 16 ((Qb d0.1 ((last.length:Nat):Int) ((Qb d0.1 1 (at_,bad)).2)).2)).1) ((Qb d0.1 16 ((Qb d0.1 ((last.length:Nat):Int) ((Qb d0.1 1 (at_,bad)).2)).2)).2)).2)).1) ((Qb d0.1 32 ((QC d0.1 ((Qb d0.1 16 ((Qb d0.1 ((last.length:Nat):Int) ((Qb d0.1 1 (at_,bad)).2)).2)).1) ((Qb d0.1 16 ((Qb d0.1 ((last.length:Nat):Int) ((Qb d0.1 1 (at_,bad)).2)).2)).2)).2)).2)).2.1,(QC d0.1 ((Qb d0.1 32 ((QC d0.1 ((Qb d0.1 16 ((Qb d0.1 ((last.length:Nat):Int) ((Qb d0.1 1 (at_,bad)).2)).2)).1) ((Qb d0.1 16 ((Qb d0.1 ((last.length:Nat):Int) ((Qb d0.1 1 (at_,bad)).2)).2)).2)).2)).1) ((Qb d0.1 32 ((QC d0.1 ((Qb d0.1 16 ((Qb d0.1 ((last.length:Nat):Int) ((Qb d0.1 1 (at_,bad)).2)).2)).1) ((Qb d0.1 16 ((Qb d0.1 ((last.length:Nat):Int) ((Qb d0.1 1 (at_,bad)).2)).2)).2)).2)).2)).2.2⟩,⟨by exact hs9,by exact ho9,by omega,by (simp only [List.length_append,List.length_cons,List.length_nil];omega),by dsimp only;omega,ho54⟩,bd,⟨esn,fun _ h=>Inv.sub (Inv.num h 141 1 rfl) [106,1,0]⟩⟩
 refine VC.skip (Qm (VC.seq (VC.rs (VO.mv (VO.z (.fa rfl Zy rfl) (VO.z (.ld1 132 rfl tk9 rfl (Qa rfl rfl)) ?_))))))
 refine VO.callN 155 rfl QhE rfl (fun W hW=>QcB W last bdm ((last.take (((Qb d0.1 ((last.length:Nat):Int) ((Qb d0.1 1 (at_,bad)).2)).1).toNat))++((QC d0.1 ((Qb d0.1 16 ((Qb d0.1 ((last.length:Nat):Int) ((Qb d0.1 1 (at_,bad)).2)).2)).1) ((Qb d0.1 16 ((Qb d0.1 ((last.length:Nat):Int) ((Qb d0.1 1 (at_,bad)).2)).2)).2)).1)) bdm) (fun v55 m55 hv55=>?_)
 subst hv55
 have hfa56:=XM last ((last.take (((Qb d0.1 ((last.length:Nat):Int) ((Qb d0.1 1 (at_,bad)).2)).1).toNat))++((QC d0.1 ((Qb d0.1 16 ((Qb d0.1 ((last.length:Nat):Int) ((Qb d0.1 1 (at_,bad)).2)).2)).1) ((Qb d0.1 16 ((Qb d0.1 ((last.length:Nat):Int) ((Qb d0.1 1 (at_,bad)).2)).2)).2)).1))
 refine VO.mv (VO.z (.neq rfl rfl) (VO.k12 0 2 3 4 5 6 7 8 9 20 43 55 ?_))
 refine VC.cond rfl (fun hc57=>?_) (fun hc57=>?_)
 refine VC.reg ?_
 refine VO.mv (VO.z (.nilp rfl) (VO.z (.fa rfl Yb rfl) ?_))
 refine VO.store (k:=1) (c':=[.slice A0_0 (d0.1.length) (c0_0),.int .i64 ((QC d0.1 ((Qb d0.1 16 ((Qb d0.1 ((last.length:Nat):Int) ((Qb d0.1 1 (at_,bad)).2)).2)).1) ((Qb d0.1 16 ((Qb d0.1 ((last.length:Nat):Int) ((Qb d0.1 1 (at_,bad)).2)).2)).2)).2.1),.bool true]) 126 rfl rfl (.inr ⟨tk4,rfl⟩) rfl rfl rfl rfl rfl ?_
 refine VO.p5 132 125 126 106 0 (VO.k12 0 2 3 4 5 6 7 8 9 20 43 55 (Qm (VC.rs (VO.mv (VO.z (.ldA 132 rfl Qc5 rfl (Qa rfl rfl)) ?_)))))
 refine VO.bsl (cs:=[.bool (decide (((Qb d0.1 1 (at_,bad)).1)=1)),str ((last.take (((Qb d0.1 ((last.length:Nat):Int) ((Qb d0.1 1 (at_,bad)).2)).1).toNat))++((QC d0.1 ((Qb d0.1 16 ((Qb d0.1 ((last.length:Nat):Int) ((Qb d0.1 1 (at_,bad)).2)).2)).1) ((Qb d0.1 16 ((Qb d0.1 ((last.length:Nat):Int) ((Qb d0.1 1 (at_,bad)).2)).2)).2)).1)),str ([])]) 159 rfl rfl ZH QcS rfl rfl (fun g58=>?_)
 obtain ⟨mo60,cs60,hM60,hA60,hC60⟩:=h_l
 refine VO.app 106 rfl rfl rfl ZH QcS rfl rfl hM60 hA60 (.row 159 _ _ _ 1 1 _ _ Tryz.underlying35 rfl (Qa rfl rfl)) (by simp [Value.oneCell']) bdm bd (by decide) (fun v60 m60 hN60=>?_)
 have ho60:QH TOp m60 Qx v60 (l++[(decide (((Qb d0.1 1 (at_,bad)).1)=1),(last.take (((Qb d0.1 ((last.length:Nat):Int) ((Qb d0.1 1 (at_,bad)).2)).1).toNat))++((QC d0.1 ((Qb d0.1 16 ((Qb d0.1 ((last.length:Nat):Int) ((Qb d0.1 1 (at_,bad)).2)).2)).1) ((Qb d0.1 16 ((Qb d0.1 ((last.length:Nat):Int) ((Qb d0.1 1 (at_,bad)).2)).2)).2)).1),[])]):=QH.one hC60 hN60 (QdI (m:=_) (decide (((Qb d0.1 1 (at_,bad)).1)=1)) ((last.take (((Qb d0.1 ((last.length:Nat):Int) ((Qb d0.1 1 (at_,bad)).2)).1).toNat))++((QC d0.1 ((Qb d0.1 16 ((Qb d0.1 ((last.length:Nat):Int) ((Qb d0.1 1 (at_,bad)).2)).2)).1) ((Qb d0.1 16 ((Qb d0.1 ((last.length:Nat):Int) ((Qb d0.1 1 (at_,bad)).2)).2)).2)).1)) [] bdm bdm)
 obtain ⟨A60,c60,rfl,l60,k60⟩:=ho60.slc
 have hop:Qb5 d0.1 last (at_,bad)=((decide (((Qb d0.1 1 (at_,bad)).1)=1),(last.take (((Qb d0.1 ((last.length:Nat):Int) ((Qb d0.1 1 (at_,bad)).2)).1).toNat))++((QC d0.1 ((Qb d0.1 16 ((Qb d0.1 ((last.length:Nat):Int) ((Qb d0.1 1 (at_,bad)).2)).2)).1) ((Qb d0.1 16 ((Qb d0.1 ((last.length:Nat):Int) ((Qb d0.1 1 (at_,bad)).2)).2)).2)).1),[]),((QC d0.1 ((Qb d0.1 16 ((Qb d0.1 ((last.length:Nat):Int) ((Qb d0.1 1 (at_,bad)).2)).2)).1) ((Qb d0.1 16 ((Qb d0.1 ((last.length:Nat):Int) ((Qb d0.1 1 (at_,bad)).2)).2)).2)).2.1,true)):=by unfold Qb5 QX;dsimp only;(first | simp only [if_pos ‹(Qb d0.1 1 (at_,bad)).1=1›] | simp only [if_neg ‹¬ (Qb d0.1 1 (at_,bad)).1=1›]);(first | rw [if_pos Qo] | rw [if_neg Qo])
 have hs9:=QdE hp Qn Qo
 have ho9:=(QbM (last:=last) hok Qn).1
 have hl9:=(QbM (last:=last) hok Qn).2.1
 rw [hop] at hs9 ho9 hl9
 dsimp only at hs9 ho9 hl9
 refine VO.as (VO.k12 0 2 3 4 5 6 7 8 9 20 43 55 ?_)
 refine VC.reg ?_
 refine VO.z (.fa rfl Zy rfl) (VO.z (.ld1 132 rfl tk9 rfl (Qa rfl rfl)) (VO.as (VO.k12 0 2 3 4 5 6 7 8 9 20 43 55 (JL (Qm ?_)))))
 refine VC.reg ?_
 refine VO.mv ?_
 refine VO.z (.sub rfl rfl rfl ⟨bd,bd⟩) ?_
 refine VO.as (VO.p5 132 125 126 106 0 (VO.k12 0 2 3 4 5 6 7 8 9 20 43 55 ?_))
 exact Qm ⟨⟨k - 1,(last.take (((Qb d0.1 ((last.length:Nat):Int) ((Qb d0.1 1 (at_,bad)).2)).1).toNat))++((QC d0.1 ((Qb d0.1 16 ((Qb d0.1 ((last.length:Nat):Int) ((Qb d0.1 1 (at_,bad)).2)).2)).1) ((Qb d0.1 16 ((Qb d0.1 ((last.length:Nat):Int) ((Qb d0.1 1 (at_,bad)).2)).2)).2)).1),l++[(decide (((Qb d0.1 1 (at_,bad)).1)=1),(last.take (((Qb d0.1 ((last.length:Nat):Int) ((Qb d0.1 1 (at_,bad)).2)).1).toNat))++((QC d0.1 ((Qb d0.1 16 ((Qb d0.1 ((last.length:Nat):Int) ((Qb d0.1 1 (at_,bad)).2)).2)).1) ((Qb d0.1 16 ((Qb d0.1 ((last.length:Nat):Int) ((Qb d0.1 1 (at_,bad)).2)).2)).2)).1),[])],A60,c60,m60,(QC d0.1 ((Qb d0.1 16 ((Qb d0.1 ((last.length:Nat):Int) ((Qb d0.1 1 (at_,bad)).2)).2)).1) ((Qb d0.1 16 ((Qb d0.1 ((last.length:Nat):Int) ((Qb d0.1 1 (at_,bad)).2)).2)).2)).2.1,true⟩,⟨by exact hs9,by exact ho9,by omega,by (simp only [List.length_append,List.length_cons,List.length_nil];omega),by dsimp only;omega,ho60⟩,bd,⟨esn,fun _ h=>Inv.sub (Inv.num h 126 1 rfl) [106,1,0]⟩⟩
 refine VC.skip (Qm (VC.rs (VO.mv (VO.z (.ldA 132 rfl Qc5 rfl (Qa rfl rfl)) ?_))))
 refine VO.bsl (cs:=[.bool (decide (((Qb d0.1 1 (at_,bad)).1)=1)),str ((last.take (((Qb d0.1 ((last.length:Nat):Int) ((Qb d0.1 1 (at_,bad)).2)).1).toNat))++((QC d0.1 ((Qb d0.1 16 ((Qb d0.1 ((last.length:Nat):Int) ((Qb d0.1 1 (at_,bad)).2)).2)).1) ((Qb d0.1 16 ((Qb d0.1 ((last.length:Nat):Int) ((Qb d0.1 1 (at_,bad)).2)).2)).2)).1)),str ([])]) 162 rfl rfl ZH QcS rfl rfl (fun g61=>?_)
 obtain ⟨mo63,cs63,hM63,hA63,hC63⟩:=h_l
 refine VO.app 106 rfl rfl rfl ZH QcS rfl rfl hM63 hA63 (.row 162 _ _ _ 1 1 _ _ Tryz.underlying35 rfl (Qa rfl rfl)) (by simp [Value.oneCell']) bdm bd (by decide) (fun v63 m63 hN63=>?_)
 have ho63:QH TOp m63 Qx v63 (l++[(decide (((Qb d0.1 1 (at_,bad)).1)=1),(last.take (((Qb d0.1 ((last.length:Nat):Int) ((Qb d0.1 1 (at_,bad)).2)).1).toNat))++((QC d0.1 ((Qb d0.1 16 ((Qb d0.1 ((last.length:Nat):Int) ((Qb d0.1 1 (at_,bad)).2)).2)).1) ((Qb d0.1 16 ((Qb d0.1 ((last.length:Nat):Int) ((Qb d0.1 1 (at_,bad)).2)).2)).2)).1),[])]):=QH.one hC63 hN63 (QdI (m:=_) (decide (((Qb d0.1 1 (at_,bad)).1)=1)) ((last.take (((Qb d0.1 ((last.length:Nat):Int) ((Qb d0.1 1 (at_,bad)).2)).1).toNat))++((QC d0.1 ((Qb d0.1 16 ((Qb d0.1 ((last.length:Nat):Int) ((Qb d0.1 1 (at_,bad)).2)).2)).1) ((Qb d0.1 16 ((Qb d0.1 ((last.length:Nat):Int) ((Qb d0.1 1 (at_,bad)).2)).2)).2)).1)) [] bdm bdm)
 obtain ⟨A63,c63,rfl,l63,k63⟩:=ho63.slc
 have hop:Qb5 d0.1 last (at_,bad)=((decide (((Qb d0.1 1 (at_,bad)).1)=1),(last.take (((Qb d0.1 ((last.length:Nat):Int) ((Qb d0.1 1 (at_,bad)).2)).1).toNat))++((QC d0.1 ((Qb d0.1 16 ((Qb d0.1 ((last.length:Nat):Int) ((Qb d0.1 1 (at_,bad)).2)).2)).1) ((Qb d0.1 16 ((Qb d0.1 ((last.length:Nat):Int) ((Qb d0.1 1 (at_,bad)).2)).2)).2)).1),[]),((QC d0.1 ((Qb d0.1 16 ((Qb d0.1 ((last.length:Nat):Int) ((Qb d0.1 1 (at_,bad)).2)).2)).1) ((Qb d0.1 16 ((Qb d0.1 ((last.length:Nat):Int) ((Qb d0.1 1 (at_,bad)).2)).2)).2)).2.1,(QC d0.1 ((Qb d0.1 16 ((Qb d0.1 ((last.length:Nat):Int) ((Qb d0.1 1 (at_,bad)).2)).2)).1) ((Qb d0.1 16 ((Qb d0.1 ((last.length:Nat):Int) ((Qb d0.1 1 (at_,bad)).2)).2)).2)).2.2)):=by unfold Qb5 QX;dsimp only;(first | simp only [if_pos ‹(Qb d0.1 1 (at_,bad)).1=1›] | simp only [if_neg ‹¬ (Qb d0.1 1 (at_,bad)).1=1›]);(first | rw [if_pos Qo] | rw [if_neg Qo])
 have hs9:=QdE hp Qn Qo
 have ho9:=(QbM (last:=last) hok Qn).1
 have hl9:=(QbM (last:=last) hok Qn).2.1
 rw [hop] at hs9 ho9 hl9
 dsimp only at hs9 ho9 hl9
 refine VO.as (VO.p5 132 125 126 106 0 (VO.k12 0 2 3 4 5 6 7 8 9 20 43 55 ?_))
 refine VC.reg ?_
 refine VO.z (.fa rfl Zy rfl) (VO.z (.ld1 132 rfl tk9 rfl (Qa rfl rfl)) (VO.as (VO.k12 0 2 3 4 5 6 7 8 9 20 43 55 (JL (Qm ?_)))))
 refine VC.reg ?_
 refine VO.mv ?_
 refine VO.z (.sub rfl rfl rfl ⟨bd,bd⟩) ?_
 refine VO.as (VO.k12 0 2 3 4 5 6 7 8 9 20 43 55 ?_)
 exact Qm ⟨⟨k - 1,(last.take (((Qb d0.1 ((last.length:Nat):Int) ((Qb d0.1 1 (at_,bad)).2)).1).toNat))++((QC d0.1 ((Qb d0.1 16 ((Qb d0.1 ((last.length:Nat):Int) ((Qb d0.1 1 (at_,bad)).2)).2)).1) ((Qb d0.1 16 ((Qb d0.1 ((last.length:Nat):Int) ((Qb d0.1 1 (at_,bad)).2)).2)).2)).1),l++[(decide (((Qb d0.1 1 (at_,bad)).1)=1),(last.take (((Qb d0.1 ((last.length:Nat):Int) ((Qb d0.1 1 (at_,bad)).2)).1).toNat))++((QC d0.1 ((Qb d0.1 16 ((Qb d0.1 ((last.length:Nat):Int) ((Qb d0.1 1 (at_,bad)).2)).2)).1) ((Qb d0.1 16 ((Qb d0.1 ((last.length:Nat):Int) ((Qb d0.1 1 (at_,bad)).2)).2)).2)).1),[])],A63,c63,m63,(QC d0.1 ((Qb d0.1 16 ((Qb d0.1 ((last.length:Nat):Int) ((Qb d0.1 1 (at_,bad)).2)).2)).1) ((Qb d0.1 16 ((Qb d0.1 ((last.length:Nat):Int) ((Qb d0.1 1 (at_,bad)).2)).2)).2)).2.1,(QC d0.1 ((Qb d0.1 16 ((Qb d0.1 ((last.length:Nat):Int) ((Qb d0.1 1 (at_,bad)).2)).2)).1) ((Qb d0.1 16 ((Qb d0.1 ((last.length:Nat):Int) ((Qb d0.1 1 (at_,bad)).2)).2)).2)).2.2⟩,⟨by exact hs9,by exact ho9,by omega,by (simp only [List.length_append,List.length_cons,List.length_nil];omega),by dsimp only;omega,ho63⟩,bd,⟨esn,fun _ h=>Inv.sub (Inv.num h 126 1 rfl) [106,1,0]⟩⟩
 · refine VC.exit (Zh (Zh (Zi (Qm (VC.seq (VC.rs (VO.mv (VO.z (.nilp rfl) (VO.z (.fa rfl Yb rfl) (VO.z (.ld1 1 rfl tk4 rfl (Qa rfl rfl)) (VO.mv ?_)))))))))))
   refine VO.known (t:=69) true rfl hc8 ?_
   refine VO.gN (VO.gN (VO.gN (VO.z (.pT rfl rfl) (VO.p3 106 1 0 (VO.k7 0 2 3 4 5 20 73 (VC.condT rfl (VC.rs (VO.mv (VO.z (.nilp rfl) (VO.z (.fa rfl Yb rfl) ?_))))))))))
   refine VO.store (k:=1) (c':=[.slice A0_0 (d0.1.length) (c0_0),.int .i64 (at_),.bool true]) 1 rfl rfl (.inr ⟨tk4,rfl⟩) rfl rfl rfl rfl rfl ?_
   refine VO.k7 0 2 3 4 5 20 73 (VC.rs (VO.as (VO.k7 0 2 3 4 5 20 73 (VC.ret (QZ ?_)))))
   refine Yd 2 [1] fun hS_=>?_
   dsimp only [QE]
   have he0:((JE d0.1 d0.2).1:Ty.Den (.sl TOp))=[]:=by first | rfl | (exact Zm)
   have hm0_1:((JE d0.1 d0.2).2.1:Int)=at_:=by first | rfl | (exact Zm)
   have hm0_2:((JE d0.1 d0.2).2.2:Bool)=true:=by first | rfl | (exact Zm)
   refine ⟨.slice none (0) (0),Zc [],?_,?_,?_,?_⟩
   rotate_left
   · (first | exact QA.grp (ls:=[[],[QM g0 (.cells [Value.slice A0_0 (d0.1.length) (c0_0),Value.int .i64 (at_),Value.bool true].toArray E0 (0,0))]]) hS_ | (rw [hm0_1,hm0_2];exact QA.grpM (ls:=[[],[QM g0 (.cells [Value.slice A0_0 (d0.1.length) (c0_0),Value.int .i64 (at_),Value.bool true].toArray E0 (0,0))]]) hS_ (by simp only [List.map,JX])) | exact QA.grpM (ls:=[[],[QM g0 (.cells [Value.slice A0_0 (d0.1.length) (c0_0),Value.int .i64 (at_),Value.bool true].toArray E0 (0,0))]]) hS_ (by simp only [List.map,JX]))
   · rw [he0];exact (Ow.nil _ _)
   · rw [hm0_1];exact (show inK .i64 _ by simp only [inK];(first | exact bd))
   all_goals (first | rfl | (simp [*];done))
 refine VO.gN (VO.gN (VO.gN (VO.gN (VO.gN (VO.z (.pF rfl rfl) (VO.k6 0 2 3 4 5 20 (VC.condF rfl (VC.exit (Zh (Zh (Zi ?_)))))))))))
 refine Qm (VC.seq (VC.rs (VO.mv (VO.z (.nilp rfl) (VO.z (.fa rfl Yb rfl) (VO.z (.ld1 1 rfl tk4 rfl (Qa rfl rfl)) (VO.mv ?_)))))))
 refine VO.decB (t:=69) rfl (fun hc64=>?_) (fun hc64=>?_)
 · refine VO.gN (VO.gN (VO.gN (VO.z (.pT rfl rfl) (VO.p3 106 1 0 (VO.k7 0 2 3 4 5 20 73 (VC.condT rfl (VC.rs (VO.mv (VO.z (.nilp rfl) (VO.z (.fa rfl Yb rfl) ?_))))))))))
   refine VO.store (k:=1) (c':=[.slice A0_0 (d0.1.length) (c0_0),.int .i64 (at_),.bool true]) 1 rfl rfl (.inr ⟨tk4,rfl⟩) rfl rfl rfl rfl rfl ?_
   refine VO.k7 0 2 3 4 5 20 73 (VC.rs (VO.as (VO.k7 0 2 3 4 5 20 73 (VC.ret (QZ ?_)))))
   refine Yd 2 [1] fun hS_=>?_
   dsimp only [QE]
   have he0:((JE d0.1 d0.2).1:Ty.Den (.sl TOp))=[]:=by first | rfl | (exact Zm)
   have hm0_1:((JE d0.1 d0.2).2.1:Int)=at_:=by first | rfl | (exact Zm)
   have hm0_2:((JE d0.1 d0.2).2.2:Bool)=true:=by first | rfl | (exact Zm)
   refine ⟨.slice none (0) (0),Zc [],?_,?_,?_,?_⟩
   rotate_left
   · (first | exact QA.grp (ls:=[[],[QM g0 (.cells [Value.slice A0_0 (d0.1.length) (c0_0),Value.int .i64 (at_),Value.bool true].toArray E0 (0,0))]]) hS_ | (rw [hm0_1,hm0_2];exact QA.grpM (ls:=[[],[QM g0 (.cells [Value.slice A0_0 (d0.1.length) (c0_0),Value.int .i64 (at_),Value.bool true].toArray E0 (0,0))]]) hS_ (by simp only [List.map,JX])) | exact QA.grpM (ls:=[[],[QM g0 (.cells [Value.slice A0_0 (d0.1.length) (c0_0),Value.int .i64 (at_),Value.bool true].toArray E0 (0,0))]]) hS_ (by simp only [List.map,JX]))
   · rw [he0];exact (Ow.nil _ _)
   · rw [hm0_1];exact (show inK .i64 _ by simp only [inK];(first | exact bd))
   all_goals (first | rfl | (simp [*];done))
 refine VO.w (.mv rfl) ?_
 refine VO.gcallN 165 rfl ⟨_,rfl,rfl⟩ QjZ rfl (fun W hW=>Qeg W (QH.rd h_l (hW.t 106) (JF _))) (fun v65 m65 hv65=>?_)
 subst hv65
 have hfa66:=ZZ l
 refine VO.w (.neq rfl rfl) (VO.z (.pF rfl rfl) (VO.p3 106 1 0 (VO.k7 0 2 3 4 5 20 73 ?_)))
 refine VC.cond rfl (fun hc67=>?_) (fun hc67=>?_)
 · refine VC.rs (VO.mv (VO.z (.nilp rfl) (VO.z (.fa rfl Yb rfl) ?_)))
   refine VO.store (k:=1) (c':=[.slice A0_0 (d0.1.length) (c0_0),.int .i64 (at_),.bool true]) 1 rfl rfl (.inr ⟨tk4,rfl⟩) rfl rfl rfl rfl rfl ?_
   refine VO.k7 0 2 3 4 5 20 73 (VC.rs (VO.as (VO.k7 0 2 3 4 5 20 73 (VC.ret (QZ ?_)))))
   refine Yd 2 [1] fun hS_=>?_
   dsimp only [QE]
   have he0:((JE d0.1 d0.2).1:Ty.Den (.sl TOp))=[]:=by first | rfl | (exact Zm)
   have hm0_1:((JE d0.1 d0.2).2.1:Int)=at_:=by first | rfl | (exact Zm)
   have hm0_2:((JE d0.1 d0.2).2.2:Bool)=true:=by first | rfl | (exact Zm)
   refine ⟨.slice none (0) (0),Zc [],?_,?_,?_,?_⟩
   rotate_left
   · (first | exact QA.grp (ls:=[[],[QM g0 (.cells [Value.slice A0_0 (d0.1.length) (c0_0),Value.int .i64 (at_),Value.bool true].toArray E0 (0,0))]]) hS_ | (rw [hm0_1,hm0_2];exact QA.grpM (ls:=[[],[QM g0 (.cells [Value.slice A0_0 (d0.1.length) (c0_0),Value.int .i64 (at_),Value.bool true].toArray E0 (0,0))]]) hS_ (by simp only [List.map,JX])) | exact QA.grpM (ls:=[[],[QM g0 (.cells [Value.slice A0_0 (d0.1.length) (c0_0),Value.int .i64 (at_),Value.bool true].toArray E0 (0,0))]]) hS_ (by simp only [List.map,JX]))
   · rw [he0];exact (Ow.nil _ _)
   · rw [hm0_1];exact (show inK .i64 _ by simp only [inK];(first | exact bd))
   all_goals (first | rfl | (simp [*];done))
 · refine VC.skip (Qm (VC.rs (VO.mv (VO.as (VO.k7 0 2 3 4 5 20 73 (VC.ret ?_))))))
   refine Yd 2 [106,1] fun hS_=>?_
   dsimp only [QE]
   have hm0_1:((JE d0.1 d0.2).2.1:Int)=at_:=by first | rfl | (exact Zm)
   have hm0_2:((JE d0.1 d0.2).2.2:Bool)=bad:=by first | rfl | (exact Zm)
   refine ⟨.slice l_A (l.length) (l_c),Zc [l_m],?_,?_,?_,?_⟩
   rotate_left
   · (first | exact QA.grp (ls:=[[l_m],[QM g0 (.cells [Value.slice A0_0 (d0.1.length) (c0_0),Value.int .i64 (at_),Value.bool bad].toArray E0 (0,0))]]) hS_ | (rw [hm0_1,hm0_2];exact QA.grpM (ls:=[[l_m],[QM g0 (.cells [Value.slice A0_0 (d0.1.length) (c0_0),Value.int .i64 (at_),Value.bool bad].toArray E0 (0,0))]]) hS_ (by simp only [List.map,JX])) | exact QA.grpM (ls:=[[l_m],[QM g0 (.cells [Value.slice A0_0 (d0.1.length) (c0_0),Value.int .i64 (at_),Value.bool bad].toArray E0 (0,0))]]) hS_ (by simp only [List.map,JX]))
   · exact Ow.cg (Ow.up (QH.ow h_l rfl) ((QA.self hS_ (List.Sublist.cons_cons _ (List.Sublist.cons _ List.Sublist.slnil))).1 _ (.head _))) (by first | rfl | exact Zm)
   · rw [hm0_1];exact (show inK .i64 _ by simp only [inK];(first | exact bd))
   all_goals (first | rfl | (simp [*];done))
theorem Qj {P:Prop} (h:P:=by first | omega | (have ho_:=JJ (by omega:Qs d1=0) (List.mem_of_getElem? ‹d1[k]? =some _›);have:=ho_.2.1;have:=ho_.2.2.1;have:=Qan (last:=last) ho_;have:=(YN (by omega:Qs d1=0)).2;omega) | (have ho_:=JJ (by omega:Qs d1=0) (List.mem_of_getElem? ‹d1[k]? =some _›);have:=ho_.2.1;have:=ho_.2.2.1;have:=(YN (by omega:Qs d1=0)).2;simp only [List.length_append,List.length_nil,List.length_cons,List.length_take,List.length_drop] at*;omega)):P:=h
set_option maxHeartbeats 1000000 in
theorem Qmd (W:World) {v0:Value} {d0:List UInt8} (h0:Rd (.sl .byte) (wm W) [v0] d0) {v1:Value} {d1:List DOp} (h1:Rd (.sl TOp) (wm W) [v1] d1) (e0:d0.length≤140737488352000):Qi Tryz.prog 112 [v0,v1] W (Qx) (fun v m'=>∃ (s0:Value),v= .tuple #[s0,.int .i64 ((XU d0 d1).2)]∧Ow (.sl .byte) m' [s0] ((XU d0 d1).1)):=by
 obtain ⟨A0,c0,rfl,l0,k0⟩:=h0.slc
 obtain ⟨A1,c1,rfl,l1,k1⟩:=h1.slc
 refine Qi.ofA (n:=70) Tryz.func112 rfl rfl rfl ?_
 refine VC.rs (VO.as (VO.as (VO.k4 0 1 4 5 (VC.seq (VC.rs (VO.mv ?_))))))
 refine VO.callN 101 rfl QjX rfl (fun W hW=>Qf4 W (Rd.mono h1 (hW.t 0))) (fun v1 m1 hv1=>?_)
 subst hv1
 have hfa2:=ZZ d1
 refine VO.as (VO.k5 0 1 4 5 6 (VC.rs (VO.mv (VO.z (.neq rfl rfl) (VO.p1 0 (VO.k6 0 1 4 5 6 16 ?_))))))
 refine VC.cond rfl (fun hc3=>?_) (fun hc3=>?_)
 · refine VC.rs (VO.mv (VO.as (VO.as (VO.k6 0 1 4 5 6 16 (VC.ret (QZ ?_))))))
   refine Qef 4 5 [] fun hS_=>?_
   dsimp only [QE]
   have he0:((XU d0 d1).1:Ty.Den (.sl .byte))=[]:=by first | rfl | (first | (rw [Xe ‹_›] <;> rfl) | (rw [YI Qn];dsimp only;rw [← he,List.drop_of_length_le Qn];simp [Y1]))
   refine ⟨.slice none (0) (0),?_,?_⟩
   rotate_left
   · rw [he0];exact (Ow.nil _ _)
   all_goals (first | rfl | (first | (rw [Xe ‹_›] <;> rfl) | (rw [YI Qn] <;> rfl)))
 refine VC.skip (Qm (VC.rs (VO.mv (VO.mv (VO.z (.lenS rfl ZH) ?_)))))
 refine VO.z (.cvI rfl ⟨_,Tryz.underlying3⟩ Tryz.underlying130 (IntWalk.u64_in _ Qj)) ?_
 refine VO.callN 104 rfl QbW rfl (fun W hW=>Xg W (Rd.mono h0 (hW.t 0)) d1.length Qj Qj) (fun v4 m4 hv4=>?_)
 obtain ⟨s4_0,rfl,f4_0⟩:=hv4
 have hfa5:=JT (x:=d1.length) (by first | omega | exact QkN Qo _)
 obtain ⟨A4_0,c4_0,eq4_0,l4_0,k4_0⟩:=f4_0.slc
 subst eq4_0
 refine VO.as (VO.k7 0 1 4 5 6 7 16 (VC.rs (VO.as (VO.k8 0 1 4 5 6 7 8 16 (VC.seq (VC.rs (VO.mv (VO.z (.lenS rfl ZH) (VO.mv (VO.p2 104 0 (VO.k11 0 1 4 5 6 7 8 16 23 24 25 ?_)))))))))))
 refine VC.block ?_
 refine VC.loop (G:=Nat × (List UInt8) × (List UInt8) × (Option Addr) × Nat × Mem) (fun g=>[(7,.slice (g.2.2.2.1) ((g.2.2.1).length) ((g.2.2.2.2.1))),(8,str ((g.2.1))),(25,.int .i64 ((((g.1):Nat):Int))),(0,.slice A0 (d0.length) (c0)),(1,.slice A1 (d1.length) (c1)),(4,.slice none (0) (0)),(5,.int .i64 (0)),(6,.int .i64 (Qs d1)),(16,.bool (decide (¬ (Qs d1)=0))),(23,.slice A1 (d1.length) (c1)),(24,.int .i64 (((d1.length:Nat):Int)))]) (fun g=>[(104,(g.2.2.2.2.2)),(0,wm W)]) (fun g=>((g.1)≤d1.length)∧((g.2.2.1)++Y1 (g.2.1) (d1.drop (g.1))=d0++JQ d1)∧((g.2.2.1).length≤d0.length+10+80*(g.1))∧((g.2.1).length≤16)∧(QH .byte (g.2.2.2.2.2) Qx (.slice (g.2.2.2.1) (g.2.2.1).length (g.2.2.2.2.1)) (g.2.2.1))) (fun g=>d1.length - (g.1)) (0,[],d0++JY d1.length,A4_0,c4_0,m4) (⟨by omega,by (simp [JQ]),by (have:=JT (x:=d1.length) Qn;simp;omega),by (simp;done),(Ow.ownl f4_0 rfl Qx)⟩) ⟨esn,fun _ h=>h.sub [104,0]⟩ ?_
 rintro ⟨k,last,out,out_A,out_c,out_m⟩ ⟨hk,he,hlo,hla,h_out⟩
 replace hk:k≤d1.length:=hk
 replace he:out++Y1 last (d1.drop k)=d0++JQ d1:=he
 replace hlo:out.length≤d0.length+10+80*k:=hlo
 replace hla:last.length≤16:=hla
 replace h_out:QH .byte out_m Qx (.slice out_A out.length out_c) out:=h_out
 show VC _ _ _ _ _ [(7,.slice out_A (out.length) (out_c)),(8,str (last)),(25,.int .i64 (((k:Nat):Int))),(0,.slice A0 (d0.length) (c0)),(1,.slice A1 (d1.length) (c1)),(4,.slice none (0) (0)),(5,.int .i64 (0)),(6,.int .i64 (Qs d1)),(16,.bool (decide (¬ (Qs d1)=0))),(23,.slice A1 (d1.length) (c1)),(24,.int .i64 (((d1.length:Nat):Int)))] [(104,out_m),(0,wm W)]
 have l_out:out.length≤out_c:=by obtain ⟨_,_,he,hl,_⟩:=h_out.slice;simp only [Value.slice.injEq] at he;omega
 have k_out:out_c≤9223372036854775807:=by obtain ⟨_,_,he,_,hl⟩:=h_out.slice;simp only [Value.slice.injEq,maxLen] at he hl;omega
 refine VC.rs (VO.z (.lss rfl rfl) (VO.k12 0 1 4 5 6 7 8 16 23 24 25 26 (VC.seq ?_)))
 refine VC.cond rfl (fun hc6=>?_) (fun hc6=>?_)
 refine VC.skip (Qm (VC.seq (VC.block (VC.rs ?_))))
 obtain ⟨x7,hx7⟩:∃ z_,(d1)[k]? =some z_:=⟨_,List.getElem?_eq_getElem Qj⟩
 obtain ⟨gg7,oo7,ec7,ea7,hce7,hre7⟩:=h1.elem hx7
 cases ea7
 obtain ⟨rfl,q7_1,q7_2⟩:=XF (x0:=x7.1) (x1:=x7.2.1) (x2:=x7.2.2) hre7
 simp only [maxLen] at q7_1
 simp only [maxLen] at q7_2
 refine VO.z (.ixI k rfl rfl ZH rfl Qj) ?_
 refine VO.z (.ldA 0 rfl Qc5 rfl hce7) ?_
 refine VO.alloc 109 rfl QcS (fun g8=>?_)
 refine VO.store (k:=3) (c':=[.bool x7.1,str (x7.2.1),str (x7.2.2)]) 109 rfl rfl (.inl Qc5) rfl rfl rfl rfl rfl ?_
 refine VO.nil (VC.rs (VO.mv (VO.z (.fa rfl Zy rfl) (VO.z (.ld1 109 rfl tk9 rfl (Qa rfl rfl)) ?_))))
 refine VO.callN 110 rfl QnA rfl (fun W hW=>Qil W last (by simp only [maxLen];(exact Qj)) x7.2.1 (by simp only [maxLen];(exact Qj))) (fun v10 m10 hv10=>?_)
 subst hv10
 have hfa11:=XM last x7.2.1
 refine VO.as (VO.p3 109 104 0 (VO.nil (VC.rs (VO.as (VO.nil (VC.seq (VC.rs (VO.z (.fa rfl Zy rfl) (VO.z (.ld1 109 rfl tk4 rfl (Qa rfl rfl)) (VO.nil ?_))))))))))
 refine VC.condB rfl (fun hc12=>?_) (fun hc12=>?_)
 refine VC.reg ?_
 refine VO.as (VO.p3 109 104 0 (VO.nil (Qm (VC.rs (VO.mv (VO.mv ?_))))))
 refine VO.bsl (cs:=[.int .u8 (1)]) 114 rfl rfl Ji tz5 rfl rfl (fun g13=>?_)
 obtain ⟨mo15,cs15,hM15,hA15,hC15⟩:=h_out
 refine VO.app 104 rfl rfl rfl Ji tz5 rfl rfl hM15 hA15 (.row 114 _ _ _ 1 1 _ _ Tryz.underlying56 rfl (Qa rfl rfl)) (by simp [Value.oneCell']) (by simp only [maxLen];(exact Qj)) Qj (by decide) (fun v15 m15 hN15=>?_)
 have ho15:QH .byte m15 Qx v15 (out++[UInt8.ofNat 1]):=QH.one hC15 hN15 (Qba Qj)
 obtain ⟨A15,c15,rfl,l15,k15⟩:=ho15.slc
 refine VO.mv ?_
 refine VO.z (.cvI rfl ⟨_,Tryz.underlying3⟩ Tryz.underlying130 (IntWalk.u64_in _ Qj)) ?_
 refine VO.callN 116 rfl QbW rfl (fun W hW=>Xg W (QH.rd ho15 (hW.t 104) (JF _)) (QI last x7.2.1) Qj Qj) (fun v16 m16 hv16=>?_)
 obtain ⟨s16_0,rfl,f16_0⟩:=hv16
 have hfa17:=JT (x:=(QI last x7.2.1)) (by first | omega | exact QkN Qo _)
 obtain ⟨A16_0,c16_0,eq16_0,l16_0,k16_0⟩:=f16_0.slc
 subst eq16_0
 refine VO.as (VO.nil (VC.seq ?_))
 refine VC.regD _ 12 [(0,true),(1,true),(2,true),(3,true),(4,true),(5,true),(6,true),(8,true),(9,true),(10,true),(11,true),(7,false)] follows (by kernel_rfl) (fun _ h=>h.sub [116,114,109,104,0]) ?_
 refine VD.z rfl (.mv rfl) (VD.z rfl (.fa rfl Zy rfl) (VD.z rfl (.ld1 109 rfl tk9 rfl (Qa rfl rfl)) ?_))
 refine VD.z rfl (.lenT rfl Tryz.underlying9) ?_
 refine VD.z rfl (.mv rfl) ?_
 refine VD.z rfl (.sub rfl rfl rfl ⟨by exact Qj,by exact Qj⟩) ?_
 refine VD.z rfl (.cvI (c:=((((x7.2.1.length:Nat):Int) - ((QI last x7.2.1:Nat):Int)).toNat:Int)) rfl ⟨_,Tryz.underlying3⟩ Tryz.underlying130 (by rw [IntWalk.u64_in _ Qj];first | omega | (exact Qj))) ?_
 refine VD.z rfl (.fa rfl Zy rfl) (VD.z rfl (.ld1 109 rfl tk9 rfl (Qa rfl rfl)) (VD.z rfl (.mv rfl) ?_))
 refine VD.z rfl (.slTLI (QI last x7.2.1) rfl rfl Tryz.underlying9 rfl Qj) ?_
 refine VD.callN 118 rfl rfl (.inl rfl) QbW rfl (fun _ h=>h.sub [116,114,109,104,0]) (fun W hW=>Xg W (Ow.rd f16_0 (hW.t 116)) ((((x7.2.1.length:Nat):Int) - ((QI last x7.2.1:Nat):Int)).toNat) Qj Qj) (fun v18 m18 hv18=>?_)
 obtain ⟨s18_0,rfl,f18_0⟩:=hv18
 have hfa19:=JT (x:=((((x7.2.1.length:Nat):Int) - ((QI last x7.2.1:Nat):Int)).toNat)) (by first | omega | exact QkN Qo _)
 obtain ⟨A18_0,c18_0,eq18_0,l18_0,k18_0⟩:=f18_0.slc
 subst eq18_0
 refine VD.nil rfl ?_ rfl
 obtain ⟨mo20,cs20,hM20,hA20,hC20⟩:=(Ow.ownl f18_0 rfl Qx)
 refine VO.app 118 rfl rfl rfl Ji tz5 rfl rfl hM20 hA20 (.str _ Tryz.underlying9 rfl) (QcM _) (by simp only [maxLen];(exact Qj)) Qj (by decide) (fun v20 m20 hN20=>?_)
 have ho20:QH .byte m20 Qx v20 ((((out++[UInt8.ofNat 1])++JY (QI last x7.2.1))++JY ((((x7.2.1.length:Nat):Int) - ((QI last x7.2.1:Nat):Int)).toNat))++(x7.2.1.drop (QI last x7.2.1))):=QH.more hC20 hN20 (QgC _ _)
 obtain ⟨A20,c20,rfl,l20,k20⟩:=ho20.slc
 refine VO.as (VO.nil (Qm (VC.seq (VC.rs (VO.z (.fa rfl Zy rfl) (VO.z (.ld1 109 rfl tk4 rfl (Qa rfl rfl)) (VO.p3 118 109 0 (VO.nil ?_))))))))
 refine VC.condKT rfl hc12 ?_
 refine VC.regD _ 8 [(0,true),(1,true),(2,true),(3,true),(4,true),(6,true),(7,true),(5,false)] follows (by kernel_rfl) (fun _ h=>h.sub [118,109,0]) ?_
 refine VD.z rfl (.mv rfl) (VD.z rfl (.fa rfl Zy rfl) (VD.z rfl (.ld1 109 rfl tk9 rfl (Qa rfl rfl)) ?_))
 refine VD.z rfl (.lenT rfl Tryz.underlying9) ?_
 refine VD.z rfl (.cvI rfl ⟨_,Tryz.underlying3⟩ Tryz.underlying130 (IntWalk.u64_in _ Qj)) ?_
 refine VD.z rfl (.fa rfl Zy rfl) (VD.z rfl (.ld1 109 rfl tk9 rfl (Qa rfl rfl)) ?_)
 refine VD.callN 121 rfl rfl (.inl rfl) QbW rfl (fun _ h=>h.sub [118,109,0]) (fun W hW=>Xg W (QH.rd ho20 (hW.t 118) (JF _)) x7.2.2.length Qj Qj) (fun v21 m21 hv21=>?_)
 obtain ⟨s21_0,rfl,f21_0⟩:=hv21
 have hfa22:=JT (x:=x7.2.2.length) (by first | omega | exact QkN Qo _)
 obtain ⟨A21_0,c21_0,eq21_0,l21_0,k21_0⟩:=f21_0.slc
 subst eq21_0
 refine VD.nil rfl ?_ rfl
 obtain ⟨mo23,cs23,hM23,hA23,hC23⟩:=(Ow.ownl f21_0 rfl Qx)
 refine VO.app 121 rfl rfl rfl Ji tz5 rfl rfl hM23 hA23 (.str _ Tryz.underlying9 rfl) (QcM _) (by simp only [maxLen];(exact Qj)) Qj (by decide) (fun v23 m23 hN23=>?_)
 have ho23:QH .byte m23 Qx v23 ((((((out++[UInt8.ofNat 1])++JY (QI last x7.2.1))++JY ((((x7.2.1.length:Nat):Int) - ((QI last x7.2.1:Nat):Int)).toNat))++(x7.2.1.drop (QI last x7.2.1)))++JY x7.2.2.length)++x7.2.2):=QH.more hC23 hN23 (QgC _ _)
 obtain ⟨A23,c23,rfl,l23,k23⟩:=ho23.slc
 refine VO.as (VO.nil (Qm ?_))
 refine VC.reg ?_
 refine VO.z (.fa rfl Zy rfl) (VO.z (.ld1 109 rfl tk9 rfl (Qa rfl rfl)) (VO.as (VO.nil (JL (Qm ?_)))))
 refine VC.reg ?_
 refine VO.z (.add (c:=((k+1:Nat):Int)) rfl rfl Qn ⟨by exact Qj,by exact Qj⟩) ?_
 refine VO.mv (VO.p3 121 109 0 (VO.nil ?_))
 exact Qm ⟨⟨k+1,x7.2.1,(((((out++[UInt8.ofNat 1])++JY (QI last x7.2.1))++JY ((((x7.2.1.length:Nat):Int) - ((QI last x7.2.1:Nat):Int)).toNat))++(x7.2.1.drop (QI last x7.2.1)))++JY x7.2.2.length)++x7.2.2,A23,c23,m23⟩,⟨by omega,by exact QdT he ‹d1[k]? =some _› (by first | (rw [QbX Qo];simp only [List.append_assoc,List.cons_append,List.nil_append,List.singleton_append,Int.toNat_sub];rfl) | (rw [QbY Qo];simp only [List.append_assoc,List.cons_append,List.nil_append,List.singleton_append,Int.toNat_sub];rfl)),by exact Qfd (last:=last) hlo Qn ‹d1[k]? =some _› (by first | (rw [QbX Qo];simp only [List.append_assoc,List.cons_append,List.nil_append,List.singleton_append,Int.toNat_sub];rfl) | (rw [QbY Qo];simp only [List.append_assoc,List.cons_append,List.nil_append,List.singleton_append,Int.toNat_sub];rfl)),by (have ho_:=JJ (by omega:Qs d1=0) (List.mem_of_getElem? ‹d1[k]? =some _›);have:=ho_.2.1;have:=ho_.2.2.1;have:=Qan (last:=last) ho_;have:=(YN (by omega:Qs d1=0)).2;omega),ho23⟩,by exact Qj,⟨esn,fun _ h=>Inv.sub (Inv.num h 121 104 rfl) [104,0]⟩⟩
 refine VC.skip (Qm (VC.rs (VO.mv (VO.mv ?_))))
 refine VO.bsl (cs:=[.int .u8 (0)]) 125 rfl rfl Ji tz5 rfl rfl (fun g24=>?_)
 obtain ⟨mo26,cs26,hM26,hA26,hC26⟩:=h_out
 refine VO.app 104 rfl rfl rfl Ji tz5 rfl rfl hM26 hA26 (.row 125 _ _ _ 1 1 _ _ Tryz.underlying56 rfl (Qa rfl rfl)) (by simp [Value.oneCell']) (by simp only [maxLen];(exact Qj)) Qj (by decide) (fun v26 m26 hN26=>?_)
 have ho26:QH .byte m26 Qx v26 (out++[UInt8.ofNat 0]):=QH.one hC26 hN26 (Qba Qj)
 obtain ⟨A26,c26,rfl,l26,k26⟩:=ho26.slc
 refine VO.mv ?_
 refine VO.z (.cvI rfl ⟨_,Tryz.underlying3⟩ Tryz.underlying130 (IntWalk.u64_in _ Qj)) ?_
 refine VO.callN 127 rfl QbW rfl (fun W hW=>Xg W (QH.rd ho26 (hW.t 104) (JF _)) (QI last x7.2.1) Qj Qj) (fun v27 m27 hv27=>?_)
 obtain ⟨s27_0,rfl,f27_0⟩:=hv27
 have hfa28:=JT (x:=(QI last x7.2.1)) (by first | omega | exact QkN Qo _)
 obtain ⟨A27_0,c27_0,eq27_0,l27_0,k27_0⟩:=f27_0.slc
 subst eq27_0
 refine VO.as (VO.p3 127 109 0 (VO.nil (VC.seq ?_)))
 refine VC.regD _ 12 [(0,true),(1,true),(2,true),(3,true),(4,true),(5,true),(6,true),(8,true),(9,true),(10,true),(11,true),(7,false)] follows (by kernel_rfl) (fun _ h=>h.sub [127,109,0]) ?_
 refine VD.z rfl (.mv rfl) (VD.z rfl (.fa rfl Zy rfl) (VD.z rfl (.ld1 109 rfl tk9 rfl (Qa rfl rfl)) ?_))
 refine VD.z rfl (.lenT rfl Tryz.underlying9) ?_
 refine VD.z rfl (.mv rfl) ?_
 refine VD.z rfl (.sub rfl rfl rfl ⟨by exact Qj,by exact Qj⟩) ?_
 refine VD.z rfl (.cvI (c:=((((x7.2.1.length:Nat):Int) - ((QI last x7.2.1:Nat):Int)).toNat:Int)) rfl ⟨_,Tryz.underlying3⟩ Tryz.underlying130 (by rw [IntWalk.u64_in _ Qj];first | omega | (exact Qj))) ?_
 refine VD.z rfl (.fa rfl Zy rfl) (VD.z rfl (.ld1 109 rfl tk9 rfl (Qa rfl rfl)) (VD.z rfl (.mv rfl) ?_))
 refine VD.z rfl (.slTLI (QI last x7.2.1) rfl rfl Tryz.underlying9 rfl Qj) ?_
 refine VD.callN 129 rfl rfl (.inl rfl) QbW rfl (fun _ h=>h.sub [127,109,0]) (fun W hW=>Xg W (Ow.rd f27_0 (hW.t 127)) ((((x7.2.1.length:Nat):Int) - ((QI last x7.2.1:Nat):Int)).toNat) Qj Qj) (fun v29 m29 hv29=>?_)
 obtain ⟨s29_0,rfl,f29_0⟩:=hv29
 have hfa30:=JT (x:=((((x7.2.1.length:Nat):Int) - ((QI last x7.2.1:Nat):Int)).toNat)) (by first | omega | exact QkN Qo _)
 obtain ⟨A29_0,c29_0,eq29_0,l29_0,k29_0⟩:=f29_0.slc
 subst eq29_0
 refine VD.nil rfl ?_ rfl
 obtain ⟨mo31,cs31,hM31,hA31,hC31⟩:=(Ow.ownl f29_0 rfl Qx)
 refine VO.app 129 rfl rfl rfl Ji tz5 rfl rfl hM31 hA31 (.str _ Tryz.underlying9 rfl) (QcM _) (by simp only [maxLen];(exact Qj)) Qj (by decide) (fun v31 m31 hN31=>?_)
 have ho31:QH .byte m31 Qx v31 ((((out++[UInt8.ofNat 0])++JY (QI last x7.2.1))++JY ((((x7.2.1.length:Nat):Int) - ((QI last x7.2.1:Nat):Int)).toNat))++(x7.2.1.drop (QI last x7.2.1))):=QH.more hC31 hN31 (QgC _ _)
 obtain ⟨A31,c31,rfl,l31,k31⟩:=ho31.slc
 refine VO.as (VO.nil (Qm (VC.seq (VC.rs (VO.z (.fa rfl Zy rfl) (VO.z (.ld1 109 rfl tk4 rfl (Qa rfl rfl)) (VO.nil ?_)))))))
 refine VC.condKF rfl hc12 ?_
 refine VC.skip (Qm ?_)
 refine VC.reg ?_
 refine VO.z (.fa rfl Zy rfl) (VO.z (.ld1 109 rfl tk9 rfl (Qa rfl rfl)) (VO.as (VO.p3 129 109 0 (VO.nil (JL (Qm ?_))))))
 refine VC.reg ?_
 refine VO.z (.add (c:=((k+1:Nat):Int)) rfl rfl Qn ⟨by exact Qj,by exact Qj⟩) ?_
 refine VO.mv (VO.nil ?_)
 exact Qm ⟨⟨k+1,x7.2.1,(((out++[UInt8.ofNat 0])++JY (QI last x7.2.1))++JY ((((x7.2.1.length:Nat):Int) - ((QI last x7.2.1:Nat):Int)).toNat))++(x7.2.1.drop (QI last x7.2.1)),A31,c31,m31⟩,⟨by omega,by exact QdT he ‹d1[k]? =some _› (by first | (rw [QbX Qo];simp only [List.append_assoc,List.cons_append,List.nil_append,List.singleton_append,Int.toNat_sub];rfl) | (rw [QbY Qo];simp only [List.append_assoc,List.cons_append,List.nil_append,List.singleton_append,Int.toNat_sub];rfl)),by exact Qfd (last:=last) hlo Qn ‹d1[k]? =some _› (by first | (rw [QbX Qo];simp only [List.append_assoc,List.cons_append,List.nil_append,List.singleton_append,Int.toNat_sub];rfl) | (rw [QbY Qo];simp only [List.append_assoc,List.cons_append,List.nil_append,List.singleton_append,Int.toNat_sub];rfl)),by (have ho_:=JJ (by omega:Qs d1=0) (List.mem_of_getElem? ‹d1[k]? =some _›);have:=ho_.2.1;have:=ho_.2.2.1;have:=Qan (last:=last) ho_;have:=(YN (by omega:Qs d1=0)).2;omega),ho31⟩,by exact Qj,⟨esn,fun _ h=>Inv.sub (Inv.num h 129 104 rfl) [104,0]⟩⟩
 refine VC.exit (Zh (Zh (Zi (Qm (VC.rs (VO.mv (VO.as (VO.as (VO.k12 0 1 4 5 6 7 8 16 23 24 25 26 (VC.ret ?_))))))))))
 refine Qef 4 5 [104] fun hS_=>?_
 dsimp only [QE]
 exact ⟨Value.slice out_A (out.length) (out_c),(by first | rfl | (first | (rw [Xe ‹_›] <;> rfl) | (rw [YI Qn] <;> rfl))),(Ow.cg (Ow.up (QH.ow h_out rfl) (hS_.1 _ (.head _))) (by first | rfl | (first | (rw [Xe ‹_›] <;> rfl) | (rw [YI Qn];dsimp only;rw [← he,List.drop_of_length_le Qn];simp [Y1]))))⟩
theorem QbV:JR Tryz.prog 134=true:=by kernel_rfl
theorem Qk {P:Prop} (h:P:=by first | omega | (have ho_:=JJ (by omega:Qs d1=0) (List.mem_of_getElem? ‹d1[k]? =some _›);have:=ho_.2.1;have:=ho_.2.2.1;have:=Qan (last:=last) ho_;have:=(YN (by omega:Qs d1=0)).2;omega) | (have ho_:=JJ (by omega:Qs d1=0) (List.mem_of_getElem? ‹d1[k]? =some _›);have:=ho_.2.1;have:=ho_.2.2.1;have:=(YN (by omega:Qs d1=0)).2;simp only [List.length_append,List.length_nil,List.length_cons,List.length_take,List.length_drop] at*;omega)):P:=h
theorem Yy {k:IntKind} {x:Int} (h:inK k x:=by simp only [inK];exact Qk):inK k x:=h
set_option maxHeartbeats 1000000 in
theorem QjD (W:World) {v0:Value} {d0:List UInt8} (h0:Rd (.sl .byte) (wm W) [v0] d0) {v1:Value} {d1:List DOp} (h1:Rd (.sl TOp) (wm W) [v1] d1) (e0:d0.length≤140737488352000):Qi Tryz.prog 135 [v0,v1] W (Qx) (fun v m'=>∃ (s0:Value),v= .tuple #[s0,.int .i64 ((XU d0 d1).2)]∧Ow (.sl .byte) m' [s0] ((XU d0 d1).1)):=by
 obtain ⟨A0,c0,rfl,l0,k0⟩:=h0.slc
 obtain ⟨A1,c1,rfl,l1,k1⟩:=h1.slc
 refine Qi.ofA (n:=72) Tryz.func135 rfl rfl rfl ?_
 refine VC.rs (VO.as (VO.as (VO.k4 0 1 4 5 (VC.rs (VO.mv ?_)))))
 refine VO.callN 101 rfl QjZ rfl (fun W hW=>Qeg W (Rd.mono h1 (hW.t 0))) (fun v1 m1 hv1=>?_)
 subst hv1
 have hfa2:=ZZ d1
 refine VO.as (VO.k5 0 1 4 5 6 (VC.seq (VC.rs (VO.mv (VO.z (.neq rfl rfl) (VO.p1 0 (VO.k6 0 1 4 5 6 16 ?_)))))))
 refine VC.cond rfl (fun hc3=>?_) (fun hc3=>?_)
 · refine VC.rs (VO.mv (VO.as (VO.as (VO.k6 0 1 4 5 6 16 (VC.ret (QZ ?_))))))
   refine Qef 4 5 [] fun hS_=>?_
   dsimp only [QE]
   have he0:((XU d0 d1).1:Ty.Den (.sl .byte))=[]:=by first | rfl | (first | (rw [Xe ‹_›] <;> rfl) | (rw [YI Qn];dsimp only;rw [← he,List.drop_of_length_le Qn];simp [Y1]))
   refine ⟨.slice none (0) (0),?_,?_⟩
   rotate_left
   · rw [he0];exact (Ow.nil _ _)
   all_goals (first | rfl | (first | (rw [Xe ‹_›] <;> rfl) | (rw [YI Qn] <;> rfl)))
 refine VC.skip (Qm (VC.rs (VO.mv (VO.mv (VO.z (.lenS rfl ZH) ?_)))))
 refine VO.callN 104 rfl QbV rfl (fun W hW=>QbL W (Rd.mono h0 (hW.t 0)) ((d1.length:Nat):Int) Yy Qk Qk) (fun v4 m4 hv4=>?_)
 obtain ⟨s4_0,rfl,f4_0⟩:=hv4
 have hfa5:=JT (x:=((d1.length:Nat):Int).toNat) Qn
 obtain ⟨A4_0,c4_0,eq4_0,l4_0,k4_0⟩:=f4_0.slc
 subst eq4_0
 refine VO.as (VO.k7 0 1 4 5 6 7 16 (VC.rs (VO.as (VO.k8 0 1 4 5 6 7 8 16 (VC.seq (VC.rs (VO.as (VO.p2 104 0 (VO.k9 0 1 4 5 6 7 8 9 16 (VC.block ?_))))))))))
 refine VC.loop (G:=Nat × (List UInt8) × (List UInt8) × (Option Addr) × Nat × Mem) (fun g=>[(7,.slice (g.2.2.2.1) ((g.2.2.1).length) ((g.2.2.2.2.1))),(8,str ((g.2.1))),(9,.int .i64 ((((g.1):Nat):Int))),(0,.slice A0 (d0.length) (c0)),(1,.slice A1 (d1.length) (c1)),(4,.slice none (0) (0)),(5,.int .i64 (0)),(6,.int .i64 (Qs d1)),(16,.bool (decide (¬ (Qs d1)=0)))]) (fun g=>[(104,(g.2.2.2.2.2)),(0,wm W)]) (fun g=>((g.1)≤d1.length)∧((g.2.2.1)++Y1 (g.2.1) (d1.drop (g.1))=d0++JQ d1)∧((g.2.2.1).length≤d0.length+10+80*(g.1))∧((g.2.1).length≤16)∧(QH .byte (g.2.2.2.2.2) Qx (.slice (g.2.2.2.1) (g.2.2.1).length (g.2.2.2.2.1)) (g.2.2.1))) (fun g=>d1.length - (g.1)) (0,[],d0++JY ((d1.length:Nat):Int).toNat,A4_0,c4_0,m4) (⟨by omega,by (simp [JQ]),by (have:=JT (x:=d1.length) Qn;simp;omega),by (simp;done),(Ow.ownl f4_0 rfl Qx)⟩) ⟨esn,fun _ h=>h.sub [104,0]⟩ ?_
 rintro ⟨k,last,out,out_A,out_c,out_m⟩ ⟨hk,he,hlo,hla,h_out⟩
 replace hk:k≤d1.length:=hk
 replace he:out++Y1 last (d1.drop k)=d0++JQ d1:=he
 replace hlo:out.length≤d0.length+10+80*k:=hlo
 replace hla:last.length≤16:=hla
 replace h_out:QH .byte out_m Qx (.slice out_A out.length out_c) out:=h_out
 show VC _ _ _ _ _ [(7,.slice out_A (out.length) (out_c)),(8,str (last)),(9,.int .i64 (((k:Nat):Int))),(0,.slice A0 (d0.length) (c0)),(1,.slice A1 (d1.length) (c1)),(4,.slice none (0) (0)),(5,.int .i64 (0)),(6,.int .i64 (Qs d1)),(16,.bool (decide (¬ (Qs d1)=0)))] [(104,out_m),(0,wm W)]
 have l_out:out.length≤out_c:=by obtain ⟨_,_,he,hl,_⟩:=h_out.slice;simp only [Value.slice.injEq] at he;omega
 have k_out:out_c≤9223372036854775807:=by obtain ⟨_,_,he,_,hl⟩:=h_out.slice;simp only [Value.slice.injEq,maxLen] at he hl;omega
 refine VC.seq (VC.rs (VO.mv (VO.mv (VO.z (.lenS rfl ZH) (VO.z (.lss rfl rfl) (VO.k10 0 1 4 5 6 7 8 9 16 25 ?_))))))
 refine VC.cond rfl (fun hc6=>?_) (fun hc6=>?_)
 refine VC.skip (Qm (VC.seq (VC.block (VC.rs (VO.mv (VO.mv ?_))))))
 obtain ⟨x7,hx7⟩:∃ z_,(d1)[k]? =some z_:=⟨_,List.getElem?_eq_getElem Qk⟩
 obtain ⟨gg7,oo7,ec7,ea7,hce7,hre7⟩:=h1.elem hx7
 cases ea7
 obtain ⟨rfl,q7_1,q7_2⟩:=XF (x0:=x7.1) (x1:=x7.2.1) (x2:=x7.2.2) hre7
 simp only [maxLen] at q7_1
 simp only [maxLen] at q7_2
 refine VO.z (.ixI k rfl rfl ZH rfl Qk) ?_
 refine VO.z (.ldA 0 rfl Qc5 rfl hce7) ?_
 refine VO.alloc 109 rfl QcS (fun g8=>?_)
 refine VO.store (k:=3) (c':=[.bool x7.1,str (x7.2.1),str (x7.2.2)]) 109 rfl rfl (.inl Qc5) rfl rfl rfl rfl rfl ?_
 refine VO.k11 0 1 4 5 6 7 8 9 10 16 25 (VC.rs (VO.as (VO.p3 109 104 0 (VO.k12 0 1 4 5 6 7 8 9 10 11 16 25 (VC.seq (VC.rs (VO.z (.fa rfl Zy rfl) (VO.z (.ld1 109 rfl tk4 rfl (Qa rfl rfl)) (VO.nil ?_)))))))))
 refine VC.condB rfl (fun hc10=>?_) (fun hc10=>?_)
 refine VC.reg ?_
 refine VO.as (VO.nil (Qm (VC.rs (VO.mv (VO.mv ?_)))))
 refine VO.bsl (cs:=[.int .u8 (1)]) 112 rfl rfl Ji tz5 rfl rfl (fun g11=>?_)
 obtain ⟨mo13,cs13,hM13,hA13,hC13⟩:=h_out
 refine VO.app 104 rfl rfl rfl Ji tz5 rfl rfl hM13 hA13 (.row 112 _ _ _ 1 1 _ _ Tryz.underlying56 rfl (Qa rfl rfl)) (by simp [Value.oneCell']) (by simp only [maxLen];(exact Qk)) Qk (by decide) (fun v13 m13 hN13=>?_)
 have ho13:QH .byte m13 Qx v13 (out++[UInt8.ofNat 1]):=QH.one hC13 hN13 (Qba Qk)
 obtain ⟨A13,c13,rfl,l13,k13⟩:=ho13.slc
 refine VO.as (VO.p3 109 104 0 (VO.nil (VC.rs (VO.mv (VO.z (.fa rfl Zy rfl) (VO.z (.ld1 109 rfl tk9 rfl (Qa rfl rfl)) ?_))))))
 refine VO.callN 114 rfl QhE rfl (fun W hW=>QcB W last (by simp only [maxLen];(exact Qk)) x7.2.1 (by simp only [maxLen];(exact Qk))) (fun v14 m14 hv14=>?_)
 subst hv14
 have hfa15:=XM last x7.2.1
 refine VO.as (VO.nil (VC.rs (VO.mv (VO.mv ?_))))
 refine VO.callN 116 rfl QbV rfl (fun W hW=>QbL W (QH.rd ho13 (hW.t 104) (JF _)) ((QI last x7.2.1:Nat):Int) Yy Qk Qk) (fun v16 m16 hv16=>?_)
 obtain ⟨s16_0,rfl,f16_0⟩:=hv16
 have hfa17:=JT (x:=((QI last x7.2.1:Nat):Int).toNat) Qn
 obtain ⟨A16_0,c16_0,eq16_0,l16_0,k16_0⟩:=f16_0.slc
 subst eq16_0
 refine VO.as (VO.nil (VC.rs (VO.mv (VO.z (.fa rfl Zy rfl) (VO.z (.ld1 109 rfl tk9 rfl (Qa rfl rfl)) ?_)))))
 refine VO.z (.lenT rfl Tryz.underlying9) ?_
 refine VO.mv ?_
 refine VO.z (.sub rfl rfl rfl ⟨by exact Qk,by exact Qk⟩) ?_
 refine VO.callN 118 rfl QbV rfl (fun W hW=>QbL W (Ow.rd f16_0 (hW.t 116)) (((x7.2.1.length:Nat):Int) - ((QI last x7.2.1:Nat):Int)) Yy Qk Qk) (fun v18 m18 hv18=>?_)
 obtain ⟨s18_0,rfl,f18_0⟩:=hv18
 have hfa19:=JT (x:=(((x7.2.1.length:Nat):Int) - ((QI last x7.2.1:Nat):Int)).toNat) Qn
 obtain ⟨A18_0,c18_0,eq18_0,l18_0,k18_0⟩:=f18_0.slc
 subst eq18_0
 refine VO.as (VO.p3 118 109 0 (VO.nil (VC.rs (VO.mv (VO.z (.fa rfl Zy rfl) (VO.z (.ld1 109 rfl tk9 rfl (Qa rfl rfl)) (VO.mv ?_)))))))
 refine VO.z (.slTLI (QI last x7.2.1) rfl rfl Tryz.underlying9 rfl Qk) ?_
 obtain ⟨mo20,cs20,hM20,hA20,hC20⟩:=(Ow.ownl f18_0 rfl Qx)
 refine VO.app 118 rfl rfl rfl Ji tz5 rfl rfl hM20 hA20 (.str _ Tryz.underlying9 rfl) (QcM _) (by simp only [maxLen];(exact Qk)) Qk (by decide) (fun v20 m20 hN20=>?_)
 have ho20:QH .byte m20 Qx v20 ((((out++[UInt8.ofNat 1])++JY ((QI last x7.2.1:Nat):Int).toNat)++JY (((x7.2.1.length:Nat):Int) - ((QI last x7.2.1:Nat):Int)).toNat)++(x7.2.1.drop (QI last x7.2.1))):=QH.more hC20 hN20 (QgC _ _)
 obtain ⟨A20,c20,rfl,l20,k20⟩:=ho20.slc
 refine VO.as (VO.nil (VC.seq (VC.rs (VO.z (.fa rfl Zy rfl) (VO.z (.ld1 109 rfl tk4 rfl (Qa rfl rfl)) (VO.nil ?_))))))
 refine VC.condKT rfl hc10 ?_
 refine VC.rs (VO.mv (VO.z (.fa rfl Zy rfl) (VO.z (.ld1 109 rfl tk9 rfl (Qa rfl rfl)) ?_)))
 refine VO.z (.lenT rfl Tryz.underlying9) ?_
 refine VO.callN 121 rfl QbV rfl (fun W hW=>QbL W (QH.rd ho20 (hW.t 118) (JF _)) ((x7.2.2.length:Nat):Int) Yy Qk Qk) (fun v21 m21 hv21=>?_)
 obtain ⟨s21_0,rfl,f21_0⟩:=hv21
 have hfa22:=JT (x:=((x7.2.2.length:Nat):Int).toNat) Qn
 obtain ⟨A21_0,c21_0,eq21_0,l21_0,k21_0⟩:=f21_0.slc
 subst eq21_0
 refine VO.as (VO.p3 121 109 0 (VO.nil ?_))
 refine VC.reg ?_
 refine VO.mv (VO.z (.fa rfl Zy rfl) (VO.z (.ld1 109 rfl tk9 rfl (Qa rfl rfl)) ?_))
 obtain ⟨mo23,cs23,hM23,hA23,hC23⟩:=(Ow.ownl f21_0 rfl Qx)
 refine VO.app 121 rfl rfl rfl Ji tz5 rfl rfl hM23 hA23 (.str _ Tryz.underlying9 rfl) (QcM _) (by simp only [maxLen];(exact Qk)) Qk (by decide) (fun v23 m23 hN23=>?_)
 have ho23:QH .byte m23 Qx v23 ((((((out++[UInt8.ofNat 1])++JY ((QI last x7.2.1:Nat):Int).toNat)++JY (((x7.2.1.length:Nat):Int) - ((QI last x7.2.1:Nat):Int)).toNat)++(x7.2.1.drop (QI last x7.2.1)))++JY ((x7.2.2.length:Nat):Int).toNat)++x7.2.2):=QH.more hC23 hN23 (QgC _ _)
 obtain ⟨A23,c23,rfl,l23,k23⟩:=ho23.slc
 refine VO.as (VO.nil (Qm ?_))
 refine VC.reg ?_
 refine VO.z (.fa rfl Zy rfl) (VO.z (.ld1 109 rfl tk9 rfl (Qa rfl rfl)) (VO.as (VO.nil (JL (Qm ?_)))))
 refine VC.reg ?_
 refine VO.mv ?_
 refine VO.z (.add (c:=((k+1:Nat):Int)) rfl rfl Qn ⟨by exact Qk,by exact Qk⟩) ?_
 refine VO.as (VO.p3 121 109 0 (VO.nil ?_))
 exact Qm ⟨⟨k+1,x7.2.1,(((((out++[UInt8.ofNat 1])++JY ((QI last x7.2.1:Nat):Int).toNat)++JY (((x7.2.1.length:Nat):Int) - ((QI last x7.2.1:Nat):Int)).toNat)++(x7.2.1.drop (QI last x7.2.1)))++JY ((x7.2.2.length:Nat):Int).toNat)++x7.2.2,A23,c23,m23⟩,⟨by omega,by exact QdT he ‹d1[k]? =some _› (by first | (rw [QbX Qo];simp only [List.append_assoc,List.cons_append,List.nil_append,List.singleton_append,Int.toNat_sub];rfl) | (rw [QbY Qo];simp only [List.append_assoc,List.cons_append,List.nil_append,List.singleton_append,Int.toNat_sub];rfl)),by exact Qfd (last:=last) hlo Qn ‹d1[k]? =some _› (by first | (rw [QbX Qo];simp only [List.append_assoc,List.cons_append,List.nil_append,List.singleton_append,Int.toNat_sub];rfl) | (rw [QbY Qo];simp only [List.append_assoc,List.cons_append,List.nil_append,List.singleton_append,Int.toNat_sub];rfl)),by (have ho_:=JJ (by omega:Qs d1=0) (List.mem_of_getElem? ‹d1[k]? =some _›);have:=ho_.2.1;have:=ho_.2.2.1;have:=Qan (last:=last) ho_;have:=(YN (by omega:Qs d1=0)).2;omega),ho23⟩,by exact Qk,⟨esn,fun _ h=>Inv.sub (Inv.num h 121 104 rfl) [104,0]⟩⟩
 refine VC.skip (Qm (VC.rs (VO.mv (VO.mv ?_))))
 refine VO.bsl (cs:=[.int .u8 (0)]) 125 rfl rfl Ji tz5 rfl rfl (fun g24=>?_)
 obtain ⟨mo26,cs26,hM26,hA26,hC26⟩:=h_out
 refine VO.app 104 rfl rfl rfl Ji tz5 rfl rfl hM26 hA26 (.row 125 _ _ _ 1 1 _ _ Tryz.underlying56 rfl (Qa rfl rfl)) (by simp [Value.oneCell']) (by simp only [maxLen];(exact Qk)) Qk (by decide) (fun v26 m26 hN26=>?_)
 have ho26:QH .byte m26 Qx v26 (out++[UInt8.ofNat 0]):=QH.one hC26 hN26 (Qba Qk)
 obtain ⟨A26,c26,rfl,l26,k26⟩:=ho26.slc
 refine VO.as (VO.nil (VC.rs (VO.mv (VO.z (.fa rfl Zy rfl) (VO.z (.ld1 109 rfl tk9 rfl (Qa rfl rfl)) ?_)))))
 refine VO.callN 127 rfl QhE rfl (fun W hW=>QcB W last (by simp only [maxLen];(exact Qk)) x7.2.1 (by simp only [maxLen];(exact Qk))) (fun v27 m27 hv27=>?_)
 subst hv27
 have hfa28:=XM last x7.2.1
 refine VO.as (VO.p3 109 104 0 (VO.nil (VC.rs (VO.mv (VO.mv ?_)))))
 refine VO.callN 129 rfl QbV rfl (fun W hW=>QbL W (QH.rd ho26 (hW.t 104) (JF _)) ((QI last x7.2.1:Nat):Int) Yy Qk Qk) (fun v29 m29 hv29=>?_)
 obtain ⟨s29_0,rfl,f29_0⟩:=hv29
 have hfa30:=JT (x:=((QI last x7.2.1:Nat):Int).toNat) Qn
 obtain ⟨A29_0,c29_0,eq29_0,l29_0,k29_0⟩:=f29_0.slc
 subst eq29_0
 refine VO.as (VO.nil (VC.rs (VO.mv (VO.z (.fa rfl Zy rfl) (VO.z (.ld1 109 rfl tk9 rfl (Qa rfl rfl)) ?_)))))
 refine VO.z (.lenT rfl Tryz.underlying9) ?_
 refine VO.mv ?_
 refine VO.z (.sub rfl rfl rfl ⟨by exact Qk,by exact Qk⟩) ?_
 refine VO.callN 131 rfl QbV rfl (fun W hW=>QbL W (Ow.rd f29_0 (hW.t 129)) (((x7.2.1.length:Nat):Int) - ((QI last x7.2.1:Nat):Int)) Yy Qk Qk) (fun v31 m31 hv31=>?_)
 obtain ⟨s31_0,rfl,f31_0⟩:=hv31
 have hfa32:=JT (x:=(((x7.2.1.length:Nat):Int) - ((QI last x7.2.1:Nat):Int)).toNat) Qn
 obtain ⟨A31_0,c31_0,eq31_0,l31_0,k31_0⟩:=f31_0.slc
 subst eq31_0
 refine VO.as (VO.nil (VC.rs (VO.mv (VO.z (.fa rfl Zy rfl) (VO.z (.ld1 109 rfl tk9 rfl (Qa rfl rfl)) (VO.mv ?_))))))
 refine VO.z (.slTLI (QI last x7.2.1) rfl rfl Tryz.underlying9 rfl Qk) ?_
 obtain ⟨mo33,cs33,hM33,hA33,hC33⟩:=(Ow.ownl f31_0 rfl Qx)
 refine VO.app 131 rfl rfl rfl Ji tz5 rfl rfl hM33 hA33 (.str _ Tryz.underlying9 rfl) (QcM _) (by simp only [maxLen];(exact Qk)) Qk (by decide) (fun v33 m33 hN33=>?_)
 have ho33:QH .byte m33 Qx v33 ((((out++[UInt8.ofNat 0])++JY ((QI last x7.2.1:Nat):Int).toNat)++JY (((x7.2.1.length:Nat):Int) - ((QI last x7.2.1:Nat):Int)).toNat)++(x7.2.1.drop (QI last x7.2.1))):=QH.more hC33 hN33 (QgC _ _)
 obtain ⟨A33,c33,rfl,l33,k33⟩:=ho33.slc
 refine VO.as (VO.p3 131 109 0 (VO.nil (VC.seq (VC.rs (VO.z (.fa rfl Zy rfl) (VO.z (.ld1 109 rfl tk4 rfl (Qa rfl rfl)) (VO.nil ?_)))))))
 refine VC.condKF rfl hc10 ?_
 refine VC.skip (Qm ?_)
 refine VC.reg ?_
 refine VO.z (.fa rfl Zy rfl) (VO.z (.ld1 109 rfl tk9 rfl (Qa rfl rfl)) (VO.as (VO.nil (JL (Qm ?_)))))
 refine VC.reg ?_
 refine VO.mv ?_
 refine VO.z (.add (c:=((k+1:Nat):Int)) rfl rfl Qn ⟨by exact Qk,by exact Qk⟩) ?_
 refine VO.as (VO.p3 131 109 0 (VO.nil ?_))
 exact Qm ⟨⟨k+1,x7.2.1,(((out++[UInt8.ofNat 0])++JY ((QI last x7.2.1:Nat):Int).toNat)++JY (((x7.2.1.length:Nat):Int) - ((QI last x7.2.1:Nat):Int)).toNat)++(x7.2.1.drop (QI last x7.2.1)),A33,c33,m33⟩,⟨by omega,by exact QdT he ‹d1[k]? =some _› (by first | (rw [QbX Qo];simp only [List.append_assoc,List.cons_append,List.nil_append,List.singleton_append,Int.toNat_sub];rfl) | (rw [QbY Qo];simp only [List.append_assoc,List.cons_append,List.nil_append,List.singleton_append,Int.toNat_sub];rfl)),by exact Qfd (last:=last) hlo Qn ‹d1[k]? =some _› (by first | (rw [QbX Qo];simp only [List.append_assoc,List.cons_append,List.nil_append,List.singleton_append,Int.toNat_sub];rfl) | (rw [QbY Qo];simp only [List.append_assoc,List.cons_append,List.nil_append,List.singleton_append,Int.toNat_sub];rfl)),by (have ho_:=JJ (by omega:Qs d1=0) (List.mem_of_getElem? ‹d1[k]? =some _›);have:=ho_.2.1;have:=ho_.2.2.1;have:=Qan (last:=last) ho_;have:=(YN (by omega:Qs d1=0)).2;omega),ho33⟩,by exact Qk,⟨esn,fun _ h=>Inv.sub (Inv.num h 131 104 rfl) [104,0]⟩⟩
 refine VC.exit (Zh (Zh (Zi (Qm (VC.rs (VO.mv (VO.as (VO.as (VO.k10 0 1 4 5 6 7 8 9 16 25 (VC.ret ?_))))))))))
 refine Qef 4 5 [104] fun hS_=>?_
 dsimp only [QE]
 exact ⟨Value.slice out_A (out.length) (out_c),(by first | rfl | (first | (rw [Xe ‹_›] <;> rfl) | (rw [YI Qn] <;> rfl))),(Ow.cg (Ow.up (QH.ow h_out rfl) (hS_.1 _ (.head _))) (by first | rfl | (first | (rw [Xe ‹_›] <;> rfl) | (rw [YI Qn];dsimp only;rw [← he,List.drop_of_length_le Qn];simp [Y1]))))⟩
theorem X8 {α:Type} {f:α→α} {d l:List α} {k:Nat} {x:α} (hl:l=(d.take k).map f++d.drop k) (hx:l[k]? =some x):d[k]? =some x∧l.set k (f x)=(d.take (k+1)).map f++d.drop (k+1):=by
 subst hl
 have hk:k < d.length:=by
  have:=(List.getElem?_eq_some_iff.1 hx).1
  simp at this;omega
 have hlen:((d.take k).map f).length=k:=by simp;omega
 rw [List.getElem?_append_right (by omega),hlen,Nat.sub_self,List.getElem?_drop,Nat.add_zero] at hx
 refine ⟨hx,?_⟩
 obtain ⟨_,hx'⟩:=List.getElem?_eq_some_iff.1 hx
 rw [List.set_append_right _ _ (by omega),hlen,Nat.sub_self,List.drop_eq_getElem_cons hk,List.set_cons_zero,List.take_succ_eq_append_getElem hk,List.map_append,List.append_assoc,hx']
 rfl
theorem Qiw {α:Type} {d l:List α} {x:α} (h:∃ j,l=d++List.replicate j x):∃ j,l++[x]=d++List.replicate j x:=by
 obtain ⟨j,rfl⟩:=h
 exact ⟨j+1,by rw [List.replicate_succ',List.append_assoc]⟩
theorem QfV {α:Type} {was d:List α} {i:Nat} {x y:α} (h:was=d.take i++List.replicate (d.length - i) y) (hx:d[i]? =some x):was.set i x=d.take (i+1)++List.replicate (d.length - (i+1)) y:=by
 subst h
 obtain ⟨hi,hx'⟩:=List.getElem?_eq_some_iff.1 hx
 rw [List.set_append_right _ _ (by simp;omega),List.length_take,Nat.min_eq_left (by omega),Nat.sub_self,show d.length - i=(d.length - (i+1))+1 by omega,List.replicate_succ,List.set_cons_zero,List.take_succ_eq_append_getElem hi,hx',List.append_assoc]
 rfl
theorem QhJ {α:Type} {was d:List α} {i:Nat} {y:α} (h:was=d.take i++List.replicate (d.length - i) y) (hi:d.length≤i):was=d:=by
 rw [h,List.take_of_length_le hi,show d.length - i=0 by omega];simp
theorem QkM {α:Type} {f:α→α} {d l:List α} {k:Nat} (hl:l=(d.take k).map f++d.drop k) (hk:d.length≤k):l=d.map f:=by
 rw [hl,List.take_of_length_le hk,List.drop_of_length_le hk,List.append_nil]
section
variable {α : Type} {f : α → α} {d l was : List (List α)} {i k : Nat} {x y : List α} {a b : α}
theorem Qlo (hl:l=d.map (List.map f)) (hw:was=d) (hx:l[i]? =some x) (hy:was[i]? =some y):x=y.map f:=by
 subst hl;subst hw
 rw [List.getElem?_map,hy] at hx
 exact (Option.some.inj hx).symm
theorem QnV (hl:l=d.map (List.map f)) (hw:was=d) (hx:l[i]? =some x) (hy:was[i]? =some y):x.length=y.length:=by rw [Qlo hl hw hx hy,List.length_map]
theorem QoX (hl:l=d.map (List.map f)) (hw:was=d) (hx:l[i]? =some x) (hy:was[i]? =some y) (hxk:x[k]? =some a) (hyk:y[k]? =some b):a=f b:=by
 rw [Qlo hl hw hx hy,List.getElem?_map,hyk] at hxk
 exact (Option.some.inj hxk).symm
end
theorem Qme {α:Type} {f:α→α} {d l was:List α} {k:Nat} {x y:α} (hl:l=(d.take k).map f++d.drop k) (hw:was=d) (hx:l[k]? =some x) (hy:was[k]? =some y):x=y:=by
 subst hw
 have:=(X8 hl hx).1
 rw [hy] at this
 exact (Option.some.inj this).symm
def Qck (o : DOp) : DOp := (o.1, o.2.1 ++ [126], o.2.2)
theorem key_of {n i k:Nat} {d was:List (List DOp)} {y:List DOp} {o:DOp} (hw:was=d) (e:∀ x∈d,x.length≤n∧∀ o∈x,o.2.1.length≤140737488400000) (hy:was[i]? =some y) (hk:y[k]? =some o):o.2.1.length≤140737488400000:=by
 subst hw
 exact (e _ (List.mem_of_getElem? hy)).2 _ (List.mem_of_getElem? hk)
theorem Qmb (B:Qr):∀ o∈(YD B).1,o.2.1.length≤16:=by
 rcases Qf3 B with h0 | h0
 ·generalize hp:YD B=p at*
  obtain ⟨m,n,f⟩:=p
  dsimp only at h0
  subst h0
  exact fun o ho=>(JJ (Qez hp).1 ho).2.1
 ·rw [h0];exact fun o ho=>(by cases ho)
theorem Qqv:JR Tryz.prog 103=true:=by kernel_rfl
theorem QcN:tsl Tryz.prog 77=some (35,1,24):=by kernel_rfl
theorem tz35:tz Tryz.prog 35=some [.slice none 0 0]:=by kernel_rfl
theorem JS {P:Prop} (h:P:=by first | exact bd | (have h_:=e0 _ (List.mem_of_getElem? (X8 hl ‹l[_]? =some _›).1);omega) | (have h_:=e0 _ (List.mem_of_getElem? (X8 hl ‹l[_]? =some _›).1);simp only [List.length_append,List.length_cons,List.length_nil] at*;omega)):P:=h
theorem QlM (W:World) {m0:Mem} (hm:mle (m0) (wm W)) {v0:Value} {d0:List DOp} (h0:Ow (.sl TOp) m0 [v0] d0) (e0:∀ o∈d0,o.2.1.length≤140737488400000):Qi Tryz.prog 103 [v0] W (m0) (fun v m'=>v= .tuple #[]∧Ow (.sl TOp) m' [v0] (d0.map Qck)):=by
 obtain ⟨A0,c0,e0_,l0,k0⟩:=h0.slc
 subst e0_
 refine Qi.ofB (n:=30) hm Tryz.func103 rfl rfl rfl ?_
 refine VC.rs (VO.mv (VO.z (.capS rfl ZH) (VO.as (VO.k2 0 2 (VC.seq (VC.rs (VO.as (VO.k3 0 2 3 (VC.block ?_)))))))))
 refine VC.loop (G:=Nat × (List DOp) × Mem) (fun g=>[(0,.slice A0 (d0.length) (c0)),(3,.int .i64 ((((g.1):Nat):Int))),(2,.int .i64 (((c0:Nat):Int)))]) (fun g=>[(0,J4 (wm W) (m0)),(1,(g.2.2))]) (fun g=>((g.1)≤d0.length)∧((g.2.1)=(d0.take (g.1)).map Qck++d0.drop (g.1))∧(QH TOp (g.2.2) Qx (.slice A0 (d0.length) (c0)) (g.2.1))) (fun g=>d0.length - (g.1)) (0,d0,m0) (⟨by omega,by simp,(Ow.ownl h0 rfl Qx)⟩) ⟨esn,fun _ h=>h.sub [0,1]⟩ ?_
 rintro ⟨k,l,l_m⟩ ⟨hk,hl,h_l⟩
 replace hk:k≤d0.length:=hk
 replace hl:l=(d0.take k).map Qck++d0.drop k:=hl
 replace h_l:QH TOp l_m Qx (.slice A0 (d0.length) (c0)) l:=h_l
 show VC _ _ _ _ _ [(0,.slice A0 (d0.length) (c0)),(3,.int .i64 (((k:Nat):Int))),(2,.int .i64 (((c0:Nat):Int)))] [(0,J4 (wm W) (m0)),(1,l_m)]
 have ll_l:=JA (QH.ow h_l rfl)
 refine VC.seq (VC.rs (VO.mv (VO.mv (VO.z (.lenS rfl ZH) (VO.z (.lss rfl rfl) (VO.p2 0 1 (VO.k4 0 2 3 9 ?_)))))))
 refine VC.cond rfl (fun hc1=>?_) (fun hc1=>?_)
 ·refine VC.skip (Qm (VC.seq (VC.block ?_)))
  refine VC.reg ?_
  refine VO.mv (VO.mv (VO.mv (VO.mv ?_)))
  obtain ⟨x2,hx2⟩:∃ z_,(l)[k]? =some z_:=⟨_,List.getElem?_eq_getElem JS⟩
  obtain ⟨gg2,oo2,ec2,ea2,hce2,hre2⟩:=h_l.elem hx2
  cases ea2
  obtain ⟨rfl,q2_1,q2_2⟩:=XF (x0:=x2.1) (x1:=x2.2.1) (x2:=x2.2.2) hre2
  simp only [maxLen] at q2_1
  simp only [maxLen] at q2_2
  refine VO.z (.ixI k rfl rfl ZH rfl JS) ?_
  refine VO.z (.fa rfl Zy rfl) ?_
  refine VO.z (.ld1 1 rfl tk9 rfl (hce2.at1 (j:=1) rfl)) ?_
  refine VO.z (.scat rfl rfl JS) ?_
  refine VO.z (.ixI k rfl rfl ZH rfl JS) ?_
  refine VO.z (.fa rfl Zy rfl) ?_
  refine VO.upd (e:=TOp) (k:=1) (i:=k) (x':=(x2.1,x2.2.1++([126]),x2.2.2)) 1 1 rfl rfl (.inr ⟨tk9,rfl⟩) rfl rfl rfl (QH.ow h_l rfl) rfl hx2 rfl (fun mi ec he=>by obtain ⟨rfl,z1,z2⟩:=XF (x0:=x2.1) (x1:=x2.2.1) (x2:=x2.2.2) (he.rd (Qc _));exact Ow.of (m:=Qx) rfl (QdI x2.1 (x2.2.1++([126])) x2.2.2 (by simp only [maxLen];(exact JS)) z2)) (fun mu4 hu4=>?_)
  have hl4:=JA hu4
  refine VO.k4 0 2 3 9 (JL (Qm ?_))
  refine VC.reg ?_
  refine VO.mv ?_
  refine VO.z (.add (c:=((k+1:Nat):Int)) rfl rfl Qn ⟨by exact JS,by exact JS⟩) ?_
  refine VO.as (VO.k4 0 2 3 9 ?_)
  exact Qm ⟨⟨k+1,(l).set k (x2.1,x2.2.1++([126]),x2.2.2),mu4⟩,⟨by omega,by exact (X8 (f:=Qck) hl ‹l[k]? =some _›).2,(Ow.ownl hu4 rfl Qx)⟩,by exact JS,⟨esn,fun _ h=>Inv.sub h [0,1]⟩⟩
 refine VC.exit (Zh (Zh (Zi (Qm (VC.block ?_)))))
 refine VC.loop (G:=(List DOp) × Mem × Nat) (fun g=>[(0,.slice A0 ((g.2.2)) (c0)),(2,.int .i64 (((c0:Nat):Int))),(3,.int .i64 (((k:Nat):Int))),(9,.bool (decide (((k:Nat):Int) < ((d0.length:Nat):Int))))]) (fun g=>[(0,J4 (wm W) (m0)),(1,(g.2.1))]) (fun g=>(∃ j,(g.1)=d0.map Qck++List.replicate j (false,[111,118,101,114],[]))∧((g.2.2)≤c0)∧(QH TOp (g.2.1) Qx (.slice A0 ((g.2.2)) (c0)) (g.1))) (fun g=>c0 - (g.2.2)) (l,l_m,d0.length) (⟨by (exact ⟨0,by rw [hl,List.take_of_length_le Qn,List.drop_of_length_le Qn];simp⟩),by omega,h_l⟩) ⟨esn,fun _ h=>h.sub [0,1]⟩ ?_
 rintro ⟨l2,l2_m,l2_n⟩ ⟨hl2,hc,h_l2⟩
 replace hl2:∃ j,l2=d0.map Qck++List.replicate j (false,[111,118,101,114],[]):=hl2
 replace hc:l2_n≤c0:=hc
 replace h_l2:QH TOp l2_m Qx (.slice A0 (l2_n) (c0)) l2:=h_l2
 show VC _ _ _ _ _ [(0,.slice A0 (l2_n) (c0)),(2,.int .i64 (((c0:Nat):Int))),(3,.int .i64 (((k:Nat):Int))),(9,.bool (decide (((k:Nat):Int) < ((d0.length:Nat):Int))))] [(0,J4 (wm W) (m0)),(1,l2_m)]
 have ll_l2:=JA (QH.ow h_l2 rfl)
 refine VC.seq (VC.rs (VO.mv (VO.z (.lenS rfl ZH) (VO.mv (VO.z (.lss rfl rfl) (VO.k5 0 2 3 9 25 ?_))))))
 refine VC.cond rfl (fun hc5=>?_) (fun hc5=>?_)
 refine VC.skip (Qm (VC.block ?_))
 refine VC.reg ?_
 refine VO.mv ?_
 refine VO.z (.bst (cs:=[.bool false,str ([111,118,101,114]),str ([])]) rfl Zy QcS rfl) ?_
 refine VO.bsl (cs:=[.bool false,str ([111,118,101,114]),str ([])]) 107 rfl rfl ZH QcS rfl rfl (fun g6=>?_)
 refine VO.inv ((109,Qx)::_) (fun _ h=>h.nilc 109) ?_
 have hxl8:=JA (QH.ow h_l2 rfl)
 refine VO.appI (e:=TOp) (xs:=l2) (cap:=c0) (A:=A0) (l:=l2_n) 1 109 107 rfl rfl rfl ZH rfl rfl rfl (QH.ow h_l2 rfl) (Ow.of (m:=Qx) rfl (QdI (m:=_) false ([111,118,101,114]) [] (by simp only [maxLen];(exact JS)) (by simp only [maxLen];(exact JS)))) Tryz.underlying35 (Qa rfl rfl) JS (fun m8 ho8=>?_)
 refine VO.as (VO.k5 0 2 3 9 25 (JL ?_))
 exact Qm ⟨⟨l2++[(false,[111,118,101,114],[])],m8,l2_n+1⟩,⟨by exact Qiw hl2,by dsimp only;omega,(Ow.ownl ho8 rfl Qx)⟩,by (dsimp only;omega),⟨esn,fun _ h=>Inv.sub h [0,1]⟩⟩
 ·refine VC.exit (Zh (Zh (Zi ?_)))
  have hcut0:=Ow.pre (j:=d0.length) (QH.ow h_l2 rfl) JS
  refine ⟨_,_,Jr (rs:=[]) rfl .nil,fun W_ hI=>JZ (l:=[l2_m]) hI [1] rfl rfl (Qc _) (fun hS_=>?_)⟩
  dsimp only [QE]
  exact ⟨(by first | rfl | (simp [*];done)),(Ow.cg (Ow.up hcut0 (hS_.1 _ (.head _))) (by first | rfl | (obtain ⟨j,rfl⟩:=hl2;simp)))⟩
theorem Qu {P:Prop} (h:P:=by first | exact bd | (have h_:=QnV hl4 hw4 ‹l[_]? =some _› ‹was[_]? =some _›;omega) | (have h_:=key_of hw4 e1 ‹was[_]? =some _› (by assumption);simp only [List.length_append,List.length_cons,List.length_nil] at*;omega) | (exact (e1 _ (List.mem_of_getElem? ‹d0[_]? =some _›)).1)):P:=h
set_option maxHeartbeats 1000000 in
theorem Qkl (W:World) {m0:Mem} (hm:mle (m0) (wm W)) {v0:Value} {d0:List (List DOp)} (h0:Ow (.sl (.sl TOp)) m0 [v0] d0) (e0:d0.length≤1000) (e1:∀ x∈d0,x.length≤3518437208800∧∀ o∈x,o.2.1.length≤140737488400000):Qi Tryz.prog 57 [v0] W (m0) (fun v m'=>v= .bool true):=by
 obtain ⟨A0,c0,e0_,l0,k0⟩:=h0.slc
 subst e0_
 refine Qi.ofB (n:=79) hm Tryz.func57 rfl rfl rfl ?_
 refine VC.rs (VO.as (VO.k2 0 2 (VC.rs (VO.mv (VO.z (.lenS rfl QcN) ?_)))))
 refine VO.mks (e:=(.sl TOp)) (a:=((d0.length:Nat):Int)) (k:=d0.length) 101 rfl rfl rfl rfl QcN tz35 (y:=[]) (Ow.nil _ Qx) (by simp only [maxLen];(exact Qu)) Qu (by decide) (fun v1 m1 hk1=>?_)
 obtain ⟨A1,c1,rfl,l1,k1⟩:=hk1.slc
 have ln1:(List.replicate d0.length ([]:List DOp)).length=d0.length:=List.length_replicate
 refine VO.as (VO.k3 0 2 3 (VC.seq (VC.rs (VO.as (VO.p3 101 0 1 (VO.k4 0 2 3 4 (VC.block ?_)))))))
 refine VC.loop (G:=Nat × (List (List DOp)) × Mem) (fun g=>[(3,.slice A1 ((List.replicate d0.length ([]:List DOp)).length) (c1)),(4,.int .i64 ((((g.1):Nat):Int))),(0,.slice A0 (d0.length) (c0)),(2,.bool false)]) (fun g=>[(101,(g.2.2)),(0,J4 (wm W) (m0)),(1,m0)]) (fun g=>((g.1)≤d0.length)∧((g.2.1)=d0.take (g.1)++List.replicate (d0.length - (g.1)) [])∧(Ow (.sl (.sl TOp)) (g.2.2) [.slice A1 ((List.replicate d0.length ([]:List DOp)).length) (c1)] (g.2.1))) (fun g=>d0.length - (g.1)) (0,List.replicate d0.length ([]:List DOp),m1) (⟨by omega,by simp,hk1⟩) ⟨esn,fun _ h=>h.sub [101,0,1]⟩ ?_
 rintro ⟨i,was,was_m⟩ ⟨hi,hw,h_was⟩
 replace hi:i≤d0.length:=hi
 replace hw:was=d0.take i++List.replicate (d0.length - i) []:=hw
 replace h_was:Ow (.sl (.sl TOp)) was_m [.slice A1 ((List.replicate d0.length ([]:List DOp)).length) (c1)] was:=h_was
 show VC _ _ _ _ _ [(3,.slice A1 ((List.replicate d0.length ([]:List DOp)).length) (c1)),(4,.int .i64 (((i:Nat):Int))),(0,.slice A0 (d0.length) (c0)),(2,.bool false)] [(101,was_m),(0,J4 (wm W) (m0)),(1,m0)]
 have ll_was:=JA h_was
 refine VC.seq (VC.rs (VO.mv (VO.mv (VO.z (.lenS rfl QcN) (VO.z (.lss rfl rfl) (VO.k5 0 2 3 4 14 ?_))))))
 refine VC.cond rfl (fun hc2=>?_) (fun hc2=>?_)
 · refine VC.skip (Qm (VC.seq (VC.block ?_)))
   refine VC.reg ?_
   refine VO.mv (VO.mv (VO.mv (VO.mv ?_)))
   obtain ⟨x3,hx3⟩:∃ z_,(d0)[i]? =some z_:=⟨_,List.getElem?_eq_getElem Qu⟩
   obtain ⟨gg3,oo3,ec3,ea3,hce3,hre3⟩:=(Ow.rd h0 (Qc _)).elem hx3
   cases ea3
   have hr3:=hre3
   obtain ⟨A3_,c3_,rfl,_⟩:=hre3
   have rr3:=Rd.room hr3
   refine VO.z (.ixI i rfl rfl QcN rfl Qu) ?_
   refine VO.z (.ld1 1 rfl Qc6 rfl hce3) ?_
   refine VO.callN 104 rfl Qnl rfl (fun W hW=>QeB W (Rd.mono hr3 (hW.t 1)) Qu) (fun v4 m4 hv4=>?_)
   obtain ⟨s4_0,rfl,f4_0⟩:=hv4
   obtain ⟨A4_0,c4_0,eq4_0,l4_0,k4_0⟩:=f4_0.slc
   subst eq4_0
   obtain ⟨x5,hx5⟩:∃ z_,(was)[i]? =some z_:=⟨_,List.getElem?_eq_getElem Qu⟩
   obtain ⟨gg5,oo5,ec5,ea5,hce5,hre5⟩:=(Ow.rd h_was (Qc _)).elem hx5
   cases ea5
   have hr5:=hre5
   obtain ⟨A5_,c5_,rfl,_⟩:=hre5
   have rr5:=Rd.room hr5
   refine VO.z (.ixI i rfl rfl QcN rfl Qu) ?_
   refine VO.setE (e:=(.sl TOp)) (k:=1) (i:=i) 101 104 rfl rfl (.inr ⟨Qc6,rfl⟩) rfl rfl rfl rfl h_was rfl hx5 (x':=x3) (Ow.up f4_0 ((QA.one (Qc _)).1 _ (.head _))) (fun mu6 hu6=>?_)
   have hl6:=JA hu6
   refine VO.k5 0 2 3 4 14 (JL (Qm ?_))
   refine VC.reg ?_
   refine VO.mv ?_
   refine VO.z (.add (c:=((i+1:Nat):Int)) rfl rfl Qn ⟨by exact Qu,by exact Qu⟩) ?_
   refine VO.as (VO.p3 101 0 1 (VO.k5 0 2 3 4 14 ?_))
   exact Qm ⟨⟨i+1,(was).set i x3,mu6⟩,⟨by omega,by exact QfV hw ‹d0[i]? =some _›,hu6⟩,by exact Qu,⟨esn,fun _ h=>Inv.sub h [101,0,1]⟩⟩
 refine VC.exit (Zh (Zh (Zi (Qm (VC.seq (VC.rs (VO.as (VO.k6 0 2 3 4 5 14 (VC.block ?_)))))))))
 refine VC.loop (G:=Nat × (List (List DOp)) × Mem) (fun g=>[(0,.slice A0 (d0.length) (c0)),(5,.int .i64 ((((g.1):Nat):Int))),(3,.slice A1 ((List.replicate d0.length ([]:List DOp)).length) (c1)),(4,.int .i64 (((i:Nat):Int))),(14,.bool (decide (((i:Nat):Int) < ((d0.length:Nat):Int))))]) (fun g=>[(101,was_m),(0,J4 (wm W) (m0)),(1,(g.2.2))]) (fun g=>(was=d0)∧((g.1)≤d0.length)∧((g.2.1)=(d0.take (g.1)).map (List.map Qck)++d0.drop (g.1))∧(Ow (.sl (.sl TOp)) (g.2.2) [.slice A0 (d0.length) (c0)] (g.2.1))) (fun g=>d0.length - (g.1)) (0,d0,m0) (⟨by exact QhJ hw Qn,by omega,by simp,h0⟩) ⟨esn,fun _ h=>h.sub [101,0,1]⟩ ?_
 rintro ⟨j,l,l_m⟩ ⟨hw2,hj,hl,h_l⟩
 replace hw2:was=d0:=hw2
 replace hj:j≤d0.length:=hj
 replace hl:l=(d0.take j).map (List.map Qck)++d0.drop j:=hl
 replace h_l:Ow (.sl (.sl TOp)) l_m [.slice A0 (d0.length) (c0)] l:=h_l
 show VC _ _ _ _ _ [(0,.slice A0 (d0.length) (c0)),(5,.int .i64 (((j:Nat):Int))),(3,.slice A1 ((List.replicate d0.length ([]:List DOp)).length) (c1)),(4,.int .i64 (((i:Nat):Int))),(14,.bool (decide (((i:Nat):Int) < ((d0.length:Nat):Int))))] [(101,was_m),(0,J4 (wm W) (m0)),(1,l_m)]
 have ll_l:=JA h_l
 refine VC.seq (VC.rs (VO.mv (VO.mv (VO.z (.lenS rfl QcN) (VO.z (.lss rfl rfl) (VO.p3 101 0 1 (VO.k6 0 3 4 5 14 28 ?_)))))))
 refine VC.cond rfl (fun hc7=>?_) (fun hc7=>?_)
 refine VC.skip (Qm (VC.seq (VC.block (VC.seq (VC.seq ?_)))))
 refine VC.regD _ 8 [(0,true),(1,true),(2,true),(3,true),(4,true),(5,true),(6,true),(7,true)] follows (by kernel_rfl) (fun _ h=>h.sub [101,0,1]) ?_
 refine VD.z rfl (.mv rfl) (VD.z rfl (.mv rfl) ?_)
 obtain ⟨x8,hx8⟩:∃ z_,(l)[j]? =some z_:=⟨_,List.getElem?_eq_getElem Qu⟩
 obtain ⟨gg8,oo8,ec8,ea8,hce8,hre8⟩:=(Ow.rd h_l (Qc _)).elem hx8
 cases ea8
 have hr8:=hre8
 obtain ⟨A8_,c8_,rfl,_⟩:=hre8
 have rr8:=Rd.room hr8
 refine VD.z rfl (.ixI j rfl rfl QcN rfl Qu) ?_
 refine VD.z rfl (.ld1 1 rfl Qc6 rfl hce8) ?_
 refine VD.z rfl (.mv rfl) (VD.z rfl (.mv rfl) ?_)
 obtain ⟨x9,hx9⟩:∃ z_,(was)[j]? =some z_:=⟨_,List.getElem?_eq_getElem Qu⟩
 obtain ⟨gg9,oo9,ec9,ea9,hce9,hre9⟩:=(Ow.rd h_was (Qc _)).elem hx9
 cases ea9
 have hr9:=hre9
 obtain ⟨A9_,c9_,rfl,_⟩:=hre9
 have rr9:=Rd.room hr9
 refine VD.z rfl (.ixI j rfl rfl QcN rfl Qu) ?_
 refine VD.z rfl (.ld1 101 rfl Qc6 rfl hce9) ?_
 refine VD.nil rfl ?_ rfl
 refine VO.callN 110 rfl Qj2 rfl (fun W hW=>QeA W (Rd.mono hr8 (hW.t 1)) (Rd.mono hr9 (hW.t 101))) (fun v10 m10 hv10=>?_)
 subst hv10
 refine VO.z (.notD rfl) (VO.k7 0 3 4 5 14 28 40 (Qm ?_))
 refine VC.cond rfl (fun hc11=>?_) (fun hc11=>?_)
 exact absurd (Qme hl hw2 ‹l[j]? =some _› ‹was[j]? =some _›) hc11
 refine VC.skip (Qm ?_)
 refine VC.reg ?_
 refine VO.mv (VO.mv ?_)
 refine VO.z (.ixI j rfl rfl QcN rfl Qu) ?_
 refine VO.z (.ld1 1 rfl Qc6 rfl hce8) ?_
 obtain ⟨mr13,me13,hH13,hE13,hB13⟩:=Ow.hole h_l hx8 hce8
 refine VO.parts 1 [1,114] rfl hH13 ?_
 refine VO.call 114 rfl Qqv rfl rfl (fun W hW=>QlM W (hW.t 114) hE13 (by exact fun o ho=>(e1 _ (List.mem_of_getElem? (X8 hl ‹l[_]? =some _›).1)).2 o ho)) (fun v13 m13 hv13=>?_)
 obtain ⟨rfl,w13_0⟩:=hv13
 have wl13_0:=JA w13_0
 refine VO.gather (l:=[mr13,m13]) 1 [1,114] rfl (fun hg13=>?_)
 have hL13:=QA.back hg13 (fun hd_=>hB13 _ _ hd_ w13_0)
 have hl13:=JA hL13
 refine VO.k7 0 3 4 5 14 28 40 (JL (Qm ?_))
 refine VC.reg ?_
 refine VO.mv ?_
 refine VO.z (.add (c:=((j+1:Nat):Int)) rfl rfl Qn ⟨by exact Qu,by exact Qu⟩) ?_
 refine VO.as (VO.p3 1 101 0 (VO.k7 0 3 4 5 14 28 40 ?_))
 exact Qm ⟨⟨j+1,(l).set j (x8.map Qck),Zc [mr13,m13]⟩,⟨by exact hw2,by omega,by exact (X8 hl ‹l[j]? =some _›).2,hL13⟩,by exact Qu,⟨esn,fun _ h=>Inv.sub h [101,0,1]⟩⟩
 refine VC.exit (Zh (Zh (Zi (Qm (VC.seq (VC.rs (VO.as (VO.k7 0 3 4 5 6 14 28 (VC.block ?_)))))))))
 refine VC.loop (G:=Nat) (fun p=>[(6,.int .i64 (((p:Nat):Int))),(0,.slice A0 (d0.length) (c0)),(3,.slice A1 ((List.replicate d0.length ([]:List DOp)).length) (c1)),(4,.int .i64 (((i:Nat):Int))),(5,.int .i64 (((j:Nat):Int))),(14,.bool (decide (((i:Nat):Int) < ((d0.length:Nat):Int)))),(28,.bool (decide (((j:Nat):Int) < ((d0.length:Nat):Int))))]) (fun p=>[(101,was_m),(0,J4 (wm W) (m0)),(1,l_m)]) (fun p=>(was=d0)∧(p≤d0.length)∧(l=d0.map (List.map Qck))) (fun p=>d0.length - p) 0 (⟨by exact hw2,by omega,by exact QkM hl Qn⟩) ⟨esn,fun _ h=>h.sub [101,0,1]⟩ ?_
 rintro p ⟨hw4,hp,hl4⟩
 refine VC.seq (VC.rs (VO.mv (VO.mv (VO.z (.lenS rfl QcN) (VO.z (.lss rfl rfl) (VO.k8 0 3 4 5 6 14 28 49 ?_))))))
 refine VC.cond rfl (fun hc15=>?_) (fun hc15=>?_)
 refine VC.skip (Qm (VC.seq (VC.block (VC.rs (VO.as (VO.p3 101 0 1 (VO.k9 0 3 4 5 6 7 14 28 49 (VC.block ?_))))))))
 refine VC.loop (G:=Nat) (fun k=>[(7,.int .i64 (((k:Nat):Int))),(0,.slice A0 (d0.length) (c0)),(3,.slice A1 ((List.replicate d0.length ([]:List DOp)).length) (c1)),(4,.int .i64 (((i:Nat):Int))),(5,.int .i64 (((j:Nat):Int))),(6,.int .i64 (((p:Nat):Int))),(14,.bool (decide (((i:Nat):Int) < ((d0.length:Nat):Int)))),(28,.bool (decide (((j:Nat):Int) < ((d0.length:Nat):Int)))),(49,.bool (decide (((p:Nat):Int) < ((d0.length:Nat):Int))))]) (fun k=>[(101,was_m),(0,J4 (wm W) (m0)),(1,l_m)]) (fun k=>(k≤9223372036854775807)) (fun k=>9223372036854775807 - k) 0 Qn ⟨esn,fun _ h=>h.sub [101,0,1]⟩ ?_
 rintro k hk
 refine VC.seq (VC.rs (VO.mv (VO.mv (VO.mv ?_))))
 obtain ⟨x16,hx16⟩:∃ z_,(l)[p]? =some z_:=⟨_,List.getElem?_eq_getElem Qu⟩
 obtain ⟨gg16,oo16,ec16,ea16,hce16,hre16⟩:=(Ow.rd h_l (Qc _)).elem hx16
 cases ea16
 have hr16:=hre16
 obtain ⟨A16_,c16_,rfl,_⟩:=hre16
 have rr16:=Rd.room hr16
 refine VO.z (.ixI p rfl rfl QcN rfl Qu) ?_
 refine VO.z (.ld1 1 rfl Qc6 rfl hce16) ?_
 refine VO.z (.lenS rfl ZH) (VO.z (.lss rfl rfl) (VO.k10 0 3 4 5 6 7 14 28 49 58 ?_))
 refine VC.cond rfl (fun hc17=>?_) (fun hc17=>?_)
 refine VC.skip (Qm (VC.seq (VC.block (VC.seq ?_))))
 refine VC.regD _ 17 [(0,true),(1,true),(2,true),(3,true),(4,true),(5,true),(6,true),(7,true),(8,true),(9,true),(10,true),(11,true),(12,true),(13,true),(14,true),(15,true),(16,true)] follows (by kernel_rfl) (fun _ h=>h.sub [101,0,1]) ?_
 refine VD.z rfl (.mv rfl) (VD.z rfl (.mv rfl) ?_)
 refine VD.z rfl (.ixI p rfl rfl QcN rfl Qu) ?_
 refine VD.z rfl (.ld1 1 rfl Qc6 rfl hce16) ?_
 refine VD.z rfl (.mv rfl) ?_
 obtain ⟨x19,hx19⟩:∃ z_,(x16)[k]? =some z_:=⟨_,List.getElem?_eq_getElem Qu⟩
 obtain ⟨gg19,oo19,ec19,ea19,hce19,hre19⟩:=hr16.elem hx19
 cases ea19
 obtain ⟨rfl,q19_1,q19_2⟩:=XF (x0:=x19.1) (x1:=x19.2.1) (x2:=x19.2.2) hre19
 simp only [maxLen] at q19_1
 simp only [maxLen] at q19_2
 refine VD.z rfl (.ixI k rfl rfl ZH rfl Qu) ?_
 refine VD.z rfl (.fa rfl Zy rfl) ?_
 refine VD.z rfl (.ld1 1 rfl tk9 rfl (hce19.at1 (j:=1) rfl)) ?_
 refine VD.z rfl (.mv rfl) (VD.z rfl (.mv rfl) ?_)
 obtain ⟨x20,hx20⟩:∃ z_,(was)[p]? =some z_:=⟨_,List.getElem?_eq_getElem Qu⟩
 obtain ⟨gg20,oo20,ec20,ea20,hce20,hre20⟩:=(Ow.rd h_was (Qc _)).elem hx20
 cases ea20
 have hr20:=hre20
 obtain ⟨A20_,c20_,rfl,_⟩:=hre20
 have rr20:=Rd.room hr20
 refine VD.z rfl (.ixI p rfl rfl QcN rfl Qu) ?_
 refine VD.z rfl (.ld1 101 rfl Qc6 rfl hce20) ?_
 refine VD.z rfl (.mv rfl) ?_
 obtain ⟨x21,hx21⟩:∃ z_,(x20)[k]? =some z_:=⟨_,List.getElem?_eq_getElem Qu⟩
 obtain ⟨gg21,oo21,ec21,ea21,hce21,hre21⟩:=hr20.elem hx21
 cases ea21
 obtain ⟨rfl,q21_1,q21_2⟩:=XF (x0:=x21.1) (x1:=x21.2.1) (x2:=x21.2.2) hre21
 simp only [maxLen] at q21_1
 simp only [maxLen] at q21_2
 refine VD.z rfl (.ixI k rfl rfl ZH rfl Qu) ?_
 refine VD.z rfl (.fa rfl Zy rfl) ?_
 refine VD.z rfl (.ld1 101 rfl tk9 rfl (hce21.at1 (j:=1) rfl)) ?_
 refine VD.z rfl (.scat rfl rfl Qu) ?_
 refine VD.nil rfl ?_ rfl
 refine VO.z (.sneq rfl rfl) (VO.k11 0 3 4 5 6 7 14 28 49 58 78 (Qm ?_))
 refine VC.cond rfl (fun hc22=>?_) (fun hc22=>?_)
 exact absurd (by have h_:=QoX (f:=Qck) hl4 hw4 ‹l[p]? =some _› ‹was[p]? =some _› Qo Qo;rw [h_];rfl) hc22
 refine VC.skip (JL (Qm ?_))
 refine VC.reg ?_
 refine VO.mv ?_
 refine VO.z (.add (c:=((k+1:Nat):Int)) rfl rfl Qn ⟨by exact Qu,by exact Qu⟩) ?_
 refine VO.as (VO.p3 101 0 1 (VO.k11 0 3 4 5 6 7 14 28 49 58 78 ?_))
 exact Qm ⟨k+1,by omega,by exact Qu,⟨esn,fun _ h=>Inv.sub h [101,0,1]⟩⟩
 refine VC.exit (Zh (Zh (Zi (JL (Qm ?_)))))
 refine VC.reg ?_
 refine VO.mv ?_
 refine VO.z (.add (c:=((p+1:Nat):Int)) rfl rfl Qn ⟨by exact Qu,by exact Qu⟩) ?_
 refine VO.as (VO.k10 0 3 4 5 6 7 14 28 49 58 ?_)
 exact Qm ⟨p+1,⟨by exact hw4,by omega,by exact hl4⟩,by exact Qu,⟨esn,fun _ h=>Inv.sub h [101,0,1]⟩⟩
 · refine VC.exit (Zh (Zh (Zi (Qm (VC.rs (VO.as (VO.p3 101 0 1 (VO.k9 0 2 3 4 5 6 14 28 49 (VC.ret ?_)))))))))
   exact Xl 2 rfl (by first | rfl | (simp [*];done))
def zC : Qe := (0, 0, [])
def QeY (c : Qe) : Qr := JY c.1.toNat ++ (JY c.2.1.toNat ++ JQ c.2.2)
def Jd (c : Qe) : Qr × Int := if QW c = 0 then (QeY c, 0) else ([], QW c)
def Qi8 (B : Qr) : Qe := ((sX B 1048576 : Int), (sX (B.drop (sN B 1048576)) 1048576 : Int), (YD (B.drop (sN B 1048576 + sN (B.drop (sN B 1048576)) 1048576))).1)
def Qf (B : Qr) : Qe × Int :=
  if sE B 1048576 = 0 ∧ sE (B.drop (sN B 1048576)) 1048576 = 0 ∧ (YD (B.drop (sN B 1048576 + sN (B.drop (sN B 1048576)) 1048576))).2.2 = 0 ∧
    ((sN B 1048576 : Int) + (sN (B.drop (sN B 1048576)) 1048576 : Int) + (YD (B.drop (sN B 1048576 + sN (B.drop (sN B 1048576)) 1048576))).2.1 = B.length) ∧ QW (Qi8 B) = 0 then (Qi8 B, 0) else (zC, 5)
def XO (B : Qr) : Qe × Int :=
  let a := Qb B 1048576 (0, false)
  let b := Qb B 1048576 a.2
  let l := JE B b.2
  if l.2.2 = false ∧ l.2.1 = B.length ∧ QW (a.1, b.1, l.1) = 0 then ((a.1, b.1, l.1), 0) else (zC, 5)
theorem QmH {x:Nat} {m:Int} (h:(x:Int)≤m) (hm:m≤9223372036854775807) (r:Qr):sX (JY x++r) m=x∧sN (JY x++r) m=(JY x).length∧sE (JY x++r) m=0:=by
 have hs:QaL (JY x++r) m=some (x,(JY x).length):=by unfold QaL;rw [Qfs (by omega)];exact if_pos h
 unfold sX sN sE;rw [hs];exact ⟨rfl,rfl,rfl⟩
theorem QmI {B : Qr} {m : Int} (h : sE B m = 0) : B = JY (sX B m) ++ B.drop (sN B m) := by
  unfold sE sX sN QaL at *
  cases hv : Qa2 B with
  | none => rw [hv] at h; cases h
  | some p =>
    obtain ⟨y, n⟩ := p
    rw [hv] at h
    dsimp only at h ⊢
    by_cases hy : (y : Int) ≤ m
    · rw [if_pos hy]; exact (Qgp hv).1
    · rw [if_neg hy] at h; cases h
theorem Yq {c:Qe} (h:QW c=0):1≤c.1∧c.1≤1048576∧1≤c.2.1∧c.2.1≤1048576∧Qs c.2.2=0:=by
 unfold QW at h
 split at h
 ·split at h
  ·exact ⟨by omega,by omega,by omega,by omega,h⟩
  ·cases h
 ·cases h
theorem QhU {c:Qe} (h:QW c=0):Qf (QeY c)=(c,0):=by
 obtain ⟨h1,h2,h3,h4,h5⟩:=Yq h
 obtain ⟨a1,a2,a3⟩:=QmH (x:=c.1.toNat) (m:=1048576) (by omega) (by omega) (JY c.2.1.toNat++JQ c.2.2)
 obtain ⟨b1,b2,b3⟩:=QmH (x:=c.2.1.toNat) (m:=1048576) (by omega) (by omega) (JQ c.2.2)
 have r:=Qki h5 []
 rw [List.append_nil] at r
 have hd:(QeY c).drop (JY c.1.toNat).length=JY c.2.1.toNat++JQ c.2.2:=by rw [QeY,List.drop_left]
 have hd2:(QeY c).drop ((JY c.1.toNat).length+(JY c.2.1.toNat).length)=JQ c.2.2:=by rw [← List.drop_drop,hd,List.drop_left]
 have hp:Qi8 (QeY c)=c:=by
  unfold Qi8
  rw [show sX (QeY c) 1048576=c.1.toNat from a1,show sN (QeY c) 1048576=_ from a2,hd,b1,b2,hd2,r]
  exact Prod.ext (by simp only;omega) (Prod.ext (by simp only;omega) rfl)
 unfold Qf
 rw [hp,show sE (QeY c) 1048576=0 from a3,show sN (QeY c) 1048576=_ from a2,hd,b2,b3,hd2,r]
 rw [if_pos ⟨rfl,rfl,rfl,by simp only [QeY,List.length_append];omega,h⟩]
theorem QeS {B:Qr} (h:(Qf B).2=0):QW (Qf B).1=0∧B=QeY (Qf B).1:=by
 unfold Qf at h ⊢
 split at h
 ·rename_i hh
  rw [if_pos hh]
  obtain ⟨h1,h2,h3,h4,h5⟩:=hh
  refine ⟨h5,?_⟩
  have e1:=QmI h1
  have e2:=QmI h2
  generalize hr:YD (B.drop (sN B 1048576+sN (B.drop (sN B 1048576)) 1048576))=p at*
  obtain ⟨l,n,f⟩:=p
  dsimp only at h3 h4
  subst h3
  obtain ⟨k1,k2,k3,k4⟩:=Qez hr
  have hl:(B.drop (sN B 1048576+sN (B.drop (sN B 1048576)) 1048576)).length≤n.toNat:=by simp only [List.length_drop];omega
  rw [List.drop_of_length_le hl,List.append_nil,← List.drop_drop] at k4
  unfold QeY Qi8
  rw [hr]
  simp only [Int.toNat_natCast]
  rw [← k4,← e2,← e1]
 ·cases h
theorem Qkd {B:Qr} (h:¬ (Qf B).2=0):Qf B=(zC,5):=by
 unfold Qf at h ⊢
 split at h
 ·exact absurd rfl h
 ·rename_i hh;rw [if_neg hh]
theorem Qhu {B:Qr} {a:Nat} {l:List DOp} {r:Qr} (h:B.drop a=JQ l++r) (ha:a≤B.length) (hc:Qs l=0):JE B ((a:Int),false)=(l,(((a+(JQ l).length:Nat):Int),false)):=by
 have hl:=YN hc
 rw [JQ,List.append_assoc] at h
 have n1:=QaU (m:=8) h (by omega) (by omega)
 have n2:=Qek (Xb h) (Qbm h ha) (fun o ho=>JJ hc ho) (Nat.zero_le _)
 have n3:=(QfH (B:=B) l.length [] (((a+(JY l.length).length:Nat):Int),false)).2 (by rw [n2])
 unfold JE
 rw [n1]
 dsimp only
 rw [Int.toNat_natCast,← n3,n2]
 dsimp only
 rw [if_neg (by rw [hc];decide)]
 simp only [JQ,List.length_append,Nat.add_assoc]
theorem QiE {B:Qr} {s e:RS} {l:List DOp} (hs:rOk B s) (h:JE B s=(l,e)) (he:e.2=false):s.2=false∧rOk B e∧Qs l=0∧B.drop s.1.toNat=JQ l++B.drop e.1.toNat:=by
 have hk:=Q5 (m:=8) hs (by omega)
 unfold JE at h
 generalize hn:Qb B 8 s=p at*
 obtain ⟨k,s1⟩:=p
 dsimp only at h hk
 have hsame:=QfH (B:=B) k.toNat [] s1
 generalize hr:XP B k.toNat [] s1=q at*
 obtain ⟨l1,e1⟩:=q
 dsimp only at h hsame
 by_cases hb:e1.2=true∨¬ Qs l1=0
 ·rw [if_pos hb] at h
  cases h;cases he
 ·rw [if_neg hb] at h
  cases h
  have hc:Qs l=0:=Decidable.byContradiction fun hq=>hb (.inr hq)
  obtain ⟨a1,a2,a3,a4⟩:=QfI _ hk.1 (by have:=hk.2.2.2.1 (by omega);simp;omega) (hsame.2 (by rw [hsame.1,he])) he
  obtain ⟨b1,b2,b3,b4,b5⟩:=QbN hs (by omega) hn a1
  exact ⟨b1,a2,hc,by rw [JQ,a4,List.append_assoc,← a3,← b5]⟩
theorem Qhl {c:Qe} (h:QW c=0):XO (QeY c)=(c,0):=by
 obtain ⟨h1,h2,h3,h4,h5⟩:=Yq h
 have e1:(QeY c).drop 0=JY c.1.toNat++(JY c.2.1.toNat++JQ c.2.2):=rfl
 have n1:=QaU (m:=1048576) e1 (by omega) (by omega)
 have e2:=Xb e1
 have n2:=QaU (m:=1048576) e2 (by omega) (by omega)
 have e3:=Xb e2
 have n3:=Qhu (r:=[]) (by rw [e3,List.append_nil]) (Qbm e2 (Qbm e1 (Nat.zero_le _))) h5
 unfold XO
 rw [show ((0:Int),false)=(((0:Nat):Int),false) from rfl,n1]
 dsimp only
 rw [n2]
 dsimp only
 rw [n3]
 dsimp only
 have ec:(((c.1.toNat:Nat):Int),((c.2.1.toNat:Nat):Int),c.2.2)=c:=Prod.ext (by simp only;omega) (Prod.ext (by simp only;omega) rfl)
 rw [ec,if_pos ⟨rfl,by simp only [QeY,List.length_append];omega,h⟩]
theorem Qis {B:Qr} (h:(XO B).2=0):QW (XO B).1=0∧B=QeY (XO B).1:=by
 have h0:rOk B (0,false):=⟨Int.le_refl _,by simp⟩
 have k1:=Q5 (m:=1048576) h0 (by omega)
 unfold XO at h ⊢
 dsimp only at h ⊢
 generalize ha:Qb B 1048576 (0,false)=a at*
 obtain ⟨x,s1⟩:=a
 dsimp only at h k1 ⊢
 have k2:=Q5 (m:=1048576) k1.1 (by omega)
 generalize hb:Qb B 1048576 s1=b at*
 obtain ⟨y,s2⟩:=b
 dsimp only at h k2 ⊢
 generalize hl:JE B s2=l at*
 obtain ⟨l,e⟩:=l
 dsimp only at h ⊢
 split at h
 ·rename_i hh
  rw [if_pos hh]
  obtain ⟨h1,h2,h3⟩:=hh
  refine ⟨h3,?_⟩
  obtain ⟨a1,a2,a3,a4⟩:=QiE k2.1 hl h1
  obtain ⟨b1,b2,b3,b4,b5⟩:=QbN k1.1 (by omega) hb a1
  obtain ⟨c1,c2,c3,c4,c5⟩:=QbN h0 (by omega) ha b1
  rw [List.drop_of_length_le (by omega:B.length≤e.1.toNat),List.append_nil] at a4
  rw [a4] at b5
  rw [b5] at c5
  exact c5
 ·cases h
theorem QjI {B:Qr} (h:¬ (XO B).2=0):XO B=(zC,5):=by
 unfold XO at h ⊢
 dsimp only at h ⊢
 split at h
 ·exact absurd rfl h
 ·rename_i hh;rw [if_neg hh]
theorem Qdh (B:Qr):XO B=Qf B:=by
 by_cases h:(Qf B).2=0
 ·obtain ⟨h1,h2⟩:=QeS h
  have:=Qhl h1
  rw [← h2] at this
  rw [this]
  exact Prod.ext rfl h.symm
 ·by_cases h':(XO B).2=0
  ·obtain ⟨h1,h2⟩:=Qis h'
   have:=QhU h1
   rw [← h2] at this
   rw [this] at h
   exact absurd rfl h
  ·rw [Qkd h,QjI h']
theorem YL {c:Qe} (h:¬ QW c=0):Jd c=([],QW c):=if_neg h
theorem Yn {c:Qe} (h:¬ ¬ QW c=0):Jd c=XU (JY c.1.toNat++JY c.2.1.toNat) c.2.2:=by
 have h':=Decidable.not_not.1 h
 unfold Jd XU QeY
 rw [if_pos h',if_pos (Yq h').2.2.2.2,List.append_assoc]
theorem QaY (c:Qe):(Jd c).1.length≤700:=by
 by_cases h:QW c=0
 ·obtain ⟨h1,h2,h3,h4,h5⟩:=Yq h
  rw [Yn (fun hn=>hn h)]
  have:=Qdk (JY c.1.toNat++JY c.2.1.toNat) c.2.2
  have:=JT (x:=c.1.toNat) (by omega)
  have:=JT (x:=c.2.1.toNat) (by omega)
  simp only [List.length_append] at*;omega
 ·rw [YL h];simp
theorem QeR (B:Qr):(Qf B).1.2.2.length≤8∧∀ o∈(Qf B).1.2.2,o.2.1.length≤16:=by
 unfold Qf
 split
 ·exact ⟨(Qg0 _).1,Qmb _⟩
 ·exact ⟨by decide,fun o h=>by cases h⟩
theorem Ql8 {B:Qr} (h:¬ sE B 1048576=0):Qf B=(zC,5):=if_neg fun hh=>h hh.1
theorem Ql7 {B:Qr} (h:¬ sE (B.drop (sN B 1048576)) 1048576=0):Qf B=(zC,5):=if_neg fun hh=>h hh.2.1
theorem Ql6 {B:Qr} (h:¬ (YD (B.drop (sN B 1048576+sN (B.drop (sN B 1048576)) 1048576))).2.2=0):Qf B=(zC,5):=if_neg fun hh=>h hh.2.2.1
theorem Ql5 {B:Qr} (h:¬ ((sN B 1048576:Int)+(sN (B.drop (sN B 1048576)) 1048576:Int)+(YD (B.drop (sN B 1048576+sN (B.drop (sN B 1048576)) 1048576))).2.1=B.length)):Qf B=(zC,5):=if_neg fun hh=>h hh.2.2.2.1
theorem Ql4 {B:Qr} (h:¬ QW (Qi8 B)=0):Qf B=(zC,5):=if_neg fun hh=>h hh.2.2.2.2
theorem Ql3 {B:Qr} (h1:¬ ¬ sE B 1048576=0) (h2:¬ ¬ sE (B.drop (sN B 1048576)) 1048576=0) (h3:¬ ¬ (YD (B.drop (sN B 1048576+sN (B.drop (sN B 1048576)) 1048576))).2.2=0)
  (h4:¬ ¬ ((sN B 1048576:Int)+(sN (B.drop (sN B 1048576)) 1048576:Int)+(YD (B.drop (sN B 1048576+sN (B.drop (sN B 1048576)) 1048576))).2.1=B.length)) (h5:¬ ¬ QW (Qi8 B)=0):Qf B=(Qi8 B,0):=
 if_pos ⟨Decidable.not_not.1 h1,Decidable.not_not.1 h2,Decidable.not_not.1 h3,Decidable.not_not.1 h4,Decidable.not_not.1 h5⟩
def ofC (e n : Int) : Qe := (e, n, [(true, [97], [49])])
theorem QkP {e n i:Int} {l:List Qe}:((Q8 e n i l).1=0∧(Q8 e n i l).2=0)↔(Q8 e n i l).1=0:=⟨fun h=>h.1,fun h=>by rw [QeL h];exact ⟨rfl,rfl⟩⟩
def rA (B : Qr) : Int × RS := Qb B 1048576 (0, false)
theorem X5 {B:Qr} (h:¬ ((JE B (Qb B 1048576 (Qb B 1048576 (0,false)).2).2).2.2=false∧(JE B (Qb B 1048576 (Qb B 1048576 (0,false)).2).2).2.1=(B.length:Int))):Qf B=(zC,5):=by
 rw [← Qdh];unfold XO;exact if_neg fun hh=>h ⟨hh.1,hh.2.1⟩
theorem X4 {B:Qr} (h:¬ QW ((Qb B 1048576 (0,false)).1,(Qb B 1048576 (Qb B 1048576 (0,false)).2).1,(JE B (Qb B 1048576 (Qb B 1048576 (0,false)).2).2).1)=0):Qf B=(zC,5):=by
 rw [← Qdh];unfold XO;exact if_neg fun hh=>h hh.2.2
theorem X3 {B:Qr} (h:¬ ¬ ((JE B (Qb B 1048576 (Qb B 1048576 (0,false)).2).2).2.2=false∧(JE B (Qb B 1048576 (Qb B 1048576 (0,false)).2).2).2.1=(B.length:Int)))
  (h2:¬ ¬ QW ((Qb B 1048576 (0,false)).1,(Qb B 1048576 (Qb B 1048576 (0,false)).2).1,(JE B (Qb B 1048576 (Qb B 1048576 (0,false)).2).2).1)=0):
  Qf B=(((Qb B 1048576 (0,false)).1,(Qb B 1048576 (Qb B 1048576 (0,false)).2).1,(JE B (Qb B 1048576 (Qb B 1048576 (0,false)).2).2).1),0):=by
 rw [← Qdh];unfold XO;exact if_pos ⟨(Decidable.not_not.1 h).1,(Decidable.not_not.1 h).2,Decidable.not_not.1 h2⟩
theorem Qqp:JR Tryz.prog 112=true:=by kernel_rfl
theorem Qqi:JR Tryz.prog 124=true:=by kernel_rfl
theorem Qqg:JR Tryz.prog 131=true:=by kernel_rfl
theorem Qqf:JR Tryz.prog 132=true:=by kernel_rfl
theorem Qqd:JR Tryz.prog 135=true:=by kernel_rfl
theorem Qk3:JR Tryz.prog 82=true:=by kernel_rfl
theorem tz145:tz Tryz.prog 145=some [.slice none 0 0,.int .i64 0,.bool false]:=by kernel_rfl
theorem Zn {P:Prop} (h:P:=by first | exact bd | (have h_:=Yq (Decidable.not_not.1 ‹¬ ¬ QW d0=0›);omega) | (have h_:=Yq (Decidable.not_not.1 ‹¬ ¬ QW d0=0›);simp only [List.length_append,List.length_nil,List.length_cons] at*;omega)):P:=h
theorem Qkb (W:World) {v0:List Value} {d0:Qe} (h0:Rd Ql (wm W) v0 d0):Qi Tryz.prog 68 [.agg v0.toArray] W (Qx) (fun v m'=>∃ (s0:Value),v= .tuple #[s0,.int .i64 ((Jd d0).2)]∧Ow (.sl .byte) m' [s0] ((Jd d0).1)):=by
 obtain ⟨p0_A2,p0_c2,rfl,p0_0,p0_1,p0_2⟩:=Q4 (x0:=d0.1) (x1:=d0.2.1) (x2:=d0.2.2) h0
 simp only [inK] at p0_0 p0_1
 have p0_r2:=Rd.room p0_2
 refine Qi.ofA (n:=23) Tryz.func68 rfl rfl rfl ?_
 refine VC.rs ?_
 refine VO.box (cs:=[.int .i64 (d0.1),.int .i64 (d0.2.1),.slice p0_A2 (d0.2.2.length) (p0_c2)]) 102 rfl rfl rfl (fun g1=>?_)
 refine VO.as (VO.as (VO.k4 0 1 2 3 (VC.seq (VC.rs (VO.z (.ldA 102 rfl Yv rfl (Qa rfl rfl)) ?_)))))
 refine VO.callN 103 rfl Qj0 rfl (fun W hW=>Qew W (Rd.mono h0 (hW.t 0))) (fun v3 m3 hv3=>?_)
 subst hv3
 have hfa4:=YG d0
 refine VO.as (VO.k5 0 1 2 3 4 (VC.rs (VO.mv (VO.z (.neq rfl rfl) (VO.p2 102 0 (VO.k6 0 1 2 3 4 8 ?_))))))
 refine VC.cond rfl (fun hc5=>?_) (fun hc5=>?_)
 ·refine VC.rs (VO.mv (VO.as (VO.as (VO.k6 0 1 2 3 4 8 (VC.ret (QZ ?_))))))
  refine Qef 2 3 [] fun hS_=>?_
  dsimp only [QE]
  have he0:((Jd d0).1:Ty.Den (.sl .byte))=[]:=by first | rfl | (first | (rw [YL Qo];done) | (rw [Yn Qo];done))
  refine ⟨.slice none (0) (0),?_,?_⟩
  rotate_left
  ·rw [he0];exact (Ow.nil _ _)
  all_goals (first | rfl | (first | (rw [YL Qo] <;> rfl) | (rw [Yn Qo] <;> rfl)))
 ·refine VC.skip (Qm (VC.seq ?_))
  refine VC.regD _ 13 [(0,true),(1,true),(2,true),(4,true),(5,true),(6,true),(8,true),(9,true),(3,false),(7,false),(10,false),(11,true),(12,true)] follows (by kernel_rfl) (fun _ h=>h.sub [102,0]) ?_
  refine VD.z rfl (.fa rfl Jq rfl) (VD.z rfl (.ld1 102 rfl tk3 rfl (Qa rfl rfl)) ?_)
  refine VD.z rfl (.cvI (c:=((d0.1).toNat:Int)) rfl ⟨_,Tryz.underlying3⟩ Tryz.underlying130 (by rw [IntWalk.u64_in _ Zn];first | omega | (exact Zn))) ?_
  refine VD.z rfl (.fa rfl Jq rfl) (VD.z rfl (.ld1 102 rfl tk3 rfl (Qa rfl rfl)) ?_)
  refine VD.z rfl (.cvI (c:=((d0.2.1).toNat:Int)) rfl ⟨_,Tryz.underlying3⟩ Tryz.underlying130 (by rw [IntWalk.u64_in _ Zn];first | omega | (exact Zn))) ?_
  refine VD.z rfl (.fa rfl Jq rfl) (VD.z rfl (.ld1 102 rfl Qc6 rfl (Qa rfl rfl)) ?_)
  refine VD.callN 106 rfl rfl (.inl rfl) QbW rfl (fun _ h=>h.sub [102,0]) (fun W hW=>Xg W (Rd.nil _ _ none 0 (Nat.zero_le _)) ((d0.1).toNat) Zn Zn) (fun v6 m6 hv6=>?_)
  obtain ⟨s6_0,rfl,f6_0⟩:=hv6
  have hfa7:=JT (x:=((d0.1).toNat)) (by first | omega | exact QkN Qo _)
  simp only [List.nil_append] at f6_0
  obtain ⟨A6_0,c6_0,eq6_0,l6_0,k6_0⟩:=f6_0.slc
  subst eq6_0
  refine VD.callN 108 rfl rfl (.inl rfl) QbW rfl (fun _ h=>h.sub [102,0]) (fun W hW=>Xg W (Ow.rd f6_0 (hW.t 106)) ((d0.2.1).toNat) Zn Zn) (fun v8 m8 hv8=>?_)
  obtain ⟨s8_0,rfl,f8_0⟩:=hv8
  have hfa9:=JT (x:=((d0.2.1).toNat)) (by first | omega | exact QkN Qo _)
  obtain ⟨A8_0,c8_0,eq8_0,l8_0,k8_0⟩:=f8_0.slc
  subst eq8_0
  refine VD.callN 110 rfl rfl (.inl rfl) Qqp rfl (fun _ h=>h.sub [102,0]) (fun W hW=>Qmd W (Ow.rd f8_0 (hW.t 108)) (Rd.mono p0_2 (hW.t 0)) Zn) (fun v10 m10 hv10=>?_)
  obtain ⟨s10_0,rfl,f10_0⟩:=hv10
  have hfa11:=Qdk ((JY ((d0.1).toNat))++JY ((d0.2.1).toNat)) d0.2.2
  obtain ⟨A10_0,c10_0,eq10_0,l10_0,k10_0⟩:=f10_0.slc
  subst eq10_0
  refine VD.z rfl (.ext rfl rfl) (VD.z rfl (.ext rfl rfl) ?_)
  refine VD.nil rfl ?_ rfl
  refine VO.as (VO.as (VO.k6 0 1 2 3 4 8 (Qm (VC.ret ?_))))
  refine Qef 2 3 [110] fun hS_=>?_
  dsimp only [QE]
  exact ⟨Value.slice A10_0 (((XU ((JY ((d0.1).toNat))++JY ((d0.2.1).toNat)) d0.2.2).1).length) (c10_0),(by first | rfl | (first | (rw [YL Qo] <;> rfl) | (rw [Yn Qo] <;> rfl))),(Ow.cg (Ow.up f10_0 (hS_.1 _ (.head _))) (by first | rfl | (first | (rw [YL Qo];done) | (rw [Yn Qo];done))))⟩
theorem QcL (W:World) {v0:List Value} {d0:Qe} (h0:Rd Ql (wm W) v0 d0):Qi Tryz.prog 82 [.agg v0.toArray] W (Qx) (fun v m'=>v= .int .i64 (QW d0)):=by
 obtain ⟨p0_A2,p0_c2,rfl,p0_0,p0_1,p0_2⟩:=Q4 (x0:=d0.1) (x1:=d0.2.1) (x2:=d0.2.2) h0
 simp only [inK] at p0_0 p0_1
 have p0_r2:=Rd.room p0_2
 refine Qi.ofA (n:=24) Tryz.func82 rfl rfl rfl ?_
 refine VC.rs ?_
 refine VO.box (cs:=[.int .i64 (d0.1),.int .i64 (d0.2.1),.slice p0_A2 (d0.2.2.length) (p0_c2)]) 102 rfl rfl rfl (fun g1=>?_)
 refine VO.as (VO.k3 0 1 2 (VC.seq (VC.rs (VO.z (.fa rfl Jq rfl) (VO.z (.ld1 102 rfl tk3 rfl (Qa rfl rfl)) (VO.z (.lss rfl rfl) (VO.mv ?_)))))))
 refine VO.dec (t:=6) rfl (fun hc3=>?_) (fun hc3=>?_)
 refine VO.gN (VO.gN (VO.gN (VO.z (.pT rfl rfl) (VO.mv (VO.gN (VO.gN (VO.gN (VO.z (.pT rfl rfl) (VO.mv (VO.gN (VO.gN ?_)))))))))))
 refine VO.gN (VO.z (.pT rfl rfl) (VO.k4 0 1 2 20 (VC.condT rfl (VC.rs (VO.as (VO.p2 102 0 (VO.k4 0 1 2 20 (VC.ret (QZ ?_)))))))))
 exact Xl 2 rfl (by first | rfl | (unfold QW;congr 1;split <;> (try split) <;> first | rfl | omega))
 refine VO.w (.fa rfl Jq rfl) (VO.w (.ld1 102 rfl tk3 rfl (Qa rfl rfl)) (VO.w (.gtr rfl rfl) (VO.z (.pF rfl rfl) (VO.mv ?_))))
 refine VO.dec (t:=11) rfl (fun hc4=>?_) (fun hc4=>?_)
 refine VO.gN (VO.gN (VO.gN (VO.z (.pT rfl rfl) (VO.mv (VO.gN (VO.gN (VO.gN (VO.z (.pT rfl rfl) (VO.k4 0 1 2 20 (VC.condT rfl (VC.rs ?_)))))))))))
 refine VO.as (VO.p2 102 0 (VO.k4 0 1 2 20 (VC.ret (QZ ?_))))
 exact Xl 2 rfl (by first | rfl | (unfold QW;congr 1;split <;> (try split) <;> first | rfl | omega))
 refine VO.w (.fa rfl Jq rfl) (VO.w (.ld1 102 rfl tk3 rfl (Qa rfl rfl)) (VO.w (.lss rfl rfl) (VO.z (.pF rfl rfl) (VO.mv ?_))))
 refine VO.dec (t:=16) rfl (fun hc5=>?_) (fun hc5=>?_)
 refine VO.gN (VO.gN (VO.gN (VO.z (.pT rfl rfl) (VO.k4 0 1 2 20 (VC.condT rfl (VC.rs (VO.as (VO.p2 102 0 (VO.k4 0 1 2 20 (VC.ret (QZ ?_)))))))))))
 exact Xl 2 rfl (by first | rfl | (unfold QW;congr 1;split <;> (try split) <;> first | rfl | omega))
 refine VO.w (.fa rfl Jq rfl) (VO.w (.ld1 102 rfl tk3 rfl (Qa rfl rfl)) (VO.w (.gtr rfl rfl) (VO.z (.pF rfl rfl) (VO.k4 0 1 2 20 ?_))))
 refine VC.cond rfl (fun hc6=>?_) (fun hc6=>?_)
 refine VC.rs (VO.as (VO.p2 102 0 (VO.k4 0 1 2 20 (VC.ret (QZ ?_)))))
 exact Xl 2 rfl (by first | rfl | (unfold QW;congr 1;split <;> (try split) <;> first | rfl | omega))
 refine VC.skip (Qm (VC.rs (VO.z (.fa rfl Jq rfl) (VO.z (.ld1 102 rfl Qc6 rfl (Qa rfl rfl)) ?_))))
 refine VO.callN 107 rfl QjZ rfl (fun W hW=>Qeg W (Rd.mono p0_2 (hW.t 0))) (fun v7 m7 hv7=>?_)
 subst hv7
 have hfa8:=ZZ d0.2.2
 refine VO.as (VO.p2 102 0 (VO.k4 0 1 2 20 (VC.ret ?_)))
 exact Xl 2 rfl (by first | rfl | (unfold QW;congr 1;split <;> (try split) <;> first | rfl | omega))
theorem ZX {P:Prop} (h:P:=by first | exact bd | (have h_:=Yq (Decidable.not_not.1 ‹¬ ¬ QW d0=0›);omega) | (have h_:=Yq (Decidable.not_not.1 ‹¬ ¬ QW d0=0›);simp only [List.length_append,List.length_nil,List.length_cons] at*;omega)):P:=h
theorem Qke (W:World) {v0:List Value} {d0:Qe} (h0:Rd Ql (wm W) v0 d0):Qi Tryz.prog 118 [.agg v0.toArray] W (Qx) (fun v m'=>∃ (s0:Value),v= .tuple #[s0,.int .i64 ((Jd d0).2)]∧Ow (.sl .byte) m' [s0] ((Jd d0).1)):=by
 obtain ⟨p0_A2,p0_c2,rfl,p0_0,p0_1,p0_2⟩:=Q4 (x0:=d0.1) (x1:=d0.2.1) (x2:=d0.2.2) h0
 simp only [inK] at p0_0 p0_1
 have p0_r2:=Rd.room p0_2
 refine Qi.ofA (n:=24) Tryz.func118 rfl rfl rfl ?_
 refine VC.rs ?_
 refine VO.box (cs:=[.int .i64 (d0.1),.int .i64 (d0.2.1),.slice p0_A2 (d0.2.2.length) (p0_c2)]) 102 rfl rfl rfl (fun g1=>?_)
 refine VO.as (VO.as (VO.k4 0 1 2 3 (VC.rs (VO.z (.ldA 102 rfl Yv rfl (Qa rfl rfl)) ?_))))
 refine VO.callN 103 rfl Qk3 rfl (fun W hW=>QcL W (Rd.mono h0 (hW.t 0))) (fun v3 m3 hv3=>?_)
 subst hv3
 have hfa4:=YG d0
 refine VO.as (VO.k5 0 1 2 3 4 (VC.seq (VC.rs (VO.mv (VO.z (.neq rfl rfl) (VO.p2 102 0 (VO.k6 0 1 2 3 4 9 ?_)))))))
 refine VC.cond rfl (fun hc5=>?_) (fun hc5=>?_)
 ·refine VC.rs (VO.mv (VO.as (VO.as (VO.k6 0 1 2 3 4 9 (VC.ret (QZ ?_))))))
  refine Qef 2 3 [] fun hS_=>?_
  dsimp only [QE]
  have he0:((Jd d0).1:Ty.Den (.sl .byte))=[]:=by first | rfl | (first | (rw [YL Qo];done) | (rw [Yn Qo];done))
  refine ⟨.slice none (0) (0),?_,?_⟩
  rotate_left
  ·rw [he0];exact (Ow.nil _ _)
  all_goals (first | rfl | (first | (rw [YL Qo] <;> rfl) | (rw [Yn Qo] <;> rfl)))
 ·refine VC.skip (Qm (VC.rs (VO.z (.fa rfl Jq rfl) (VO.z (.ld1 102 rfl tk3 rfl (Qa rfl rfl)) ?_))))
  refine VO.callN 106 rfl QbV rfl (fun W hW=>QbL W (Rd.nil _ _ none 0 (Nat.zero_le _)) d0.1 (by simp only [inK];(exact ZX)) ZX ZX) (fun v6 m6 hv6=>?_)
  obtain ⟨s6_0,rfl,f6_0⟩:=hv6
  have hfa7:=JT (x:=d0.1.toNat) Qn
  simp only [List.nil_append] at f6_0
  obtain ⟨A6_0,c6_0,eq6_0,l6_0,k6_0⟩:=f6_0.slc
  subst eq6_0
  refine VO.as (VO.k7 0 1 2 3 4 5 9 (VC.rs (VO.mv (VO.z (.fa rfl Jq rfl) (VO.z (.ld1 102 rfl tk3 rfl (Qa rfl rfl)) ?_)))))
  refine VO.callN 108 rfl QbV rfl (fun W hW=>QbL W (Ow.rd f6_0 (hW.t 106)) d0.2.1 (by simp only [inK];(exact ZX)) ZX ZX) (fun v8 m8 hv8=>?_)
  obtain ⟨s8_0,rfl,f8_0⟩:=hv8
  have hfa9:=JT (x:=d0.2.1.toNat) Qn
  obtain ⟨A8_0,c8_0,eq8_0,l8_0,k8_0⟩:=f8_0.slc
  subst eq8_0
  refine VO.as (VO.k7 0 1 2 3 4 5 9 (VC.rs (VO.mv (VO.z (.fa rfl Jq rfl) (VO.z (.ld1 102 rfl Qc6 rfl (Qa rfl rfl)) ?_)))))
  refine VO.callN 110 rfl Qqd rfl (fun W hW=>QjD W (Ow.rd f8_0 (hW.t 108)) (Rd.mono p0_2 (hW.t 0)) ZX) (fun v10 m10 hv10=>?_)
  obtain ⟨s10_0,rfl,f10_0⟩:=hv10
  have hfa11:=Qdk ((JY d0.1.toNat)++JY d0.2.1.toNat) d0.2.2
  obtain ⟨A10_0,c10_0,eq10_0,l10_0,k10_0⟩:=f10_0.slc
  subst eq10_0
  refine VO.z (.ext rfl rfl) (VO.z (.ext rfl rfl) (VO.as (VO.as (VO.p4 110 108 102 0 (VO.k7 0 1 2 3 4 5 9 (VC.ret ?_))))))
  refine Qef 2 3 [110] fun hS_=>?_
  dsimp only [QE]
  exact ⟨Value.slice A10_0 (((XU ((JY d0.1.toNat)++JY d0.2.1.toNat) d0.2.2).1).length) (c10_0),(by first | rfl | (first | (rw [YL Qo] <;> rfl) | (rw [Yn Qo] <;> rfl))),(Ow.cg (Ow.up f10_0 (hS_.1 _ (.head _))) (by first | rfl | (first | (rw [YL Qo];done) | (rw [Yn Qo];done))))⟩
theorem JD {P:Prop} (h:P:=by first | (rw [Ql8 (by assumption)] <;> rfl) | (rw [Ql7 (by assumption)] <;> rfl) | (rw [Ql6 (by assumption)] <;> rfl) | (rw [Ql5 (by assumption)] <;> rfl) | (rw [Ql4 (by assumption)] <;> rfl) | (rw [Ql3 (by assumption) (by assumption) (by assumption) (by assumption) (by assumption)] <;> rfl)):P:=h
set_option maxHeartbeats 1000000 in
theorem Qkc (W:World) {v0:Value} {d0:List UInt8} (h0:Rd (.sl .byte) (wm W) [v0] d0):Qi Tryz.prog 108 [v0] W (Qx) (fun v m'=>∃ (s0:List Value),v= .tuple #[.agg s0.toArray,.int .i64 ((Qf d0).2)]∧Ow Ql m' s0 ((Qf d0).1)):=by
 obtain ⟨A0,c0,rfl,l0,k0⟩:=h0.slc
 refine Qi.ofA (n:=65) Tryz.func108 rfl rfl rfl ?_
 refine VC.rs ?_
 refine VO.alloc 102 rfl XA (fun g1=>?_)
 refine VO.as (VO.k3 0 2 3 (VC.rs (VO.mv ?_)))
 refine VO.callN 103 rfl QhG rfl (fun W hW=>Qdo W (Rd.mono h0 (hW.t 0)) 1048576 bdk) (fun v3 m3 hv3=>?_)
 subst hv3
 have hfa4:=XN d0 1048576 Qn
 refine VO.mv (VO.z (.ext rfl rfl) (VO.z (.ext rfl rfl) (VO.z (.ext rfl rfl) (VO.as (VO.as (VO.as (VO.k6 0 2 3 4 5 6 (VC.seq (VC.rs (VO.mv (VO.z (.neq rfl rfl) ?_)))))))))))
 refine VO.p2 102 0 (VO.k7 0 2 3 4 5 6 19 ?_)
 refine VC.cond rfl (fun hc5=>?_) (fun hc5=>?_)
 · refine VC.rs ?_
   refine VO.z (.bst (cs:=[.int .i64 (0),.int .i64 (0),.slice none (0) (0)]) rfl Jq XA rfl) ?_
   refine VO.store (k:=3) (c':=[.int .i64 (0),.int .i64 (0),.slice none (0) (0)]) 102 rfl rfl (.inl Yv) rfl rfl rfl rfl rfl ?_
   refine VO.as (VO.k7 0 2 3 4 5 6 19 (VC.ret (QZ ?_)))
   refine ⟨_,_,Jr (rs:=[.cell 2 37,.tmp 3]) rfl (.agg 102 rfl Yv rfl ⟨_,_,_,QJ _ _,Nat.le_of_ble_eq_true rfl,rfl⟩ (.tmp rfl .nil)),fun W_ hI=>JZ (l:=[]) hI [] rfl rfl (Qc _) (fun hS_=>?_)⟩
   dsimp only [QE]
   have he0:((Qf d0).1:Ty.Den Ql)=(0,0,[]):=by first | rfl | (exact JD)
   refine ⟨[.int .i64 (0),.int .i64 (0),.slice none (0) (0)],?_,?_⟩
   rotate_left
   · rw [he0];exact (Jt _ _ _ (QA.nilAt 0 hS_) bdk bdk (Ow.nil _ _))
   all_goals (first | rfl | (exact JD))
 refine VC.skip (Qm (VC.rs (VO.mv (VO.mv ?_))))
 obtain ⟨A6,hA6,hs6⟩:=h0.drop 1 (sN d0 1048576) rfl bd
 refine VO.z (.slLI (sN d0 1048576) A6 rfl rfl Ji rfl hA6 bd) ?_
 refine VO.callN 107 rfl QhG rfl (fun W hW=>Qdo W (Rd.mono hs6 (hW.t 0)) 1048576 bdk) (fun v7 m7 hv7=>?_)
 subst hv7
 have hfa8:=XN (d0.drop (sN d0 1048576)) 1048576 Qn
 refine VO.mv (VO.z (.ext rfl rfl) (VO.z (.ext rfl rfl) (VO.z (.ext rfl rfl) (VO.as (VO.as (VO.as (VO.k9 0 2 3 4 5 6 7 8 19 (VC.seq (VC.rs (VO.mv (VO.z (.neq rfl rfl) ?_)))))))))))
 refine VO.k10 0 2 3 4 5 6 7 8 19 30 ?_
 refine VC.cond rfl (fun hc9=>?_) (fun hc9=>?_)
 · refine VC.rs ?_
   refine VO.z (.bst (cs:=[.int .i64 (0),.int .i64 (0),.slice none (0) (0)]) rfl Jq XA rfl) ?_
   refine VO.store (k:=3) (c':=[.int .i64 (0),.int .i64 (0),.slice none (0) (0)]) 102 rfl rfl (.inl Yv) rfl rfl rfl rfl rfl ?_
   refine VO.as (VO.p2 102 0 (VO.k10 0 2 3 4 5 6 7 8 19 30 (VC.ret (QZ ?_))))
   refine ⟨_,_,Jr (rs:=[.cell 2 37,.tmp 3]) rfl (.agg 102 rfl Yv rfl ⟨_,_,_,QJ _ _,Nat.le_of_ble_eq_true rfl,rfl⟩ (.tmp rfl .nil)),fun W_ hI=>JZ (l:=[]) hI [] rfl rfl (Qc _) (fun hS_=>?_)⟩
   dsimp only [QE]
   have he0:((Qf d0).1:Ty.Den Ql)=(0,0,[]):=by first | rfl | (exact JD)
   refine ⟨[.int .i64 (0),.int .i64 (0),.slice none (0) (0)],?_,?_⟩
   rotate_left
   · rw [he0];exact (Jt _ _ _ (QA.nilAt 0 hS_) bdk bdk (Ow.nil _ _))
   all_goals (first | rfl | (exact JD))
 refine VC.skip (Qm (VC.rs (VO.mv (VO.mv (VO.mv ?_)))))
 refine VO.z (.add (c:=((sN d0 1048576+(sN (d0.drop (sN d0 1048576)) 1048576):Nat):Int)) rfl rfl Qn ⟨bd,bd⟩) ?_
 obtain ⟨A10,hA10,hs10⟩:=h0.drop 1 (sN d0 1048576+(sN (d0.drop (sN d0 1048576)) 1048576)) rfl bd
 refine VO.z (.slLI (sN d0 1048576+(sN (d0.drop (sN d0 1048576)) 1048576)) A10 rfl rfl Ji rfl hA10 bd) ?_
 refine VO.callN 111 rfl Qqi rfl (fun W hW=>QoU W (Rd.mono hs10 (hW.t 0))) (fun v11 m11 hv11=>?_)
 obtain ⟨s11_0,rfl,f11_0⟩:=hv11
 have hfa12:=Qg0 (d0.drop (sN d0 1048576+(sN (d0.drop (sN d0 1048576)) 1048576)))
 obtain ⟨A11_0,c11_0,eq11_0,l11_0,k11_0⟩:=f11_0.slc
 subst eq11_0
 refine VO.mv (VO.z (.ext rfl rfl) (VO.z (.ext rfl rfl) (VO.z (.ext rfl rfl) (VO.as (VO.as (VO.as (VO.p3 111 102 0 (VO.k12 0 2 3 4 5 6 7 8 9 10 19 30 (VC.rs (VO.mv (VO.mv ?_)))))))))))
 refine VO.mv ?_
 refine VO.z (.bst (cs:=[.int .i64 (((sX d0 1048576:Nat):Int)),.int .i64 (((sX (d0.drop (sN d0 1048576)) 1048576:Nat):Int)),.slice A11_0 (((YD (d0.drop (sN d0 1048576+(sN (d0.drop (sN d0 1048576)) 1048576)))).1).length) (c11_0)]) rfl Jq XA rfl) ?_
 refine VO.alloc 114 rfl XA (fun g13=>?_)
 refine VO.store (k:=3) (c':=[.int .i64 (((sX d0 1048576:Nat):Int)),.int .i64 (((sX (d0.drop (sN d0 1048576)) 1048576:Nat):Int)),.slice A11_0 (((YD (d0.drop (sN d0 1048576+(sN (d0.drop (sN d0 1048576)) 1048576)))).1).length) (c11_0)]) 114 rfl rfl (.inl Yv) rfl rfl rfl rfl rfl ?_
 refine VO.nil (VC.seq (VC.rs (VO.mv (VO.z (.neq rfl rfl) (VO.mv ?_)))))
 refine VO.dec (t:=48) rfl (fun hc15=>?_) (fun hc15=>?_)
 · refine VO.gN (VO.gN (VO.gN (VO.gN (VO.gN (VO.gN (VO.gN (VO.gN (VO.z (.pT rfl rfl) (VO.mv (VO.gN (VO.gN ?_)))))))))))
   refine VO.gN (VO.z (.pT rfl rfl) (VO.nil (VC.condT rfl (VC.rs ?_))))
   refine VO.z (.bst (cs:=[.int .i64 (0),.int .i64 (0),.slice none (0) (0)]) rfl Jq XA rfl) ?_
   refine VO.store (k:=3) (c':=[.int .i64 (0),.int .i64 (0),.slice none (0) (0)]) 102 rfl rfl (.inl Yv) rfl rfl rfl rfl rfl ?_
   refine VO.as (VO.p4 114 111 102 0 (VO.nil (VC.ret (QZ ?_))))
   refine ⟨_,_,Jr (rs:=[.cell 2 37,.tmp 3]) rfl (.agg 102 rfl Yv rfl ⟨_,_,_,QJ _ _,Nat.le_of_ble_eq_true rfl,rfl⟩ (.tmp rfl .nil)),fun W_ hI=>JZ (l:=[]) hI [] rfl rfl (Qc _) (fun hS_=>?_)⟩
   dsimp only [QE]
   have he0:((Qf d0).1:Ty.Den Ql)=(0,0,[]):=by first | rfl | (exact JD)
   refine ⟨[.int .i64 (0),.int .i64 (0),.slice none (0) (0)],?_,?_⟩
   rotate_left
   · rw [he0];exact (Jt _ _ _ (QA.nilAt 0 hS_) bdk bdk (Ow.nil _ _))
   all_goals (first | rfl | (exact JD))
 refine VO.w (.mv rfl) (VO.w (.mv rfl) ?_)
 refine VO.w (.add (c:=((sN d0 1048576+(sN (d0.drop (sN d0 1048576)) 1048576):Nat):Int)) rfl rfl Qn ⟨bd,bd⟩) ?_
 refine VO.w (.mv rfl) ?_
 refine VO.w (.add rfl rfl rfl ⟨bd,bd⟩) ?_
 refine VO.w (.mv rfl) (VO.w (.lenS rfl Ji) (VO.w (.neq rfl rfl) (VO.z (.pF rfl rfl) (VO.mv ?_))))
 refine VO.dec (t:=58) rfl (fun hc16=>?_) (fun hc16=>?_)
 · refine VO.gN (VO.gN (VO.gN (VO.z (.pT rfl rfl) (VO.nil (VC.condT rfl (VC.rs ?_))))))
   refine VO.z (.bst (cs:=[.int .i64 (0),.int .i64 (0),.slice none (0) (0)]) rfl Jq XA rfl) ?_
   refine VO.store (k:=3) (c':=[.int .i64 (0),.int .i64 (0),.slice none (0) (0)]) 102 rfl rfl (.inl Yv) rfl rfl rfl rfl rfl ?_
   refine VO.as (VO.p4 114 111 102 0 (VO.nil (VC.ret (QZ ?_))))
   refine ⟨_,_,Jr (rs:=[.cell 2 37,.tmp 3]) rfl (.agg 102 rfl Yv rfl ⟨_,_,_,QJ _ _,Nat.le_of_ble_eq_true rfl,rfl⟩ (.tmp rfl .nil)),fun W_ hI=>JZ (l:=[]) hI [] rfl rfl (Qc _) (fun hS_=>?_)⟩
   dsimp only [QE]
   have he0:((Qf d0).1:Ty.Den Ql)=(0,0,[]):=by first | rfl | (exact JD)
   refine ⟨[.int .i64 (0),.int .i64 (0),.slice none (0) (0)],?_,?_⟩
   rotate_left
   · rw [he0];exact (Jt _ _ _ (QA.nilAt 0 hS_) bdk bdk (Ow.nil _ _))
   all_goals (first | rfl | (exact JD))
 refine VO.w (.ldA 114 rfl Yv rfl (Qa rfl rfl)) ?_
 refine VO.gcallN 117 rfl ⟨_,rfl,rfl⟩ Qj0 rfl (fun W hW=>Qew W (YM (m:=wm W) ((sX d0 1048576:Nat):Int) ((sX (d0.drop (sN d0 1048576)) 1048576:Nat):Int) ((YD (d0.drop (sN d0 1048576+(sN (d0.drop (sN d0 1048576)) 1048576)))).1) bdk bdk (Ow.rd f11_0 (hW.t 111)))) (fun v17 m17 hv17=>?_)
 try dsimp only at hv17
 subst hv17
 have hfa18:=YG (((sX d0 1048576:Nat):Int),((sX (d0.drop (sN d0 1048576)) 1048576:Nat):Int),(YD (d0.drop (sN d0 1048576+(sN (d0.drop (sN d0 1048576)) 1048576)))).1)
 refine VO.w (.neq rfl rfl) (VO.z (.pF rfl rfl) (VO.nil ?_))
 refine VC.cond rfl (fun hc19=>?_) (fun hc19=>?_)
 · refine VC.rs ?_
   refine VO.z (.bst (cs:=[.int .i64 (0),.int .i64 (0),.slice none (0) (0)]) rfl Jq XA rfl) ?_
   refine VO.store (k:=3) (c':=[.int .i64 (0),.int .i64 (0),.slice none (0) (0)]) 102 rfl rfl (.inl Yv) rfl rfl rfl rfl rfl ?_
   refine VO.as (VO.p4 114 111 102 0 (VO.nil (VC.ret (QZ ?_))))
   refine ⟨_,_,Jr (rs:=[.cell 2 37,.tmp 3]) rfl (.agg 102 rfl Yv rfl ⟨_,_,_,QJ _ _,Nat.le_of_ble_eq_true rfl,rfl⟩ (.tmp rfl .nil)),fun W_ hI=>JZ (l:=[]) hI [] rfl rfl (Qc _) (fun hS_=>?_)⟩
   dsimp only [QE]
   have he0:((Qf d0).1:Ty.Den Ql)=(0,0,[]):=by first | rfl | (exact JD)
   refine ⟨[.int .i64 (0),.int .i64 (0),.slice none (0) (0)],?_,?_⟩
   rotate_left
   · rw [he0];exact (Jt _ _ _ (QA.nilAt 0 hS_) bdk bdk (Ow.nil _ _))
   all_goals (first | rfl | (exact JD))
 · refine VC.skip (Qm (VC.rs (VO.z (.ldA 114 rfl Yv rfl (Qa rfl rfl)) ?_)))
   refine VO.store (k:=3) (c':=[.int .i64 (((sX d0 1048576:Nat):Int)),.int .i64 (((sX (d0.drop (sN d0 1048576)) 1048576:Nat):Int)),.slice A11_0 (((YD (d0.drop (sN d0 1048576+(sN (d0.drop (sN d0 1048576)) 1048576)))).1).length) (c11_0)]) 102 rfl rfl (.inl Yv) rfl rfl rfl rfl rfl ?_
   refine VO.as (VO.p4 114 111 102 0 (VO.nil (VC.ret ?_)))
   refine ⟨_,_,Jr (rs:=[.cell 2 37,.tmp 3]) rfl (.agg 102 rfl Yv rfl ⟨_,_,_,QJ _ _,Nat.le_of_ble_eq_true rfl,rfl⟩ (.tmp rfl .nil)),fun W_ hI=>JZ (l:=[m11]) hI [111] rfl rfl (Qc _) (fun hS_=>?_)⟩
   dsimp only [QE]
   have he0:((Qf d0).1:Ty.Den Ql)=(((sX d0 1048576:Nat):Int),((sX (d0.drop (sN d0 1048576)) 1048576:Nat):Int),(YD (d0.drop (sN d0 1048576+(sN (d0.drop (sN d0 1048576)) 1048576)))).1):=by first | rfl | (exact JD)
   refine ⟨[.int .i64 (((sX d0 1048576:Nat):Int)),.int .i64 (((sX (d0.drop (sN d0 1048576)) 1048576:Nat):Int)),.slice A11_0 (((YD (d0.drop (sN d0 1048576+(sN (d0.drop (sN d0 1048576)) 1048576)))).1).length) (c11_0)],?_,?_⟩
   rotate_left
   · rw [he0];exact (Jt _ _ _ hS_ bdk bdk f11_0)
   all_goals (first | rfl | (exact JD))
theorem Qom (W:World) {g0:Nat} {E0:TypeId} {d0:Qap} {b0_0:Value} (hm:mle (QM g0 (.cells [(b0_0:Value),.int .i64 d0.2.1,.bool d0.2.2].toArray E0 (0,0))) (wm W)) (h0_0:Rd (.sl .byte) (J4 (wm W) (QM g0 (.cells [(b0_0:Value),.int .i64 d0.2.1,.bool d0.2.2].toArray E0 (0,0)))) [b0_0] d0.1) (h0_1:inK .i64 d0.2.1):Qi Tryz.prog 132 [.pointer (some ⟨g0,0,none⟩)] W (QM g0 (.cells [(b0_0:Value),.int .i64 d0.2.1,.bool d0.2.2].toArray E0 (0,0))) (fun v m'=>v= .bool (decide (d0.2.2=false∧d0.2.1=d0.1.length))∧m'=QM g0 (.cells [(b0_0:Value),.int .i64 d0.2.1,.bool d0.2.2].toArray E0 (0,0))∧inK .i64 d0.2.1):=by
 obtain ⟨A0_0,c0_0,rfl,l0_0,k0_0⟩:=h0_0.slc
 have h0_1':=h0_1;simp only [inK] at h0_1'
 refine Qi.ofB (n:=20) hm Tryz.func132 rfl rfl rfl ?_
 refine VC.rs (VO.as (VO.k2 0 2 (VC.seq ?_)))
 refine VC.regD _ 15 [(0,true),(1,true),(2,true),(3,true),(4,true),(5,true),(6,true),(7,true),(8,true),(9,true),(10,true),(11,true),(12,true),(13,true),(14,true)] follows (by kernel_rfl) (fun _ h=>h.sub [0,1]) ?_
 refine VD.z rfl (.mv rfl) (VD.z rfl (.nilp rfl) (VD.z rfl (.fa rfl Yb rfl) (VD.z rfl (.ld1 1 rfl tk4 rfl (Qa rfl rfl)) (VD.z rfl (.not rfl) (VD.z rfl (.mv rfl) ?_)))))
 refine VD.decBN (s:=8) rfl (fun hc1=>?_) (fun hc1=>?_)
 ·refine VD.w rfl (.mv rfl) (VD.w rfl (.nilp rfl) (VD.w rfl (.fa rfl Yb rfl) (VD.w rfl (.ld1 1 rfl tk3 rfl (Qa rfl rfl)) (VD.w rfl (.mv rfl) (VD.w rfl (.nilp rfl) (VD.w rfl (.fa rfl Yb rfl) (VD.w rfl (.ld1 1 rfl Y4 rfl (Qa rfl rfl)) (VD.w rfl (.lenS rfl Ji) ?_))))))))
  refine VD.nil rfl ?_ rfl
  refine VO.w (.eql rfl rfl) (VO.z (.pT rfl rfl) (VO.as (VO.k2 0 2 (Qm (VC.ret ?_)))))
  refine Yd 2 [1] fun hS_=>?_
  dsimp only [QE]
  refine ⟨?_,?_,?_⟩
  rotate_left
  ·rw [JX]
  ·exact (show inK .i64 _ by simp only [inK];(first | exact bd))
  all_goals (first | rfl | (simp [*];done))
 ·refine VD.gN rfl (VD.gN rfl (VD.gN rfl (VD.gN rfl (VD.gN rfl (VD.gN rfl (VD.gN rfl (VD.gN rfl (VD.gN rfl ?_))))))))
  refine VD.nil rfl ?_ rfl
  refine VO.gN (VO.z (.pF rfl rfl) (VO.as (VO.k2 0 2 (Qm (VC.ret ?_)))))
  refine Yd 2 [1] fun hS_=>?_
  dsimp only [QE]
  refine ⟨?_,?_,?_⟩
  rotate_left
  ·rw [JX]
  ·exact (show inK .i64 _ by simp only [inK];(first | exact bd))
  all_goals (first | rfl | (simp [*];done))
set_option maxHeartbeats 1000000 in
theorem Qkf (W:World) {v0:Value} {d0:List UInt8} (h0:Rd (.sl .byte) (wm W) [v0] d0):Qi Tryz.prog 115 [v0] W (Qx) (fun v m'=>∃ (s0:List Value),v= .tuple #[.agg s0.toArray,.int .i64 ((Qf d0).2)]∧Ow Ql m' s0 ((Qf d0).1)):=by
 obtain ⟨A0,c0,rfl,l0,k0⟩:=h0.slc
 refine Qi.ofA (n:=27) Tryz.func115 rfl rfl rfl ?_
 refine VC.rs ?_
 refine VO.alloc 102 rfl XA (fun g1=>?_)
 refine VO.as (VO.k3 0 2 3 (VC.rs (VO.mv ?_)))
 refine VO.z (.bst (cs:=[.slice A0 (d0.length) (c0),.int .i64 (0),.bool false]) rfl Yb tz145 rfl) ?_
 refine VO.box (cs:=[.slice A0 (d0.length) (c0),.int .i64 (0),.bool false]) 104 rfl rfl rfl (fun g3=>?_)
 refine VO.as (VO.k4 0 2 3 4 (VC.rs (VO.mv ?_)))
 refine VO.call 104 rfl Qcs rfl rfl (fun W hW=>Qaj W (d0:=(d0,0,false)) (hW.t 104) (Rd.mono h0 (hW.o 104 0)) bdk 1048576 bdk Z2) (fun v5 m5 hv5=>?_)
 try dsimp only at hv5
 obtain ⟨rfl,rfl,w5_0_1⟩:=hv5
 have hfa6:=(Q5 (B:=d0) (m:=1048576) (s:=(0,false)) Z2 Qn).1
 have hfa7:=(Q5 (B:=d0) (m:=1048576) (s:=(0,false)) Z2 Qn).1.1
 have hfa8:=(Q5 (B:=d0) (m:=1048576) (s:=(0,false)) Z2 Qn).1.2
 have hfa9:=(Q5 (B:=d0) (m:=1048576) (s:=(0,false)) Z2 Qn).2
 simp only [inK] at w5_0_1
 refine VO.mv ?_
 refine VO.call 104 rfl Qcs rfl rfl (fun W hW=>Qaj W (d0:=(d0,(Qb d0 1048576 (0,false)).2)) (hW.t 104) (Rd.mono h0 (hW.o 104 0)) bdk 1048576 bdk Z2) (fun v10 m10 hv10=>?_)
 try dsimp only at hv10
 obtain ⟨rfl,rfl,w10_0_1⟩:=hv10
 have hfa11:=(Q5 (B:=d0) (m:=1048576) (s:=((Qb d0 1048576 (0,false)).2)) Z2 Qn).1
 have hfa12:=(Q5 (B:=d0) (m:=1048576) (s:=((Qb d0 1048576 (0,false)).2)) Z2 Qn).1.1
 have hfa13:=(Q5 (B:=d0) (m:=1048576) (s:=((Qb d0 1048576 (0,false)).2)) Z2 Qn).1.2
 have hfa14:=(Q5 (B:=d0) (m:=1048576) (s:=((Qb d0 1048576 (0,false)).2)) Z2 Qn).2
 simp only [inK] at w10_0_1
 refine VO.z (.bst (cs:=[.int .i64 ((Qb d0 1048576 (0,false)).1),.int .i64 ((Qb d0 1048576 ((Qb d0 1048576 (0,false)).2)).1),.slice none (0) (0)]) rfl Jq XA rfl) ?_
 refine VO.alloc 116 rfl XA (fun g15=>?_)
 refine VO.store (k:=3) (c':=[.int .i64 ((Qb d0 1048576 (0,false)).1),.int .i64 ((Qb d0 1048576 ((Qb d0 1048576 (0,false)).2)).1),.slice none (0) (0)]) 116 rfl rfl (.inl Yv) rfl rfl rfl rfl rfl ?_
 refine VO.p4 116 104 102 0 (VO.k5 0 2 3 4 5 (VC.rs (VO.mv ?_)))
 refine VO.call 104 rfl Qqg rfl rfl (fun W hW=>Qok W (d0:=(d0,(Qb d0 1048576 ((Qb d0 1048576 (0,false)).2)).2)) (hW.t 104) (Rd.mono h0 (hW.o 104 0)) bdk Z2) (fun v17 m17 hv17=>?_)
 try dsimp only at hv17
 obtain ⟨s17_0,p17_0,rfl,hS17,f17_0,w17_0_1⟩:=hv17
 refine VO.inv _ (fun _ h=>h.parts (i:=104) rfl hS17 [118,119]) ?_
 have hfa20:=(Qeo (B:=d0) (s:=((Qb d0 1048576 ((Qb d0 1048576 (0,false)).2)).2)) Z2)
 have hfa21:=(Qeo (B:=d0) (s:=((Qb d0 1048576 ((Qb d0 1048576 (0,false)).2)).2)) Z2).1
 have hfa22:=(Qeo (B:=d0) (s:=((Qb d0 1048576 ((Qb d0 1048576 (0,false)).2)).2)) Z2).2
 simp only [inK] at w17_0_1
 obtain ⟨A17_0,c17_0,eq17_0,l17_0,k17_0⟩:=f17_0.slc
 subst eq17_0
 refine VO.z (.fa rfl Jq rfl) ?_
 refine VO.store (k:=1) (c':=[.int .i64 ((Qb d0 1048576 (0,false)).1),.int .i64 ((Qb d0 1048576 ((Qb d0 1048576 (0,false)).2)).1),.slice A17_0 (((JE d0 ((Qb d0 1048576 ((Qb d0 1048576 (0,false)).2)).2)).1).length) (c17_0)]) 116 rfl rfl (.inr ⟨Qc6,rfl⟩) rfl rfl rfl rfl rfl ?_
 refine VO.k5 0 2 3 4 5 (VC.seq (VC.rs (VO.mv ?_)))
 refine VO.call 119 rfl Qqf rfl rfl (fun W hW=>Qom W (d0:=(d0,(JE d0 ((Qb d0 1048576 ((Qb d0 1048576 (0,false)).2)).2)).2)) (hW.t 119) (Rd.mono h0 (hW.o 119 0)) bdk) (fun v23 m23 hv23=>?_)
 try dsimp only at hv23
 obtain ⟨rfl,rfl,w23_0_1⟩:=hv23
 simp only [inK] at w23_0_1
 refine VO.z (.notD rfl) (VO.mv ?_)
 refine VO.dec (t:=20) rfl (fun hc24=>?_) (fun hc24=>?_)
 · refine VO.gN (VO.gN (VO.gN (VO.z (.pT rfl rfl) (VO.k6 0 2 3 4 5 24 (VC.condT rfl (VC.rs ?_))))))
   refine VO.z (.bst (cs:=[.int .i64 (0),.int .i64 (0),.slice none (0) (0)]) rfl Jq XA rfl) ?_
   refine VO.store (k:=3) (c':=[.int .i64 (0),.int .i64 (0),.slice none (0) (0)]) 102 rfl rfl (.inl Yv) rfl rfl rfl rfl rfl ?_
   refine VO.as (VO.p5 119 118 116 102 0 (VO.k6 0 2 3 4 5 24 (VC.ret (QZ ?_))))
   refine ⟨_,_,Jr (rs:=[.cell 2 37,.tmp 3]) rfl (.agg 102 rfl Yv rfl ⟨_,_,_,QJ _ _,Nat.le_of_ble_eq_true rfl,rfl⟩ (.tmp rfl .nil)),fun W_ hI=>JZ (l:=[]) hI [] rfl rfl (Qc _) (fun hS_=>?_)⟩
   dsimp only [QE]
   have he0:((Qf d0).1:Ty.Den Ql)=(0,0,[]):=by first | rfl | (first | (rw [X5 Qo] <;> rfl) | (rw [X4 Qo] <;> rfl) | (rw [X3 Qo Qo] <;> rfl))
   refine ⟨[.int .i64 (0),.int .i64 (0),.slice none (0) (0)],?_,?_⟩
   rotate_left
   · rw [he0];exact (Jt _ _ _ (QA.nilAt 0 hS_) bdk bdk (Ow.nil _ _))
   all_goals (first | rfl | (first | (rw [X5 Qo] <;> rfl) | (rw [X4 Qo] <;> rfl) | (rw [X3 Qo Qo] <;> rfl)))
 refine VO.w (.ldA 116 rfl Yv rfl (Qa rfl rfl)) ?_
 refine VO.gcallN 125 rfl ⟨_,rfl,rfl⟩ Qk3 rfl (fun W hW=>QcL W (YM (m:=wm W) ((Qb d0 1048576 (0,false)).1) ((Qb d0 1048576 ((Qb d0 1048576 (0,false)).2)).1) ((JE d0 ((Qb d0 1048576 ((Qb d0 1048576 (0,false)).2)).2)).1) bdk bdk (Ow.rd f17_0 (hW.t 118)))) (fun v25 m25 hv25=>?_)
 try dsimp only at hv25
 subst hv25
 have hfa26:=YG ((Qb d0 1048576 (0,false)).1,(Qb d0 1048576 ((Qb d0 1048576 (0,false)).2)).1,(JE d0 ((Qb d0 1048576 ((Qb d0 1048576 (0,false)).2)).2)).1)
 refine VO.w (.neq rfl rfl) (VO.z (.pF rfl rfl) (VO.k6 0 2 3 4 5 24 ?_))
 refine VC.cond rfl (fun hc27=>?_) (fun hc27=>?_)
 · refine VC.rs ?_
   refine VO.z (.bst (cs:=[.int .i64 (0),.int .i64 (0),.slice none (0) (0)]) rfl Jq XA rfl) ?_
   refine VO.store (k:=3) (c':=[.int .i64 (0),.int .i64 (0),.slice none (0) (0)]) 102 rfl rfl (.inl Yv) rfl rfl rfl rfl rfl ?_
   refine VO.as (VO.p5 119 118 116 102 0 (VO.k6 0 2 3 4 5 24 (VC.ret (QZ ?_))))
   refine ⟨_,_,Jr (rs:=[.cell 2 37,.tmp 3]) rfl (.agg 102 rfl Yv rfl ⟨_,_,_,QJ _ _,Nat.le_of_ble_eq_true rfl,rfl⟩ (.tmp rfl .nil)),fun W_ hI=>JZ (l:=[]) hI [] rfl rfl (Qc _) (fun hS_=>?_)⟩
   dsimp only [QE]
   have he0:((Qf d0).1:Ty.Den Ql)=(0,0,[]):=by first | rfl | (first | (rw [X5 Qo] <;> rfl) | (rw [X4 Qo] <;> rfl) | (rw [X3 Qo Qo] <;> rfl))
   refine ⟨[.int .i64 (0),.int .i64 (0),.slice none (0) (0)],?_,?_⟩
   rotate_left
   · rw [he0];exact (Jt _ _ _ (QA.nilAt 0 hS_) bdk bdk (Ow.nil _ _))
   all_goals (first | rfl | (first | (rw [X5 Qo] <;> rfl) | (rw [X4 Qo] <;> rfl) | (rw [X3 Qo Qo] <;> rfl)))
 · refine VC.skip (Qm (VC.rs (VO.z (.ldA 116 rfl Yv rfl (Qa rfl rfl)) ?_)))
   refine VO.store (k:=3) (c':=[.int .i64 ((Qb d0 1048576 (0,false)).1),.int .i64 ((Qb d0 1048576 ((Qb d0 1048576 (0,false)).2)).1),.slice A17_0 (((JE d0 ((Qb d0 1048576 ((Qb d0 1048576 (0,false)).2)).2)).1).length) (c17_0)]) 102 rfl rfl (.inl Yv) rfl rfl rfl rfl rfl ?_
   refine VO.as (VO.p5 119 118 116 102 0 (VO.k6 0 2 3 4 5 24 (VC.ret ?_)))
   refine ⟨_,_,Jr (rs:=[.cell 2 37,.tmp 3]) rfl (.agg 102 rfl Yv rfl ⟨_,_,_,QJ _ _,Nat.le_of_ble_eq_true rfl,rfl⟩ (.tmp rfl .nil)),fun W_ hI=>JZ (l:=[p17_0]) hI [118] rfl rfl (Qc _) (fun hS_=>?_)⟩
   dsimp only [QE]
   have he0:((Qf d0).1:Ty.Den Ql)=((Qb d0 1048576 (0,false)).1,(Qb d0 1048576 ((Qb d0 1048576 (0,false)).2)).1,(JE d0 ((Qb d0 1048576 ((Qb d0 1048576 (0,false)).2)).2)).1):=by first | rfl | (first | (rw [X5 Qo] <;> rfl) | (rw [X4 Qo] <;> rfl) | (rw [X3 Qo Qo] <;> rfl))
   refine ⟨[.int .i64 ((Qb d0 1048576 (0,false)).1),.int .i64 ((Qb d0 1048576 ((Qb d0 1048576 (0,false)).2)).1),.slice A17_0 (((JE d0 ((Qb d0 1048576 ((Qb d0 1048576 (0,false)).2)).2)).1).length) (c17_0)],?_,?_⟩
   rotate_left
   · rw [he0];exact (Jt _ _ _ hS_ bdk bdk f17_0)
   all_goals (first | rfl | (first | (rw [X5 Qo] <;> rfl) | (rw [X4 Qo] <;> rfl) | (rw [X3 Qo Qo] <;> rfl)))
abbrev Qb2 : Ty := .pair (.int .i64) (.pair (.int .i64) (.spl TOp))
abbrev Qlt := Int × Int × (List DOp × List DOp)
theorem Qiy {m:Mem} {cs:List Value} {x0:Int} {x1:Int} {x2:List DOp × List DOp} (h:Rd Qb2 m cs (x0,x1,x2)):∃ (A2:Option Addr),∃ (c2:Nat),cs=[(.int .i64 x0:Value),.int .i64 x1,.slice A2 x2.1.length c2]∧inK .i64 x0∧inK .i64 x1∧Rd (.spl TOp) m [.slice A2 x2.1.length c2] x2:=by
 obtain ⟨p1,q1,rfl,u1,w1⟩:=Rd.pair h
 obtain ⟨rfl,z2⟩:=(show _=_∧_ from u1)
 obtain ⟨p3,q3,rfl,u3,w3⟩:=Rd.pair w1
 obtain ⟨rfl,z4⟩:=(show _=_∧_ from u3)
 have z5:=w3
 obtain ⟨A5,c5,rfl,_⟩:=Rd.spl1 w3
 exact ⟨A5,c5,rfl,z2,z4,z5⟩
theorem QlS {m:Mem} (x0:Int) (x1:Int) (x2:List DOp × List DOp) (h0:inK .i64 x0) (h1:inK .i64 x1) {v2:Value} (h2:Rd (.spl TOp) m [v2] x2):Rd Qb2 m [.int .i64 x0,.int .i64 x1,v2] (x0,x1,x2):=(Rd.mkPair (c1:=[_]) (show Rd (.int .i64) m [_] _ from ⟨rfl,h0⟩) (Rd.mkPair (c1:=[_]) (show Rd (.int .i64) m [_] _ from ⟨rfl,h1⟩) h2))
theorem Qhp {m:Mem} {cs:List Value} {x0:Int} {x1:Int} {x2:List DOp × List DOp} (h:Ow Qb2 m cs (x0,x1,x2)):∃ (A2:Option Addr),∃ (c2:Nat),∃ (n2:Mem),cs=[(.int .i64 x0:Value),.int .i64 x1,.slice A2 x2.1.length c2]∧QA m [n2]∧inK .i64 x0∧inK .i64 x1∧Ow (.spl TOp) n2 [.slice A2 x2.1.length c2] x2:=by
 obtain ⟨p1,q1,ma1,mb1,rfl,dj1,la1,lb1,u1,w1⟩:=Ow.pair h
 obtain ⟨rfl,z2⟩:=(show _=_∧_ from u1)
 obtain ⟨p3,q3,ma3,mb3,rfl,dj3,la3,lb3,u3,w3⟩:=Ow.pair w1
 obtain ⟨rfl,z4⟩:=(show _=_∧_ from u3)
 have z5:=w3
 obtain ⟨A5,c5,rfl,_⟩:=Ow.spl1 w3
 exact ⟨A5,c5,_,rfl,(QA.app dj1 la1 lb1 (QA.nil _) (QA.app dj3 la3 lb3 (QA.nil _) (QA.one (Qc _)))),z2,z4,z5⟩
theorem QjS {m:Mem} {n2:Mem} (x0:Int) (x1:Int) (x2:List DOp × List DOp) (hS:QA m [n2]) (h0:inK .i64 x0) (h1:inK .i64 x1) {v2:Value} (h2:Ow (.spl TOp) n2 [v2] x2):Ow Qb2 m [.int .i64 x0,.int .i64 x1,v2] (x0,x1,x2):=by
 obtain ⟨e1,la1,lb1,Sa1,Sb1⟩:=QA.cut (l:=[]) (r:=[n2]) hS
 obtain ⟨e2,la2,lb2,Sa2,Sb2⟩:=QA.cut (l:=[]) (r:=[n2]) Sb1
 exact (Ow.mkPair (c1:=[_]) e1 la1 lb1 (show Ow (.int .i64) _ [_] _ from ⟨rfl,h0⟩) (Ow.mkPair (c1:=[_]) e2 la2 lb2 (show Ow (.int .i64) _ [_] _ from ⟨rfl,h1⟩) (h2.up (Sb2.1 _ (.head _)))))
abbrev THC : Ty := .pair (.int .i64) (.pair (.int .i64) .hdr)
abbrev DHC := Int × Int × Hd
instance decHC : DecidableEq DHC := (@instDecidableEqProd _ _ inferInstance (@instDecidableEqProd _ _ inferInstance inferInstance))
theorem Qho {m:Mem} {cs:List Value} {x0:Int} {x1:Int} {x2:Hd} (h:Rd THC m cs (x0,x1,x2)):cs=[(.int .i64 x0:Value),.int .i64 x1,.slice x2.1 x2.2.1 x2.2.2]∧inK .i64 x0∧inK .i64 x1:=by
 obtain ⟨p1,q1,rfl,u1,w1⟩:=Rd.pair h
 obtain ⟨rfl,z2⟩:=(show _=_∧_ from u1)
 obtain ⟨p3,q3,rfl,u3,w3⟩:=Rd.pair w1
 obtain ⟨rfl,z4⟩:=(show _=_∧_ from u3)
 obtain rfl:=(show _=_ from w3)
 exact ⟨rfl,z2,z4⟩
theorem mk_HC {m:Mem} (x0:Int) (x1:Int) (x2:Hd) (h0:inK .i64 x0) (h1:inK .i64 x1):Rd THC m [.int .i64 x0,.int .i64 x1,.slice x2.1 x2.2.1 x2.2.2] (x0,x1,x2):=(Rd.mkPair (c1:=[_]) (show Rd (.int .i64) m [_] _ from ⟨rfl,h0⟩) (Rd.mkPair (c1:=[_]) (show Rd (.int .i64) m [_] _ from ⟨rfl,h1⟩) (show Rd .hdr m [_] _ from rfl)))
def QoB (c : Qe) : Qlt := (c.1, c.2.1, c.2.2, Xp)
theorem QpY {l:List DOp} {n:Nat} (h:n=l.length):(l++Xp).take (n+3)=l++Xp:=by
 rw [List.take_of_length_le];simp [Xp];omega
theorem fnOk88:JR Tryz.prog 88=true:=by kernel_rfl
theorem Qh0 (W:World) {v0:List Value} {d0:Qe} (h0:Rd Ql (wm W) v0 d0) (e0:d0.2.2.length≤3518437208800):Qi Tryz.prog 25 [.agg v0.toArray] W (Qx) (fun v m'=>∃ (s0:List Value),v= .agg s0.toArray∧Ow Qb2 m' s0 (QoB d0)):=by
 obtain ⟨p0_A2,p0_c2,rfl,p0_0,p0_1,p0_2⟩:=Q4 (x0:=d0.1) (x1:=d0.2.1) (x2:=d0.2.2) h0
 simp only [inK] at p0_0 p0_1
 have p0_r2:=Rd.room p0_2
 refine Qi.ofA (n:=15) Tryz.func25 rfl rfl rfl ?_
 refine VC.rs ?_
 refine VO.box (cs:=[.int .i64 (d0.1),.int .i64 (d0.2.1),.slice p0_A2 (d0.2.2.length) (p0_c2)]) 102 rfl rfl rfl (fun g1=>?_)
 refine VO.alloc 104 rfl XA (fun g3=>?_)
 refine VO.k3 0 1 2 (VC.seq ?_)
 refine VC.regD _ 11 [(0,true),(1,true),(2,true),(3,true),(4,true),(5,true),(7,true),(8,true),(9,true),(6,false),(10,true)] follows (by kernel_rfl) (fun _ h=>h.sub [104,102,0]) ?_
 refine VD.z rfl (.fa rfl Jq rfl) (VD.z rfl (.ld1 102 rfl tk3 rfl (Qa rfl rfl)) (VD.z rfl (.fa rfl Jq rfl) (VD.z rfl (.ld1 102 rfl tk3 rfl (Qa rfl rfl)) (VD.z rfl (.fa rfl Jq rfl) (VD.z rfl (.ld1 102 rfl Qc6 rfl (Qa rfl rfl)) (VD.z rfl (.fa rfl Jq rfl) (VD.z rfl (.ld1 102 rfl Qc6 rfl (Qa rfl rfl)) (VD.z rfl (.lenS rfl ZH) ?_))))))))
 refine VD.callN 105 rfl rfl (.inl rfl) Qpn rfl (fun _ h=>h.sub [104,102,0]) (fun W hW=>Qg3 W (Rd.mono p0_2 (hW.t 0)) bd) (fun v5 m5 hv5=>?_)
 obtain ⟨s5_0,rfl,f5_0⟩:=hv5
 obtain ⟨A5_0,c5_0,eq5_0,l5_0,k5_0⟩:=f5_0.slc
 subst eq5_0
 have hs6:=(Ow.rd f5_0 (Qc _)).pre (j:=d0.2.2.length) bd
 rw [List.take_left] at hs6
 refine VD.z rfl (.slHI d0.2.2.length rfl rfl ZH rfl bd) ?_
 refine VD.nil rfl ?_ rfl
 refine VO.z (.bst (cs:=[.int .i64 (d0.1),.int .i64 (d0.2.1),.slice A5_0 (d0.2.2.length) (c5_0)]) rfl Jq XA rfl) ?_
 refine VO.store (k:=3) (c':=[.int .i64 (d0.1),.int .i64 (d0.2.1),.slice A5_0 (d0.2.2.length) (c5_0)]) 104 rfl rfl (.inl Yv) rfl rfl rfl rfl rfl ?_
 refine VO.k3 0 1 2 (Qm (VC.ret ?_))
 refine ⟨_,_,Jr (rs:=[.cell 2 37]) rfl (.agg 104 rfl Yv rfl ⟨_,_,_,QJ _ _,Nat.le_of_ble_eq_true rfl,rfl⟩ .nil),fun W_ hI=>JZ (l:=[m5]) hI [105] rfl rfl (Qc _) (fun hS_=>?_)⟩
 dsimp only [QE]
 have he0:(QoB d0:Ty.Den Qb2)=(d0.1,d0.2.1,(d0.2.2,Xp)):=by first | rfl | (simp [*];done)
 refine ⟨[.int .i64 (d0.1),.int .i64 (d0.2.1),.slice A5_0 (d0.2.2.length) (c5_0)],?_,?_⟩
 rotate_left
 ·rw [he0];exact (QjS _ _ _ hS_ bdk bdk (Ow.mkSpl (e:=TOp) (xs:=d0.2.2) (ys:=Xp) f5_0 (by first | rfl | simp)))
 all_goals (first | rfl | (simp [*];done))
theorem Qh1 (W:World) {v0:List Value} {d0:Qlt} (h0:Rd Qb2 (wm W) v0 d0) {v1:List Value} {d1:Qe} (h1:Rd Ql (wm W) v1 d1) (e0:d0=QoB d1) (e1:d1.2.2.length≤3518437208800):Qi Tryz.prog 27 [.agg v0.toArray,.agg v1.toArray] W (Qx) (fun v m'=>v= .bool true):=by
 have ea:=congrArg Prod.fst e0;have eb:=congrArg (fun x=>x.2.1) e0;have ec:=congrArg (fun x=>x.2.2.1) e0;have ed:=congrArg (fun x=>x.2.2.2) e0;simp only [QoB] at ea eb ec ed;have el:=congrArg List.length ec;have em:=congrArg List.length ed;simp only [Xp,List.length_cons,List.length_nil] at em
 obtain ⟨p0_A2,p0_c2,rfl,p0_0,p0_1,p0_2⟩:=Qiy (x0:=d0.1) (x1:=d0.2.1) (x2:=d0.2.2) h0
 simp only [inK] at p0_0 p0_1
 have p0_f2:=(Rd.full p0_2).2
 have p0_s2:=Rd.pre2 p0_f2
 have p0_r2:=Rd.room p0_f2
 obtain ⟨p1_A2,p1_c2,rfl,p1_0,p1_1,p1_2⟩:=Q4 (x0:=d1.1) (x1:=d1.2.1) (x2:=d1.2.2) h1
 simp only [inK] at p1_0 p1_1
 have p1_r2:=Rd.room p1_2
 refine Qi.ofA (n:=38) Tryz.func27 rfl rfl rfl ?_
 refine VC.rs ?_
 refine VO.box (cs:=[.int .i64 (d0.1),.int .i64 (d0.2.1),.slice p0_A2 (d0.2.2.1.length) (p0_c2)]) 102 rfl rfl rfl (fun g1=>?_)
 refine VO.box (cs:=[.int .i64 (d1.1),.int .i64 (d1.2.1),.slice p1_A2 (d1.2.2.length) (p1_c2)]) 104 rfl rfl rfl (fun g3=>?_)
 refine VO.as (VO.k5 0 1 2 3 4 (VC.seq ?_))
 refine VC.regD _ 31 [(0,true),(1,true),(2,true),(3,true),(4,true),(5,true),(6,true),(7,true),(8,true),(9,true),(10,true),(11,true),(12,true),(13,true),(14,true),(15,true),(16,true),(17,true),(18,true),(19,true),(20,true),(21,true),(22,true),(23,true),(24,true),(25,true),(26,true),(27,true),(28,true),(29,true),(30,true)] follows (by kernel_rfl) (fun _ h=>h.sub [104,102,0]) ?_
 refine VD.z rfl (.fa rfl Jq rfl) (VD.z rfl (.ld1 102 rfl tk3 rfl (Qa rfl rfl)) (VD.z rfl (.fa rfl Jq rfl) (VD.z rfl (.ld1 104 rfl tk3 rfl (Qa rfl rfl)) (VD.z rfl (.eql rfl rfl) (VD.z rfl (.mv rfl) ?_)))))
 refine VD.dec (s:=10) rfl (fun hc5=>?_) (fun hc5=>?_)
 refine VD.w rfl (.fa rfl Jq rfl) (VD.w rfl (.ld1 102 rfl tk3 rfl (Qa rfl rfl)) (VD.w rfl (.fa rfl Jq rfl) (VD.w rfl (.ld1 104 rfl tk3 rfl (Qa rfl rfl)) (VD.w rfl (.eql rfl rfl) (VD.z rfl (.pT rfl rfl) (VD.z rfl (.mv rfl) ?_))))))
 refine VD.dec (s:=17) rfl (fun hc6=>?_) (fun hc6=>?_)
 refine VD.w rfl (.fa rfl Jq rfl) (VD.w rfl (.ld1 102 rfl Qc6 rfl (Qa rfl rfl)) (VD.w rfl (.lenS rfl ZH) (VD.w rfl (.fa rfl Jq rfl) (VD.w rfl (.ld1 104 rfl Qc6 rfl (Qa rfl rfl)) (VD.w rfl (.lenS rfl ZH) (VD.w rfl (.eql rfl rfl) (VD.z rfl (.pT rfl rfl) (VD.z rfl (.mv rfl) ?_))))))))
 refine VD.dec (s:=26) rfl (fun hc7=>?_) (fun hc7=>?_)
 refine VD.w rfl (.fa rfl Jq rfl) (VD.w rfl (.ld1 102 rfl Qc6 rfl (Qa rfl rfl)) (VD.w rfl (.fa rfl Jq rfl) (VD.w rfl (.ld1 104 rfl Qc6 rfl (Qa rfl rfl)) (VD.w rfl (.lenS rfl ZH) ?_))))
 refine VD.w rfl (.add (c:=((d1.2.2.length+3:Nat):Int)) rfl rfl Qn ⟨bd,bd⟩) ?_
 have hs8:=p0_f2.pre (j:=(d1.2.2.length+3)) bd
 refine VD.w rfl (.slHI (d1.2.2.length+3) rfl rfl ZH rfl bd) ?_
 refine VD.w rfl (.fa rfl Jq rfl) (VD.w rfl (.ld1 104 rfl Qc6 rfl (Qa rfl rfl)) ?_)
 refine VD.nil rfl ?_ rfl
 refine VO.gcallN 109 rfl ⟨_,rfl,rfl⟩ fnOk88 rfl (fun W hW=>Qmf W (Rd.mono hs8 (hW.t 0)) (Rd.mono p1_2 (hW.t 0)) bd) (fun v9 m9 hv9=>?_)
 subst hv9
 refine VO.z (.pT rfl rfl) (VO.as (VO.k5 0 1 2 3 4 (Qm (VC.ret ?_))))
 exact Xl 4 rfl (by first | rfl | (exact congrArg Value.bool (decide_eq_true (by rw [ec,ed];exact QpY Qn))))
 exact absurd (by rw [el]) hc7
 exact absurd eb hc6
 exact absurd ea hc5
theorem Ju {P:Prop} (h:P:=by first | exact bd | (have:=QbC (by first | assumption | exact Decidable.not_not.1 (by assumption):QW _=0);omega)):P:=h
theorem ZF {k:IntKind} {x:Int} (h:inK k x:=by simp only [inK];exact Ju):inK k x:=h
set_option maxHeartbeats 1000000 in
theorem Qao (W:World) (d0:Int) (h0:inK .i64 d0) (d1:Int) (h1:inK .i64 d1) {v2:Value} {d2:List Qe} (h2:Rd (.sl Ql) (wm W) [v2] d2):Qi Tryz.prog 83 [.int .i64 d0,.int .i64 d1,v2] W (Qx) (fun v m'=>∃ (s0:List Value),v= .agg s0.toArray∧Ow Xm m' s0 (Qg d0 d1 d2)):=by
 have h0':=h0;simp only [inK] at h0'
 have h1':=h1;simp only [inK] at h1'
 obtain ⟨A2,c2,rfl,l2,k2⟩:=h2.slc
 refine Qi.ofA (n:=55) Tryz.func83 rfl rfl rfl ?_
 refine VC.rs ?_
 refine VO.alloc 102 rfl Qft (fun g1=>?_)
 refine VO.k4 0 1 2 6 (VC.seq (VC.rs (VO.as (VO.k5 0 1 2 6 7 (VC.block ?_)))))
 refine VC.loop (G:=Nat × Int × Int) (fun g=>[(0,.int .i64 ((g.2.1))),(1,.int .i64 ((g.2.2))),(7,.int .i64 ((((g.1):Nat):Int))),(2,.slice A2 (d2.length) (c2)),(6,.pointer (some ⟨g1,0,none⟩))]) (fun g=>[(102,QM g1 (.cells #[.int .i64 (0),.int .i64 (0)] 89 (0,0))),(0,wm W)]) (fun g=>((g.1)≤d2.length)∧(Qg d0 d1 d2=Q8 (g.2.1) (g.2.2) (g.1) (d2.drop (g.1)))) (fun g=>d2.length - (g.1)) (0,d0,d1) (⟨by omega,by rfl⟩) ⟨esn,fun _ h=>h.sub [102,0]⟩ ?_
 rintro ⟨k,e,nn⟩ ⟨hk,hf⟩
 replace hk:k≤d2.length:=hk
 replace hf:Qg d0 d1 d2=Q8 e nn k (d2.drop k):=hf
 show VC _ _ _ _ _ [(0,.int .i64 (e)),(1,.int .i64 (nn)),(7,.int .i64 (((k:Nat):Int))),(2,.slice A2 (d2.length) (c2)),(6,.pointer (some ⟨g1,0,none⟩))] [(102,QM g1 (.cells #[.int .i64 (0),.int .i64 (0)] 89 (0,0))),(0,wm W)]
 refine VC.seq (VC.rs (VO.mv (VO.mv (VO.z (.lenS rfl Jx) (VO.z (.lss rfl rfl) (VO.p2 102 0 (VO.k6 0 1 2 6 7 12 ?_)))))))
 refine VC.cond rfl (fun hc3=>?_) (fun hc3=>?_)
 refine VC.skip (Qm (VC.seq (VC.block (VC.rs (VO.mv (VO.mv ?_))))))
 obtain ⟨x4,hx4⟩:∃ z_,(d2)[k]? =some z_:=⟨_,List.getElem?_eq_getElem Ju⟩
 obtain ⟨gg4,oo4,ec4,ea4,hce4,hre4⟩:=h2.elem hx4
 cases ea4
 obtain ⟨q4_A2,q4_c2,rfl,q4_0,q4_1,q4_2⟩:=Q4 (x0:=x4.1) (x1:=x4.2.1) (x2:=x4.2.2) hre4
 simp only [inK] at q4_0 q4_1
 have q4_r2:=Rd.room q4_2
 refine VO.z (.ixI k rfl rfl Jx rfl Ju) ?_
 refine VO.z (.ldA 0 rfl Yv rfl hce4) ?_
 refine VO.callN 105 rfl Qk3 rfl (fun W hW=>QcL W (Rd.mono hre4 (hW.t 0))) (fun v5 m5 hv5=>?_)
 subst hv5
 have hfa6:=YG x4
 refine VO.as (VO.k7 0 1 2 6 7 8 12 (VC.seq (VC.rs (VO.mv (VO.z (.neq rfl rfl) (VO.k8 0 1 2 6 7 8 12 21 ?_))))))
 refine VC.cond rfl (fun hc7=>?_) (fun hc7=>?_)
 · refine VC.rs (VO.mv (VO.mv ?_))
   refine VO.z (.bst (cs:=[.int .i64 (QW x4),.int .i64 (((k:Nat):Int))]) rfl Qa3 Qft rfl) ?_
   refine VO.store (k:=2) (c':=[.int .i64 (QW x4),.int .i64 (((k:Nat):Int))]) 102 rfl rfl (.inl Qbf) rfl rfl rfl rfl rfl ?_
   refine VO.p2 102 0 (VO.k8 0 1 2 6 7 8 12 21 (VC.ret (QZ (JO (QZ (QZ (JO (QZ ?_))))))))
   refine ⟨_,_,Jr (rs:=[.cell 6 89]) rfl (.agg 102 rfl Qbf rfl ⟨_,_,_,QJ _ _,Nat.le_of_ble_eq_true rfl,rfl⟩ .nil),fun W_ hI=>JZ (l:=[]) hI [] rfl rfl (Qc _) (fun hS_=>?_)⟩
   dsimp only [QE]
   have he0:(Qg d0 d1 d2:Ty.Den Xm)=(QW x4,((k:Nat):Int)):=by first | rfl | (first | (rw [hf,List.drop_of_length_le Qn];rfl) | (rw [hf,YJ ‹d2[k]? =some _› (by first | assumption | omega)]) | (rw [hf,Z3 ‹d2[k]? =some _› (by first | assumption | omega) Qn]) | (exfalso;omega))
   refine ⟨[.int .i64 (QW x4),.int .i64 (((k:Nat):Int))],?_,?_⟩
   rotate_left
   · rw [he0];exact (Ow.of (m:=Qx) rfl (Xj (m:=_) (QW x4) ((k:Nat):Int) ZF ZF))
   all_goals (first | rfl | (rfl))
 refine VC.skip (Qm (VC.seq (VC.rs (VO.mv (VO.mv ?_)))))
 refine VO.z (.ixI k rfl rfl Jx rfl Ju) ?_
 refine VO.z (.fa rfl Jq rfl) ?_
 refine VO.z (.ld1 0 rfl tk3 rfl (hce4.at1 (j:=1) rfl)) ?_
 refine VO.z (.sub rfl rfl rfl ⟨by exact Ju,by exact Ju⟩) ?_
 refine VO.mv (VO.z (.neq rfl rfl) (VO.mv ?_))
 refine VO.dec (t:=33) rfl (fun hc9=>?_) (fun hc9=>?_)
 · refine VO.gN (VO.gN (VO.gN (VO.gN (VO.gN (VO.gN (VO.gN (VO.z (.pT rfl rfl) (VO.p2 102 0 (VO.k9 0 1 2 6 7 8 12 21 41 (VC.condT rfl (VC.rs ?_)))))))))))
   refine VO.mv ?_
   refine VO.z (.bst (cs:=[.int .i64 (15),.int .i64 (((k:Nat):Int))]) rfl Qa3 Qft rfl) ?_
   refine VO.store (k:=2) (c':=[.int .i64 (15),.int .i64 (((k:Nat):Int))]) 102 rfl rfl (.inl Qbf) rfl rfl rfl rfl rfl ?_
   refine VO.k9 0 1 2 6 7 8 12 21 41 (VC.ret (QZ (JO (QZ (QZ (JO (QZ ?_)))))))
   refine ⟨_,_,Jr (rs:=[.cell 6 89]) rfl (.agg 102 rfl Qbf rfl ⟨_,_,_,QJ _ _,Nat.le_of_ble_eq_true rfl,rfl⟩ .nil),fun W_ hI=>JZ (l:=[]) hI [] rfl rfl (Qc _) (fun hS_=>?_)⟩
   dsimp only [QE]
   have he0:(Qg d0 d1 d2:Ty.Den Xm)=(15,((k:Nat):Int)):=by first | rfl | (first | (rw [hf,List.drop_of_length_le Qn];rfl) | (rw [hf,YJ ‹d2[k]? =some _› (by first | assumption | omega)]) | (rw [hf,Z3 ‹d2[k]? =some _› (by first | assumption | omega) Qn]) | (exfalso;omega))
   refine ⟨[.int .i64 (15),.int .i64 (((k:Nat):Int))],?_,?_⟩
   rotate_left
   · rw [he0];exact (Ow.of (m:=Qx) rfl (Xj (m:=_) 15 ((k:Nat):Int) ZF ZF))
   all_goals (first | rfl | (rfl))
 refine VO.w (.mv rfl) (VO.w (.mv rfl) ?_)
 refine VO.w (.ixI k rfl rfl Jx rfl Ju) ?_
 refine VO.w (.fa rfl Jq rfl) ?_
 refine VO.w (.ld1 0 rfl tk3 rfl (hce4.at1 (j:=0) rfl)) ?_
 refine VO.w (.mv rfl) (VO.w (.lss rfl rfl) (VO.z (.pF rfl rfl) (VO.p2 102 0 (VO.k9 0 1 2 6 7 8 12 21 41 ?_))))
 refine VC.cond rfl (fun hc11=>?_) (fun hc11=>?_)
 · refine VC.rs (VO.mv ?_)
   refine VO.z (.bst (cs:=[.int .i64 (15),.int .i64 (((k:Nat):Int))]) rfl Qa3 Qft rfl) ?_
   refine VO.store (k:=2) (c':=[.int .i64 (15),.int .i64 (((k:Nat):Int))]) 102 rfl rfl (.inl Qbf) rfl rfl rfl rfl rfl ?_
   refine VO.k9 0 1 2 6 7 8 12 21 41 (VC.ret (QZ (JO (QZ (QZ (JO (QZ ?_)))))))
   refine ⟨_,_,Jr (rs:=[.cell 6 89]) rfl (.agg 102 rfl Qbf rfl ⟨_,_,_,QJ _ _,Nat.le_of_ble_eq_true rfl,rfl⟩ .nil),fun W_ hI=>JZ (l:=[]) hI [] rfl rfl (Qc _) (fun hS_=>?_)⟩
   dsimp only [QE]
   have he0:(Qg d0 d1 d2:Ty.Den Xm)=(15,((k:Nat):Int)):=by first | rfl | (first | (rw [hf,List.drop_of_length_le Qn];rfl) | (rw [hf,YJ ‹d2[k]? =some _› (by first | assumption | omega)]) | (rw [hf,Z3 ‹d2[k]? =some _› (by first | assumption | omega) Qn]) | (exfalso;omega))
   refine ⟨[.int .i64 (15),.int .i64 (((k:Nat):Int))],?_,?_⟩
   rotate_left
   · rw [he0];exact (Ow.of (m:=Qx) rfl (Xj (m:=_) 15 ((k:Nat):Int) ZF ZF))
   all_goals (first | rfl | (rfl))
 refine VC.skip (Qm ?_)
 refine VC.regD _ 11 [(0,true),(1,true),(2,true),(3,true),(4,true),(5,true),(6,true),(7,true),(8,true),(9,true),(10,true)] follows (by kernel_rfl) (fun _ h=>h.sub [102,0]) ?_
 refine VD.z rfl (.mv rfl) (VD.z rfl (.mv rfl) ?_)
 refine VD.z rfl (.ixI k rfl rfl Jx rfl Ju) ?_
 refine VD.z rfl (.fa rfl Jq rfl) ?_
 refine VD.z rfl (.ld1 0 rfl tk3 rfl (hce4.at1 (j:=0) rfl)) ?_
 refine VD.z rfl (.mv rfl) (VD.z rfl (.mv rfl) ?_)
 refine VD.z rfl (.ixI k rfl rfl Jx rfl Ju) ?_
 refine VD.z rfl (.fa rfl Jq rfl) ?_
 refine VD.z rfl (.ld1 0 rfl tk3 rfl (hce4.at1 (j:=1) rfl)) ?_
 refine VD.z rfl (.as rfl) ?_
 refine VD.nil rfl ?_ rfl
 refine VO.as (VO.k9 0 1 2 6 7 8 12 21 41 (JL (Qm ?_)))
 refine VC.reg ?_
 refine VO.mv ?_
 refine VO.z (.add (c:=((k+1:Nat):Int)) rfl rfl Qn ⟨by exact Ju,by exact Ju⟩) ?_
 refine VO.as (VO.k9 0 1 2 6 7 8 12 21 41 ?_)
 exact Qm ⟨⟨k+1,x4.1,x4.2.1⟩,⟨by omega,by first | (exfalso;omega) | (rw [hf,Qak ‹d2[k]? =some _› (by first | assumption | omega) Qn Qn];rfl)⟩,by exact Ju,⟨esn,fun _ h=>Inv.sub h [102,0]⟩⟩
 · refine VC.exit (Zh (Zh (Zi (Qm (VC.rs ?_)))))
   refine VO.z (.bst (cs:=[.int .i64 (0),.int .i64 (0)]) rfl Qa3 Qft rfl) ?_
   refine VO.store (k:=2) (c':=[.int .i64 (0),.int .i64 (0)]) 102 rfl rfl (.inl Qbf) rfl rfl rfl rfl rfl ?_
   refine VO.k6 0 1 2 6 7 12 (VC.ret ?_)
   refine ⟨_,_,Jr (rs:=[.cell 6 89]) rfl (.agg 102 rfl Qbf rfl ⟨_,_,_,QJ _ _,Nat.le_of_ble_eq_true rfl,rfl⟩ .nil),fun W_ hI=>JZ (l:=[]) hI [] rfl rfl (Qc _) (fun hS_=>?_)⟩
   dsimp only [QE]
   have he0:(Qg d0 d1 d2:Ty.Den Xm)=(0,0):=by first | rfl | (first | (rw [hf,List.drop_of_length_le Qn];rfl) | (rw [hf,YJ ‹d2[k]? =some _› (by first | assumption | omega)]) | (rw [hf,Z3 ‹d2[k]? =some _› (by first | assumption | omega) Qn]) | (exfalso;omega))
   refine ⟨[.int .i64 (0),.int .i64 (0)],?_,?_⟩
   rotate_left
   · rw [he0];exact (Ow.of (m:=Qx) rfl (Xj (m:=_) 0 0 ZF ZF))
   all_goals (first | rfl | (rfl))
def Qgh (r : Qr) : Qr := JY r.length ++ r
def J8 (b r : Qr) : Qr × Int := if 131072 < r.length then ([], 3) else (b ++ Qgh r, 0)
def Qw (b : Qr) : Qr × Int × Int := if sE b 131072 = 0 ∧ (sX b 131072 : Int) ≤ (b.length : Int) - sN b 131072 then ((b.drop (sN b 131072)).take (sX b 131072), (sN b 131072 : Int) + sX b 131072, 0) else ([], 0, 5)
theorem YF {b r:Qr} (h:(131072:Int) < r.length):J8 b r=([],3):=if_pos (by omega)
theorem Z8 {b r:Qr} (h:¬ (131072:Int) < r.length):J8 b r=(b++Qgh r,0):=if_neg (by omega)
theorem Qk9 {r:Qr} (h:r.length≤131072):(Qgh r).length≤r.length+10:=by
 have:=JT (x:=r.length) (by omega)
 simp only [Qgh,List.length_append];omega
theorem QoK (r:Qr):1≤(Qgh r).length:=by
 have:=Qks r.length
 simp only [Qgh,List.length_append];omega
theorem QnH {b:Qr} (h:¬ sE b 131072=0):Qw b=([],0,5):=if_neg fun q=>h q.1
theorem QnG {b:Qr} (h:(b.length:Int) - sN b 131072 < sX b 131072):Qw b=([],0,5):=if_neg fun q=>by have:=q.2;omega
theorem QnF {b:Qr} (h:¬ ¬ sE b 131072=0) (h2:¬ (b.length:Int) - sN b 131072 < sX b 131072):Qw b=((b.drop (sN b 131072)).take (sX b 131072),(sN b 131072:Int)+sX b 131072,0):=if_pos ⟨Decidable.not_not.1 h,by omega⟩
theorem sN_pos {b : Qr} {m : Int} (h : sE b m = 0) : 1 ≤ sN b m := by
  unfold sE at h; unfold sN
  cases hv : QaL b m with
  | none => rw [hv] at h; cases h
  | some p =>
    obtain ⟨x, n⟩ := p
    unfold QaL at hv
    cases hr : Qa2 b with
    | none => rw [hr] at hv; cases hv
    | some q =>
      obtain ⟨y, k⟩ := q
      rw [hr] at hv
      dsimp only at hv
      split at hv
      · cases hv; exact (Qcf hr).2.1
      · cases hv
theorem Xa (b:Qr):0≤(Qw b).2.1∧(Qw b).2.1≤b.length∧(Qw b).1.length≤131072∧((Qw b).2.2=0∨(Qw b).2.2=5)∧((Qw b).2.2=0→1≤(Qw b).2.1)∧(Qw b).1.length≤b.length:=by
 have hb:=XN b 131072 (by omega)
 have:=hb.2.1 (by omega)
 unfold Qw
 split
 ·rename_i h
  have:=sN_pos h.1
  refine ⟨by dsimp only;omega,by dsimp only;omega,by simp only [List.length_take];omega,.inl rfl,fun _=>by dsimp only;omega,by simp only [List.length_take,List.length_drop];omega⟩
 ·exact ⟨Int.le_refl _,by simp,by simp,.inr rfl,fun h=>(by cases h),by simp⟩
theorem QlZ {b:Qr} (h:(Qw b).2.2=0):b=Qgh (Qw b).1++b.drop (Qw b).2.1.toNat∧(Qw b).2.1=((Qgh (Qw b).1).length:Int)∧(Qw b).1.length≤131072:=by
 have hb:=XN b 131072 (by omega)
 have h1:=hb.2.1 (by omega)
 unfold Qw at h ⊢
 split at h
 ·rename_i hh
  rw [if_pos hh]
  have e:=QmI hh.1
  dsimp only
  have hl:((b.drop (sN b 131072)).take (sX b 131072)).length=sX b 131072:=by
   simp only [List.length_take,List.length_drop];omega
  have hv:(JY (sX b 131072)).length=sN b 131072:=by
   have:=congrArg List.length e
   simp only [List.length_append,List.length_drop] at this
   omega
  refine ⟨?_,?_,by rw [hl];omega⟩
  ·unfold Qgh
   rw [hl,List.append_assoc,show ((sN b 131072:Int)+sX b 131072).toNat=sN b 131072+sX b 131072 by omega,← List.drop_drop,List.take_append_drop,← e]
  ·unfold Qgh
   rw [List.length_append,hl,hv];omega
 ·cases h
theorem QdP (b:Qr):Qw b=if (QC b (Qb b 131072 (0,false)).1 (Qb b 131072 (0,false)).2).2.2=true then ([],0,5) else
  ((QC b (Qb b 131072 (0,false)).1 (Qb b 131072 (0,false)).2).1,(QC b (Qb b 131072 (0,false)).1 (Qb b 131072 (0,false)).2).2.1,0):=by
 by_cases h:sE b 131072=0
 ·have e:Qb b 131072 (0,false)=((sX b 131072:Int),((sN b 131072:Int),false)):=by
   rw [Zg rfl (by simpa using h)];simp
  rw [e]
  dsimp only
  by_cases h2:(b.length:Int) - sN b 131072 < sX b 131072
  ·rw [ZS (.inr h2),QnG h2];rfl
  ·rw [ZJ rfl h2,QnF (by simpa using h) h2]
   simp
 ·have e:Qb b 131072 (0,false)=(0,(0,true)):=Zq rfl (by simpa using h)
  rw [e,ZS (.inl rfl),QnH h];rfl
def YE (b : Qr) : Int × Int × Bool := if sE b 131072 = 0 ∧ (sX b 131072 : Int) ≤ (b.length : Int) - sN b 131072 then ((sN b 131072 : Int), (sN b 131072 : Int) + sX b 131072, true) else (0, 0, false)
theorem Qfn {b:Qr} (h:¬ sE b 131072=0):YE b=(0,0,false):=if_neg fun q=>h q.1
theorem Qfm {b:Qr} (h:(b.length:Int) - sN b 131072 < sX b 131072):YE b=(0,0,false):=if_neg fun q=>by have:=q.2;omega
theorem Qfl {b:Qr} (h:¬ ¬ sE b 131072=0) (h2:¬ (b.length:Int) - sN b 131072 < sX b 131072):YE b=((sN b 131072:Int),(sN b 131072:Int)+sX b 131072,true):=if_pos ⟨Decidable.not_not.1 h,by omega⟩
theorem QhK (b:Qr):0≤(YE b).1∧(YE b).1≤(YE b).2.1∧(YE b).2.1≤b.length∧(YE b).2.1 - (YE b).1≤131072:=by
 have hb:=XN b 131072 (by omega)
 have:=hb.2.1 (by omega)
 unfold YE
 split
 ·rename_i h;exact ⟨by dsimp only;omega,by dsimp only;omega,by dsimp only;omega,by dsimp only;omega⟩
 ·exact ⟨Int.le_refl _,Int.le_refl _,by simp,by decide⟩
theorem QdQ {b:Qr} (h:(YE b).2.2=false):Qw b=([],0,5):=by
 unfold YE at h;unfold Qw
 split at h
 ·cases h
 ·rename_i h0;exact if_neg h0
theorem QcH {b:Qr} (h:(YE b).2.2=true):Qw b=((b.take (YE b).2.1.toNat).drop (YE b).1.toNat,(YE b).2.1,0):=by
 have hb:=XN b 131072 (by omega)
 unfold YE at h ⊢;unfold Qw
 split at h
 ·rename_i h0
  rw [if_pos h0,if_pos h0]
  dsimp only
  rw [List.drop_take,Int.toNat_natCast,show ((sN b 131072:Int)+sX b 131072).toNat - sN b 131072=sX b 131072 by omega]
 ·cases h
theorem QgW {e:Ty} {m:Mem} {A:Option Addr} {c:Nat} {l:List e.Den} (h:Rd (.sl e) m [.slice A l.length c] l) (hA:A=none):l=[]:=by
 subst hA
 obtain ⟨A',c',h1,_,_,h4⟩:=h
 rcases h4 with h4 | ⟨g,off,all,k1,_⟩
 ·exact List.eq_nil_of_length_eq_zero h4
 ·simp only [List.cons.injEq,Value.slice.injEq,and_true] at h1
  rw [← h1.1] at k1;cases k1
theorem Qdg (b r:Qr):(J8 b r).1.length≤b.length+131082:=by
 unfold J8
 split
 ·simp
 ·have:=Qk9 (r:=r) (by omega)
  simp only [List.length_append];omega
theorem QdR (b r:Qr):0≤(J8 b r).2∧(J8 b r).2≤3:=by unfold J8;split <;> exact ⟨by dsimp only;omega,by dsimp only;omega⟩
theorem QhT {c:Qe} (h:QW c=0):(QeY c).length≤700:=by
 have:=QaY c
 unfold Jd at this
 rwa [if_pos h] at this
def Y2 (c : Qe) : Qr := Qgh (QeY c)
def Jo (l : List Qe) : Qr := (l.map Y2).flatten
theorem Qev {c:Qe} (h:QW c=0):(Y2 c).length≤710∧1≤(Y2 c).length:=by
 have h1:=QhT h
 have h2:=Qk9 (r:=QeY c) (by omega)
 exact ⟨by unfold Y2;omega,QoK _⟩
theorem QeQ (c:Qe) (l:List Qe):Jo (c::l)=Y2 c++Jo l:=rfl
theorem Qb0 (l r:List Qe):Jo (l++r)=Jo l++Jo r:=by simp [Jo]
theorem QgK {b:Qr} (h:(Qw b).2.2=0) (h2:(Qf (Qw b).1).2=0):QW (Qf (Qw b).1).1=0∧b=Y2 (Qf (Qw b).1).1++b.drop (Qw b).2.1.toNat∧(Qw b).2.1=((Y2 (Qf (Qw b).1).1).length:Int):=by
 obtain ⟨h3,h4⟩:=QeS h2
 obtain ⟨h5,h6,_⟩:=QlZ h
 refine ⟨h3,?_,?_⟩
 ·conv=>lhs;rw [h5]
  unfold Y2;rw [← h4]
 ·unfold Y2;rw [← h4];exact h6
def Qbc (c : Qe) : Qr := (J8 [] (Jd c).1).1
theorem QiS {c:Qe} (h:QW c=0):Qbc c=Y2 c:=by
 have:=QhT h
 unfold Qbc Jd;rw [if_pos h];dsimp only
 rw [Z8 (by omega)];rfl
theorem Qep (c:Qe):(Qbc c).length≤131082:=by
 have h:=Qdg [] (Jd c).1
 rw [List.length_nil,Nat.zero_add] at h;exact h
theorem Qqm:JR Tryz.prog 118=true:=by kernel_rfl
theorem Qql:JR Tryz.prog 119=true:=by kernel_rfl
theorem Qqj:JR Tryz.prog 121=true:=by kernel_rfl
theorem Qqh:JR Tryz.prog 125=true:=by kernel_rfl
theorem Qi7 (W:World) {v0:Value} {d0:List UInt8} (h0:Rd (.sl .byte) (wm W) [v0] d0) (e0:d0.length≤140737488355000):Qi Tryz.prog 121 [v0] W (Qx) (fun v m'=>∃ (s0:Value),v=s0∧Ow (.sl .byte) m' [s0] (d0)):=by
 obtain ⟨A0,c0,rfl,l0,k0⟩:=h0.slc
 refine Qi.ofA (n:=8) Tryz.func121 rfl rfl rfl ?_
 refine VC.rs (VO.as (VO.k2 0 2 (VC.seq (VC.rs (VO.mv ?_)))))
 refine VO.z (.snil rfl rfl Tryz.underlying56) ?_
 refine VO.k3 0 2 4 ?_
 refine VC.cond rfl (fun hc1=>?_) (fun hc1=>?_)
 ·refine VC.rs (VO.as (VO.p1 0 (VO.k3 0 2 4 (VC.ret (QZ ?_)))))
  refine Yd 2 [] fun hS_=>?_
  dsimp only [QE]
  have he0:(d0:Ty.Den (.sl .byte))=[]:=by first | rfl | (exact QgW h0 ‹_=none›)
  refine ⟨.slice none (0) (0),?_,?_⟩
  rotate_left
  ·rw [he0];exact (Ow.nil _ _)
  all_goals (first | rfl | (simp [*];done))
 ·refine VC.skip (Qm (VC.rs ?_))
  refine VO.bsl (cs:=[]) 103 rfl rfl Ji tz5 rfl rfl (fun g2=>?_)
  refine VO.mv ?_
  have ho5:QH .byte (QM g2 (.cells [].toArray 5 (0,0))) Qx (Value.slice (some ⟨g2,0,none⟩) (0) (0)) []:=QH.lit 0 Je.nil rfl rfl
  obtain ⟨mo4,cs4,hM4,hA4,hC4⟩:=ho5
  obtain ⟨all4,hS4,hR4⟩:=Rd.srcI (P:=Tryz.prog) (h0) Tryz.underlying56
  refine VO.app 103 rfl rfl rfl Ji tz5 rfl rfl hM4 hA4 (hS4 _ 0 rfl) hR4.nice bdm bd (by decide) (fun v4 m4 hN4=>?_)
  have ho4:QH .byte m4 Qx v4 (d0):=QH.more hC4 hN4 (Je.mono hR4 fun _ _ h=>Rd.flat rfl h _)
  obtain ⟨A4,c4,rfl,l4,k4⟩:=ho4.slc
  refine VO.as (VO.p2 103 0 (VO.k3 0 2 4 (VC.ret ?_)))
  refine Yd 2 [103] fun hS_=>?_
  dsimp only [QE]
  exact ⟨Value.slice A4 ((d0).length) (c4),(by first | rfl | (simp [*];done)),(Ow.cg (Ow.up (QH.ow ho4 rfl) (hS_.1 _ (.head _))) (by first | rfl | (exact QgW h0 ‹_=none›)))⟩
theorem Ql0 (W:World) {v0:Value} {d0:List UInt8} (h0:Rd (.sl .byte) (wm W) [v0] d0) {v1:Value} {d1:List UInt8} (h1:Rd (.sl .byte) (wm W) [v1] d1) (e0:d0.length≤140737488000000):Qi Tryz.prog 70 [v0,v1] W (Qx) (fun v m'=>∃ (s0:Value),v= .tuple #[s0,.int .i64 ((J8 d0 d1).2)]∧Ow (.sl .byte) m' [s0] ((J8 d0 d1).1)):=by
 obtain ⟨A0,c0,rfl,l0,k0⟩:=h0.slc
 obtain ⟨A1,c1,rfl,l1,k1⟩:=h1.slc
 refine Qi.ofA (n:=16) Tryz.func70 rfl rfl rfl ?_
 refine VC.rs (VO.as (VO.as (VO.k4 0 1 4 5 (VC.seq (VC.rs (VO.mv (VO.z (.lenS rfl Ji) (VO.z (.gtr rfl rfl) (VO.k5 0 1 4 5 8 ?_)))))))))
 refine VC.cond rfl (fun hc1=>?_) (fun hc1=>?_)
 ·refine VC.rs (VO.as (VO.as (VO.p1 0 (VO.k5 0 1 4 5 8 (VC.ret (QZ ?_))))))
  refine Qef 4 5 [] fun hS_=>?_
  dsimp only [QE]
  have he0:((J8 d0 d1).1:Ty.Den (.sl .byte))=[]:=by first | rfl | (first | (rw [YF Qn] <;> rfl) | (rw [Z8 Qn] <;> first | rfl | (simp only [Qgh,List.append_assoc,Int.toNat_natCast,List.nil_append];done)))
  refine ⟨.slice none (0) (0),?_,?_⟩
  rotate_left
  ·rw [he0];exact (Ow.nil _ _)
  all_goals (first | rfl | (first | (rw [YF Qn] <;> rfl) | (rw [Z8 Qn] <;> first | rfl | (simp only [Qgh,List.append_assoc,Int.toNat_natCast,List.nil_append];done))))
 ·refine VC.skip (Qm (VC.rs (VO.mv (VO.mv (VO.z (.lenS rfl Ji) ?_)))))
  refine VO.z (.cvI rfl ⟨_,Tryz.underlying3⟩ Tryz.underlying130 (IntWalk.u64_in _ bd)) ?_
  refine VO.callN 102 rfl QbW rfl (fun W hW=>Xg W (Rd.mono h0 (hW.t 0)) d1.length bd bd) (fun v2 m2 hv2=>?_)
  obtain ⟨s2_0,rfl,f2_0⟩:=hv2
  have hfa3:=JT (x:=d1.length) (by first | omega | exact QkN Qo _)
  obtain ⟨A2_0,c2_0,eq2_0,l2_0,k2_0⟩:=f2_0.slc
  subst eq2_0
  refine VO.mv ?_
  obtain ⟨mo4,cs4,hM4,hA4,hC4⟩:=(Ow.ownl f2_0 rfl Qx)
  obtain ⟨all4,hS4,hR4⟩:=Rd.srcI (P:=Tryz.prog) (h1) Tryz.underlying56
  refine VO.app 102 rfl rfl rfl Ji tz5 rfl rfl hM4 hA4 (hS4 _ 0 rfl) hR4.nice bdm bd (by decide) (fun v4 m4 hN4=>?_)
  have ho4:QH .byte m4 Qx v4 ((d0++JY d1.length)++d1):=QH.more hC4 hN4 (Je.mono hR4 fun _ _ h=>Rd.flat rfl h _)
  obtain ⟨A4,c4,rfl,l4,k4⟩:=ho4.slc
  refine VO.as (VO.as (VO.p2 102 0 (VO.k5 0 1 4 5 8 (VC.ret ?_))))
  refine Qef 4 5 [102] fun hS_=>?_
  dsimp only [QE]
  exact ⟨Value.slice A4 (((d0++JY d1.length)++d1).length) (c4),(by first | rfl | (first | (rw [YF Qn] <;> rfl) | (rw [Z8 Qn] <;> first | rfl | (simp only [Qgh,List.append_assoc,Int.toNat_natCast,List.nil_append];done)))),(Ow.cg (Ow.up (QH.ow ho4 rfl) (hS_.1 _ (.head _))) (by first | rfl | (first | (rw [YF Qn] <;> rfl) | (rw [Z8 Qn] <;> first | rfl | (simp only [Qgh,List.append_assoc,Int.toNat_natCast,List.nil_append];done)))))⟩
theorem Qj3 (W:World) {v0:Value} {d0:List UInt8} (h0:Rd (.sl .byte) (wm W) [v0] d0) {v1:Value} {d1:List UInt8} (h1:Rd (.sl .byte) (wm W) [v1] d1) (e0:d0.length≤140737488000000):Qi Tryz.prog 119 [v0,v1] W (Qx) (fun v m'=>∃ (s0:Value),v= .tuple #[s0,.int .i64 ((J8 d0 d1).2)]∧Ow (.sl .byte) m' [s0] ((J8 d0 d1).1)):=by
 obtain ⟨A0,c0,rfl,l0,k0⟩:=h0.slc
 obtain ⟨A1,c1,rfl,l1,k1⟩:=h1.slc
 refine Qi.ofA (n:=17) Tryz.func119 rfl rfl rfl ?_
 refine VC.rs (VO.as (VO.as (VO.k4 0 1 4 5 (VC.seq (VC.rs (VO.mv (VO.z (.lenS rfl Ji) (VO.z (.gtr rfl rfl) (VO.k5 0 1 4 5 9 ?_)))))))))
 refine VC.cond rfl (fun hc1=>?_) (fun hc1=>?_)
 ·refine VC.rs (VO.as (VO.as (VO.p1 0 (VO.k5 0 1 4 5 9 (VC.ret (QZ ?_))))))
  refine Qef 4 5 [] fun hS_=>?_
  dsimp only [QE]
  have he0:((J8 d0 d1).1:Ty.Den (.sl .byte))=[]:=by first | rfl | (first | (rw [YF Qn] <;> rfl) | (rw [Z8 Qn] <;> first | rfl | (simp only [Qgh,List.append_assoc,Int.toNat_natCast,List.nil_append];done)))
  refine ⟨.slice none (0) (0),?_,?_⟩
  rotate_left
  ·rw [he0];exact (Ow.nil _ _)
  all_goals (first | rfl | (first | (rw [YF Qn] <;> rfl) | (rw [Z8 Qn] <;> first | rfl | (simp only [Qgh,List.append_assoc,Int.toNat_natCast,List.nil_append];done))))
 ·refine VC.skip (Qm (VC.rs (VO.mv (VO.mv (VO.z (.lenS rfl Ji) ?_)))))
  refine VO.callN 102 rfl QbV rfl (fun W hW=>QbL W (Rd.mono h0 (hW.t 0)) ((d1.length:Nat):Int) bdk bd bd) (fun v2 m2 hv2=>?_)
  obtain ⟨s2_0,rfl,f2_0⟩:=hv2
  have hfa3:=JT (x:=((d1.length:Nat):Int).toNat) Qn
  obtain ⟨A2_0,c2_0,eq2_0,l2_0,k2_0⟩:=f2_0.slc
  subst eq2_0
  refine VO.as (VO.p2 102 0 (VO.k6 0 1 4 5 6 9 (VC.rs (VO.mv (VO.mv ?_)))))
  obtain ⟨mo4,cs4,hM4,hA4,hC4⟩:=(Ow.ownl f2_0 rfl Qx)
  obtain ⟨all4,hS4,hR4⟩:=Rd.srcI (P:=Tryz.prog) (h1) Tryz.underlying56
  refine VO.app 102 rfl rfl rfl Ji tz5 rfl rfl hM4 hA4 (hS4 _ 0 rfl) hR4.nice bdm bd (by decide) (fun v4 m4 hN4=>?_)
  have ho4:QH .byte m4 Qx v4 ((d0++JY ((d1.length:Nat):Int).toNat)++d1):=QH.more hC4 hN4 (Je.mono hR4 fun _ _ h=>Rd.flat rfl h _)
  obtain ⟨A4,c4,rfl,l4,k4⟩:=ho4.slc
  refine VO.as (VO.as (VO.k6 0 1 4 5 6 9 (VC.ret ?_)))
  refine Qef 4 5 [102] fun hS_=>?_
  dsimp only [QE]
  exact ⟨Value.slice A4 (((d0++JY ((d1.length:Nat):Int).toNat)++d1).length) (c4),(by first | rfl | (first | (rw [YF Qn] <;> rfl) | (rw [Z8 Qn] <;> first | rfl | (simp only [Qgh,List.append_assoc,Int.toNat_natCast,List.nil_append];done)))),(Ow.cg (Ow.up (QH.ow ho4 rfl) (hS_.1 _ (.head _))) (by first | rfl | (first | (rw [YF Qn] <;> rfl) | (rw [Z8 Qn] <;> first | rfl | (simp only [Qgh,List.append_assoc,Int.toNat_natCast,List.nil_append];done)))))⟩
theorem QnE (W:World) {v0:Value} {d0:List UInt8} (h0:Rd (.sl .byte) (wm W) [v0] d0):Qi Tryz.prog 125 [v0] W (Qx) (fun v m'=>v= .tuple #[.int .i64 ((YE d0).1),.int .i64 ((YE d0).2.1),.bool ((YE d0).2.2)]):=by
 obtain ⟨A0,c0,rfl,l0,k0⟩:=h0.slc
 refine Qi.ofA (n:=28) Tryz.func125 rfl rfl rfl ?_
 refine VC.rs (VO.as (VO.as (VO.as (VO.k4 0 2 3 4 (VC.rs (VO.mv ?_))))))
 refine VO.callN 101 rfl QhG rfl (fun W hW=>Qdo W (Rd.mono h0 (hW.t 0)) 131072 bdk) (fun v1 m1 hv1=>?_)
 subst hv1
 have hfa2:=XN d0 131072 Qn
 refine VO.mv (VO.z (.ext rfl rfl) (VO.z (.ext rfl rfl) (VO.z (.ext rfl rfl) (VO.as (VO.as (VO.as (VO.k7 0 2 3 4 5 6 7 (VC.seq (VC.rs (VO.mv (VO.z (.neq rfl rfl) ?_)))))))))))
 refine VO.mv ?_
 refine VO.dec (t:=16) rfl (fun hc3=>?_) (fun hc3=>?_)
 ·refine VO.gN (VO.gN (VO.gN (VO.gN (VO.gN (VO.gN (VO.z (.pT rfl rfl) (VO.p1 0 (VO.k8 0 2 3 4 5 6 7 23 (VC.condT rfl (VC.rs (VO.as ?_)))))))))))
  refine VO.as (VO.as (VO.k8 0 2 3 4 5 6 7 23 (VC.ret (QZ ?_))))
  refine QcT 2 3 4 [] fun hS_=>?_
  dsimp only [QE]
  all_goals (first | rfl | (first | (rw [Qfn Qo] <;> rfl) | (rw [Qfm Qn] <;> rfl) | (rw [Qfl Qo Qn] <;> rfl)))
 refine VO.w (.mv rfl) (VO.w (.lenS rfl Ji) (VO.w (.mv rfl) ?_))
 refine VO.w (.sub rfl rfl rfl ⟨bd,bd⟩) ?_
 refine VO.w (.mv rfl) (VO.w (.lss rfl rfl) (VO.z (.pF rfl rfl) (VO.p1 0 (VO.k8 0 2 3 4 5 6 7 23 ?_))))
 refine VC.cond rfl (fun hc4=>?_) (fun hc4=>?_)
 ·refine VC.rs (VO.as (VO.as (VO.as (VO.k8 0 2 3 4 5 6 7 23 (VC.ret (QZ ?_))))))
  refine QcT 2 3 4 [] fun hS_=>?_
  dsimp only [QE]
  all_goals (first | rfl | (first | (rw [Qfn Qo] <;> rfl) | (rw [Qfm Qn] <;> rfl) | (rw [Qfl Qo Qn] <;> rfl)))
 ·refine VC.skip (Qm (VC.rs (VO.mv (VO.mv (VO.mv ?_)))))
  refine VO.z (.add (c:=((sN d0 131072+(sX d0 131072):Nat):Int)) rfl rfl Qn ⟨bd,bd⟩) ?_
  refine VO.as (VO.as (VO.as (VO.k8 0 2 3 4 5 6 7 23 (VC.ret ?_))))
  refine QcT 2 3 4 [] fun hS_=>?_
  dsimp only [QE]
  all_goals (first | rfl | (first | (rw [Qfn Qo] <;> rfl) | (rw [Qfm Qn] <;> rfl) | (rw [Qfl Qo Qn] <;> rfl)))
theorem Qk8 (W:World) {v0:Value} {d0:List UInt8} (h0:Rd (.sl .byte) (wm W) [v0] d0):Qi Tryz.prog 109 [v0] W (Qx) (fun v m'=>∃ (s0:Value),v= .tuple #[s0,.int .i64 ((Qw d0).2.1),.int .i64 ((Qw d0).2.2)]∧Ow (.sl .byte) m' [s0] ((Qw d0).1)):=by
 obtain ⟨A0,c0,rfl,l0,k0⟩:=h0.slc
 refine Qi.ofA (n:=22) Tryz.func109 rfl rfl rfl ?_
 refine VC.rs (VO.as (VO.as (VO.as (VO.k4 0 2 3 4 (VC.rs (VO.mv ?_))))))
 refine VO.callN 101 rfl Qqh rfl (fun W hW=>QnE W (Rd.mono h0 (hW.t 0))) (fun v1 m1 hv1=>?_)
 subst hv1
 have hfa2:=QhK d0
 refine VO.mv (VO.z (.ext rfl rfl) (VO.z (.ext rfl rfl) (VO.z (.ext rfl rfl) (VO.as (VO.as (VO.as (VO.k7 0 2 3 4 5 6 7 (VC.seq (VC.rs (VO.mv (VO.z (.not rfl) ?_)))))))))))
 refine VO.p1 0 (VO.k8 0 2 3 4 5 6 7 15 ?_)
 refine VC.condBN rfl (fun hc3=>?_) (fun hc3=>?_)
 ·refine VC.rs (VO.as (VO.as (VO.as (VO.k8 0 2 3 4 5 6 7 15 (VC.ret (QZ ?_))))))
  refine QcT 2 3 4 [] fun hS_=>?_
  dsimp only [QE]
  have he0:((Qw d0).1:Ty.Den (.sl .byte))=[]:=by first | rfl | (first | (rw [QdQ (by first | assumption | simpa using ‹_›)] <;> rfl) | (rw [QcH (by first | assumption | simpa using ‹_›)] <;> rfl))
  refine ⟨.slice none (0) (0),?_,?_⟩
  rotate_left
  ·rw [he0];exact (Ow.nil _ _)
  all_goals (first | rfl | (first | (rw [QdQ (by first | assumption | simpa using ‹_›)] <;> rfl) | (rw [QcH (by first | assumption | simpa using ‹_›)] <;> rfl)))
 refine VC.skip (Qm (VC.rs (VO.mv (VO.mv (VO.mv ?_)))))
 obtain ⟨A4,hA4,hs4⟩:=h0.sub' 1 (((YE d0).1).toNat) (((YE d0).2.1).toNat) rfl bd bd
 refine VO.z (.slI (((YE d0).1).toNat) (((YE d0).2.1).toNat) A4 rfl rfl rfl Ji bd bd hA4 bd bd) ?_
 refine VO.callN 105 rfl Qqj rfl (fun W hW=>Qi7 W (Rd.mono hs4 (hW.t 0)) bd) (fun v5 m5 hv5=>?_)
 obtain ⟨s5_0,rfl,f5_0⟩:=hv5
 obtain ⟨A5_0,c5_0,eq5_0,l5_0,k5_0⟩:=f5_0.slc
 subst eq5_0
 refine VO.mv (VO.as (VO.as (VO.as (VO.k8 0 2 3 4 5 6 7 15 (VC.ret ?_)))))
 refine QcT 2 3 4 [105] fun hS_=>?_
 dsimp only [QE]
 exact ⟨Value.slice A5_0 (((d0.take (((YE d0).2.1).toNat)).drop (((YE d0).1).toNat)).length) (c5_0),(by first | rfl | (first | (rw [QdQ (by first | assumption | simpa using ‹_›)] <;> rfl) | (rw [QcH (by first | assumption | simpa using ‹_›)] <;> rfl))),(Ow.cg (Ow.up f5_0 (hS_.1 _ (.head _))) (by first | rfl | (first | (rw [QdQ (by first | assumption | simpa using ‹_›)] <;> rfl) | (rw [QcH (by first | assumption | simpa using ‹_›)] <;> rfl))))⟩
theorem QnI (W:World) {v0:Value} {d0:List UInt8} (h0:Rd (.sl .byte) (wm W) [v0] d0):Qi Tryz.prog 114 [v0] W (Qx) (fun v m'=>∃ (s0:Value),v= .tuple #[s0,.int .i64 ((Qw d0).2.1),.int .i64 ((Qw d0).2.2)]∧Ow (.sl .byte) m' [s0] ((Qw d0).1)):=by
 obtain ⟨A0,c0,rfl,l0,k0⟩:=h0.slc
 refine Qi.ofA (n:=23) Tryz.func114 rfl rfl rfl ?_
 refine VC.rs (VO.as (VO.as (VO.as (VO.k4 0 2 3 4 (VC.rs (VO.mv ?_))))))
 refine VO.z (.bst (cs:=[.slice A0 (d0.length) (c0),.int .i64 (0),.bool false]) rfl Yb tz145 rfl) ?_
 refine VO.box (cs:=[.slice A0 (d0.length) (c0),.int .i64 (0),.bool false]) 102 rfl rfl rfl (fun g1=>?_)
 refine VO.as (VO.k5 0 2 3 4 5 (VC.rs (VO.mv (VO.mv ?_))))
 refine VO.call 102 rfl Qcs rfl rfl (fun W hW=>Qaj W (d0:=(d0,0,false)) (hW.t 102) (Rd.mono h0 (hW.o 102 0)) bdk 131072 bdk Z2) (fun v3 m3 hv3=>?_)
 try dsimp only at hv3
 obtain ⟨rfl,rfl,w3_0_1⟩:=hv3
 have hfa4:=(Q5 (B:=d0) (m:=131072) (s:=(0,false)) Z2 Qn).1
 have hfa5:=(Q5 (B:=d0) (m:=131072) (s:=(0,false)) Z2 Qn).1.1
 have hfa6:=(Q5 (B:=d0) (m:=131072) (s:=(0,false)) Z2 Qn).1.2
 have hfa7:=(Q5 (B:=d0) (m:=131072) (s:=(0,false)) Z2 Qn).2
 simp only [inK] at w3_0_1
 refine VO.call 102 rfl QjW rfl rfl (fun W hW=>Qei W (d0:=(d0,(Qb d0 131072 (0,false)).2)) (hW.t 102) (Rd.mono h0 (hW.o 102 0)) bdk ((Qb d0 131072 (0,false)).1) bdk Z2 bd bd) (fun v8 m8 hv8=>?_)
 try dsimp only at hv8
 obtain ⟨s8_0,p8_0,rfl,hS8,f8_0,w8_0_1⟩:=hv8
 refine VO.inv _ (fun _ h=>h.parts (i:=102) rfl hS8 [109,110]) ?_
 have hfa11:=(Yx (B:=d0) (n:=((Qb d0 131072 (0,false)).1)) (s:=((Qb d0 131072 (0,false)).2)) Z2 Qn).1
 have hfa12:=(Yx (B:=d0) (n:=((Qb d0 131072 (0,false)).1)) (s:=((Qb d0 131072 (0,false)).2)) Z2 Qn).1.1
 have hfa13:=(Yx (B:=d0) (n:=((Qb d0 131072 (0,false)).1)) (s:=((Qb d0 131072 (0,false)).2)) Z2 Qn).1.2
 have hfa14:=(Yx (B:=d0) (n:=((Qb d0 131072 (0,false)).1)) (s:=((Qb d0 131072 (0,false)).2)) Z2 Qn).2
 simp only [inK] at w8_0_1
 obtain ⟨A8_0,c8_0,eq8_0,l8_0,k8_0⟩:=f8_0.slc
 subst eq8_0
 refine VO.as (VO.p3 109 110 0 (VO.k6 0 2 3 4 5 6 (VC.seq (VC.rs (VO.mv (VO.z (.nilp rfl) (VO.z (.fa rfl Yb rfl) (VO.z (.ld1 110 rfl tk4 rfl (Qa rfl rfl)) (VO.k7 0 2 3 4 5 6 17 ?_)))))))))
 refine VC.condB rfl (fun hc15=>?_) (fun hc15=>?_)
 ·refine VC.rs (VO.as (VO.as (VO.as (VO.k7 0 2 3 4 5 6 17 (VC.ret (QZ ?_))))))
  refine QcT 2 3 4 [] fun hS_=>?_
  dsimp only [QE]
  have he0:((Qw d0).1:Ty.Den (.sl .byte))=[]:=by first | rfl | (rw [QdP];first | (rw [if_pos Qo] <;> rfl) | (rw [if_neg (by simp [*])] <;> rfl))
  refine ⟨.slice none (0) (0),?_,?_⟩
  rotate_left
  ·rw [he0];exact (Ow.nil _ _)
  all_goals (first | rfl | (rw [QdP];first | (rw [if_pos Qo] <;> rfl) | (rw [if_neg (by simp [*])] <;> rfl)))
 refine VC.skip (Qm (VC.seq ?_))
 refine VC.regD _ 6 [(0,true),(1,true),(2,true),(3,true),(4,true),(5,true)] follows (by kernel_rfl) (fun _ h=>h.sub [109,110,0]) ?_
 refine VD.z rfl (.mv rfl) (VD.z rfl (.mv rfl) (VD.z rfl (.nilp rfl) (VD.z rfl (.fa rfl Yb rfl) (VD.z rfl (.ld1 110 rfl tk3 rfl (Qa rfl rfl)) (VD.z rfl (.as rfl) ?_)))))
 refine VD.nil rfl ?_ rfl
 refine VO.as (VO.as (VO.k7 0 2 3 4 5 6 17 (Qm (VC.ret ?_))))
 refine QcT 2 3 4 [109] fun hS_=>?_
 dsimp only [QE]
 exact ⟨Value.slice A8_0 (((QC d0 ((Qb d0 131072 (0,false)).1) ((Qb d0 131072 (0,false)).2)).1).length) (c8_0),(by first | rfl | (rw [QdP];first | (rw [if_pos Qo] <;> rfl) | (rw [if_neg (by simp [*])] <;> rfl))),(Ow.cg (Ow.up f8_0 (hS_.1 _ (.head _))) (by first | rfl | (rw [QdP];first | (rw [if_pos Qo] <;> rfl) | (rw [if_neg (by simp [*])] <;> rfl))))⟩
theorem Qf1 (W:World) {v0:List Value} {d0:Qe} (h0:Rd Ql (wm W) v0 d0):Qi Tryz.prog 86 [.agg v0.toArray] W (Qx) (fun v m'=>∃ (s0:Value),v=s0∧Ow (.sl .byte) m' [s0] (Qbc d0)):=by
 obtain ⟨p0_A2,p0_c2,rfl,p0_0,p0_1,p0_2⟩:=Q4 (x0:=d0.1) (x1:=d0.2.1) (x2:=d0.2.2) h0
 simp only [inK] at p0_0 p0_1
 have p0_r2:=Rd.room p0_2
 refine Qi.ofA (n:=18) Tryz.func86 rfl rfl rfl ?_
 refine VC.rs ?_
 refine VO.box (cs:=[.int .i64 (d0.1),.int .i64 (d0.2.1),.slice p0_A2 (d0.2.2.length) (p0_c2)]) 102 rfl rfl rfl (fun g1=>?_)
 refine VO.as (VO.k3 0 1 2 (VC.rs (VO.z (.ldA 102 rfl Yv rfl (Qa rfl rfl)) ?_)))
 refine VO.callN 103 rfl Qqm rfl (fun W hW=>Qke W (Rd.mono h0 (hW.t 0))) (fun v3 m3 hv3=>?_)
 obtain ⟨s3_0,rfl,f3_0⟩:=hv3
 have hfa4:=QaY d0
 obtain ⟨A3_0,c3_0,eq3_0,l3_0,k3_0⟩:=f3_0.slc
 subst eq3_0
 refine VO.mv (VO.z (.ext rfl rfl) (VO.z (.ext rfl rfl) (VO.as (VO.as (VO.k4 0 1 2 3 (VC.rs (VO.mv ?_)))))))
 refine VO.callN 105 rfl Qql rfl (fun W hW=>Qj3 W (Rd.nil _ _ none 0 (Nat.zero_le _)) (Ow.rd f3_0 (hW.t 103)) bd) (fun v5 m5 hv5=>?_)
 obtain ⟨s5_0,rfl,f5_0⟩:=hv5
 have hfa6:=Qdg [] ((Jd d0).1)
 have hfa7:=QdR [] ((Jd d0).1)
 obtain ⟨A5_0,c5_0,eq5_0,l5_0,k5_0⟩:=f5_0.slc
 subst eq5_0
 refine VO.mv (VO.z (.ext rfl rfl) (VO.z (.ext rfl rfl) (VO.as (VO.as (VO.p4 105 103 102 0 (VO.k5 0 1 2 3 5 (VC.rs (VO.mv (VO.as (VO.k5 0 1 2 3 5 (VC.ret ?_)))))))))))
 refine Yd 2 [105] fun hS_=>?_
 dsimp only [QE]
 exact ⟨Value.slice A5_0 (((J8 [] ((Jd d0).1)).1).length) (c5_0),(by first | rfl | (simp [*];done)),(Ow.cg (Ow.up f5_0 (hS_.1 _ (.head _))))⟩
def fen (ρ : Option Nat) : Fence := { Fence.wide with round := ρ }
def dl : Option Nat → List Deferred
  | none => []
  | some D => [{ target := .collected D, args := #[] }]
def wd (a : Act) (D : List Deferred) : Act := { a with defers := a.defers ++ D }
theorem Qjm (a:Act) (D:List Deferred):(wd a D).eval=a.eval:=by funext x;cases x <;> rfl
theorem Qgo (a:Act) (D:List Deferred) (dst:Option Tmp) (v:Value):(wd a D).put dst v=wd (a.put dst v) D:=by cases dst <;> rfl
theorem QpJ (a:Act) (D:List Deferred):(wd a D).tmps=a.tmps:=rfl
def QbO (ops : Array Oper) : Bool := ops.all fun o => match o.op with
  | .defer _ => false
  | _ => true
theorem QmM {P:Program} {ρ:Option Nat} {m:Nat} {row:String} {args:Array Value} {w:World} {R:Value→World→Prop} (h:Rows P row args w R):RowsIn (fen ρ) m P row args w R:=fun c cs _=>
 let ⟨v,w',r,s⟩:=h c cs
 ⟨v,w',r,stepsIn_wide.2 s⟩
theorem QkO {P : Program} {ρ : Option Nat} {m : Nat} {ops : Array Oper} {Q Q' : Exit → Act → World → Prop} {D : List Deferred} (hd : QbO ops = true) (hp : ∀ c a w, ¬ Q (.panic c) a w) (ho : ∀ a w, ¬ Q .outgrown a w)
    (hQ : ∀ a w, Q .normal a w → Q' .normal (wd a D) w) : ∀ (l : List Nat) (a : Act) (w : World), wpOps P ops Q l a w → wpOpsIn (fen ρ) m P ops Q' l (wd a D) w
  | [], a, w, h => hQ a w h
  | i :: rest, a, w, h => by
    have ih := QkO (P := P) (ρ := ρ) (m := m) hd hp ho hQ rest
    simp only [wpOps] at h
    simp only [wpOpsIn]
    cases hi : ops[i]? with
    | none => rw [hi] at h; exact ih a w h
    | some o =>
      rw [hi] at h
      dsimp only at h ⊢
      rw [QpJ]
      by_cases hw : Region.wanted o (yielded ops a.tmps) = true
      · rw [if_pos hw] at h ⊢
        have h := h.resolve_right fun q => by obtain ⟨a', w', hq⟩ := q.2; exact ho _ _ hq
        have hnd : ∀ c, o.op ≠ .defer c := fun c e => by
          have hm := Array.mem_of_getElem? hi
          have := (Array.all_eq_true_iff_forall_mem.1 hd) o hm
          rw [e] at this; cases this
        refine ⟨fun _ _ => trivial, ?_⟩
        rw [Oper.semAt_eq _ _ _ hnd, Qjm]
        unfold Oper.wp at h
        generalize (execOp a.eval o).run P w = r at h ⊢
        cases r with
        | ok n w' =>
          cases n with
          | value v => show wpOpsIn _ _ _ _ _ _ _ _; rw [Qgo]; exact ih _ _ h
          | skip => show wpOpsIn _ _ _ _ _ _ _ _; rw [Qgo]; exact ih _ _ h
          | enter f args =>
            refine ⟨fun q => (by cases q), ?_⟩
            have h' : CallsIn Fence.wide (m - 1) P f args w' _ := callsIn_wide.2 h
            refine CallsIn.mono (show CallsIn (fen ρ) (m - 1) P f args w' _ from h') ?_
            intro e w'' hr
            cases e with
            | returned v => show wpOpsIn _ _ _ _ _ _ _ _; rw [Qgo]; exact ih _ _ hr
            | panicked c => exact absurd hr (hp _ _ _)
            | outgrown => obtain ⟨a', w3, hq⟩ := hr; exact absurd hq (ho _ _)
          | row row args =>
            refine ⟨fun q => (by cases q), RowsIn.mono (QmM h) fun v w'' hr => ?_⟩
            rw [Qgo]; exact ih _ _ hr
          | defer d =>
            show wpOpsIn _ _ _ _ _ _ _ _
            have e : ({ wd a D with defers := d :: (wd a D).defers } : Act) = wd { a with defers := d :: a.defers } D := rfl
            rw [e, Qgo]; exact ih _ _ h
          | _ => exact h.elim
        | halt e w' =>
          cases e with
          | panic v => exact absurd h (hp _ _ _)
          | _ => exact h.elim
      · rw [if_neg hw] at h ⊢
        refine ⟨fun _ _ => trivial, ?_⟩
        rw [Qgo]; exact ih _ _ h
section
variable (P : Program) (n : Nat) (w0 : World)
def VX (ρ : Option Nat) (c : Code) (R : Option Nat → Exit → Env → Ctx → Prop) (d : Option Nat) (σ : Env) (Ω : Ctx) : Prop :=
  ∀ Q : Exit → Act → World → Prop, (∀ d' e σ' Ω' a W, R d' e σ' Ω' → Zp n σ' a → Inv w0 Ω' W → Q e (wd a (dl d')) W) → ∀ a W, Zp n σ a → Inv w0 Ω W → c.wpIn (fen ρ) 0 P Q (wd a (dl d)) W
end
@[reducible] def thenX (k : Option Nat → Env → Ctx → Prop) (R : Option Nat → Exit → Env → Ctx → Prop) : Option Nat → Exit → Env → Ctx → Prop := fun d => Qjt (k d) (R d)
@[reducible] def blkX (id : Nat) (R : Option Nat → Exit → Env → Ctx → Prop) : Option Nat → Exit → Env → Ctx → Prop := fun d => QiL id (R d)
section
variable {P : Program} {n : Nat} {w0 : World} {σ : Env} {Ω : Ctx} {ρ d : Option Nat} {R : Option Nat → Exit → Env → Ctx → Prop}
theorem Qd5 {ops : Array Oper} {Q : Exit → Act → World → Prop} : ∀ (l : List Oper) (k : Nat) (a : Act) (W : World), (∀ j o, l[j]? = some o → ops[k + j]? = some o) → wpList P ops Q l a W → wpOps P ops Q (List.range' k l.length) a W
  | [], _, _, _, _, h => h
  | o :: l, k, a, W, hl, h => by
    have h0 : ops[k]? = some o := hl 0 o rfl
    rw [List.length_cons, List.range'_succ]
    unfold wpOps
    rw [h0]
    unfold wpList at h
    have ih := fun a W => Qd5 (Q := Q) l (k + 1) a W (fun j o' h' => by have := hl (j + 1) o' h'; rwa [show k + (j + 1) = k + 1 + j by omega] at this)
    dsimp only
    split
    · rename_i hw; rw [if_pos hw] at h; exact h.imp (Oper.wp_mono ih) id
    · rename_i hw; rw [if_neg hw] at h; exact ih _ _ h
theorem VO.ops {ops:Array Oper} {K:Env→Ctx→Prop} {l:List Oper} (h:VO P n w0 ops l σ Ω K) {a:Act} {W:World} (he:Zp n σ a) (hi:Inv w0 Ω W):
  wpList P ops (fun e a W=>e= .normal∧∃ σ' Ω',K σ' Ω'∧Zp n σ' a∧Inv w0 Ω' W) l a W:=
 h _ (fun σ' Ω' a W hk he hi=>⟨rfl,σ',Ω',hk,he,hi⟩) a W he hi
theorem VX.reg {id:Nat} {l:List Oper} (h:VO P n w0 l.toArray l σ Ω (R d .normal)) (hnd:QbO l.toArray=true:=by kernel_rfl):VX P n w0 ρ (.region id l.toArray false) R d σ Ω:=
 fun Q hQ a W he hi=>wpIn_region (by
  have h1:=Qd5 l 0 a W (fun j o h'=>by simpa using h') (h.ops he hi)
  rw [show List.range l.toArray.size=List.range' 0 l.length by rw [List.size_toArray,List.range_eq_range']]
  exact QkO hnd (fun _ _ _ q=>by cases q.1) (fun _ _ q=>by cases q.1) (fun a w ⟨_,σ',Ω',hk,he,hi⟩=>hQ _ _ σ' Ω' a w hk he hi) _ a W h1)
theorem VX.seq {x y:Code} (h:VX P n w0 ρ x (thenX (fun d σ' Ω'=>VX P n w0 ρ y R d σ' Ω') R) d σ Ω):VX P n w0 ρ (.seq x y) R d σ Ω:=
 fun Q hQ a W he hi=>wpIn_seq (h (Exit.then (y.wpIn (fen ρ) 0 P Q) Q) (fun d' e σ' Ω' a W hr he hi=>by
  cases e with
  | normal=>exact hr Q hQ a W he hi
  | exit id=>exact hQ _ _ σ' Ω' a W hr he hi
  | goto l=>exact hQ _ _ σ' Ω' a W hr he hi
  | ret=>exact hQ _ _ σ' Ω' a W hr he hi
  | panic ch=>exact hQ _ _ σ' Ω' a W hr he hi
  | outgrown=>exact hQ _ _ σ' Ω' a W hr he hi) a W he hi)
theorem VX.rs {id:Nat} {l:List Oper} {y:Code} (h:VO P n w0 l.toArray l σ Ω (fun σ' Ω'=>VX P n w0 ρ y R d σ' Ω')) (hnd:QbO l.toArray=true:=by kernel_rfl):VX P n w0 ρ (.seq (.region id l.toArray false) y) R d σ Ω:=
 VX.seq (VX.reg h hnd)
theorem VX.skip (h:R d .normal σ Ω):VX P n w0 ρ .skip R d σ Ω:=fun _ hQ a W he hi=>wpIn_skip (hQ _ _ σ Ω a W h he hi)
theorem VX.exit {id:Nat} (h:R d (.exit id) σ Ω):VX P n w0 ρ (.exit id) R d σ Ω:=fun _ hQ a W he hi=>wpIn_exit (hQ _ _ σ Ω a W h he hi)
theorem VX.ret (h:R d .ret σ Ω):VX P n w0 ρ .ret R d σ Ω:=fun _ hQ a W he hi=>wpIn_ret (hQ _ _ σ Ω a W h he hi)
theorem VX.block {id : Nat} {c : Code} (h : VX P n w0 ρ c (blkX id R) d σ Ω) : VX P n w0 ρ (.block id c) R d σ Ω :=
  fun Q hQ a W he hi => wpIn_block (h (Exit.inBlock id Q) (fun d' e σ' Ω' a W hr he hi => by
    cases e with
    | exit i =>
      show if i = id then Q .normal _ W else Q (.exit i) _ W
      change cond (Nat.beq i id) (R d' .normal) (R d' (.exit i)) σ' Ω' at hr
      cases hb : Nat.beq i id with
      | true =>
        rw [if_pos (Nat.eq_of_beq_eq_true hb)]
        rw [hb] at hr
        exact hQ _ _ σ' Ω' a W hr he hi
      | false =>
        rw [if_neg (Nat.ne_of_beq_eq_false hb)]
        rw [hb] at hr
        exact hQ _ _ σ' Ω' a W hr he hi
    | normal => exact hQ _ _ σ' Ω' a W hr he hi
    | goto l => exact hQ _ _ σ' Ω' a W hr he hi
    | ret => exact hQ _ _ σ' Ω' a W hr he hi
    | panic ch => exact hQ _ _ σ' Ω' a W hr he hi
    | outgrown => exact hQ _ _ σ' Ω' a W hr he hi) a W he hi)
theorem VX.condT {c:Operand} {x y:Code} (hc:ev σ c=some (.bool true)) (h:VX P n w0 ρ x R d σ Ω):VX P n w0 ρ (.cond c x y) R d σ Ω:=
 fun Q hQ a W he hi=>wpIn_cond_true (by rw [Qjm];exact he.eval hc) (h Q hQ a W he hi)
theorem VX.condF {c:Operand} {x y:Code} (hc:ev σ c=some (.bool false)) (h:VX P n w0 ρ y R d σ Ω):VX P n w0 ρ (.cond c x y) R d σ Ω:=
 fun Q hQ a W he hi=>wpIn_cond_false (by rw [Qjm];exact he.eval hc) (h Q hQ a W he hi)
theorem VX.condB {c:Operand} {x y:Code} {b:Bool} (hc:ev σ c=some (.bool b)) (h1:b=true→VX P n w0 ρ x R d σ Ω) (h2:b=false→VX P n w0 ρ y R d σ Ω):VX P n w0 ρ (.cond c x y) R d σ Ω:=by
 cases b
 ·exact VX.condF hc (h2 rfl)
 ·exact VX.condT hc (h1 rfl)
theorem VX.cond {c:Operand} {x y:Code} {p:Prop} [Decidable p] (hc:ev σ c=some (.bool (decide p))) (h1:p→VX P n w0 ρ x R d σ Ω) (h2:¬ p→VX P n w0 ρ y R d σ Ω):VX P n w0 ρ (.cond c x y) R d σ Ω:=
 VX.condB hc (fun h=>h1 (of_decide_eq_true h)) (fun h=>h2 (of_decide_eq_false h))
theorem VX.inv {c:Code} (Ω':Ctx) (hs:∀ W,Inv w0 Ω W→Inv w0 Ω' W) (h:VX P n w0 ρ c R d σ Ω'):VX P n w0 ρ c R d σ Ω:=
 fun Q hQ a W he hi=>h Q hQ a W he (hs W hi)
theorem VX.gather {c:Code} (k:Nat) (ids:List Nat) {l:List Mem} (hg:Qca Ω ids=some l) (h:QA (Zc l) l→VX P n w0 ρ c R d σ ((k,Zc l)::Qdj Ω ids)):VX P n w0 ρ c R d σ Ω:=
 fun Q hQ a W he hi=>h (hi.gather k hg).2 Q hQ a W he (hi.gather k hg).1
theorem VX.parts {c:Code} (i:Nat) (ids:List Nat) {m:Mem} {l:List Mem} (hm:Yt Ω i=some m) (hl:QA m l) (h:VX P n w0 ρ c R d σ (ids.zip l++ZM Ω i)):VX P n w0 ρ c R d σ Ω:=
 VX.inv _ (fun W hW=>hW.parts hm hl ids) h
theorem VX.loop {G : Type} {c : Code} (S : G → Env) (C : G → Ctx) (I : G → Prop) (μ : G → Nat) (g0 : G) (h0 : I g0) (h1 : To w0 (S g0) (C g0) σ Ω)
    (round : ∀ g, I g → VX P n w0 ρ c (thenX (fun d' σ' Ω' => d' = d ∧ ∃ g', I g' ∧ μ g' < μ g ∧ To w0 (S g') (C g') σ' Ω') R) d (S g) (C g)) : VX P n w0 ρ (.loop c) R d σ Ω :=
  fun Q hQ a W he hi => wpIn_loop (fun a W => ∃ k, ∃ g b, I g ∧ μ g = k ∧ Zp n (S g) b ∧ Inv w0 (C g) W ∧ a = wd b (dl d)) (fun a W => leastOf (fun k => ∃ g b, I g ∧ μ g = k ∧ Zp n (S g) b ∧ Inv w0 (C g) W ∧ a = wd b (dl d)))
    ⟨μ g0, g0, a, h0, rfl, he.sub h1.env, h1.inv W hi, rfl⟩ (by
    intro a W hI
    obtain ⟨hsp, hmin⟩ := leastOf_spec hI
    obtain ⟨g, b, hg, hm, he, hi, rfl⟩ := hsp
    refine round g hg _ (fun d' e σ' Ω' a' W' hr he hi => ?_) b W he hi
    cases e with
    | normal =>
      obtain ⟨rfl, g', hI', hlt, ht⟩ := hr
      have h2 : ∃ k, ∃ g b, I g ∧ μ g = k ∧ Zp n (S g) b ∧ Inv w0 (C g) W' ∧ wd a' (dl d') = wd b (dl d') := ⟨μ g', g', a', hI', rfl, he.sub ht.env, ht.inv W' hi, rfl⟩
      exact ⟨h2, Nat.lt_of_le_of_lt ((leastOf_spec h2).2 _ ⟨g', a', hI', rfl, he.sub ht.env, ht.inv W' hi, rfl⟩) (by omega)⟩
    | exit id => exact hQ _ _ σ' Ω' a' W' hr he hi
    | goto l => exact hQ _ _ σ' Ω' a' W' hr he hi
    | ret => exact hQ _ _ σ' Ω' a' W' hr he hi
    | panic ch => exact hQ _ _ σ' Ω' a' W' hr he hi
    | outgrown => exact hQ _ _ σ' Ω' a' W' hr he hi)
end
section
variable {P : Program} {n : Nat} {w0 : World} {σ : Env} {Ω : Ctx} {ρ d : Option Nat} {R : Option Nat → Exit → Env → Ctx → Prop}
theorem VX.regD {id:Nat} {l:List Oper} (ΩS:Ctx) (t:Nat) (sched:List (Nat × Bool)) (hm:P.follows .mixedOrders=true) (hs:Qem l.toArray t sched=true) (hΩ:∀ W,Inv w0 Ω W→Inv w0 ΩS W)
  (h:VD P n w0 l.toArray ΩS t sched σ Ω (R d .normal)) (hnd:QbO l.toArray=true:=by kernel_rfl):VX P n w0 ρ (.region id l.toArray true) R d σ Ω:=
 fun Q hQ a W he hi=>by
  unfold Qem at hs
  simp only [Bool.and_eq_true,Bool.or_eq_true] at hs
  obtain ⟨⟨⟨h0,h1⟩,h2⟩,h3⟩:=hs
  have h4:t < l.toArray.size→Region.sinkB .any l.toArray t=true∧Region.chainB .any l.toArray t=true:=fun hlt=>by
   rcases h2 with h2 | h2
   ·have:=Nat.le_of_ble_eq_true h2;omega
   ·exact h2
  let Q':Exit→Act→World→Prop:=fun e a w=>e= .normal∧∃ σ' Ω',R d .normal σ' Ω'∧Zp n σ' a∧Inv w0 Ω' w
  have:=h Q' (fun _ _ _ hq=>by cases hq.1) (fun σ' Ω' a W hk he hi=>⟨rfl,σ',Ω',hk,he,hi⟩) (Array.replicate l.toArray.size false) a W.drew he hi.drew (hΩ W hi).drew.cur h3 (HeadInv.start _ _) h1 h4
  rw [Nat.eq_of_beq_eq_true h0] at this
  have hA:=Qcw (S:=fun L w=>Inv w0 (Qd1 l.toArray ΩS L) w) (t:=t) _ _ _ _ this
  refine wpIn_region_draw fun t'=>QkO hnd (Q:=Q') (fun _ _ _ q=>by cases q.1) (fun _ _ q=>by cases q.1) (fun a w ⟨_,σ',Ω',hk,he,hi⟩=>hQ _ _ σ' Ω' a w hk he hi) _ a _ ?_
  simp only [Region.schedule,hm,Bool.true_or,if_true]
  exact wpAny_sound _ t' _ a _ hA
def retX (P : Program) (n : Nat) (w0 : World) (fn : Func) (m : Mem) (Post : Value → Mem → Prop) : Option Nat → Exit → Env → Ctx → Prop
  | none => Qmh P n w0 fn m Post
  | some D => fun e σ Ω => ∃ j, Yt Ω j = some (QM D (.deferred (some []))) ∧ Qmh P n w0 fn m Post e σ (ZM Ω j)
theorem Qdz {m:Mem} {W:World} {L:Nat} {o:Obj} (h:mle m (wm W)) (hd:m L=none):mle m (wm (W.putObj L o)):=fun g x e=>by
 have hne:g≠L:=fun q=>by subst q;rw [hd] at e;cases e
 show (W.putObj L o).heap[g]? =some x
 rw [World.putObj_heap_other hne];exact h g x e
theorem QmW {W:World} {L:Nat} {o o':Obj} (h:mle (QM L o') (wm W)):mle (QM L o) (wm (W.putObj L o)):=
 QfM (World.putObj_heap_same (Array.getElem?_eq_some_iff.1 (h L o' (QJ _ _))).1)
theorem QcE {L:Nat} {o:Obj} {m:Mem} (h:mdj (QM L o) m):m L=none:=(h L).resolve_left (by simp [QJ])
theorem QkR {L:Nat} {o o':Obj} {m:Mem} (h:mdj (QM L o) m):mdj (QM L o') m:=fun g=>by
 by_cases e:g=L
 ·subst e;exact .inr (QcE h)
 ·exact .inl (Qdc _ e)
theorem Qi.ofX {f : FuncId} {fn : Func} {c : Code} {args : List Value} {W : World} {m : Mem} {Post : Value → Mem → Prop} (hf : P.funcs[f]? = some fn) (hb : fn.body = some c) (hn : fn.ntmps = n)
    (hsz : Nat.ble args.length n = true) (hm : mle m (wm W)) (h : VX P n W none c (retX P n W fn m Post) none (QoZ 0 args) [(0, J4 (wm W) m), (1, m)]) : Qi P f args W m Post := by
  have hlen : args.length ≤ n := by simpa using hsz
  refine callsIn_wide.1 (callsIn_of_wp_marks (F := fen none) (n := 0) hf hb trivial ?_)
  have key : ∀ (v : Value) (m' : Mem) (W' : World), W'.os = W.os → W'.tape = W.tape → W'.output = W.output → W.heap.size ≤ W'.heap.size → Post v m' → mle (J4 (wm W) m) (wm W') → mle m' (wm W') → mdj m' (J4 (wm W) m) → ∃ v' m', (Ending.returned v = .returned v') ∧ Post v' m' ∧ Upd W m W' m' :=
    fun v m' W' o1 o2 o3 o4 h2 k1 k2 k3 => ⟨v, m', rfl, h2, o1, o2, o3, o4, k1, k2, fun g => by
      rcases k3 g with h | h
      · exact .inl h
      · refine .inr ?_
        unfold J4 wm at h
        split at h
        · rename_i o ho; exact .inl (by rw [ho]; simp)
        · exact .inr (Array.getElem?_eq_none_iff.1 h)⟩
  have := h (bodyPostM (fen none) 0 P fn fun e W' => ∃ v m', e = .returned v ∧ Post v m' ∧ Upd W m W' m') (fun d' e σ' Ω' a W' hr he hi => ?_) { tmps := args.toArray ++ Array.replicate (fn.ntmps - args.toArray.size) undef, defers := [] } W ⟨?_, rfl, fun t v hv => ?_⟩ ⟨rfl, rfl, rfl, Nat.le_refl _, ?_, ?_⟩
  · exact this
  · have hre : e = .ret ∨ e = .normal := by
      cases d' with
      | none => cases e <;> first | exact .inl rfl | exact .inr rfl | exact hr.elim
      | some D => obtain ⟨_, _, hr⟩ := hr; cases e <;> first | exact .inl rfl | exact .inr rfl | exact hr.elim
    have goal : LeavesInM (fen none) 0 P fn (wd a (dl d')).tmps (fun e W' => ∃ v m', e = .returned v ∧ Post v m' ∧ Upd W m W' m') (wd a (dl d')).defers .returning W' := by
      cases d' with
      | none =>
        have hd : (wd a (dl none)).defers = [] := by show a.defers ++ [] = []; rw [he.defers]; rfl
        rw [hd]
        have hr' : Qmh P n W fn m Post .ret σ' Ω' := by rcases hre with rfl | rfl <;> exact hr
        obtain ⟨v, m', h1, h3⟩ := hr'
        obtain ⟨h2, k1, k2, k3⟩ := h3 W' hi
        exact ⟨v, h1 a W' he hi, key v m' W' hi.os hi.tape hi.output hi.size h2 k1 k2 k3⟩
      | some D =>
        have hd : (wd a (dl (some D))).defers = [{ target := .collected D, args := #[] }] := by show a.defers ++ _ = _; rw [he.defers]; rfl
        rw [hd]
        obtain ⟨j, hj, hr⟩ := hr
        have hr' : Qmh P n W fn m Post .ret σ' (ZM Ω' j) := by rcases hre with rfl | rfl <;> exact hr
        have hD : W'.heap[D]? = some (.deferred (some [])) := hi.at hj D _ (QJ _ _)
        have hi2 : Inv W (ZM Ω' j) (W'.putObj D (.deferred none)) := by
          obtain ⟨g1, g2⟩ := Qbn hj hi.dj
          exact ⟨hi.os, hi.tape, hi.output, by rw [World.putObj_size]; exact hi.size, fun p hp => Qdz (hi.le p (Yu hp)) (QcE (g1 p hp)), g2⟩
        obtain ⟨v, m', h1, h3⟩ := hr'
        obtain ⟨h2, k1, k2, k3⟩ := h3 _ hi2
        exact ⟨by simp, .inl ⟨D, _, rfl, run_takeDeferred hD, v, h1 a _ he hi2, key v m' _ hi2.os hi2.tape hi2.output hi2.size h2 k1 k2 k3⟩⟩
    rcases hre with rfl | rfl <;> exact goal
  · simp [hn]; omega
  · obtain ⟨_, h2⟩ := Qg4 hv
    have hlt : t < args.length := by
      have := (List.getElem?_eq_some_iff.1 h2).1; omega
    have h3 : (args.toArray ++ Array.replicate (fn.ntmps - args.toArray.size) undef)[t]? = some v := by
      rw [Array.getElem?_append_left (by simpa using hlt)]; simpa using h2
    simp only [Array.getD_eq_getD_getElem?, h3, Option.getD_some]
  · intro p hp
    rcases List.mem_cons.1 hp with rfl | hp
    · exact QbP _ _
    · rcases List.mem_cons.1 hp with rfl | hp
      · exact hm
      · cases hp
  · refine List.pairwise_cons.2 ⟨fun p hp => ?_, List.pairwise_cons.2 ⟨fun p hp => ?_, List.Pairwise.nil⟩⟩
    · rcases List.mem_cons.1 hp with rfl | hp
      · exact Qhx _ _
      · cases hp
    · cases hp
theorem Qi.ofXA {f:FuncId} {fn:Func} {c:Code} {args:List Value} {W:World} {Post:Value→Mem→Prop} (hf:P.funcs[f]? =some fn) (hb:fn.body=some c) (hn:fn.ntmps=n)
  (hsz:Nat.ble args.length n=true) (h:VX P n W none c (retX P n W fn Qx Post) none (QoZ 0 args) [(0,wm W)]):Qi P f args W Qx Post:=
 Qi.ofX hf hb hn hsz (JF _) (VX.inv [(0,wm W)] (fun W' h'=>⟨h'.os,h'.tape,h'.output,h'.size,fun p hp=>h'.le p (by simp at hp;subst hp;exact .head _),List.pairwise_singleton _ _⟩) h)
end
def YldR (P : Program) (l : Nat) (args : List Value) (W : World) (m : Mem) (Post : Value → Mem → Prop) : Prop :=
  YieldAt Fence.wide 0 P l args.toArray W fun e W' => ∃ v m', e = .returned v ∧ Post v m' ∧ Upd W m W' m'
section
variable (P : Program) (n : Nat) (w0 : World)
def VL (ops : Array Oper) (l : List Nat) (σ : Env) (Ω : Ctx) (K : Env → Ctx → Prop) : Prop :=
  ∀ Q : Exit → Act → World → Prop, (∀ σ' Ω' a W, K σ' Ω' → Zp n σ' a → Inv w0 Ω' W → Q .normal a W) → ∀ a W, Zp n σ a → Inv w0 Ω W → wpOpsIn (fen none) 0 P ops Q l a W
end
section
variable {P : Program} {n : Nat} {w0 : World} {σ : Env} {Ω : Ctx} {ops : Array Oper} {K : Env → Ctx → Prop} {R : Option Nat → Exit → Env → Ctx → Prop}
theorem Qfo (a:Act):wd a []=a:=by cases a;simp [wd]
theorem Qm0 {Q Q' : Exit → Act → World → Prop} (hd : QbO ops = true) (hp : ∀ c a w, ¬ Q (.panic c) a w) (ho : ∀ a w, ¬ Q .outgrown a w) {r : List Nat}
    (hQ : ∀ a w, Q .normal a w → wpOpsIn (fen none) 0 P ops Q' r a w) : ∀ (l : List Nat) (a : Act) (w : World), wpOps P ops Q l a w → wpOpsIn (fen none) 0 P ops Q' (l ++ r) a w
  | [], a, w, h => hQ a w h
  | i :: rest, a, w, h => by
    have ih := Qm0 hd hp ho hQ rest
    simp only [wpOps] at h
    simp only [wpOpsIn, List.cons_append]
    cases hi : ops[i]? with
    | none => rw [hi] at h; exact ih a w h
    | some o =>
      rw [hi] at h
      dsimp only at h ⊢
      by_cases hw : Region.wanted o (yielded ops a.tmps) = true
      · rw [if_pos hw] at h ⊢
        have h := h.resolve_right fun q => by obtain ⟨a', w', hq⟩ := q.2; exact ho _ _ hq
        refine ⟨fun _ _ => trivial, ?_⟩
        rw [show (fen none).round = none from rfl, Oper.semAt_none]
        unfold Oper.wp at h
        generalize (execOp a.eval o).run P w = q at h ⊢
        cases q with
        | ok n w' =>
          cases n with
          | value v => exact ih _ _ h
          | skip => exact ih _ _ h
          | enter f args =>
            refine ⟨fun q => (by cases q), CallsIn.mono (callsIn_wide.2 h) ?_⟩
            intro e w'' hr
            cases e with
            | returned v => exact ih _ _ hr
            | panicked c => exact absurd hr (hp _ _ _)
            | outgrown => obtain ⟨a', w3, hq⟩ := hr; exact absurd hq (ho _ _)
          | row row args => exact ⟨fun q => (by cases q), RowsIn.mono (QmM (ρ := none) h) fun v w'' hr => ih _ _ hr⟩
          | defer d => exact ih _ _ h
          | _ => exact h.elim
        | halt e w' =>
          cases e with
          | panic v => exact absurd h (hp _ _ _)
          | _ => exact h.elim
      · rw [if_neg hw] at h ⊢
        exact ⟨fun _ _ => trivial, ih _ _ h⟩
theorem VL.of {l:List Oper} (k:Nat) (hl:∀ j o,l[j]? =some o→ops[k+j]? =some o) (hd:QbO ops=true) {r:List Nat} (h:VO P n w0 ops l σ Ω (fun σ' Ω'=>VL P n w0 ops r σ' Ω' K)):VL P n w0 ops (List.range' k l.length++r) σ Ω K:=
 fun Q hQ a W he hi=>Qm0 hd (Q:=fun e a W=>e= .normal∧∃ σ' Ω',VL P n w0 ops r σ' Ω' K∧Zp n σ' a∧Inv w0 Ω' W) (fun _ _ _ q=>by cases q.1) (fun _ _ q=>by cases q.1) (fun a W ⟨_,σ',Ω',hk,he,hi⟩=>hk Q hQ a W he hi) _ a W (Qd5 l k a W hl (h.ops he hi))
theorem VL.nil (h:K σ Ω):VL P n w0 ops [] σ Ω K:=fun _ hQ a W he hi=>hQ σ Ω a W h he hi
theorem VL.skip {i:Nat} {r:List Nat} {d:Nat} {op:Op} {ty:TypeId} {pos:String} {af:Array Edge} {j:Nat} {b:Bool} (ho:ops[i]? =some ⟨some d,op,ty,pos,af,some (j,b)⟩) (hd:Nat.blt d n=true) (hg:Qfc σ ops j (!b)) (h:VL P n w0 ops r ((d,undef)::σ) Ω K):VL P n w0 ops (i::r) σ Ω K:=
 fun Q hQ a W he hi=>by
  unfold wpOpsIn
  rw [ho]
  dsimp only
  have hw:¬ Region.wanted ⟨some d,op,ty,pos,af,some (j,b)⟩ (yielded ops a.tmps)=true:=by
   simp [Region.wanted,Ye he hg]
  rw [if_neg hw]
  exact ⟨fun _ _=>trivial,h Q hQ _ W (he.put hd _) hi⟩
theorem VX.regL {id:Nat} {l:List Oper} (ix:List Nat) (hix:List.range l.length=ix) (h:VL P n w0 l.toArray ix σ Ω (R none .normal)):VX P n w0 none (.region id l.toArray false) R none σ Ω:=
 fun Q hQ a W he hi=>wpIn_region (by
  rw [List.size_toArray,hix]
  have:=h (fun e a W=>Q e (wd a []) W) (fun σ' Ω' a W hk he hi=>hQ _ _ σ' Ω' a W hk he hi) a W he hi
  rw [show dl none=[] from rfl,Qfo]
  simpa only [Qfo] using this)
end
def Qls (P : Program) (gf : FuncId) (caps : List Value) (mo : Mem) {A : Type} (E : A → List Value → Mem → Prop) (nx : A → A) (a0 : A) (Dn : A → Prop) : Prop :=
  ∀ (G : Type) (M : G → Mem) (I : A → G → Prop) (X : G → Prop) (l : Nat) (W : World) (g0 : G), I a0 g0 → mle (mun (M g0) mo) (wm W) → mdj (M g0) mo →
    (∀ a g args mr W', I a g → E a args mr → Inv W [(0, J4 (wm W) (mun (M g0) mo)), (1, M g), (2, mr)] W' → YldR P l args W' (mun (M g) mr) (fun v m' => ∃ g', m' = M g' ∧ ((v = .bool true ∧ I (nx a) g') ∨ (v = .bool false ∧ X g')))) →
    Qi P gf (.func (.yield l) #[] #[] :: caps) W (mun (M g0) mo) (fun _ m' => ∃ g', m' = M g' ∧ (X g' ∨ ∃ a, I a g' ∧ Dn a))
theorem Inv.hd {w0 W:World} {Ω:Ctx} {i:Nat} {m:Mem} (h:Inv w0 ((i,m)::Ω) W):mle m (wm W)∧(∀ p∈Ω,mdj m p.2)∧Inv w0 Ω W:=
 ⟨h.le _ (.head _),(List.pairwise_cons.1 h.dj).1,h.tl⟩
theorem Inv.mk' {w0 W:World} {Ω:Ctx} {i:Nat} {m:Mem} (h:Inv w0 Ω W) (h1:mle m (wm W)) (h2:∀ p∈Ω,mdj m p.2):Inv w0 ((i,m)::Ω) W:=
 ⟨h.os,h.tape,h.output,h.size,fun p hp=>by rcases List.mem_cons.1 hp with rfl | hp <;> first | exact h1 | exact h.le _ hp,List.pairwise_cons.2 ⟨h2,h.dj⟩⟩
theorem Inv.move {w0 W W':World} {Ω:Ctx} (h:Inv w0 Ω W) (ho:W'.os=W.os) (ht:W'.tape=W.tape) (hu:W'.output=W.output) (hs:W.heap.size≤W'.heap.size) (hl:∀ p∈Ω,mle p.2 (wm W')):Inv w0 Ω W':=
 ⟨ho.trans h.os,ht.trans h.tape,hu.trans h.output,Nat.le_trans h.size hs,hl,h.dj⟩
theorem Qlr {P:Nat × Mem→Prop} {a:Nat × Mem} {l:Ctx} (h:P a) (h2:∀ p∈l,P p):∀ p∈a::l,P p:=fun p hp=>by rcases List.mem_cons.1 hp with rfl | hp <;> first | exact h | exact h2 _ hp
def QgI : Exit → Option Code
  | .ret => some .ret
  | .exit id => some (.exit id)
  | _ => none
section
variable {P : Program} {n : Nat} {w0 : World} {σ : Env} {rest : Ctx} {R : Option Nat → Exit → Env → Ctx → Prop}
theorem QoI:∀ (p:List Nat) (args:List Value) (t:Array Value),(p.toArray.zip args.toArray).foldl (fun t (q:Nat × Value)=>t.setIfInBounds q.1 q.2) t=(p.zip args).foldl (fun t q=>t.setIfInBounds q.1 q.2) t:=fun p args t=>by
 rw [← Array.foldl_toList];simp
theorem Qk2 : ∀ (l : List (Nat × Value)) {σ : Env} {a : Act}, Zp n σ a → (∀ q ∈ l, q.1 < n) → Zp n (l.reverse ++ σ) { a with tmps := l.foldl (fun t q => t.setIfInBounds q.1 q.2) a.tmps }
  | [], _, _, h, _ => h
  | q :: l, σ, a, h, hl => by
    have h1 := Qk2 l (h.put (d := q.1) (by simpa using hl q (.head _)) q.2) fun x hx => hl x (.tail _ hx)
    rw [List.reverse_cons, List.append_assoc]
    exact h1
set_option maxHeartbeats 1000000 in
theorem VX.rangeF {A G : Type} {g : Operand} {p : List Nat} {assign body : Code} {gf : FuncId} {caps : List Value} (i k jD jL jR o : Nat) (M : G → Mem) (I : A → G → Prop) (X : Exit → G → Prop)
    {mo : Mem} {E : A → List Value → Mem → Prop} {nx : A → A} {a0 : A} {Dn : A → Prop} (g0 : G) (h0 : I a0 g0) (hit : ∀ W, Inv w0 ((k, mo) :: (i, M g0) :: rest) W → Qls P gf caps mo E nx a0 Dn)
    (hg : ev σ g = some (.func (.func gf) #[] caps.toArray)) (hf : JR P gf = true) (hp : p.all (Nat.blt · n) = true) (hE : ∀ a args mr, E a args mr → args.length = p.length) (σa : List Value → Env)
    (hassign : ∀ w1 l args Ω, args.length = p.length → VX P n w1 (some l) assign (fun d e σ' Ω' => d = none ∧ e = .normal ∧ Go.Proofs.YtdoamgdanlnlfaaGreat.esub (σa args) σ' ∧ Ω' = Ω) none ((p.zip args).reverse ++ σ) Ω)
    (hbody : ∀ w1 l D a g args mr ml mo', I a g → E a args mr → VX P n w1 (some l) body (fun d e σ' Ω' => d = none ∧ ∀ W, Inv w1 Ω' W → ∃ g', Inv w1 ((o, mo') :: (jL, ml) :: (i, M g') :: (jD, QM D (.deferred (some []))) :: rest) W ∧
      ((e = .normal ∧ I (nx a) g') ∨ ((QgI e).isSome = true ∧ X e g'))) none (σa args) ((jR, mr) :: (o, mo') :: (jL, ml) :: (i, M g) :: (jD, QM D (.deferred (some []))) :: rest))
    (hdone : ∀ D a g, I a g → Dn a → R (some D) .normal σ ((i, M g) :: (jD, QM D (.deferred (some []))) :: rest))
    (hstop : ∀ D e g, X e g → (QgI e).isSome = true → R (some D) e σ ((i, M g) :: (jD, QM D (.deferred (some []))) :: rest)) :
    VX P n w0 none (.rangeFunc g p.toArray assign body) R none σ ((k, mo) :: (i, M g0) :: rest) := by
  intro Q hQ a W he hi
  rw [show dl none = [] from rfl, Qfo]
  refine wpIn_rangeFunc ?_
  intro fn hfn
  obtain ⟨rec, hrec⟩ : ∃ rec : LoopState → Option Code → Loop, rec = fun st pe => { state := st, pending := pe, fn, tmps := a.tmps, params := p.toArray, assign, body, defers := W.heap.size } := ⟨_, rfl⟩
  obtain ⟨W1, hW1⟩ : ∃ W1, (W.alloc (.deferred (some []))).alloc (.loop (rec .ready none)) = W1 := ⟨_, rfl⟩
  obtain ⟨D, hD⟩ : ∃ D, D = W.heap.size := ⟨_, rfl⟩
  obtain ⟨L, hL⟩ : ∃ L, L = W.heap.size + 1 := ⟨_, rfl⟩
  have hi1 : Inv w0 ((jL, QM L (.loop (rec .ready none))) :: (jD, QM D (.deferred (some []))) :: (k, mo) :: (i, M g0) :: rest) W1 := by
    have h1 := (hi.alloc jD (.deferred (some []))).alloc jL (.loop (rec .ready none))
    rw [World.size_alloc] at h1
    rw [← hW1, hL, hD]; exact h1
  obtain ⟨l1, d1, hi2⟩ := hi1.hd
  obtain ⟨l2, d2, hi3⟩ := hi2.hd
  obtain ⟨l3, d3, hi4⟩ := hi3.hd
  obtain ⟨l4, d4, hi5⟩ := hi4.hd
  have dLD : mdj (QM L (.loop (rec .ready none))) (QM D (.deferred (some []))) := d1 _ (.head _)
  have dLo : mdj (QM L (.loop (rec .ready none))) mo := d1 _ (.tail _ (.head _))
  have dLi : mdj (QM L (.loop (rec .ready none))) (M g0) := d1 _ (.tail _ (.tail _ (.head _)))
  have dDo : mdj (QM D (.deferred (some []))) mo := d2 _ (.head _)
  have dDi : mdj (QM D (.deferred (some []))) (M g0) := d2 _ (.tail _ (.head _))
  have doi : mdj mo (M g0) := d3 _ (.head _)
  refine ⟨L, [{ target := .collected D, args := #[] }], W1, { target := .fn (.func gf) caps.toArray, args := #[.func (.yield L) #[] #[]] }, W1, gf, (.func (.yield L) #[] #[] :: caps).toArray, W1, ?_, ?_, ?_, ?_, fun q => (by cases q), ?_⟩
  · rw [show (fen none).round = none from rfl, ← hW1, hrec, hL, hD]; exact run_enterLoop_outer _ _ _ _ _
  · simp only [resolve, he.eval hg]
    simp [go_sem]
  · intro f' _; trivial
  · show (callFunc gf (#[.func (.yield L) #[] #[]] ++ caps.toArray)).run P W1 = _
    rw [Qbg hf]
    simp
  have hm0 : mle (mun (mun (QM L (.loop (rec .ready none))) (M g0)) mo) (wm W1) := YZ (YZ l1 l4) l3
  have hcall := hit W hi (Mem × G) (fun q => mun q.1 (M q.2)) (fun a q => q.1 = QM L (.loop (rec .ready none)) ∧ mdj q.1 (M q.2) ∧ I a q.2)
    (fun q => ∃ e c, QgI e = some c ∧ q.1 = QM L (.loop (rec .done (some c))) ∧ mdj q.1 (M q.2) ∧ X e q.2) L W1 (QM L (.loop (rec .ready none)), g0) ⟨rfl, dLi, h0⟩ hm0 (ZO dLo doi.symm) ?_
  · refine CallsIn.mono (callsIn_wide.2 hcall) ?_
    rintro e W2 ⟨v, m', rfl, ⟨⟨ml, g'⟩, rfl, hx⟩, hu⟩
    have hk : ∀ q ∈ (jD, QM D (.deferred (some []))) :: rest, mle q.2 (J4 (wm W1) (mun (mun (QM L (.loop (rec .ready none))) (M g0)) mo)) :=
      Qlr (Qdd l2 (ZO (ZO dLD dDi.symm) dDo.symm).symm) fun q hq => Qdd (hi5.le q hq) (ZO (ZO (d1 q (.tail _ (.tail _ (.tail _ hq)))) (d4 q hq)) (d3 q (.tail _ hq))).symm
    have hfar : ∀ q ∈ (jD, QM D (.deferred (some []))) :: rest, mdj (mun ml (M g')) q.2 := fun q hq b => by
      rcases hu.dom b with h | h | h
      · exact .inl h
      · right
        cases e : q.2 b with
        | none => rfl
        | some ob =>
          exfalso
          have hin : q.2 b = some ob := e
          have := hk q hq b ob hin
          unfold J4 at this
          split at this
          · cases this
          · exact h (by assumption)
      · right
        cases e : q.2 b with
        | none => rfl
        | some ob =>
          have := (hk q hq b ob e)
          have := QbP _ _ b ob this
          simp [wm, Array.getElem?_eq_none h] at this
    have hR5 : Inv w0 ((jD, QM D (.deferred (some []))) :: rest) W2 :=
      (Inv.mk' hi5 l2 fun q hq => d2 q (.tail _ (.tail _ hq))).move hu.os hu.tape hu.output hu.size fun q hq => (hk q hq).trans hu.keep
    have fin : ∀ st pe, ml = QM L (.loop (rec st pe)) → st ≠ .busy → mdj ml (M g') → ∃ w₄, (Instr.endLoop L).run P W2 = .ok pe w₄ ∧ Inv w0 ((i, M g') :: (jD, QM D (.deferred (some []))) :: rest) w₄ := by
      rintro st pe rfl hst hdj
      have hl : W2.heap[L]? = some (.loop (rec st pe)) := hu.le L _ (QR _ _ _ _ (QJ _ _))
      refine ⟨W2.putObj L (.loop { rec st pe with state := .exhausted }), by have := run_endLoop (P := P) hl (by rw [hrec]; exact hst); rw [hrec] at this ⊢; exact this, ?_⟩
      have hM : mle (M g') (wm W2) := (QS hdj).trans hu.le
      have hmv : ∀ q ∈ (jD, QM D (.deferred (some []))) :: rest, mle q.2 (wm (W2.putObj L (.loop { rec st pe with state := .exhausted }))) := fun q hq => Qdz (hR5.le q hq) (QcE (L := L) (o := .loop (rec st pe)) fun b => (hfar q hq b).imp (fun z => by
        cases e : QM L (.loop (rec st pe)) b with
        | none => rfl
        | some ob => rw [QR _ (M g') b ob e] at z; cases z) id)
      refine Inv.mk' (hR5.move rfl rfl rfl (by rw [World.putObj_size]; exact Nat.le_refl _) hmv) (Qdz hM (QcE hdj)) fun q hq b => (hfar q hq b).imp (fun z => by
        cases e : M g' b with
        | none => rfl
        | some ob => rw [QS hdj b ob e] at z; cases z) id
    have hact : ({ a with defers := [{ target := .collected D, args := #[] }] ++ a.defers } : Act) = wd a (dl (some D)) := by
      show _ = ({ a with defers := a.defers ++ _ } : Act)
      rw [he.defers]; rfl
    rcases hx with ⟨e, c, hj, hml, hdj, hX⟩ | ⟨a', ⟨hml, hdj, hI⟩, hDn⟩
    · obtain ⟨w₄, hend, hinv⟩ := fin _ _ hml (by simp) hdj
      refine ⟨some c, w₄, hend, ?_⟩
      have hjs : (QgI e).isSome = true := by rw [hj]; rfl
      have hq := hQ (some D) e σ _ a w₄ (hstop D e g' hX hjs) he hinv
      rw [hact]
      cases e with
      | ret => cases hj; exact wpIn_ret hq
      | exit id => cases hj; exact wpIn_exit hq
      | _ => cases hj
    · obtain ⟨w₄, hend, hinv⟩ := fin _ _ hml (by simp) hdj
      refine ⟨none, w₄, hend, ?_⟩
      show Q .normal _ w₄
      rw [hact]
      exact hQ (some D) .normal σ _ a w₄ (hdone D a' g' hI hDn) he hinv
  rintro a1 ⟨ml, g1⟩ args mr W' ⟨hml, hdj, hI⟩ hEx hiv
  dsimp only at hml hdj hI hiv ⊢
  obtain ⟨k0, c0, hiv1⟩ := hiv.hd
  obtain ⟨k1, c1, hiv2⟩ := hiv1.hd
  obtain ⟨k2, _, _⟩ := hiv2.hd
  have e01 : mdj (J4 (wm W1) (mun (mun (QM L (.loop (rec .ready none))) (M g0)) mo)) (mun ml (M g1)) := c0 _ (.head _)
  have e02 : mdj (J4 (wm W1) (mun (mun (QM L (.loop (rec .ready none))) (M g0)) mo)) mr := c0 _ (.tail _ (.head _))
  have e12 : mdj (mun ml (M g1)) mr := c1 _ (.head _)
  have hk : ∀ q ∈ (jD, QM D (.deferred (some []))) :: rest, mle q.2 (J4 (wm W1) (mun (mun (QM L (.loop (rec .ready none))) (M g0)) mo)) :=
    Qlr (Qdd l2 (ZO (ZO dLD dDi.symm) dDo.symm).symm) fun q hq => Qdd (hi5.le q hq) (ZO (ZO (d1 q (.tail _ (.tail _ (.tail _ hq)))) (d4 q hq)) (d3 q (.tail _ hq))).symm
  have hlen := hE a1 args mr hEx
  have hLr : W'.heap[L]? = some (.loop (rec .ready none)) := (k1.trans (Qc _)) L _ (QR _ _ _ _ (by rw [hml]; exact QJ _ _))
  have hM1 : mle (M g1) (wm W') := (QS hdj).trans k1
  have hml1 : mle ml (wm W') := (QR _ _).trans k1
  have dmr : mdj ml mr := fun b => (e12 b).imp (fun z => by
    cases e : ml b with
    | none => rfl
    | some ob => rw [QR ml (M g1) b ob e] at z; cases z) id
  have dMr : mdj (M g1) mr := fun b => (e12 b).imp (fun z => by
    cases e : M g1 b with
    | none => rfl
    | some ob => rw [QS hdj b ob e] at z; cases z) id
  obtain ⟨hand, hhand⟩ : ∃ x, x = mun (mun ml (M g1)) mr := ⟨_, rfl⟩
  obtain ⟨rs, hrs⟩ : ∃ x, x = (jD, QM D (.deferred (some []))) :: rest := ⟨_, rfl⟩
  have hR5 : Inv w0 rs W1 := by rw [hrs]; exact Inv.mk' hi5 l2 fun q hq => d2 q (.tail _ (.tail _ hq))
  rw [← hrs] at hk
  have hrW : ∀ q ∈ rs, mle q.2 (wm W') := fun q hq => (hk q hq).trans k0
  have hrh : ∀ q ∈ rs, mdj q.2 hand := fun q hq => by
    rw [hhand]; exact (ZO (e01.symm.mono (Qc _) (hk q hq)) (e02.symm.mono (Qc _) (hk q hq))).symm
  have hrp : (rs.map Prod.snd).Pairwise mdj := List.pairwise_map.2 hR5.dj
  obtain ⟨mo', hmo'⟩ : ∃ x, x = J4 (J4 (wm W') hand) (Zc (rs.map Prod.snd)) := ⟨_, rfl⟩
  have ho1 : mle mo' (wm W') := by rw [hmo']; exact (QbP _ _).trans (QbP _ _)
  have ho2 : mdj mo' hand := by rw [hmo']; exact (Qhx _ _).mono (QbP _ _) (Qc _)
  have ho3 : ∀ q ∈ rs, mdj mo' q.2 := fun q hq => by
    rw [hmo']; exact (Qhx _ _).mono (Qc _) ((QaP hrp).1 _ (List.mem_map_of_mem hq))
  have hsub : ∀ (x : Mem), mle x hand → ∀ q ∈ rs, mdj x q.2 := fun x hx q hq => ((hrh q hq).mono (Qc _) hx).symm
  have hu1 : mle ml hand := by rw [hhand]; exact (QR _ _).trans (QR _ _)
  have hu2 : mle (M g1) hand := by rw [hhand]; exact (QS hdj).trans (QR _ _)
  have hu3 : mle mr hand := by rw [hhand]; exact QS e12
  have hrsW : Inv W' rs W' := ⟨rfl, rfl, rfl, Nat.le_refl _, hrW, hR5.dj⟩
  have hΩ : ∀ ml', mle ml' (wm W') → mdj ml' (M g1) → mdj ml' mr → (∀ q ∈ rs, mdj ml' q.2) → mdj mo' ml' → Inv W' ((jR, mr) :: (o, mo') :: (jL, ml') :: (i, M g1) :: rs) W' := fun ml' q1 q2 q3 q4 q5 =>
    (((hrsW.mk' hM1 (hsub _ hu2)).mk' q1 (Qlr q2 q4)).mk' ho1 (Qlr q5 (Qlr (ho2.mono (Qc _) hu2) ho3))).mk' k2 (Qlr (ho2.mono (Qc _) hu3).symm (Qlr q3.symm (Qlr dMr.symm (hsub _ hu3))))
  have hΩ0 := hΩ ml hml1 hdj dmr (hsub _ hu1) (ho2.mono (Qc _) hu1)
  have hy := run_yield (P := P) (args := args.toArray) hLr (by rw [hrec]; simp [hlen])
  rw [hrec] at hy
  refine ⟨fn, _, assign, body, hy, roundIn_of_wpIn (F := Fence.wide) trivial ?_⟩
  dsimp only
  rw [QoI]
  have hpn : ∀ q ∈ p.zip args, q.1 < n := fun q hq => by
    have h1 := List.all_eq_true.1 hp q.1 (List.of_mem_zip hq).1
    simpa using h1
  have heA : Zp n ((p.zip args).reverse ++ σ) ({ tmps := (p.zip args).foldl (fun t q => t.setIfInBounds q.1 q.2) a.tmps, defers := [] } : Act) := by
    have := Qk2 (p.zip args) he hpn
    rw [he.defers] at this
    exact this
  have hlift : ∀ (c : Code) (Q' : Exit → Act → World → Prop) (b : Act) (Wx : World), c.wpIn (fen (some L)) 0 P Q' b Wx → c.wpIn (Fence.wide.inRound L) 0 P Q' b Wx := fun _ _ _ _ h => h
  refine hlift _ _ _ _ ?_
  have hA := hassign W' L args _ hlen (Exit.then (fun a₁ w₁ => ∃ w₂, (Instr.beginRound L).run P w₁ = .ok () w₂ ∧ body.wpIn (Fence.wide.inRound L) 0 P (roundPost P L fun e W'' => ∃ v m', e = .returned v ∧ (∃ g' : Mem × G, m' = mun g'.1 (M g'.2) ∧ ((v = .bool true ∧ (g'.1 = QM L (.loop (rec .ready none)) ∧ mdj g'.1 (M g'.2) ∧ I (nx a1) g'.2)) ∨ (v = .bool false ∧ ∃ e c, QgI e = some c ∧ g'.1 = QM L (.loop (rec .done (some c))) ∧ mdj g'.1 (M g'.2) ∧ X e g'.2))) ∧ Upd W' (mun (mun ml (M g1)) mr) W'' m') a₁ w₂) fun _ _ _ => False) ?_ _ W' heA hΩ0
  · rw [show dl none = [] from rfl, Qfo] at hA; rw [hrec] at hA ⊢; exact hA
  rintro d' e σ' Ω' b W1' ⟨rfl, rfl, hsub', rfl⟩ heb hib
  rw [show dl none = [] from rfl, Qfo]
  obtain ⟨b1, b2, hib1⟩ := hib.hd
  obtain ⟨b3, b4, hib2⟩ := hib1.hd
  obtain ⟨b5, b6, hib3⟩ := hib2.hd
  have hL1 : W1'.heap[L]? = some (.loop (rec .ready none)) := b5 L _ (by rw [hml]; exact QJ _ _)
  refine ⟨W1'.putObj L (.loop { rec .ready none with state := .busy }), run_beginRound hL1 (by rw [hrec]), ?_⟩
  have fr : ∀ x, mdj ml x → x L = none := fun x hx => QcE (L := L) (o := .loop (rec .ready none)) (by rw [← hml]; exact hx)
  have hib' : Inv W' ((jR, mr) :: (o, mo') :: (jL, QM L (.loop { rec .ready none with state := .busy })) :: (i, M g1) :: rs) (W1'.putObj L (.loop { rec .ready none with state := .busy })) := by
    have sw : ∀ x, mdj ml x → mdj (QM L (.loop { rec .ready none with state := .busy })) x := fun x hx => QkR (o := .loop (rec .ready none)) (by rw [← hml]; exact hx)
    have z1 : mdj ml (M g1) := b6 _ (.head _)
    refine (((Inv.move (W' := W1'.putObj L (.loop { rec .ready none with state := .busy })) hib3 rfl rfl rfl (by rw [World.putObj_size]; exact Nat.le_refl _) fun q hq => Qdz (hib3.le q hq) (fr _ (b6 q hq))).mk' (QmW (hml ▸ b5)) fun q hq => sw _ (b6 q hq)).mk' (Qdz b3 (fr _ (b4 _ (.head _)).symm)) (Qlr (sw _ (b4 _ (.head _)).symm).symm fun q hq => b4 q (.tail _ hq))).mk' (Qdz b1 (fr _ (b2 _ (.tail _ (.head _))).symm)) (Qlr (b2 _ (.head _)) (Qlr (sw _ (b2 _ (.tail _ (.head _))).symm).symm fun q hq => b2 q (.tail _ (.tail _ hq))))
  have hB := hbody W' L D a1 g1 args mr (QM L (.loop { rec .ready none with state := .busy })) mo' hI hEx
  rw [← hrs] at hB
  have hB2 := hB (roundPost P L fun e W'' => ∃ v m', e = .returned v ∧ (∃ g' : Mem × G, m' = mun g'.1 (M g'.2) ∧ ((v = .bool true ∧ (g'.1 = QM L (.loop (rec .ready none)) ∧ mdj g'.1 (M g'.2) ∧ I (nx a1) g'.2)) ∨ (v = .bool false ∧ ∃ e c, QgI e = some c ∧ g'.1 = QM L (.loop (rec .done (some c))) ∧ mdj g'.1 (M g'.2) ∧ X e g'.2))) ∧ Upd W' (mun (mun ml (M g1)) mr) W'' m') ?_ b _ (heb.sub hsub') hib'
  · rw [show dl none = [] from rfl, Qfo] at hB2; exact hB2
  rintro d'' e2 σ2 Ω2 b2' W3 ⟨rfl, hto⟩ heb2 hib4
  obtain ⟨g', hto, hx⟩ := hto W3 hib4
  obtain ⟨q1, q2, hq1⟩ := hto.hd
  obtain ⟨q3, q4, hq2⟩ := hq1.hd
  obtain ⟨q5, q6, hq3⟩ := hq2.hd
  have hL3 : W3.heap[L]? = some (.loop { rec .ready none with state := .busy }) := q3 L _ (QJ _ _)
  have dM : mdj (QM L (.loop { rec .ready none with state := .busy })) (M g') := q4 _ (.head _)
  have done : ∀ (jump : Option Code), ∃ w4, (Instr.endRound L jump).run P W3 = .ok (.bool jump.isNone) w4 ∧ mdj (QM L (.loop (rec (if jump.isNone then .ready else .done) jump))) (M g') ∧
      Upd W' (mun (mun ml (M g1)) mr) w4 (mun (QM L (.loop (rec (if jump.isNone then .ready else .done) jump))) (M g')) := fun jump => by
    have hend := run_endRound (P := P) jump hL3
    refine ⟨W3.putObj L (.loop (rec (if jump.isNone then .ready else .done) jump)), by rw [hrec] at hend ⊢; exact hend, QkR dM, ?_⟩
    have hfree : ∀ x, mdj (QM L (.loop { rec .ready none with state := .busy })) x → x L = none := fun x hx => QcE hx
    rw [← hhand]
    refine ⟨hq3.os, hq3.tape, hq3.output, by rw [World.putObj_size]; exact hq3.size, ?_, YZ ?_ (Qdz q5 (hfree _ dM)), ?_⟩
    · intro x ob hxo
      cases hr : Zc (rs.map Prod.snd) x with
      | some ob' =>
        have hle : mle (Zc (rs.map Prod.snd)) (J4 (wm W') hand) := Qdb fun y hy => by
          obtain ⟨q, hq, rfl⟩ := List.mem_map.1 hy
          exact Qdd (hrW q hq) (hrh q hq)
        have e1 := hle x ob' hr
        rw [hxo] at e1; cases e1
        refine Qdz (Qdb fun y hy => ?_) ?_ x ob hr
        · obtain ⟨q, hq, rfl⟩ := List.mem_map.1 hy
          exact hq3.le q hq
        · have : mdj (Zc (rs.map Prod.snd)) (QM L (.loop { rec .ready none with state := .busy })) := Qaa fun y hy => by
            obtain ⟨q, hq, rfl⟩ := List.mem_map.1 hy
            exact (q4 q (.tail _ hq)).symm
          exact hfree _ this.symm
      | none =>
        have : mo' x = some ob := by rw [hmo']; simp only [J4, hr]; exact hxo
        exact Qdz q1 (hfree _ (q2 _ (.head _)).symm) x ob this
    · have := QmW (W := W3) (L := L) (o' := .loop { rec .ready none with state := .busy }) (o := .loop { rec .ready none with state := if jump.isNone then .ready else .done, pending := jump }) q3
      rw [hrec] at this ⊢; exact this
    · intro x
      by_cases hxL : x = L
      · refine .inr (.inl ?_)
        have := hu1 L _ (by rw [hml]; exact QJ _ _)
        rw [hxL, this]; simp
      · cases hM : M g' x with
        | none => left; simp only [mun, Qdc _ hxL]; exact hM
        | some ob =>
          right
          rcases Nat.lt_or_ge x W'.heap.size with hlt | hge
          · left
            intro hnone
            have hw : wm W' x = some W'.heap[x] := Array.getElem?_eq_getElem hlt
            have hbig : J4 (wm W') hand x = some W'.heap[x] := by simp only [J4, hnone]; exact hw
            cases hr : Zc (rs.map Prod.snd) x with
            | some ob' =>
              have : mdj (Zc (rs.map Prod.snd)) (M g') := Qaa fun y hy => by
                obtain ⟨q, hq, rfl⟩ := List.mem_map.1 hy
                exact (q6 q hq).symm
              rcases this x with h | h
              · rw [hr] at h; cases h
              · rw [hM] at h; cases h
            | none =>
              have h1 : mo' x = some W'.heap[x] := by rw [hmo']; simp only [J4, hr]; exact hbig
              rcases (q2 _ (.tail _ (.head _))) x with h | h
              · rw [h1] at h; cases h
              · exact absurd (hM.symm.trans h) (by simp)
          · exact .inr hge
  rw [show dl none = [] from rfl, Qfo]
  rcases hx with ⟨rfl, hI'⟩ | ⟨hj, hX'⟩
  · obtain ⟨w4, h1, h2, h3⟩ := done none
    exact ⟨_, w4, h1, _, _, rfl, ⟨(_, g'), rfl, .inl ⟨rfl, rfl, h2, hI'⟩⟩, h3⟩
  · cases e2 with
    | ret =>
      obtain ⟨w4, h1, h2, h3⟩ := done (some .ret)
      exact ⟨_, w4, h1, _, _, rfl, ⟨(_, g'), rfl, .inr ⟨rfl, .ret, _, rfl, rfl, h2, hX'⟩⟩, h3⟩
    | exit id =>
      obtain ⟨w4, h1, h2, h3⟩ := done (some (.exit id))
      exact ⟨_, w4, h1, _, _, rfl, ⟨(_, g'), rfl, .inr ⟨rfl, .exit id, _, rfl, rfl, h2, hX'⟩⟩, h3⟩
    | _ => cases hj
end
theorem QjR (m:Mem):mun m Qx=m:=by
 funext g;unfold mun Qx;cases m g <;> rfl
section
variable {P : Program} {n : Nat} {w0 : World} {σ : Env} {Ω : Ctx} {K : Env → Ctx → Prop} {R : Option Nat → Exit → Env → Ctx → Prop}
theorem VL.pre {l0:List Oper} (k:Nat) {r:List Nat} (hd:QbO l0.toArray=true) (h:VO P n w0 l0.toArray (l0.take k) σ Ω (fun σ' Ω'=>VL P n w0 l0.toArray r σ' Ω' K)):VL P n w0 l0.toArray (List.range' 0 (l0.take k).length++r) σ Ω K:=
 VL.of 0 (fun j o h'=>by
  have hj:j < k:=by
   rcases Nat.lt_or_ge j k with q | q
   ·exact q
   ·rw [List.getElem?_eq_none (by rw [List.length_take];omega)] at h';cases h'
  rw [List.getElem?_take_of_lt hj] at h'
  simpa using h') hd h
theorem VL.post {l0:List Oper} (k:Nat) {r:List Nat} (hr:List.range' k (l0.drop k).length=r) (hd:QbO l0.toArray=true) (h:VO P n w0 l0.toArray (l0.drop k) σ Ω K):VL P n w0 l0.toArray r σ Ω K:=by
 have:=VL.of (P:=P) (n:=n) (w0:=w0) (σ:=σ) (Ω:=Ω) (K:=K) (ops:=l0.toArray) (l:=l0.drop k) (r:=[]) k (fun j o h'=>by rw [List.getElem?_drop] at h';simpa using h') hd
  (fun Q hQ a W he hi=>h Q (fun σ' Ω' a W hk he hi=>hQ σ' Ω' a W (VL.nil hk) he hi) a W he hi)
 rw [List.append_nil,hr] at this
 exact this
theorem VL.yield2 {ops:Array Oper} {i:Nat} {r:List Nat} {d:Nat} {x:Operand} {xs:List Operand} {ats:Array TypeId} {ty:TypeId} {pos:String} {af:Array Edge} {gd:Option (Nat × Bool)} {l:Nat} {vs:List Value} {m q:Mem} {Post:Value→Mem→Prop} (c e:Nat)
  (ho:ops[i]? =some ⟨some d,.call { callee:= .value x,args:=xs.toArray,argTypes:=ats },ty,pos,af,gd⟩) (hd:Nat.blt d n=true) (hg:gd=none∨∃ j b,gd=some (j,b)∧Qfc σ ops j b) (hx:ev σ x=some (.func (.yield l) #[] #[]))
  (ha:evs σ xs=some vs) (hm:Yt Ω c=some m) (hq:Yt (ZM Ω c) e=some q) (hy:∀ W,Inv w0 Ω W→YldR P l vs W (mun m q) Post) (h:∀ v m',Post v m'→VL P n w0 ops r ((d,v)::σ) ((c,m')::ZM (ZM Ω c) e) K):VL P n w0 ops (i::r) σ Ω K:=
 fun Q hQ a W he hi=>by
  unfold wpOpsIn
  rw [ho]
  dsimp only
  have hw:Region.wanted ⟨some d,.call { callee:= .value x,args:=xs.toArray,argTypes:=ats },ty,pos,af,gd⟩ (yielded ops a.tmps)=true:=by
   rcases hg with rfl | ⟨j,b,rfl,hj⟩
   ·rfl
   ·simp [Region.wanted,Ye he hj]
  rw [if_pos hw]
  refine ⟨fun _ _=>trivial,?_⟩
  rw [show (fen none).round=none from rfl,Oper.semAt_none]
  obtain ⟨fn,tmps,assign,body,h1,h2⟩:=hy W hi
  have e':execOp a.eval ⟨some d,.call { callee:= .value x,args:=xs.toArray,argTypes:=ats },ty,pos,af,gd⟩=Instr.yield l vs.toArray:=by
   have e1:a.eval x= .func (.yield l) #[] #[]:=he.eval hx
   have e2: #[]++xs.toArray.map a.eval++ #[]=vs.toArray:=by rw [← he.evals ha];simp
   rw [← e2]
   show (do let d ← Deferred.ofValue (a.eval x) (xs.toArray.map a.eval);invoke d.target d.args)=_
   rw [e1];rfl
  rw [e',h1]
  refine ⟨fun q=>(by cases q),RoundIn.mono h2 ?_⟩
  rintro e' W' ⟨v,m',rfl,hp,hu⟩
  have hj:=hi.joinK c hm hq
  have hcs:∀ (y:Mem) (Ω':Ctx),Qa1 ((c,mun m q)::Ω') c y=(c,y)::Ω':=fun y Ω'=>by simp [Qa1,Nat.beq_refl]
  have:=hj.upd (i:=c) (by simp [Yt,Nat.beq_refl]) hu
  rw [hcs] at this
  exact h v m' hp Q hQ _ W' (he.put hd v) this
end
theorem Inv.three {w0 W:World} {i j k i' j' k':Nat} {a b c:Mem} (h:Inv w0 [(i,a),(j,b),(k,c)] W):Inv w0 [(i',a),(j',b),(k',c)] W:=by
 obtain ⟨a1,a2,h1⟩:=h.hd
 obtain ⟨b1,b2,h2⟩:=h1.hd
 obtain ⟨c1,_,h3⟩:=h2.hd
 have e1:mdj a b:=a2 (j,b) (.head _)
 have e2:mdj a c:=a2 (k,c) (.tail _ (.head _))
 have e3:mdj b c:=b2 (k,c) (.head _)
 exact ((h3.mk' (i:=k') c1 (fun _ q=>by cases q)).mk' (i:=j') b1 (Qlr e3 fun _ q=>by cases q)).mk' a1 (Qlr e1 (Qlr e2 fun _ q=>by cases q))
theorem Inv.sbK {w0 W:World} {Ω ΩS:Ctx} (l:List Nat) (h:Inv w0 Ω W) (e:QhQ Ω l=ΩS:=by kernel_rfl):Inv w0 ΩS W:=e ▸ h.sub l
section
variable (P : Program) (n : Nat) (w0 : World)
def VE (ops : Array Oper) (ΩS : Ctx) (t : Nat) (listed : Array Bool) (m : Nat) (σ : Env) (Ω : Ctx) (K : Env → Ctx → Prop) : Prop :=
  ∀ Q : Exit → Act → World → Prop, (∀ c a w, ¬ Q (.panic c) a w) → (∀ σ' Ω' a W, K σ' Ω' → Zp n σ' a → Inv w0 Ω' W → Q .normal a W) →
    ∀ a W, Zp n σ a → Inv w0 Ω W → Inv w0 (Qd1 ops ΩS listed) W → HeadInv .any ops t listed → Region.noSelect ops = true → (t < ops.size → Region.sinkB .any ops t = true ∧ Region.chainB .any ops t = true) → Qce P ops Q (fun L w => Inv w0 (Qd1 ops ΩS L) w) t (m + (ops.size - t)) listed a W
end
section
variable {P : Program} {n : Nat} {w0 : World} {σ : Env} {Ω ΩS : Ctx} {ops : Array Oper} {t : Nat} {K : Env → Ctx → Prop}
theorem VE.y {listed:Array Bool} {m:Nat} (i:Nat) {d:Nat} {op:Op} {ty:TypeId} {pos:String} {af:Array Edge} {gd:Option (Nat × Bool)} {v:Value} (hd:Nat.blt d n=true) (ho:ops[i]? =some ⟨some d,op,ty,pos,af,gd⟩)
  (hg:gd=none∨∃ j b,gd=some (j,b)∧Qfc σ ops j b) (hk:(Nat.blt i t && (Region.ready .any ops listed).contains i && Region.free .any ops listed i)=true) (hy:Yld P n w0 σ (QeK ΩS) ⟨some d,op,ty,pos,af,gd⟩ v) (h:VE P n w0 ops ΩS t (listed.setIfInBounds i true) m ((d,v)::σ) Ω K):VE P n w0 ops ΩS t listed (m+1) σ Ω K:=
 fun Q hn hQ a W he hi hiS hh hsel hsc=>by
  simp only [Bool.and_eq_true] at hk
  obtain ⟨⟨hit,hr⟩,hf⟩:=hk
  have hit':i < t:=by simpa using hit
  have hr':i∈Region.ready .any ops listed:=by simpa using hr
  have hyi:YieldsIf P ops (Inv w0 (QeK ΩS)) ⟨some d,op,ty,pos,af,gd⟩ v a:=by
   refine .inl ⟨?_,fun w hw=>hy a w he hw⟩
   rcases hg with rfl | ⟨j,b,rfl,hg⟩
   ·simp [Region.wanted]
   ·simp [Region.wanted,Ye he hg]
  rw [show m+1+(ops.size - t)=(m+(ops.size - t))+1 by omega]
  have hns:QiK ops i=false:=by unfold QiK;rw [ho]
  exact Qag ho hit' (Nat.lt_or_ge t ops.size) (Region.noSelect_spec hsel) (fun _ _ _ _ q=>q.curLow) (fun L w=>by rw [Qae hns]) (fun c a w hq=>absurd hq (hn c _ w)) (fun h=>(hsc h).1) (fun h=>(hsc h).2) _ listed a W hh (Region.free_spec ho hf) hr' hyi hiS
   (h Q hn hQ _ W (he.put hd v) hi (by rw [Qae hns];exact hiS) (hh.set hr' hit') hsel hsc)
theorem VE.yH {listed:Array Bool} {m:Nat} (i:Nat) {d:Nat} {op:Op} {ty:TypeId} {pos:String} {af:Array Edge} {gd:Option (Nat × Bool)} {v:Value} (hd:Nat.blt d n=true) (ho:ops[i]? =some ⟨some d,op,ty,pos,af,gd⟩)
  (hg:gd=none∨∃ j b,gd=some (j,b)∧Qfc σ ops j b) (hk:(Nat.blt i t && (Region.ready .any ops listed).contains i && Region.free .any ops listed i)=true) (hp:QpU ops i=true) (hy:Yld P n w0 σ ΩS ⟨some d,op,ty,pos,af,gd⟩ v) (h:VE P n w0 ops ΩS t (listed.setIfInBounds i true) m ((d,v)::σ) Ω K):VE P n w0 ops ΩS t listed (m+1) σ Ω K:=
 fun Q hn hQ a W he hi hiS hh hsel hsc=>by
  simp only [Bool.and_eq_true] at hk
  obtain ⟨⟨hit,hr⟩,hf⟩:=hk
  have hit':i < t:=by simpa using hit
  have hr':i∈Region.ready .any ops listed:=by simpa using hr
  have hyi:YieldsIf P ops (Inv w0 ΩS) ⟨some d,op,ty,pos,af,gd⟩ v a:=by
   refine .inl ⟨?_,fun w hw=>hy a w he hw⟩
   rcases hg with rfl | ⟨j,b,rfl,hg⟩
   ·simp [Region.wanted]
   ·simp [Region.wanted,Ye he hg]
  rw [show m+1+(ops.size - t)=(m+(ops.size - t))+1 by omega]
  have hns:QiK ops i=false:=by unfold QiK;rw [ho]
  exact Qag ho hit' (Nat.lt_or_ge t ops.size) (Region.noSelect_spec hsel) (fun L w hhL hu q=>by unfold Qd1 at q;rw [Qiv hp hhL hu] at q;exact q) (fun L w=>by rw [Qae hns]) (fun c a w hq=>absurd hq (hn c _ w)) (fun h=>(hsc h).1) (fun h=>(hsc h).2) _ listed a W hh (Region.free_spec ho hf) hr' hyi hiS
   (h Q hn hQ _ W (he.put hd v) hi (by rw [Qae hns];exact hiS) (hh.set hr' hit') hsel hsc)
def AllL {α : Type} (p : α → Prop) : List α → Prop
  | [] => True
  | a :: r => p a ∧ AllL p r
theorem AllL.mem {α:Type} {p:α→Prop}:∀ {l:List α},AllL p l→∀ a∈l,p a
 | _::_,⟨h,_⟩,_,.head _=>h
 | _::_,⟨_,h⟩,_,.tail _ ha=>h.mem _ ha
def Qoh (ops : Array Oper) (t : Nat) : Bool := Nat.ble t ops.size && Region.noSelect ops && (Nat.ble ops.size t || (Region.sinkB .any ops t && Region.chainB .any ops t))
theorem VE.start {l:List Oper} (ΩS:Ctx) (t:Nat) (hs:Qoh l.toArray t=true) (hΩ:∀ W,Inv w0 Ω W→Inv w0 ΩS W) (h:VE P n w0 l.toArray ΩS t (Array.replicate l.toArray.size false) t σ Ω K) (Q:Exit→Act→World→Prop) (hn:∀ c a w,¬ Q (.panic c) a w)
  (hQ:∀ σ' Ω' a W,K σ' Ω'→Zp n σ' a→Inv w0 Ω' W→Q .normal a W) (a:Act) (W:World) (he:Zp n σ a) (hi:Inv w0 Ω W):wpAny P .any l.toArray Q l.toArray.size (Array.replicate l.toArray.size false) a W:=by
 simp only [Qoh,Bool.and_eq_true,Bool.or_eq_true] at hs
 obtain ⟨⟨h0,h1⟩,h2⟩:=hs
 have hle:=Nat.le_of_ble_eq_true h0
 have:=h Q hn hQ a W he hi (hΩ W hi).cur (HeadInv.start _ _) h1 (fun hlt=>by
  rcases h2 with h2 | h2
  ·have:=Nat.le_of_ble_eq_true h2;omega
  ·exact h2)
 rw [show t+(l.toArray.size - t)=l.toArray.size by omega] at this
 exact Qcw _ _ _ _ this
theorem VC.regE {id:Nat} {l:List Oper} {R:Exit→Env→Ctx→Prop} (ΩS:Ctx) (t:Nat) (hm:P.follows .mixedOrders=true) (hs:Qoh l.toArray t=true) (hΩ:∀ W,Inv w0 Ω W→Inv w0 ΩS W)
  (h:VE P n w0 l.toArray ΩS t (Array.replicate l.toArray.size false) t σ Ω (R .normal)):VC P n w0 (.region id l.toArray true) R σ Ω:=
 fun Q hQ a W he hi=>by
  let Q':Exit→Act→World→Prop:=fun e a w=>match e with | .normal=>Q .normal a w | _=>False
  refine wp_mono (Q:=Q') ?_ (fun e a w hq=>by cases e <;> first | exact hq | exact hq.elim)
  exact wp_region_any hm (h.start ΩS t hs hΩ Q' (fun _ _ _ hq=>hq) (fun σ' Ω' a W hk=>hQ _ σ' Ω' a W hk) a W.drew he hi.drew)
theorem VX.regE {id:Nat} {l:List Oper} {ρ d:Option Nat} {R:Option Nat→Exit→Env→Ctx→Prop} (ΩS:Ctx) (t:Nat) (hm:P.follows .mixedOrders=true) (hs:Qoh l.toArray t=true) (hΩ:∀ W,Inv w0 Ω W→Inv w0 ΩS W)
  (h:VE P n w0 l.toArray ΩS t (Array.replicate l.toArray.size false) t σ Ω (R d .normal)) (hnd:QbO l.toArray=true:=by kernel_rfl):VX P n w0 ρ (.region id l.toArray true) R d σ Ω:=
 fun Q hQ a W he hi=>by
  let Q':Exit→Act→World→Prop:=fun e a w=>e= .normal∧∃ σ' Ω',R d .normal σ' Ω'∧Zp n σ' a∧Inv w0 Ω' w
  have hA:=h.start ΩS t hs hΩ Q' (fun _ _ _ hq=>by cases hq.1) (fun σ' Ω' a W hk he hi=>⟨rfl,σ',Ω',hk,he,hi⟩) a W.drew he hi.drew
  refine wpIn_region_draw fun t'=>QkO hnd (Q:=Q') (fun _ _ _ q=>by cases q.1) (fun _ _ q=>by cases q.1) (fun a w ⟨_,σ',Ω',hk,he,hi⟩=>hQ _ _ σ' Ω' a w hk he hi) _ a _ ?_
  simp only [Region.schedule,hm,Bool.true_or,if_true]
  exact wpAny_sound _ t' _ a _ hA
end
section
variable {P : Program} {n : Nat} {w0 : World} {σ : Env} {Ω ΩS : Ctx} {ops : Array Oper} {K : Env → Ctx → Prop}
theorem VD.store {tt q:Nat} {ss:List (Nat × Bool)} {ty:TypeId} {pos:String} {af:Array Edge} {t:TypeId} {x y:Operand} {g off:Nat} {v:Value} {k:Nat} (i:Nat) {c:Array Value} {E:TypeId} {c':List Value}
  (ho:ops[q]? =some ⟨none,.store t x y,ty,pos,af,none⟩)
  (hx:ev σ x=some (.pointer (some ⟨g,off,none⟩))) (hy:ev σ y=some v) (ht:tk P t=some (some k)∨(tk P t=some none∧k=1)) (hk:Nat.beq v.cells.size k=true) (hn:nice v=true)
  (hm:Yt Ω i=some (QM g (.cells c E (0,0)))) (hl:Nat.ble (off+k) c.size=true) (hc:Jw c.toList off v.cells.toList=c')
  (hS:∀ W,Inv w0 (Qa1 Ω i (QM g (.cells c'.toArray E (0,0)))) W→Inv w0 ΩS W)
  (h:VD P n w0 ops ΩS tt ss σ (Qa1 Ω i (QM g (.cells c'.toArray E (0,0)))) K):VD P n w0 ops ΩS tt ((q,false)::ss) σ Ω K:=
 VD.s (fun _=>σ) ho (fun _ _ he=>he) (.inl rfl) (Stp.store i hx hy ht hk hn hm (QJ _ _) hl) (fun _ _ ⟨_,hΩ⟩ W hW=>hS W (by rw [hΩ,X9,hc] at hW;exact hW)) (fun _ _ ⟨_,hΩ⟩=>by rw [hΩ,X9,hc];exact h)
theorem VD.storeH {tt q:Nat} {ss:List (Nat × Bool)} {ty:TypeId} {pos:String} {af:Array Edge} {t:TypeId} {x y:Operand} {g off:Nat} {v:Value} {k:Nat} (i:Nat) {c:Array Value} {E:TypeId} {c':List Value}
  (ho:ops[q]? =some ⟨none,.store t x y,ty,pos,af,none⟩)
  (hx:ev σ x=some (.pointer (some ⟨g,off,none⟩))) (hy:ev σ y=some v) (ht:tk P t=some (some k)∨(tk P t=some none∧k=1)) (hk:Nat.beq v.cells.size k=true) (hn:nice v=true)
  (hm:Yt Ω i=some (QM g (.cells c E (0,0)))) (hl:Nat.ble (off+k) c.size=true) (hc:Jw c.toList off v.cells.toList=c')
  (hS:∀ W,Inv w0 (Qa1 Ω i (QM g (.cells c'.toArray E (0,0)))) W→Inv w0 (QeK ΩS) W)
  (h:VD P n w0 ops (QeK ΩS) tt ss σ (Qa1 Ω i (QM g (.cells c'.toArray E (0,0)))) K):VD P n w0 ops ΩS tt ((q,false)::ss) σ Ω K:=
 VD.sH (fun _=>σ) ho (fun _ _ he=>he) rfl (by unfold QiK;rw [ho]) (Stp.store i hx hy ht hk hn hm (QJ _ _) hl) (fun _ _ ⟨_,hΩ⟩ W hW=>hS W (by rw [hΩ,X9,hc] at hW;exact hW)) (fun _ _ ⟨_,hΩ⟩=>by rw [hΩ,X9,hc];exact h)
end
def KeptA (sz : Nat) (m : Mem) (v : Value) (len : Nat) (cs : List Value) : Prop := ∃ A cap, v = .slice A len cap ∧ len ≤ cap ∧ cap ≤ maxLen ∧ ((len = 0 ∧ cs = []) ∨ ∃ g off, A = some ⟨g, off, none⟩ ∧ JH m g off (len * sz) cs)
theorem KeptA.rd {e:Ty} {m:Mem} {A:Option Addr} {c:Nat} {cs:List Value} {xs:List e.Den} (h:KeptA e.sz m (.slice A xs.length c) xs.length cs) (hc:Je (Rd e m) cs xs):Rd (.sl e) m [.slice A xs.length c] xs:=by
 obtain ⟨A',c',h1,h2,h3,h4⟩:=h
 simp only [Value.slice.injEq,true_and] at h1
 obtain ⟨rfl,rfl⟩:=h1
 refine ⟨_,_,rfl,h2,h3,?_⟩
 rcases h4 with ⟨h4,_⟩ | ⟨g,off,h4,h5⟩
 ·exact .inl h4
 ·exact .inr ⟨g,off,cs,h4,h5,hc⟩
end Go.Proofs.YtdoamgdanlnlfaaGreat
