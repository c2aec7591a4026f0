/- Part 5 of the proof of LRunScript: what it needs of the library, the walks and the plain laws. Conditions: those named in each theorem. -/
import Derived.Test.YtgmdjhdgaddigaaGreatLRunScriptM4
set_option linter.unusedVariables false
set_option linter.unusedSimpArgs false
set_option maxRecDepth 4000
namespace Go.Proofs.YtgmdjhdgaddigaaGreat
theorem Qn7:JX Tryz.prog 108=true:=by kernel_rfl
theorem Qld:JX Tryz.prog 109=true:=by kernel_rfl
theorem Qk1:JX Tryz.prog 95=true:=by kernel_rfl
theorem fnOk97:JX Tryz.prog 97=true:=by kernel_rfl
theorem ZD {P:Prop} (h:P:=by congr 1;first | exact (Qb2 (by omega)).symm | exact (Qdb (by omega) (by omega)).symm | exact (Qac (by omega) (Qih ‹d0.2.2[k]? =some _› (by assumption))).symm | exact (Qac (by omega) (Qig ‹d0.2.2[k]? =some _› (by omega) (by assumption) (by assumption))).symm | exact (Qb3 (by omega) (by omega) (by have h_:=hu;rw [List.take_of_length_le (by omega)] at h_;exact h_)).symm):P:=h
set_option maxHeartbeats 1000000 in
theorem QcU (W:World) {v0:List Value} {d0:Zn} (h0:Rd ZL (wm W) v0 d0):Qg Tryz.prog 95 [.agg v0.toArray] W (Qr) (fun v m'=>v= .int .i64 (QF d0)):=by
 obtain ⟨p0_A2,p0_c2,rfl,p0_0,p0_1,p0_2⟩:=ZF (x0:=d0.1) (x1:=d0.2.1) (x2:=d0.2.2) h0
 simp only [inK] at p0_0 p0_1
 have p0_r2:=Rd.room p0_2
 refine Qg.ofA (n:=57) Tryz.func95 rfl rfl rfl ?_
 refine VC.rs ?_
 refine VO.box (cs:=[.int .i64 (d0.1),.int .i64 (d0.2.1),.slice p0_A2 (d0.2.2.length) (p0_c2)]) 102 rfl rfl rfl (fun g1=>?_)
 refine VO.as (VO.k3 0 1 2 (VC.seq (VC.rs (VO.z (.fa rfl Jl rfl) (VO.z (.ld1 102 rfl YY rfl (Qa rfl rfl)) (VO.z (.lenS rfl Ji) (VO.z (.gtr rfl rfl) (VO.k4 0 1 2 7 ?_))))))))
 refine VC.cond rfl (fun hc3=>?_) (fun hc3=>?_)
 refine VC.rs (VO.as (VO.p2 102 0 (VO.k4 0 1 2 7 (VC.ret (QS ?_)))))
 exact Xz 2 rfl (by first | rfl | exact ZD)
 refine VC.skip (Qj (VC.seq (VC.rs (VO.z (.fa rfl Jl rfl) (VO.z (.ld1 102 rfl tk3 rfl (Qa rfl rfl)) (VO.z (.lss rfl rfl) (VO.mv ?_)))))))
 refine VO.dec (t:=11) rfl (fun hc4=>?_) (fun hc4=>?_)
 refine VO.gN (VO.gN (VO.gN (VO.gN (VO.gN (VO.z (.pT rfl rfl) (VO.mv (VO.gN (VO.gN (VO.gN (VO.z (.pT rfl rfl) (VO.p2 102 0 ?_)))))))))))
 refine VO.k5 0 1 2 7 22 (VC.condT rfl (VC.rs (VO.as (VO.k5 0 1 2 7 22 (VC.ret (QS ?_))))))
 exact Xz 2 rfl (by first | rfl | exact ZD)
 refine VO.w (.fa rfl Jl rfl) (VO.w (.ld1 102 rfl tk3 rfl (Qa rfl rfl)) (VO.w (.fa rfl Jl rfl) (VO.w (.ld1 102 rfl tk3 rfl (Qa rfl rfl)) (VO.w (.lss rfl rfl) (VO.z (.pF rfl rfl) (VO.mv ?_))))))
 refine VO.dec (t:=18) rfl (fun hc5=>?_) (fun hc5=>?_)
 refine VO.gN (VO.gN (VO.gN (VO.z (.pT rfl rfl) (VO.p2 102 0 (VO.k5 0 1 2 7 22 (VC.condT rfl (VC.rs (VO.as (VO.k5 0 1 2 7 22 (VC.ret (QS ?_)))))))))))
 exact Xz 2 rfl (by first | rfl | exact ZD)
 refine VO.w (.fa rfl Jl rfl) (VO.w (.ld1 102 rfl tk3 rfl (Qa rfl rfl)) (VO.w (.gtr rfl rfl) (VO.z (.pF rfl rfl) (VO.p2 102 0 (VO.k5 0 1 2 7 22 ?_)))))
 refine VC.cond rfl (fun hc6=>?_) (fun hc6=>?_)
 refine VC.rs (VO.as (VO.k5 0 1 2 7 22 (VC.ret (QS ?_))))
 exact Xz 2 rfl (by first | rfl | exact ZD)
 refine VC.skip (Qj (VC.seq (VC.rs (VO.as (VO.k6 0 1 2 3 7 22 (VC.block ?_))))))
 refine VC.loop (G:=Nat) (fun k=>[(3,.int .i64 (((k:Nat):Int))),(0,.agg [.int .i64 (d0.1),.int .i64 (d0.2.1),.slice p0_A2 (d0.2.2.length) (p0_c2)].toArray),(1,.pointer (some ⟨g1,0,none⟩)),(7,.bool (decide (1024 < ((d0.2.2.length:Nat):Int)))),(22,.bool (decide (1048576 < d0.2.1)))]) (fun k=>[(102,QE g1 (.cells #[.int .i64 (d0.1),.int .i64 (d0.2.1),.slice p0_A2 (d0.2.2.length) (p0_c2)] 38 (0,0))),(0,wm W)]) (fun k=>(k≤d0.2.2.length)∧(Z4 (d0.2.2.take k))) (fun k=>d0.2.2.length - k) 0 (⟨by omega,by exact QdO⟩) ⟨esn,fun _ h=>h.sub [102,0]⟩ ?_
 rintro k ⟨hk,hu⟩
 refine VC.seq (VC.rs (VO.mv (VO.z (.fa rfl Jl rfl) (VO.z (.ld1 102 rfl YY rfl (Qa rfl rfl)) (VO.z (.lenS rfl Ji) (VO.z (.lss rfl rfl) (VO.k6 0 1 3 7 22 27 ?_)))))))
 refine VC.cond rfl (fun hc7=>?_) (fun hc7=>?_)
 refine VC.skip (Qj (VC.seq (VC.block (VC.seq ?_))))
 refine VC.regD _ 24 [(0,true),(1,true),(2,true),(3,true),(4,true),(5,false),(6,true),(7,true),(8,true),(9,true),(10,true),(11,true),(12,true),(13,true),(14,true),(15,true),(16,true),(17,true),(18,true),(19,true),(20,true),(21,true),(22,true),(23,true)] follows (by kernel_rfl) (fun _ h=>h.sub [102,0]) ?_
 refine VD.z rfl (.fa rfl Jl rfl) (VD.z rfl (.ld1 102 rfl YY rfl (Qa rfl rfl)) (VD.z rfl (.mv rfl) ?_))
 obtain ⟨x8,hx8⟩:∃ z_,(d0.2.2)[k]? =some z_:=⟨_,List.getElem?_eq_getElem bd⟩
 obtain ⟨gg8,oo8,ec8,ea8,hce8,hre8⟩:=p0_2.elem hx8
 cases ea8
 obtain ⟨rfl,q8_1,q8_2⟩:=JA (x0:=x8.1) (x1:=x8.2.1) (x2:=x8.2.2) hre8
 simp only [maxLen] at q8_1
 simp only [maxLen] at q8_2
 refine VD.z rfl (.ixI k rfl rfl Ji rfl bd) ?_
 refine VD.z rfl (.ldA 0 rfl YS rfl hce8) ?_
 refine VD.callN 109 rfl rfl (.inl rfl) Qeq rfl (fun _ h=>h.sub [102,0]) (fun W hW=>Y0 W (Rd.mono hre8 (hW.t 0))) (fun v9 m9 hv9=>?_)
 subst hv9
 refine VD.z rfl (.neq rfl rfl) (VD.z rfl (.mv rfl) ?_)
 refine VD.dec (s:=37) rfl (fun hc10=>?_) (fun hc10=>?_)
 refine VD.gN rfl (VD.gN rfl (VD.gN rfl ?_))
 refine VD.gn rfl rfl (.inr ⟨_,rfl,rfl⟩) ?_
 refine VD.gn rfl rfl (.inr ⟨_,rfl,rfl⟩) ?_
 refine VD.gn rfl rfl (.inr ⟨_,rfl,rfl⟩) ?_
 refine VD.gn rfl rfl (.inr ⟨_,rfl,rfl⟩) ?_
 refine VD.gn rfl rfl (.inr ⟨_,rfl,rfl⟩) ?_
 refine VD.gn rfl rfl (.inr ⟨_,rfl,rfl⟩) ?_
 refine VD.gn rfl rfl (.inr ⟨_,rfl,rfl⟩) ?_
 refine VD.gn rfl rfl (.inr ⟨_,rfl,rfl⟩) ?_
 refine VD.gn rfl rfl (.inr ⟨_,rfl,rfl⟩) ?_
 refine VD.gn rfl rfl (.inr ⟨_,rfl,rfl⟩) ?_
 refine VD.gn rfl rfl (.inr ⟨_,rfl,rfl⟩) ?_
 refine VD.gn rfl rfl (.inr ⟨_,rfl,rfl⟩) ?_
 refine VD.gn rfl rfl (.inr ⟨_,rfl,rfl⟩) ?_
 refine VD.nil rfl ?_ rfl
 refine VO.gn rfl (.inr ⟨_,rfl,rfl⟩) ?_
 refine VO.gN (VO.z (.pT rfl rfl) (VO.p2 102 0 (VO.k7 0 1 3 7 22 27 56 (Qj (VC.condT rfl (VC.rs (VO.as (VO.k8 0 1 2 3 7 22 27 56 (VC.ret (JD (QS ?_)))))))))))
 refine QS (JD (QS ?_))
 exact Xz 2 rfl (by first | rfl | exact ZD)
 refine VD.w rfl (.mv rfl) (VD.w rfl (.gtr rfl rfl) (VD.w rfl (.mv rfl) ?_))
 refine VD.dec (s:=40) rfl (fun hc11=>?_) (fun hc11=>?_)
 refine VD.w rfl (.fa rfl Jl rfl) (VD.w rfl (.ld1 102 rfl YY rfl (Qa rfl rfl)) (VD.w rfl (.mv rfl) ?_))
 refine VD.w rfl (.ixI k rfl rfl Ji rfl bd) ?_
 refine VD.w rfl (.fa rfl JM rfl) ?_
 refine VD.w rfl (.ld1 0 rfl tk9 rfl (hce8.at1 (j:=1) rfl)) ?_
 refine VD.w rfl (.fa rfl Jl rfl) (VD.w rfl (.ld1 102 rfl YY rfl (Qa rfl rfl)) (VD.w rfl (.mv rfl) ?_))
 refine VD.w rfl (.sub rfl rfl rfl ⟨bd,bd⟩) ?_
 obtain ⟨x13,hx13⟩:∃ z_,(d0.2.2)[(((k:Nat):Int) - 1).toNat]? =some z_:=⟨_,List.getElem?_eq_getElem bd⟩
 obtain ⟨gg13,oo13,ec13,ea13,hce13,hre13⟩:=p0_2.elem hx13
 cases ea13
 obtain ⟨rfl,q13_1,q13_2⟩:=JA (x0:=x13.1) (x1:=x13.2.1) (x2:=x13.2.2) hre13
 simp only [maxLen] at q13_1
 simp only [maxLen] at q13_2
 refine VD.w rfl (.ixI ((((k:Nat):Int) - 1).toNat) rfl rfl Ji bd bd) ?_
 refine VD.w rfl (.fa rfl JM rfl) ?_
 refine VD.w rfl (.ld1 0 rfl tk9 rfl (hce13.at1 (j:=1) rfl)) ?_
 refine VD.nil rfl ?_ rfl
 refine VO.w (.sleq rfl rfl) (VO.w (.pT rfl rfl) (VO.z (.pF rfl rfl) (VO.p2 102 0 (VO.k7 0 1 3 7 22 27 56 (Qj ?_)))))
 refine VC.cond rfl (fun hc14=>?_) (fun hc14=>?_)
 refine VC.rs (VO.as (VO.k8 0 1 2 3 7 22 27 56 (VC.ret (JD (QS (QS (JD (QS ?_))))))))
 exact Xz 2 rfl (by first | rfl | exact ZD)
 refine VC.skip (JE (Qj ?_))
 refine VC.reg ?_
 refine VO.mv ?_
 refine VO.z (.add (c:=((k+1:Nat):Int)) rfl rfl Qx ⟨bd,bd⟩) ?_
 refine VO.as (VO.k7 0 1 3 7 22 27 56 ?_)
 exact Qj ⟨k+1,⟨by omega,by exact Qdv hu ‹d0.2.2[k]? =some _› Qd (by first | exact .inl Qx | exact .inr ⟨_,by assumption,by assumption⟩)⟩,bd,⟨esn,fun _ h=>Inv.sub h [102,0]⟩⟩
 refine VD.gN rfl (VD.gN rfl (VD.gN rfl (VD.gN rfl (VD.gN rfl (VD.gN rfl (VD.gN rfl (VD.gN rfl (VD.gN rfl (VD.gN rfl (VD.gN rfl (VD.gN rfl ?_)))))))))))
 refine VD.gN rfl ?_
 refine VD.nil rfl ?_ rfl
 refine VO.gN (VO.w (.pF rfl rfl) (VO.z (.pF rfl rfl) (VO.p2 102 0 (VO.k7 0 1 3 7 22 27 56 (Qj (VC.condF rfl (VC.skip (JE (Qj ?_)))))))))
 refine VC.reg ?_
 refine VO.mv ?_
 refine VO.z (.add (c:=((k+1:Nat):Int)) rfl rfl Qx ⟨bd,bd⟩) ?_
 refine VO.as (VO.k7 0 1 3 7 22 27 56 ?_)
 exact Qj ⟨k+1,⟨by omega,by exact Qdv hu ‹d0.2.2[k]? =some _› Qd (by first | exact .inl Qx | exact .inr ⟨_,by assumption,by assumption⟩)⟩,bd,⟨esn,fun _ h=>Inv.sub h [102,0]⟩⟩
 refine VC.exit (Zc (Zc (Zd (Qj (VC.rs (VO.as (VO.p2 102 0 (VO.k7 0 1 2 3 7 22 27 (VC.ret ?_)))))))))
 exact Xz 2 rfl (by first | rfl | exact ZD)
theorem QA {P:Prop} (h:P:=by first | exact bd | (have h_:=XJ ‹¬ ¬ Jg d1=0›;omega) | (have h_:=XJ ‹¬ ¬ Jg d1=0›;simp only [List.length_append,List.length_nil,List.length_cons] at*;omega)):P:=h
set_option maxHeartbeats 1000000 in
theorem QhK (W:World) {v0:Value} {d0:List UInt8} (h0:Rd (.sl .byte) (wm W) [v0] d0) {v1:List Value} {d1:DOp} (h1:Rd TOp (wm W) v1 d1) (e0:d0.length≤140737488351500):Qg Tryz.prog 97 [v0,.agg v1.toArray] W (Qr) (fun v m'=>∃ (s0:Value),v= .tuple #[s0,.int .i64 ((ZG d0 d1).2)]∧Ow (.sl .byte) m' [s0] ((ZG d0 d1).1)):=by
 obtain ⟨A0,c0,rfl,l0,k0⟩:=h0.slc
 obtain ⟨rfl,p1_1,p1_2⟩:=JA (x0:=d1.1) (x1:=d1.2.1) (x2:=d1.2.2) h1
 simp only [maxLen] at p1_1
 simp only [maxLen] at p1_2
 refine Qg.ofA (n:=44) Tryz.func97 rfl rfl rfl ?_
 refine VC.rs ?_
 refine VO.box (cs:=[.bool d1.1,str (d1.2.1),str (d1.2.2)]) 102 rfl rfl rfl (fun g1=>?_)
 refine VO.as (VO.as (VO.k5 0 1 3 4 5 (VC.rs (VO.z (.ldA 102 rfl YS rfl (Qa rfl rfl)) ?_))))
 refine VO.callN 103 rfl Qeq rfl (fun W hW=>Y0 W (Rd.mono h1 (hW.t 0))) (fun v3 m3 hv3=>?_)
 subst hv3
 refine VO.as (VO.k6 0 1 3 4 5 6 (VC.seq (VC.rs (VO.mv (VO.z (.neq rfl rfl) (VO.p2 102 0 (VO.k7 0 1 3 4 5 6 12 ?_)))))))
 refine VC.cond rfl (fun hc4=>?_) (fun hc4=>?_)
 · refine VC.rs (VO.mv (VO.as (VO.as (VO.k7 0 1 3 4 5 6 12 (VC.ret (QS ?_))))))
   refine Qby 4 5 [] fun hS_=>?_
   dsimp only [Qv]
   have he0:((ZG d0 d1).1:Ty.Den (.sl .byte))=[]:=by first | rfl | (first | (rw [J9 Qd] <;> first | rfl | done) | (rw [J7 Qd Qd] <;> first | done | rfl | (simp [Z5, *];done)) | (rw [J8 Qd Qd] <;> first | done | rfl | (simp [Z5, *];done)))
   refine ⟨.slice none (0) (0),?_,?_⟩
   rotate_left
   · rw [he0];exact (Ow.nil _ _)
   all_goals (first | rfl | (first | (rw [J9 Qd] <;> first | rfl | done) | (rw [J7 Qd Qd] <;> first | done | rfl | (simp [Z5, *];done)) | (rw [J8 Qd Qd] <;> first | done | rfl | (simp [Z5, *];done))))
 refine VC.skip (Qj (VC.rs (VO.as (VO.k8 0 1 3 4 5 6 7 12 (VC.rs (VO.mv (VO.mv ?_)))))))
 refine VO.inv _ (fun _ h=>h.nilc 106) ?_
 obtain ⟨mo5,cs5,hM5,hA5,hC5⟩:=(Qz.nil .byte Qr Qr)
 obtain ⟨all5,hS5,hR5⟩:=Rd.srcI (P:=Tryz.prog) (h0) Tryz.underlying47
 refine VO.app 106 rfl rfl rfl Q0 tz5 rfl rfl hM5 hA5 (hS5 _ 0 rfl) hR5.nice (by simp only [maxLen];(exact QA)) QA (by decide) (fun v5 m5 hN5=>?_)
 have ho5:Qz .byte m5 Qr v5 (d0):=Qz.more hC5 hN5 (QV.mono hR5 fun _ _ h=>Rd.flat rfl h _)
 obtain ⟨A5,c5,rfl,l5,k5⟩:=ho5.slc
 refine VO.as (VO.k8 0 1 3 4 5 6 7 12 (VC.rs (VO.as (VO.p3 106 102 0 (VO.k9 0 1 3 4 5 6 7 8 12 (VC.seq (VC.rs (VO.z (.fa rfl JM rfl) (VO.z (.ld1 102 rfl tk4 rfl (Qa rfl rfl)) (VO.k10 0 1 3 4 5 6 7 8 12 18 ?_))))))))))
 refine VC.condB rfl (fun hc7=>?_) (fun hc7=>?_)
 · refine VC.reg ?_
   refine VO.as (VO.k10 0 1 3 4 5 6 7 8 12 18 (Qj (VC.rs (VO.mv (VO.mv ?_)))))
   refine VO.bsl (cs:=[.int .u8 (1)]) 109 rfl rfl Q0 tz5 rfl rfl (fun g8=>?_)
   obtain ⟨mo10,cs10,hM10,hA10,hC10⟩:=ho5
   refine VO.app 106 rfl rfl rfl Q0 tz5 rfl rfl hM10 hA10 (.row 109 _ _ _ 1 1 _ _ Tryz.underlying47 rfl (Qa rfl rfl)) (by simp [Value.oneCell']) (by simp only [maxLen];(exact QA)) QA (by decide) (fun v10 m10 hN10=>?_)
   have ho10:Qz .byte m10 Qr v10 (d0++[UInt8.ofNat 1]):=Qz.one hC10 hN10 (ZE QA)
   obtain ⟨A10,c10,rfl,l10,k10⟩:=ho10.slc
   refine VO.as (VO.p3 106 102 0 (VO.k10 0 1 3 4 5 6 7 8 12 18 (VC.rs (VO.mv (VO.z (.fa rfl JM rfl) (VO.z (.ld1 102 rfl tk9 rfl (Qa rfl rfl)) ?_))))))
   refine VO.z (.lenT rfl Tryz.underlying9) ?_
   refine VO.callN 111 rfl Qeo rfl (fun W hW=>QbH W (Qz.rd ho10 (hW.t 106) (Jr _)) ((d1.2.1.length:Nat):Int) (by simp only [inK];(exact QA)) QA QA) (fun v11 m11 hv11=>?_)
   obtain ⟨s11_0,rfl,f11_0⟩:=hv11
   have hfa12:=Zw (x:=((d1.2.1.length:Nat):Int).toNat) Qx
   obtain ⟨A11_0,c11_0,eq11_0,l11_0,k11_0⟩:=f11_0.slc
   subst eq11_0
   refine VO.as (VO.k10 0 1 3 4 5 6 7 8 12 18 (VC.rs (VO.mv (VO.z (.fa rfl JM rfl) (VO.z (.ld1 102 rfl tk9 rfl (Qa rfl rfl)) ?_)))))
   obtain ⟨mo13,cs13,hM13,hA13,hC13⟩:=(Ow.ownl f11_0 rfl Qr)
   refine VO.app 111 rfl rfl rfl Q0 tz5 rfl rfl hM13 hA13 (.str _ Tryz.underlying9 rfl) (QdF _) (by simp only [maxLen];(exact QA)) QA (by decide) (fun v13 m13 hN13=>?_)
   have ho13:Qz .byte m13 Qr v13 (((d0++[UInt8.ofNat 1])++ZK ((d1.2.1.length:Nat):Int).toNat)++d1.2.1):=Qz.more hC13 hN13 (Qiw _ _)
   obtain ⟨A13,c13,rfl,l13,k13⟩:=ho13.slc
   refine VO.as (VO.k10 0 1 3 4 5 6 7 8 12 18 (VC.seq (VC.rs (VO.z (.fa rfl JM rfl) (VO.z (.ld1 102 rfl tk4 rfl (Qa rfl rfl)) (VO.p3 111 102 0 (VO.k11 0 1 3 4 5 6 7 8 12 18 33 ?_)))))))
   refine VC.condKT rfl hc7 ?_
   refine VC.rs (VO.mv (VO.z (.fa rfl JM rfl) (VO.z (.ld1 102 rfl tk9 rfl (Qa rfl rfl)) ?_)))
   refine VO.z (.lenT rfl Tryz.underlying9) ?_
   refine VO.callN 114 rfl Qeo rfl (fun W hW=>QbH W (Qz.rd ho13 (hW.t 111) (Jr _)) ((d1.2.2.length:Nat):Int) (by simp only [inK];(exact QA)) QA QA) (fun v14 m14 hv14=>?_)
   obtain ⟨s14_0,rfl,f14_0⟩:=hv14
   have hfa15:=Zw (x:=((d1.2.2.length:Nat):Int).toNat) Qx
   obtain ⟨A14_0,c14_0,eq14_0,l14_0,k14_0⟩:=f14_0.slc
   subst eq14_0
   refine VO.as (VO.k11 0 1 3 4 5 6 7 8 12 18 33 ?_)
   refine VC.reg ?_
   refine VO.mv (VO.z (.fa rfl JM rfl) (VO.z (.ld1 102 rfl tk9 rfl (Qa rfl rfl)) ?_))
   obtain ⟨mo16,cs16,hM16,hA16,hC16⟩:=(Ow.ownl f14_0 rfl Qr)
   refine VO.app 114 rfl rfl rfl Q0 tz5 rfl rfl hM16 hA16 (.str _ Tryz.underlying9 rfl) (QdF _) (by simp only [maxLen];(exact QA)) QA (by decide) (fun v16 m16 hN16=>?_)
   have ho16:Qz .byte m16 Qr v16 (((((d0++[UInt8.ofNat 1])++ZK ((d1.2.1.length:Nat):Int).toNat)++d1.2.1)++ZK ((d1.2.2.length:Nat):Int).toNat)++d1.2.2):=Qz.more hC16 hN16 (Qiw _ _)
   obtain ⟨A16,c16,rfl,l16,k16⟩:=ho16.slc
   refine VO.as (VO.k11 0 1 3 4 5 6 7 8 12 18 33 (Qj (VC.rs (VO.mv (VO.as (VO.as (VO.p3 114 102 0 (VO.k11 0 1 3 4 5 6 7 8 12 18 33 (VC.ret ?_)))))))))
   refine Qby 4 5 [114] fun hS_=>?_
   dsimp only [Qv]
   exact ⟨Value.slice A16 ((((((d0++[UInt8.ofNat 1])++ZK ((d1.2.1.length:Nat):Int).toNat)++d1.2.1)++ZK ((d1.2.2.length:Nat):Int).toNat)++d1.2.2).length) (c16),(by first | rfl | (first | (rw [J9 Qd] <;> first | rfl | done) | (rw [J7 Qd Qd] <;> first | done | rfl | (simp [Z5, *];done)) | (rw [J8 Qd Qd] <;> first | done | rfl | (simp [Z5, *];done)))),(Ow.cg (Ow.up (Qz.ow ho16 rfl) (hS_.1 _ (.head _))) (by first | rfl | (first | (rw [J9 Qd] <;> first | rfl | done) | (rw [J7 Qd Qd] <;> first | done | rfl | (simp [Z5, *];done)) | (rw [J8 Qd Qd] <;> first | done | rfl | (simp [Z5, *];done)))))⟩
 · refine VC.skip (Qj (VC.rs (VO.mv (VO.mv ?_))))
   refine VO.bsl (cs:=[.int .u8 (0)]) 118 rfl rfl Q0 tz5 rfl rfl (fun g17=>?_)
   obtain ⟨mo19,cs19,hM19,hA19,hC19⟩:=ho5
   refine VO.app 106 rfl rfl rfl Q0 tz5 rfl rfl hM19 hA19 (.row 118 _ _ _ 1 1 _ _ Tryz.underlying47 rfl (Qa rfl rfl)) (by simp [Value.oneCell']) (by simp only [maxLen];(exact QA)) QA (by decide) (fun v19 m19 hN19=>?_)
   have ho19:Qz .byte m19 Qr v19 (d0++[UInt8.ofNat 0]):=Qz.one hC19 hN19 (ZE QA)
   obtain ⟨A19,c19,rfl,l19,k19⟩:=ho19.slc
   refine VO.as (VO.k10 0 1 3 4 5 6 7 8 12 18 (VC.rs (VO.mv (VO.z (.fa rfl JM rfl) (VO.z (.ld1 102 rfl tk9 rfl (Qa rfl rfl)) ?_)))))
   refine VO.z (.lenT rfl Tryz.underlying9) ?_
   refine VO.callN 120 rfl Qeo rfl (fun W hW=>QbH W (Qz.rd ho19 (hW.t 106) (Jr _)) ((d1.2.1.length:Nat):Int) (by simp only [inK];(exact QA)) QA QA) (fun v20 m20 hv20=>?_)
   obtain ⟨s20_0,rfl,f20_0⟩:=hv20
   have hfa21:=Zw (x:=((d1.2.1.length:Nat):Int).toNat) Qx
   obtain ⟨A20_0,c20_0,eq20_0,l20_0,k20_0⟩:=f20_0.slc
   subst eq20_0
   refine VO.as (VO.p3 120 102 0 (VO.k10 0 1 3 4 5 6 7 8 12 18 (VC.rs (VO.mv (VO.z (.fa rfl JM rfl) (VO.z (.ld1 102 rfl tk9 rfl (Qa rfl rfl)) ?_))))))
   obtain ⟨mo22,cs22,hM22,hA22,hC22⟩:=(Ow.ownl f20_0 rfl Qr)
   refine VO.app 120 rfl rfl rfl Q0 tz5 rfl rfl hM22 hA22 (.str _ Tryz.underlying9 rfl) (QdF _) (by simp only [maxLen];(exact QA)) QA (by decide) (fun v22 m22 hN22=>?_)
   have ho22:Qz .byte m22 Qr v22 (((d0++[UInt8.ofNat 0])++ZK ((d1.2.1.length:Nat):Int).toNat)++d1.2.1):=Qz.more hC22 hN22 (Qiw _ _)
   obtain ⟨A22,c22,rfl,l22,k22⟩:=ho22.slc
   refine VO.as (VO.k10 0 1 3 4 5 6 7 8 12 18 (VC.seq (VC.rs (VO.z (.fa rfl JM rfl) (VO.z (.ld1 102 rfl tk4 rfl (Qa rfl rfl)) (VO.k11 0 1 3 4 5 6 7 8 12 18 33 ?_))))))
   refine VC.condKF rfl hc7 ?_
   refine VC.skip (Qj (VC.rs (VO.mv (VO.as (VO.as (VO.p3 120 102 0 (VO.k11 0 1 3 4 5 6 7 8 12 18 33 (VC.ret ?_))))))))
   refine Qby 4 5 [120] fun hS_=>?_
   dsimp only [Qv]
   exact ⟨Value.slice A22 ((((d0++[UInt8.ofNat 0])++ZK ((d1.2.1.length:Nat):Int).toNat)++d1.2.1).length) (c22),(by first | rfl | (first | (rw [J9 Qd] <;> first | rfl | done) | (rw [J7 Qd Qd] <;> first | done | rfl | (simp [Z5, *];done)) | (rw [J8 Qd Qd] <;> first | done | rfl | (simp [Z5, *];done)))),(Ow.cg (Ow.up (Qz.ow ho22 rfl) (hS_.1 _ (.head _))) (by first | rfl | (first | (rw [J9 Qd] <;> first | rfl | done) | (rw [J7 Qd Qd] <;> first | done | rfl | (simp [Z5, *];done)) | (rw [J8 Qd Qd] <;> first | done | rfl | (simp [Z5, *];done)))))⟩
theorem QhI (W:World) {v0:List Value} {d0:Zn} (h0:Rd ZL (wm W) v0 d0):Qg Tryz.prog 64 [.agg v0.toArray] W (Qr) (fun v m'=>∃ (s0:Value),v= .tuple #[s0,.int .i64 ((Qh d0).2)]∧Ow (.sl .byte) m' [s0] ((Qh d0).1)):=by
 have hrk:=Qd5 d0
 obtain ⟨p0_A2,p0_c2,rfl,p0_0,p0_1,p0_2⟩:=ZF (x0:=d0.1) (x1:=d0.2.1) (x2:=d0.2.2) h0
 simp only [inK] at p0_0 p0_1
 have p0_r2:=Rd.room p0_2
 refine Qg.ofA (n:=42) Tryz.func64 rfl rfl rfl ?_
 refine VC.rs ?_
 refine VO.box (cs:=[.int .i64 (d0.1),.int .i64 (d0.2.1),.slice p0_A2 (d0.2.2.length) (p0_c2)]) 102 rfl rfl rfl (fun g1=>?_)
 refine VO.as (VO.as (VO.k4 0 1 2 3 (VC.rs (VO.z (.ldA 102 rfl Yx rfl (Qa rfl rfl)) ?_))))
 refine VO.callN 103 rfl Qk1 rfl (fun W hW=>QcU W (Rd.mono h0 (hW.t 0))) (fun v3 m3 hv3=>?_)
 subst hv3
 have hfa4:=Ya d0
 refine VO.as (VO.k5 0 1 2 3 4 (VC.seq (VC.rs (VO.mv (VO.z (.neq rfl rfl) (VO.p2 102 0 (VO.k6 0 1 2 3 4 10 ?_)))))))
 refine VC.cond rfl (fun hc5=>?_) (fun hc5=>?_)
 ·refine VC.rs (VO.mv (VO.as (VO.as (VO.k6 0 1 2 3 4 10 (VC.ret (QS ?_))))))
  refine Qby 2 3 [] fun hS_=>?_
  dsimp only [Qv]
  have he0:((Qh d0).1:Ty.Den (.sl .byte))=[]:=by first | rfl | (first | (rw [YU Qd] <;> rfl) | (rw [Z0 Qd,hb,List.take_of_length_le Qx];simp [YQ];done))
  refine ⟨.slice none (0) (0),?_,?_⟩
  rotate_left
  ·rw [he0];exact (Ow.nil _ _)
  all_goals (first | rfl | (first | (rw [YU Qd] <;> rfl) | (rw [Z0 Qd] <;> rfl)))
 refine VC.skip (Qj (VC.rs (VO.z (.fa rfl Jl rfl) (VO.z (.ld1 102 rfl tk3 rfl (Qa rfl rfl)) ?_))))
 refine VO.callN 106 rfl Qeo rfl (fun W hW=>QbH W (Rd.nil _ _ none 0 (Nat.zero_le _)) d0.1 bdk bd bd) (fun v6 m6 hv6=>?_)
 obtain ⟨s6_0,rfl,f6_0⟩:=hv6
 have hfa7:=Zw (x:=d0.1.toNat) Qx
 simp only [List.nil_append] at f6_0
 obtain ⟨A6_0,c6_0,eq6_0,l6_0,k6_0⟩:=f6_0.slc
 subst eq6_0
 refine VO.as (VO.k7 0 1 2 3 4 5 10 (VC.rs (VO.mv (VO.z (.fa rfl Jl rfl) (VO.z (.ld1 102 rfl tk3 rfl (Qa rfl rfl)) ?_)))))
 refine VO.callN 108 rfl Qeo rfl (fun W hW=>QbH W (Ow.rd f6_0 (hW.t 106)) d0.2.1 bdk bd bd) (fun v8 m8 hv8=>?_)
 obtain ⟨s8_0,rfl,f8_0⟩:=hv8
 have hfa9:=Zw (x:=d0.2.1.toNat) Qx
 obtain ⟨A8_0,c8_0,eq8_0,l8_0,k8_0⟩:=f8_0.slc
 subst eq8_0
 refine VO.as (VO.k7 0 1 2 3 4 5 10 (VC.rs (VO.mv (VO.z (.fa rfl Jl rfl) (VO.z (.ld1 102 rfl YY rfl (Qa rfl rfl)) (VO.z (.lenS rfl Ji) ?_))))))
 refine VO.callN 110 rfl Qeo rfl (fun W hW=>QbH W (Ow.rd f8_0 (hW.t 108)) ((d0.2.2.length:Nat):Int) bdk bd bd) (fun v10 m10 hv10=>?_)
 obtain ⟨s10_0,rfl,f10_0⟩:=hv10
 have hfa11:=Zw (x:=((d0.2.2.length:Nat):Int).toNat) Qx
 obtain ⟨A10_0,c10_0,eq10_0,l10_0,k10_0⟩:=f10_0.slc
 subst eq10_0
 refine VO.as (VO.p3 110 102 0 (VO.k7 0 1 2 3 4 5 10 (VC.seq (VC.rs (VO.as (VO.k8 0 1 2 3 4 5 6 10 (VC.block ?_)))))))
 refine VC.loop (G:=Nat × (List UInt8) × (Option Addr) × Nat × Mem) (fun g=>[(5,.slice (g.2.2.1) ((g.2.1).length) ((g.2.2.2.1))),(6,.int .i64 ((((g.1):Nat):Int))),(0,.agg [.int .i64 (d0.1),.int .i64 (d0.2.1),.slice p0_A2 (d0.2.2.length) (p0_c2)].toArray),(1,.pointer (some ⟨g1,0,none⟩)),(2,.slice none (0) (0)),(3,.int .i64 (0)),(4,.int .i64 (QF d0)),(10,.bool (decide (¬ (QF d0)=0)))]) (fun g=>[(110,(g.2.2.2.2)),(102,QE g1 (.cells #[.int .i64 (d0.1),.int .i64 (d0.2.1),.slice p0_A2 (d0.2.2.length) (p0_c2)] 38 (0,0))),(0,wm W)]) (fun g=>((g.1)≤d0.2.2.length)∧((g.2.1)=ZK d0.1.toNat++(ZK d0.2.1.toNat++ZK d0.2.2.length)++((d0.2.2.take (g.1)).map QbJ).flatten)∧(Qz .byte (g.2.2.2.2) Qr (.slice (g.2.2.1) (g.2.1).length (g.2.2.2.1)) (g.2.1))) (fun g=>d0.2.2.length - (g.1)) (0,((ZK d0.1.toNat)++ZK d0.2.1.toNat)++ZK ((d0.2.2.length:Nat):Int).toNat,A10_0,c10_0,m10) (⟨by omega,by simp,(Ow.ownl f10_0 rfl Qr)⟩) ⟨esn,fun _ h=>h.sub [110,102,0]⟩ ?_
 rintro ⟨k,b,b_A,b_c,b_m⟩ ⟨hk,hb,h_b⟩
 replace hk:k≤d0.2.2.length:=hk
 replace hb:b=ZK d0.1.toNat++(ZK d0.2.1.toNat++ZK d0.2.2.length)++((d0.2.2.take k).map QbJ).flatten:=hb
 replace h_b:Qz .byte b_m Qr (.slice b_A b.length b_c) b:=h_b
 show VC _ _ _ _ _ [(5,.slice b_A (b.length) (b_c)),(6,.int .i64 (((k:Nat):Int))),(0,.agg [.int .i64 (d0.1),.int .i64 (d0.2.1),.slice p0_A2 (d0.2.2.length) (p0_c2)].toArray),(1,.pointer (some ⟨g1,0,none⟩)),(2,.slice none (0) (0)),(3,.int .i64 (0)),(4,.int .i64 (QF d0)),(10,.bool (decide (¬ (QF d0)=0)))] [(110,b_m),(102,QE g1 (.cells #[.int .i64 (d0.1),.int .i64 (d0.2.1),.slice p0_A2 (d0.2.2.length) (p0_c2)] 38 (0,0))),(0,wm W)]
 have l_b:b.length≤b_c:=by obtain ⟨_,_,he,hl,_⟩:=h_b.slice;simp only [Value.slice.injEq] at he;omega
 have k_b:b_c≤9223372036854775807:=by obtain ⟨_,_,he,_,hl⟩:=h_b.slice;simp only [Value.slice.injEq,maxLen] at he hl;omega
 have rk:=JV (Decidable.not_not.1 ‹¬ ¬ QF d0=0›)
 have hbl:b.length≤30+60*k:=by (have h1_:=QdD (l:=d0.2.2.take k) (fun o ho=>rk.2.2.2.2.1 o (List.mem_of_mem_take ho));have h2_:=Yp (x:=d0.1.toNat) Qx;have h3_:=Yp (x:=d0.2.1.toNat) Qx;have h4_:=Yp (x:=d0.2.2.length) Qx;rw [hb];simp only [List.length_append,List.length_take] at*;omega)
 refine VC.seq (VC.rs (VO.mv (VO.z (.fa rfl Jl rfl) (VO.z (.ld1 102 rfl YY rfl (Qa rfl rfl)) (VO.z (.lenS rfl Ji) (VO.z (.lss rfl rfl) (VO.k9 0 1 2 3 4 5 6 10 28 ?_)))))))
 refine VC.cond rfl (fun hc12=>?_) (fun hc12=>?_)
 ·refine VC.skip (Qj (VC.seq (VC.block ?_)))
  refine VC.reg ?_
  refine VO.mv (VO.z (.fa rfl Jl rfl) (VO.z (.ld1 102 rfl YY rfl (Qa rfl rfl)) (VO.mv ?_)))
  obtain ⟨x13,hx13⟩:∃ z_,(d0.2.2)[k]? =some z_:=⟨_,List.getElem?_eq_getElem bd⟩
  obtain ⟨gg13,oo13,ec13,ea13,hce13,hre13⟩:=p0_2.elem hx13
  cases ea13
  obtain ⟨rfl,q13_1,q13_2⟩:=JA (x0:=x13.1) (x1:=x13.2.1) (x2:=x13.2.2) hre13
  simp only [maxLen] at q13_1
  simp only [maxLen] at q13_2
  refine VO.z (.ixI k rfl rfl Ji rfl bd) ?_
  refine VO.z (.ldA 0 rfl YS rfl hce13) ?_
  refine VO.callN 114 rfl fnOk97 rfl (fun W hW=>QhK W (Qz.rd h_b (hW.t 110) (Jr _)) (Rd.mono hre13 (hW.t 0)) bd) (fun v14 m14 hv14=>?_)
  obtain ⟨s14_0,rfl,f14_0⟩:=hv14
  have hfa15:=Qdg b x13
  obtain ⟨A14_0,c14_0,eq14_0,l14_0,k14_0⟩:=f14_0.slc
  subst eq14_0
  refine VO.mv (VO.z (.ext rfl rfl) (VO.z (.ext rfl rfl) (VO.as (VO.p3 114 102 0 (VO.k9 0 1 2 3 4 5 6 10 28 (JE (Qj ?_)))))))
  refine VC.reg ?_
  refine VO.mv ?_
  refine VO.z (.add (c:=((k+1:Nat):Int)) rfl rfl Qx ⟨bd,bd⟩) ?_
  refine VO.as (VO.k9 0 1 2 3 4 5 6 10 28 ?_)
  exact Qj ⟨⟨k+1,(ZG b x13).1,A14_0,c14_0,m14⟩,⟨by omega,by (rw [hb];exact Qhb ‹d0.2.2[k]? =some _› (rk.2.2.2.2.1 _ (List.mem_of_getElem? ‹d0.2.2[k]? =some _›))),(Ow.ownl f14_0 rfl Qr)⟩,bd,⟨esn,fun _ h=>Inv.sub (Inv.num h 114 110 rfl) [110,102,0]⟩⟩
 ·refine VC.exit (Zc (Zc (Zd (Qj (VC.rs (VO.mv (VO.as (VO.as (VO.p3 110 102 0 (VO.k9 0 1 2 3 4 5 6 10 28 (VC.ret ?_)))))))))))
  refine Qby 2 3 [110] fun hS_=>?_
  dsimp only [Qv]
  exact ⟨Value.slice b_A (b.length) (b_c),(by first | rfl | (first | (rw [YU Qd] <;> rfl) | (rw [Z0 Qd] <;> rfl))),(Ow.cg (Ow.up (Qz.ow h_b rfl) (hS_.1 _ (.head _))) (by first | rfl | (first | (rw [YU Qd] <;> rfl) | (rw [Z0 Qd,hb,List.take_of_length_le Qx];simp [YQ];done))))⟩
theorem QH {P:Prop} (h:P:=by first | (rw [QnQ (by assumption) (by first | exact .inl (by assumption) | exact .inr (by assumption))] <;> first | rfl | done) | (rw [QnP (by assumption) (by assumption) (by assumption)] <;> first | rfl | done) | (rw [QnS (by assumption) (by first | exact .inl (by assumption) | exact .inr (by assumption))] <;> first | rfl | done) | (rw [QnR (by assumption) (by assumption) (by assumption)] <;> first | rfl | done)):P:=h
set_option maxHeartbeats 1000000 in
theorem Qkt (W:World) {g0:Nat} {E0:TypeId} {d0:Xy} {b0_0:Value} (hm:mle (QE g0 (.cells [(b0_0:Value),.int .i64 d0.2.1,.bool d0.2.2].toArray E0 (0,0))) (wm W)) (h0_0:Rd (.sl .byte) (JY (wm W) (QE g0 (.cells [(b0_0:Value),.int .i64 d0.2.1,.bool d0.2.2].toArray E0 (0,0)))) [b0_0] d0.1) (h0_1:inK .i64 d0.2.1) (e0:rOk d0.1 d0.2):Qg Tryz.prog 108 [.pointer (some ⟨g0,0,none⟩)] W (QE g0 (.cells [(b0_0:Value),.int .i64 d0.2.1,.bool d0.2.2].toArray E0 (0,0))) (fun v m'=>∃ (s0:List Value),v= .agg s0.toArray∧Ow TOp m' s0 ((Yj d0.1 d0.2).1)∧m'=QE g0 (.cells [(b0_0:Value),.int .i64 ((Yj d0.1 d0.2).2.1),.bool ((Yj d0.1 d0.2).2.2)].toArray E0 (0,0))∧inK .i64 ((Yj d0.1 d0.2).2.1)):=by
 have e0_:=e0;obtain ⟨e0a,e0b⟩:=e0_
 obtain ⟨A0_0,c0_0,rfl,l0_0,k0_0⟩:=h0_0.slc
 have h0_1':=h0_1;simp only [inK] at h0_1'
 refine Qg.ofB (n:=39) hm Tryz.func108 rfl rfl rfl ?_
 refine VC.rs ?_
 refine VO.alloc 102 rfl XB (fun g1=>?_)
 refine VO.k2 0 2 (VC.rs (VO.mv ?_))
 refine VO.call 1 rfl QbP rfl rfl (fun W hW=>XX W (d0:=d0) (hW.t 1) (Rd.mono h0_0 (hW.o 1 0)) bdk 1 bdk Xc) (fun v3 m3 hv3=>?_)
 obtain ⟨rfl,rfl,w3_0_1⟩:=hv3
 have hfa4:=(JW (B:=d0.1) (m:=1) (s:=d0.2) Xc Qx).1
 have hfa5:=(JW (B:=d0.1) (m:=1) (s:=d0.2) Xc Qx).1.1
 have hfa6:=(JW (B:=d0.1) (m:=1) (s:=d0.2) Xc Qx).1.2
 have hfa7:=(JW (B:=d0.1) (m:=1) (s:=d0.2) Xc Qx).2
 simp only [inK] at w3_0_1
 refine VO.as (VO.k3 0 2 3 (VC.rs (VO.mv (VO.mv ?_))))
 refine VO.call 1 rfl QbP rfl rfl (fun W hW=>XX W (d0:=(d0.1,(Qe d0.1 1 d0.2).2)) (hW.t 1) (Rd.mono h0_0 (hW.o 1 0)) bdk 16 bdk Xc) (fun v8 m8 hv8=>?_)
 try dsimp only at hv8
 obtain ⟨rfl,rfl,w8_0_1⟩:=hv8
 have hfa9:=(JW (B:=d0.1) (m:=16) (s:=((Qe d0.1 1 d0.2).2)) Xc Qx).1
 have hfa10:=(JW (B:=d0.1) (m:=16) (s:=((Qe d0.1 1 d0.2).2)) Xc Qx).1.1
 have hfa11:=(JW (B:=d0.1) (m:=16) (s:=((Qe d0.1 1 d0.2).2)) Xc Qx).1.2
 have hfa12:=(JW (B:=d0.1) (m:=16) (s:=((Qe d0.1 1 d0.2).2)) Xc Qx).2
 simp only [inK] at w8_0_1
 refine VO.call 1 rfl QhZ rfl rfl (fun W hW=>QcW W (d0:=(d0.1,(Qe d0.1 16 ((Qe d0.1 1 d0.2).2)).2)) (hW.t 1) (Rd.mono h0_0 (hW.o 1 0)) bdk ((Qe d0.1 16 ((Qe d0.1 1 d0.2).2)).1) bdk Xc bd bd) (fun v13 m13 hv13=>?_)
 try dsimp only at hv13
 obtain ⟨s13_0,p13_0,rfl,hS13,f13_0,w13_0_1⟩:=hv13
 refine VO.inv _ (fun _ h=>h.parts (i:=1) rfl hS13 [114,115]) ?_
 have hfa16:=(ZN (B:=d0.1) (n:=((Qe d0.1 16 ((Qe d0.1 1 d0.2).2)).1)) (s:=((Qe d0.1 16 ((Qe d0.1 1 d0.2).2)).2)) Xc Qx).1
 have hfa17:=(ZN (B:=d0.1) (n:=((Qe d0.1 16 ((Qe d0.1 1 d0.2).2)).1)) (s:=((Qe d0.1 16 ((Qe d0.1 1 d0.2).2)).2)) Xc Qx).1.1
 have hfa18:=(ZN (B:=d0.1) (n:=((Qe d0.1 16 ((Qe d0.1 1 d0.2).2)).1)) (s:=((Qe d0.1 16 ((Qe d0.1 1 d0.2).2)).2)) Xc Qx).1.2
 have hfa19:=(ZN (B:=d0.1) (n:=((Qe d0.1 16 ((Qe d0.1 1 d0.2).2)).1)) (s:=((Qe d0.1 16 ((Qe d0.1 1 d0.2).2)).2)) Xc Qx).2
 simp only [inK] at w13_0_1
 obtain ⟨A13_0,c13_0,eq13_0,l13_0,k13_0⟩:=f13_0.slc
 subst eq13_0
 refine VO.as (VO.p4 114 115 102 0 (VO.k4 0 2 3 4 (VC.rs (VO.mv (VO.z (.eql rfl rfl) (VO.mv ?_))))))
 refine VO.z (.b2s 114 rfl Tryz.underlying47 Tryz.underlying9 Tryz.underlying5 rfl (Ow.rd f13_0 (Qb _))) ?_
 refine VO.z (.bst (cs:=[.bool (decide (((Qe d0.1 1 d0.2).1)=1)),str ((Qw d0.1 ((Qe d0.1 16 ((Qe d0.1 1 d0.2).2)).1) ((Qe d0.1 16 ((Qe d0.1 1 d0.2).2)).2)).1),str ([])]) rfl JM XB rfl) ?_
 refine VO.alloc 121 rfl XB (fun g20=>?_)
 refine VO.store (k:=3) (c':=[.bool (decide (((Qe d0.1 1 d0.2).1)=1)),str ((Qw d0.1 ((Qe d0.1 16 ((Qe d0.1 1 d0.2).2)).1) ((Qe d0.1 16 ((Qe d0.1 1 d0.2).2)).2)).1),str ([])]) 121 rfl rfl (.inl YS) rfl rfl rfl rfl rfl ?_
 refine VO.k5 0 2 3 4 5 (VC.seq (VC.rs (VO.mv (VO.z (.eql rfl rfl) (VO.k6 0 2 3 4 5 18 ?_)))))
 refine VC.cond rfl (fun hc22=>?_) (fun hc22=>?_)
 refine VC.reg ?_
 refine VO.mv (VO.mv ?_)
 refine VO.call 115 rfl QbP rfl rfl (fun W hW=>XX W (d0:=(d0.1,(Qw d0.1 ((Qe d0.1 16 ((Qe d0.1 1 d0.2).2)).1) ((Qe d0.1 16 ((Qe d0.1 1 d0.2).2)).2)).2)) (hW.t 115) (Rd.mono h0_0 (hW.o 115 0)) bdk 32 bdk Xc) (fun v23 m23 hv23=>?_)
 try dsimp only at hv23
 obtain ⟨rfl,rfl,w23_0_1⟩:=hv23
 have hfa24:=(JW (B:=d0.1) (m:=32) (s:=((Qw d0.1 ((Qe d0.1 16 ((Qe d0.1 1 d0.2).2)).1) ((Qe d0.1 16 ((Qe d0.1 1 d0.2).2)).2)).2)) Xc Qx).1
 have hfa25:=(JW (B:=d0.1) (m:=32) (s:=((Qw d0.1 ((Qe d0.1 16 ((Qe d0.1 1 d0.2).2)).1) ((Qe d0.1 16 ((Qe d0.1 1 d0.2).2)).2)).2)) Xc Qx).1.1
 have hfa26:=(JW (B:=d0.1) (m:=32) (s:=((Qw d0.1 ((Qe d0.1 16 ((Qe d0.1 1 d0.2).2)).1) ((Qe d0.1 16 ((Qe d0.1 1 d0.2).2)).2)).2)) Xc Qx).1.2
 have hfa27:=(JW (B:=d0.1) (m:=32) (s:=((Qw d0.1 ((Qe d0.1 16 ((Qe d0.1 1 d0.2).2)).1) ((Qe d0.1 16 ((Qe d0.1 1 d0.2).2)).2)).2)) Xc Qx).2
 simp only [inK] at w23_0_1
 refine VO.call 115 rfl QhZ rfl rfl (fun W hW=>QcW W (d0:=(d0.1,(Qe d0.1 32 ((Qw d0.1 ((Qe d0.1 16 ((Qe d0.1 1 d0.2).2)).1) ((Qe d0.1 16 ((Qe d0.1 1 d0.2).2)).2)).2)).2)) (hW.t 115) (Rd.mono h0_0 (hW.o 115 0)) bdk ((Qe d0.1 32 ((Qw d0.1 ((Qe d0.1 16 ((Qe d0.1 1 d0.2).2)).1) ((Qe d0.1 16 ((Qe d0.1 1 d0.2).2)).2)).2)).1) bdk Xc bd bd) (fun v28 m28 hv28=>?_)
 try dsimp only at hv28
 obtain ⟨s28_0,p28_0,rfl,hS28,f28_0,w28_0_1⟩:=hv28
 refine VO.inv _ (fun _ h=>h.parts (i:=115) rfl hS28 [129,130]) ?_
 have hfa31:=(ZN (B:=d0.1) (n:=((Qe d0.1 32 ((Qw d0.1 ((Qe d0.1 16 ((Qe d0.1 1 d0.2).2)).1) ((Qe d0.1 16 ((Qe d0.1 1 d0.2).2)).2)).2)).1)) (s:=((Qe d0.1 32 ((Qw d0.1 ((Qe d0.1 16 ((Qe d0.1 1 d0.2).2)).1) ((Qe d0.1 16 ((Qe d0.1 1 d0.2).2)).2)).2)).2)) Xc Qx).1
 have hfa32:=(ZN (B:=d0.1) (n:=((Qe d0.1 32 ((Qw d0.1 ((Qe d0.1 16 ((Qe d0.1 1 d0.2).2)).1) ((Qe d0.1 16 ((Qe d0.1 1 d0.2).2)).2)).2)).1)) (s:=((Qe d0.1 32 ((Qw d0.1 ((Qe d0.1 16 ((Qe d0.1 1 d0.2).2)).1) ((Qe d0.1 16 ((Qe d0.1 1 d0.2).2)).2)).2)).2)) Xc Qx).1.1
 have hfa33:=(ZN (B:=d0.1) (n:=((Qe d0.1 32 ((Qw d0.1 ((Qe d0.1 16 ((Qe d0.1 1 d0.2).2)).1) ((Qe d0.1 16 ((Qe d0.1 1 d0.2).2)).2)).2)).1)) (s:=((Qe d0.1 32 ((Qw d0.1 ((Qe d0.1 16 ((Qe d0.1 1 d0.2).2)).1) ((Qe d0.1 16 ((Qe d0.1 1 d0.2).2)).2)).2)).2)) Xc Qx).1.2
 have hfa34:=(ZN (B:=d0.1) (n:=((Qe d0.1 32 ((Qw d0.1 ((Qe d0.1 16 ((Qe d0.1 1 d0.2).2)).1) ((Qe d0.1 16 ((Qe d0.1 1 d0.2).2)).2)).2)).1)) (s:=((Qe d0.1 32 ((Qw d0.1 ((Qe d0.1 16 ((Qe d0.1 1 d0.2).2)).1) ((Qe d0.1 16 ((Qe d0.1 1 d0.2).2)).2)).2)).2)) Xc Qx).2
 simp only [inK] at w28_0_1
 obtain ⟨A28_0,c28_0,eq28_0,l28_0,k28_0⟩:=f28_0.slc
 subst eq28_0
 refine VO.z (.b2s 129 rfl Tryz.underlying47 Tryz.underlying9 Tryz.underlying5 rfl (Ow.rd f28_0 (Qb _))) ?_
 refine VO.z (.fa rfl JM rfl) ?_
 refine VO.store (k:=1) (c':=[.bool (decide (((Qe d0.1 1 d0.2).1)=1)),str ((Qw d0.1 ((Qe d0.1 16 ((Qe d0.1 1 d0.2).2)).1) ((Qe d0.1 16 ((Qe d0.1 1 d0.2).2)).2)).1),str ((Qw d0.1 ((Qe d0.1 32 ((Qw d0.1 ((Qe d0.1 16 ((Qe d0.1 1 d0.2).2)).1) ((Qe d0.1 16 ((Qe d0.1 1 d0.2).2)).2)).2)).1) ((Qe d0.1 32 ((Qw d0.1 ((Qe d0.1 16 ((Qe d0.1 1 d0.2).2)).1) ((Qe d0.1 16 ((Qe d0.1 1 d0.2).2)).2)).2)).2)).1)]) 121 rfl rfl (.inr ⟨tk9,rfl⟩) rfl rfl rfl rfl rfl ?_
 refine VO.p5 130 121 114 102 0 (VO.k6 0 2 3 4 5 18 (Qj (VC.seq (VC.rs (VO.mv (VO.z (.nilp rfl) (VO.z (.fa rfl ZJ rfl) (VO.z (.ld1 130 rfl tk4 rfl (Qa rfl rfl)) (VO.mv ?_)))))))))
 refine VO.decB (t:=29) rfl (fun hc35=>?_) (fun hc35=>?_)
 · refine VO.gN (VO.gN (VO.gN (VO.z (.pT rfl rfl) (VO.k7 0 2 3 4 5 18 33 (VC.condT rfl (VC.rs (VO.mv (VO.z (.nilp rfl) (VO.z (.fa rfl ZJ rfl) ?_)))))))))
   refine VO.store (k:=1) (c':=[.slice A0_0 (d0.1.length) (c0_0),.int .i64 ((Qw d0.1 ((Qe d0.1 32 ((Qw d0.1 ((Qe d0.1 16 ((Qe d0.1 1 d0.2).2)).1) ((Qe d0.1 16 ((Qe d0.1 1 d0.2).2)).2)).2)).1) ((Qe d0.1 32 ((Qw d0.1 ((Qe d0.1 16 ((Qe d0.1 1 d0.2).2)).1) ((Qe d0.1 16 ((Qe d0.1 1 d0.2).2)).2)).2)).2)).2.1),.bool true]) 130 rfl rfl (.inr ⟨tk4,rfl⟩) rfl rfl rfl rfl rfl ?_
   refine VO.k7 0 2 3 4 5 18 33 (VC.rs ?_)
   refine VO.z (.bst (cs:=[.bool false,str ([]),str ([])]) rfl JM XB rfl) ?_
   refine VO.store (k:=3) (c':=[.bool false,str ([]),str ([])]) 102 rfl rfl (.inl YS) rfl rfl rfl rfl rfl ?_
   refine VO.p5 130 121 114 102 0 (VO.k7 0 2 3 4 5 18 33 (VC.ret (QS ?_)))
   refine ⟨_,_,Q8 (rs:=[.cell 2 73]) rfl (.agg 102 rfl YS rfl ⟨_,_,_,Qq _ _,Nat.le_of_ble_eq_true rfl,rfl⟩ .nil),fun W_ hI=>JC (l:=[QE g0 (.cells #[.slice A0_0 (d0.1.length) (c0_0),.int .i64 ((Qw d0.1 ((Qe d0.1 32 ((Qw d0.1 ((Qe d0.1 16 ((Qe d0.1 1 d0.2).2)).1) ((Qe d0.1 16 ((Qe d0.1 1 d0.2).2)).2)).2)).1) ((Qe d0.1 32 ((Qw d0.1 ((Qe d0.1 16 ((Qe d0.1 1 d0.2).2)).1) ((Qe d0.1 16 ((Qe d0.1 1 d0.2).2)).2)).2)).2)).2.1),.bool true] E0 (0,0))]) hI [130] rfl rfl (Qb _) (fun hS_=>?_)⟩
   dsimp only [Qv]
   have he0:((Yj d0.1 d0.2).1:Ty.Den TOp)=(false,[],[]):=by first | rfl | (exact QH)
   have hm0_1:((Yj d0.1 d0.2).2.1:Int)=(Qw d0.1 ((Qe d0.1 32 ((Qw d0.1 ((Qe d0.1 16 ((Qe d0.1 1 d0.2).2)).1) ((Qe d0.1 16 ((Qe d0.1 1 d0.2).2)).2)).2)).1) ((Qe d0.1 32 ((Qw d0.1 ((Qe d0.1 16 ((Qe d0.1 1 d0.2).2)).1) ((Qe d0.1 16 ((Qe d0.1 1 d0.2).2)).2)).2)).2)).2.1:=by first | rfl | (exact QH)
   have hm0_2:((Yj d0.1 d0.2).2.2:Bool)=true:=by first | rfl | (exact QH)
   refine ⟨[.bool false,str ([]),str ([])],?_,?_,?_,?_⟩
   rotate_left
   · rw [he0];exact (Ow.of (m:=Qr) rfl (Xl (m:=_) false [] [] bdm bdm))
   · rw [hm0_1,hm0_2,Zp]
   · rw [hm0_1];exact (show inK .i64 _ by simp only [inK];(first | exact bd))
   all_goals (first | rfl | (exact QH))
 refine VO.w (.ldA 121 rfl YS rfl (Qa rfl rfl)) ?_
 refine VO.gcallN 136 rfl ⟨_,rfl,rfl⟩ Qeq rfl (fun W hW=>Y0 W (Xl (m:=wm W) (decide (((Qe d0.1 1 d0.2).1)=1)) ((Qw d0.1 ((Qe d0.1 16 ((Qe d0.1 1 d0.2).2)).1) ((Qe d0.1 16 ((Qe d0.1 1 d0.2).2)).2)).1) ((Qw d0.1 ((Qe d0.1 32 ((Qw d0.1 ((Qe d0.1 16 ((Qe d0.1 1 d0.2).2)).1) ((Qe d0.1 16 ((Qe d0.1 1 d0.2).2)).2)).2)).1) ((Qe d0.1 32 ((Qw d0.1 ((Qe d0.1 16 ((Qe d0.1 1 d0.2).2)).1) ((Qe d0.1 16 ((Qe d0.1 1 d0.2).2)).2)).2)).2)).1) bdm bdm)) (fun v36 m36 hv36=>?_)
 try dsimp only at hv36
 subst hv36
 refine VO.w (.neq rfl rfl) (VO.z (.pF rfl rfl) (VO.k7 0 2 3 4 5 18 33 ?_))
 refine VC.cond rfl (fun hc37=>?_) (fun hc37=>?_)
 · refine VC.rs (VO.mv (VO.z (.nilp rfl) (VO.z (.fa rfl ZJ rfl) ?_)))
   refine VO.store (k:=1) (c':=[.slice A0_0 (d0.1.length) (c0_0),.int .i64 ((Qw d0.1 ((Qe d0.1 32 ((Qw d0.1 ((Qe d0.1 16 ((Qe d0.1 1 d0.2).2)).1) ((Qe d0.1 16 ((Qe d0.1 1 d0.2).2)).2)).2)).1) ((Qe d0.1 32 ((Qw d0.1 ((Qe d0.1 16 ((Qe d0.1 1 d0.2).2)).1) ((Qe d0.1 16 ((Qe d0.1 1 d0.2).2)).2)).2)).2)).2.1),.bool true]) 130 rfl rfl (.inr ⟨tk4,rfl⟩) rfl rfl rfl rfl rfl ?_
   refine VO.k7 0 2 3 4 5 18 33 (VC.rs ?_)
   refine VO.z (.bst (cs:=[.bool false,str ([]),str ([])]) rfl JM XB rfl) ?_
   refine VO.store (k:=3) (c':=[.bool false,str ([]),str ([])]) 102 rfl rfl (.inl YS) rfl rfl rfl rfl rfl ?_
   refine VO.p5 130 121 114 102 0 (VO.k7 0 2 3 4 5 18 33 (VC.ret (QS ?_)))
   refine ⟨_,_,Q8 (rs:=[.cell 2 73]) rfl (.agg 102 rfl YS rfl ⟨_,_,_,Qq _ _,Nat.le_of_ble_eq_true rfl,rfl⟩ .nil),fun W_ hI=>JC (l:=[QE g0 (.cells #[.slice A0_0 (d0.1.length) (c0_0),.int .i64 ((Qw d0.1 ((Qe d0.1 32 ((Qw d0.1 ((Qe d0.1 16 ((Qe d0.1 1 d0.2).2)).1) ((Qe d0.1 16 ((Qe d0.1 1 d0.2).2)).2)).2)).1) ((Qe d0.1 32 ((Qw d0.1 ((Qe d0.1 16 ((Qe d0.1 1 d0.2).2)).1) ((Qe d0.1 16 ((Qe d0.1 1 d0.2).2)).2)).2)).2)).2.1),.bool true] E0 (0,0))]) hI [130] rfl rfl (Qb _) (fun hS_=>?_)⟩
   dsimp only [Qv]
   have he0:((Yj d0.1 d0.2).1:Ty.Den TOp)=(false,[],[]):=by first | rfl | (exact QH)
   have hm0_1:((Yj d0.1 d0.2).2.1:Int)=(Qw d0.1 ((Qe d0.1 32 ((Qw d0.1 ((Qe d0.1 16 ((Qe d0.1 1 d0.2).2)).1) ((Qe d0.1 16 ((Qe d0.1 1 d0.2).2)).2)).2)).1) ((Qe d0.1 32 ((Qw d0.1 ((Qe d0.1 16 ((Qe d0.1 1 d0.2).2)).1) ((Qe d0.1 16 ((Qe d0.1 1 d0.2).2)).2)).2)).2)).2.1:=by first | rfl | (exact QH)
   have hm0_2:((Yj d0.1 d0.2).2.2:Bool)=true:=by first | rfl | (exact QH)
   refine ⟨[.bool false,str ([]),str ([])],?_,?_,?_,?_⟩
   rotate_left
   · rw [he0];exact (Ow.of (m:=Qr) rfl (Xl (m:=_) false [] [] bdm bdm))
   · rw [hm0_1,hm0_2,Zp]
   · rw [hm0_1];exact (show inK .i64 _ by simp only [inK];(first | exact bd))
   all_goals (first | rfl | (exact QH))
 · refine VC.skip (Qj (VC.rs (VO.z (.ldA 121 rfl YS rfl (Qa rfl rfl)) ?_)))
   refine VO.store (k:=3) (c':=[.bool (decide (((Qe d0.1 1 d0.2).1)=1)),str ((Qw d0.1 ((Qe d0.1 16 ((Qe d0.1 1 d0.2).2)).1) ((Qe d0.1 16 ((Qe d0.1 1 d0.2).2)).2)).1),str ((Qw d0.1 ((Qe d0.1 32 ((Qw d0.1 ((Qe d0.1 16 ((Qe d0.1 1 d0.2).2)).1) ((Qe d0.1 16 ((Qe d0.1 1 d0.2).2)).2)).2)).1) ((Qe d0.1 32 ((Qw d0.1 ((Qe d0.1 16 ((Qe d0.1 1 d0.2).2)).1) ((Qe d0.1 16 ((Qe d0.1 1 d0.2).2)).2)).2)).2)).1)]) 102 rfl rfl (.inl YS) rfl rfl rfl rfl rfl ?_
   refine VO.k7 0 2 3 4 5 18 33 (VC.ret ?_)
   refine ⟨_,_,Q8 (rs:=[.cell 2 73]) rfl (.agg 102 rfl YS rfl ⟨_,_,_,Qq _ _,Nat.le_of_ble_eq_true rfl,rfl⟩ .nil),fun W_ hI=>JC (l:=[QE g0 (.cells #[.slice A0_0 (d0.1.length) (c0_0),.int .i64 ((Qw d0.1 ((Qe d0.1 32 ((Qw d0.1 ((Qe d0.1 16 ((Qe d0.1 1 d0.2).2)).1) ((Qe d0.1 16 ((Qe d0.1 1 d0.2).2)).2)).2)).1) ((Qe d0.1 32 ((Qw d0.1 ((Qe d0.1 16 ((Qe d0.1 1 d0.2).2)).1) ((Qe d0.1 16 ((Qe d0.1 1 d0.2).2)).2)).2)).2)).2.1),.bool ((Qw d0.1 ((Qe d0.1 32 ((Qw d0.1 ((Qe d0.1 16 ((Qe d0.1 1 d0.2).2)).1) ((Qe d0.1 16 ((Qe d0.1 1 d0.2).2)).2)).2)).1) ((Qe d0.1 32 ((Qw d0.1 ((Qe d0.1 16 ((Qe d0.1 1 d0.2).2)).1) ((Qe d0.1 16 ((Qe d0.1 1 d0.2).2)).2)).2)).2)).2.2)] E0 (0,0))]) hI [130] rfl rfl (Qb _) (fun hS_=>?_)⟩
   dsimp only [Qv]
   have he0:((Yj d0.1 d0.2).1:Ty.Den TOp)=(decide (((Qe d0.1 1 d0.2).1)=1),(Qw d0.1 ((Qe d0.1 16 ((Qe d0.1 1 d0.2).2)).1) ((Qe d0.1 16 ((Qe d0.1 1 d0.2).2)).2)).1,(Qw d0.1 ((Qe d0.1 32 ((Qw d0.1 ((Qe d0.1 16 ((Qe d0.1 1 d0.2).2)).1) ((Qe d0.1 16 ((Qe d0.1 1 d0.2).2)).2)).2)).1) ((Qe d0.1 32 ((Qw d0.1 ((Qe d0.1 16 ((Qe d0.1 1 d0.2).2)).1) ((Qe d0.1 16 ((Qe d0.1 1 d0.2).2)).2)).2)).2)).1):=by first | rfl | (exact QH)
   have hm0_1:((Yj d0.1 d0.2).2.1:Int)=(Qw d0.1 ((Qe d0.1 32 ((Qw d0.1 ((Qe d0.1 16 ((Qe d0.1 1 d0.2).2)).1) ((Qe d0.1 16 ((Qe d0.1 1 d0.2).2)).2)).2)).1) ((Qe d0.1 32 ((Qw d0.1 ((Qe d0.1 16 ((Qe d0.1 1 d0.2).2)).1) ((Qe d0.1 16 ((Qe d0.1 1 d0.2).2)).2)).2)).2)).2.1:=by first | rfl | (exact QH)
   have hm0_2:((Yj d0.1 d0.2).2.2:Bool)=(Qw d0.1 ((Qe d0.1 32 ((Qw d0.1 ((Qe d0.1 16 ((Qe d0.1 1 d0.2).2)).1) ((Qe d0.1 16 ((Qe d0.1 1 d0.2).2)).2)).2)).1) ((Qe d0.1 32 ((Qw d0.1 ((Qe d0.1 16 ((Qe d0.1 1 d0.2).2)).1) ((Qe d0.1 16 ((Qe d0.1 1 d0.2).2)).2)).2)).2)).2.2:=by first | rfl | (exact QH)
   refine ⟨[.bool (decide (((Qe d0.1 1 d0.2).1)=1)),str ((Qw d0.1 ((Qe d0.1 16 ((Qe d0.1 1 d0.2).2)).1) ((Qe d0.1 16 ((Qe d0.1 1 d0.2).2)).2)).1),str ((Qw d0.1 ((Qe d0.1 32 ((Qw d0.1 ((Qe d0.1 16 ((Qe d0.1 1 d0.2).2)).1) ((Qe d0.1 16 ((Qe d0.1 1 d0.2).2)).2)).2)).1) ((Qe d0.1 32 ((Qw d0.1 ((Qe d0.1 16 ((Qe d0.1 1 d0.2).2)).1) ((Qe d0.1 16 ((Qe d0.1 1 d0.2).2)).2)).2)).2)).1)],?_,?_,?_,?_⟩
   rotate_left
   · rw [he0];exact (Ow.of (m:=Qr) rfl (Xl (m:=_) (decide (((Qe d0.1 1 d0.2).1)=1)) ((Qw d0.1 ((Qe d0.1 16 ((Qe d0.1 1 d0.2).2)).1) ((Qe d0.1 16 ((Qe d0.1 1 d0.2).2)).2)).1) ((Qw d0.1 ((Qe d0.1 32 ((Qw d0.1 ((Qe d0.1 16 ((Qe d0.1 1 d0.2).2)).1) ((Qe d0.1 16 ((Qe d0.1 1 d0.2).2)).2)).2)).1) ((Qe d0.1 32 ((Qw d0.1 ((Qe d0.1 16 ((Qe d0.1 1 d0.2).2)).1) ((Qe d0.1 16 ((Qe d0.1 1 d0.2).2)).2)).2)).2)).1) bdm bdm))
   · rw [hm0_1,hm0_2,Zp]
   · rw [hm0_1];exact (show inK .i64 _ by simp only [inK];(first | exact bd))
   all_goals (first | rfl | (exact QH))
 refine VC.skip (Qj (VC.seq (VC.rs (VO.mv (VO.z (.nilp rfl) (VO.z (.fa rfl ZJ rfl) (VO.z (.ld1 115 rfl tk4 rfl (Qa rfl rfl)) (VO.mv ?_))))))))
 refine VO.decB (t:=29) rfl (fun hc38=>?_) (fun hc38=>?_)
 · refine VO.gN (VO.gN (VO.gN (VO.z (.pT rfl rfl) (VO.p5 121 114 115 102 0 (VO.k7 0 2 3 4 5 18 33 (VC.condT rfl (VC.rs (VO.mv (VO.z (.nilp rfl) (VO.z (.fa rfl ZJ rfl) ?_))))))))))
   refine VO.store (k:=1) (c':=[.slice A0_0 (d0.1.length) (c0_0),.int .i64 ((Qw d0.1 ((Qe d0.1 16 ((Qe d0.1 1 d0.2).2)).1) ((Qe d0.1 16 ((Qe d0.1 1 d0.2).2)).2)).2.1),.bool true]) 115 rfl rfl (.inr ⟨tk4,rfl⟩) rfl rfl rfl rfl rfl ?_
   refine VO.k7 0 2 3 4 5 18 33 (VC.rs ?_)
   refine VO.z (.bst (cs:=[.bool false,str ([]),str ([])]) rfl JM XB rfl) ?_
   refine VO.store (k:=3) (c':=[.bool false,str ([]),str ([])]) 102 rfl rfl (.inl YS) rfl rfl rfl rfl rfl ?_
   refine VO.k7 0 2 3 4 5 18 33 (VC.ret (QS ?_))
   refine ⟨_,_,Q8 (rs:=[.cell 2 73]) rfl (.agg 102 rfl YS rfl ⟨_,_,_,Qq _ _,Nat.le_of_ble_eq_true rfl,rfl⟩ .nil),fun W_ hI=>JC (l:=[QE g0 (.cells #[.slice A0_0 (d0.1.length) (c0_0),.int .i64 ((Qw d0.1 ((Qe d0.1 16 ((Qe d0.1 1 d0.2).2)).1) ((Qe d0.1 16 ((Qe d0.1 1 d0.2).2)).2)).2.1),.bool true] E0 (0,0))]) hI [115] rfl rfl (Qb _) (fun hS_=>?_)⟩
   dsimp only [Qv]
   have he0:((Yj d0.1 d0.2).1:Ty.Den TOp)=(false,[],[]):=by first | rfl | (exact QH)
   have hm0_1:((Yj d0.1 d0.2).2.1:Int)=(Qw d0.1 ((Qe d0.1 16 ((Qe d0.1 1 d0.2).2)).1) ((Qe d0.1 16 ((Qe d0.1 1 d0.2).2)).2)).2.1:=by first | rfl | (exact QH)
   have hm0_2:((Yj d0.1 d0.2).2.2:Bool)=true:=by first | rfl | (exact QH)
   refine ⟨[.bool false,str ([]),str ([])],?_,?_,?_,?_⟩
   rotate_left
   · rw [he0];exact (Ow.of (m:=Qr) rfl (Xl (m:=_) false [] [] bdm bdm))
   · rw [hm0_1,hm0_2,Zp]
   · rw [hm0_1];exact (show inK .i64 _ by simp only [inK];(first | exact bd))
   all_goals (first | rfl | (exact QH))
 refine VO.w (.ldA 121 rfl YS rfl (Qa rfl rfl)) ?_
 refine VO.gcallN 139 rfl ⟨_,rfl,rfl⟩ Qeq rfl (fun W hW=>Y0 W (Xl (m:=wm W) (decide (((Qe d0.1 1 d0.2).1)=1)) ((Qw d0.1 ((Qe d0.1 16 ((Qe d0.1 1 d0.2).2)).1) ((Qe d0.1 16 ((Qe d0.1 1 d0.2).2)).2)).1) [] bdm bdm)) (fun v39 m39 hv39=>?_)
 try dsimp only at hv39
 subst hv39
 refine VO.w (.neq rfl rfl) (VO.z (.pF rfl rfl) (VO.p5 121 114 115 102 0 (VO.k7 0 2 3 4 5 18 33 ?_)))
 refine VC.cond rfl (fun hc40=>?_) (fun hc40=>?_)
 · refine VC.rs (VO.mv (VO.z (.nilp rfl) (VO.z (.fa rfl ZJ rfl) ?_)))
   refine VO.store (k:=1) (c':=[.slice A0_0 (d0.1.length) (c0_0),.int .i64 ((Qw d0.1 ((Qe d0.1 16 ((Qe d0.1 1 d0.2).2)).1) ((Qe d0.1 16 ((Qe d0.1 1 d0.2).2)).2)).2.1),.bool true]) 115 rfl rfl (.inr ⟨tk4,rfl⟩) rfl rfl rfl rfl rfl ?_
   refine VO.k7 0 2 3 4 5 18 33 (VC.rs ?_)
   refine VO.z (.bst (cs:=[.bool false,str ([]),str ([])]) rfl JM XB rfl) ?_
   refine VO.store (k:=3) (c':=[.bool false,str ([]),str ([])]) 102 rfl rfl (.inl YS) rfl rfl rfl rfl rfl ?_
   refine VO.k7 0 2 3 4 5 18 33 (VC.ret (QS ?_))
   refine ⟨_,_,Q8 (rs:=[.cell 2 73]) rfl (.agg 102 rfl YS rfl ⟨_,_,_,Qq _ _,Nat.le_of_ble_eq_true rfl,rfl⟩ .nil),fun W_ hI=>JC (l:=[QE g0 (.cells #[.slice A0_0 (d0.1.length) (c0_0),.int .i64 ((Qw d0.1 ((Qe d0.1 16 ((Qe d0.1 1 d0.2).2)).1) ((Qe d0.1 16 ((Qe d0.1 1 d0.2).2)).2)).2.1),.bool true] E0 (0,0))]) hI [115] rfl rfl (Qb _) (fun hS_=>?_)⟩
   dsimp only [Qv]
   have he0:((Yj d0.1 d0.2).1:Ty.Den TOp)=(false,[],[]):=by first | rfl | (exact QH)
   have hm0_1:((Yj d0.1 d0.2).2.1:Int)=(Qw d0.1 ((Qe d0.1 16 ((Qe d0.1 1 d0.2).2)).1) ((Qe d0.1 16 ((Qe d0.1 1 d0.2).2)).2)).2.1:=by first | rfl | (exact QH)
   have hm0_2:((Yj d0.1 d0.2).2.2:Bool)=true:=by first | rfl | (exact QH)
   refine ⟨[.bool false,str ([]),str ([])],?_,?_,?_,?_⟩
   rotate_left
   · rw [he0];exact (Ow.of (m:=Qr) rfl (Xl (m:=_) false [] [] bdm bdm))
   · rw [hm0_1,hm0_2,Zp]
   · rw [hm0_1];exact (show inK .i64 _ by simp only [inK];(first | exact bd))
   all_goals (first | rfl | (exact QH))
 · refine VC.skip (Qj (VC.rs (VO.z (.ldA 121 rfl YS rfl (Qa rfl rfl)) ?_)))
   refine VO.store (k:=3) (c':=[.bool (decide (((Qe d0.1 1 d0.2).1)=1)),str ((Qw d0.1 ((Qe d0.1 16 ((Qe d0.1 1 d0.2).2)).1) ((Qe d0.1 16 ((Qe d0.1 1 d0.2).2)).2)).1),str ([])]) 102 rfl rfl (.inl YS) rfl rfl rfl rfl rfl ?_
   refine VO.k7 0 2 3 4 5 18 33 (VC.ret ?_)
   refine ⟨_,_,Q8 (rs:=[.cell 2 73]) rfl (.agg 102 rfl YS rfl ⟨_,_,_,Qq _ _,Nat.le_of_ble_eq_true rfl,rfl⟩ .nil),fun W_ hI=>JC (l:=[QE g0 (.cells #[.slice A0_0 (d0.1.length) (c0_0),.int .i64 ((Qw d0.1 ((Qe d0.1 16 ((Qe d0.1 1 d0.2).2)).1) ((Qe d0.1 16 ((Qe d0.1 1 d0.2).2)).2)).2.1),.bool ((Qw d0.1 ((Qe d0.1 16 ((Qe d0.1 1 d0.2).2)).1) ((Qe d0.1 16 ((Qe d0.1 1 d0.2).2)).2)).2.2)] E0 (0,0))]) hI [115] rfl rfl (Qb _) (fun hS_=>?_)⟩
   dsimp only [Qv]
   have he0:((Yj d0.1 d0.2).1:Ty.Den TOp)=(decide (((Qe d0.1 1 d0.2).1)=1),(Qw d0.1 ((Qe d0.1 16 ((Qe d0.1 1 d0.2).2)).1) ((Qe d0.1 16 ((Qe d0.1 1 d0.2).2)).2)).1,[]):=by first | rfl | (exact QH)
   have hm0_1:((Yj d0.1 d0.2).2.1:Int)=(Qw d0.1 ((Qe d0.1 16 ((Qe d0.1 1 d0.2).2)).1) ((Qe d0.1 16 ((Qe d0.1 1 d0.2).2)).2)).2.1:=by first | rfl | (exact QH)
   have hm0_2:((Yj d0.1 d0.2).2.2:Bool)=(Qw d0.1 ((Qe d0.1 16 ((Qe d0.1 1 d0.2).2)).1) ((Qe d0.1 16 ((Qe d0.1 1 d0.2).2)).2)).2.2:=by first | rfl | (exact QH)
   refine ⟨[.bool (decide (((Qe d0.1 1 d0.2).1)=1)),str ((Qw d0.1 ((Qe d0.1 16 ((Qe d0.1 1 d0.2).2)).1) ((Qe d0.1 16 ((Qe d0.1 1 d0.2).2)).2)).1),str ([])],?_,?_,?_,?_⟩
   rotate_left
   · rw [he0];exact (Ow.of (m:=Qr) rfl (Xl (m:=_) (decide (((Qe d0.1 1 d0.2).1)=1)) ((Qw d0.1 ((Qe d0.1 16 ((Qe d0.1 1 d0.2).2)).1) ((Qe d0.1 16 ((Qe d0.1 1 d0.2).2)).2)).1) [] bdm bdm))
   · rw [hm0_1,hm0_2,Zp]
   · rw [hm0_1];exact (show inK .i64 _ by simp only [inK];(first | exact bd))
   all_goals (first | rfl | (exact QH))
theorem Jp {P:Prop} (h:P:=by first | (rw [QmA hp (by first | exact .inl (by omega) | exact .inr (by assumption)) (by assumption)] <;> first | rfl | done) | (rw [Qmz hp (by first | exact .inl (by omega) | exact .inr (by assumption)) (by assumption)] <;> first | rfl | done) | (rw [Qmy hp (by first | exact .inl (by omega) | exact .inr (by assumption)) (by assumption) (by assumption)] <;> first | rfl | done)):P:=h
set_option maxHeartbeats 1000000 in
theorem QhJ (W:World) {v0:Value} {d0:List UInt8} (h0:Rd (.sl .byte) (wm W) [v0] d0) (e0:d0.length≤140737488355000):Qg Tryz.prog 92 [v0] W (Qr) (fun v m'=>∃ (s0:List Value),v= .tuple #[.agg s0.toArray,.int .i64 ((Qi d0).2)]∧Ow ZL m' s0 ((Qi d0).1)):=by
 obtain ⟨A0,c0,rfl,l0,k0⟩:=h0.slc
 refine Qg.ofA (n:=45) Tryz.func92 rfl rfl rfl ?_
 refine VC.rs ?_
 refine VO.alloc 102 rfl X6 (fun g1=>?_)
 refine VO.as (VO.k3 0 2 3 (VC.rs (VO.mv ?_)))
 refine VO.z (.bst (cs:=[.slice A0 (d0.length) (c0),.int .i64 (0),.bool false]) rfl ZJ tz133 rfl) ?_
 refine VO.box (cs:=[.slice A0 (d0.length) (c0),.int .i64 (0),.bool false]) 104 rfl rfl rfl (fun g3=>?_)
 refine VO.as (VO.k4 0 2 3 4 (VC.rs (VO.mv ?_)))
 refine VO.call 104 rfl QbP rfl rfl (fun W hW=>XX W (d0:=(d0,0,false)) (hW.t 104) (Rd.mono h0 (hW.o 104 0)) bdk 1048576 bdk Xc) (fun v5 m5 hv5=>?_)
 try dsimp only at hv5
 obtain ⟨rfl,rfl,w5_0_1⟩:=hv5
 have hfa6:=(JW (B:=d0) (m:=1048576) (s:=(0,false)) Xc Qx).1
 have hfa7:=(JW (B:=d0) (m:=1048576) (s:=(0,false)) Xc Qx).1.1
 have hfa8:=(JW (B:=d0) (m:=1048576) (s:=(0,false)) Xc Qx).1.2
 have hfa9:=(JW (B:=d0) (m:=1048576) (s:=(0,false)) Xc Qx).2
 simp only [inK] at w5_0_1
 refine VO.mv ?_
 refine VO.call 104 rfl QbP rfl rfl (fun W hW=>XX W (d0:=(d0,(Qe d0 1048576 (0,false)).2)) (hW.t 104) (Rd.mono h0 (hW.o 104 0)) bdk 1048576 bdk Xc) (fun v10 m10 hv10=>?_)
 try dsimp only at hv10
 obtain ⟨rfl,rfl,w10_0_1⟩:=hv10
 have hfa11:=(JW (B:=d0) (m:=1048576) (s:=((Qe d0 1048576 (0,false)).2)) Xc Qx).1
 have hfa12:=(JW (B:=d0) (m:=1048576) (s:=((Qe d0 1048576 (0,false)).2)) Xc Qx).1.1
 have hfa13:=(JW (B:=d0) (m:=1048576) (s:=((Qe d0 1048576 (0,false)).2)) Xc Qx).1.2
 have hfa14:=(JW (B:=d0) (m:=1048576) (s:=((Qe d0 1048576 (0,false)).2)) Xc Qx).2
 simp only [inK] at w10_0_1
 refine VO.z (.bst (cs:=[.int .i64 ((Qe d0 1048576 (0,false)).1),.int .i64 ((Qe d0 1048576 ((Qe d0 1048576 (0,false)).2)).1),.slice none (0) (0)]) rfl Jl X6 rfl) ?_
 refine VO.alloc 116 rfl X6 (fun g15=>?_)
 refine VO.store (k:=3) (c':=[.int .i64 ((Qe d0 1048576 (0,false)).1),.int .i64 ((Qe d0 1048576 ((Qe d0 1048576 (0,false)).2)).1),.slice none (0) (0)]) 116 rfl rfl (.inl Yx) rfl rfl rfl rfl rfl ?_
 refine VO.p4 116 104 102 0 (VO.k5 0 2 3 4 5 (VC.seq (VC.rs (VO.mv ?_))))
 refine VO.call 104 rfl QbP rfl rfl (fun W hW=>XX W (d0:=(d0,(Qe d0 1048576 ((Qe d0 1048576 (0,false)).2)).2)) (hW.t 104) (Rd.mono h0 (hW.o 104 0)) bdk 1024 bdk Xc) (fun v17 m17 hv17=>?_)
 try dsimp only at hv17
 obtain ⟨rfl,rfl,w17_0_1⟩:=hv17
 have hfa18:=(JW (B:=d0) (m:=1024) (s:=((Qe d0 1048576 ((Qe d0 1048576 (0,false)).2)).2)) Xc Qx).1
 have hfa19:=(JW (B:=d0) (m:=1024) (s:=((Qe d0 1048576 ((Qe d0 1048576 (0,false)).2)).2)) Xc Qx).1.1
 have hfa20:=(JW (B:=d0) (m:=1024) (s:=((Qe d0 1048576 ((Qe d0 1048576 (0,false)).2)).2)) Xc Qx).1.2
 have hfa21:=(JW (B:=d0) (m:=1024) (s:=((Qe d0 1048576 ((Qe d0 1048576 (0,false)).2)).2)) Xc Qx).2
 simp only [inK] at w17_0_1
 refine VO.as (VO.k6 0 2 3 4 5 6 (VC.block ?_))
 refine VC.inv ((122,Qr)::_) (fun _ h=>h.nilc 122) ?_
 refine VC.loop (G:=Int × (List DOp) × (Option Addr) × Nat × Mem × Int × Bool) (fun g=>[(6,.int .i64 ((g.1))),(0,.slice A0 (d0.length) (c0)),(2,.pointer (some ⟨g1,0,none⟩)),(3,.int .i64 (0)),(4,.pointer (some ⟨g3,0,none⟩)),(5,.pointer (some ⟨g15,0,none⟩))]) (fun g=>[(122,(g.2.2.2.2.1)),(104,QE g3 (.cells #[.slice A0 (d0.length) (c0),.int .i64 ((g.2.2.2.2.2.1)),.bool (g.2.2.2.2.2.2)] 133 (0,0))),(116,QE g15 (.cells #[.int .i64 ((Qe d0 1048576 (0,false)).1),.int .i64 ((Qe d0 1048576 ((Qe d0 1048576 (0,false)).2)).1),.slice (g.2.2.1) ((g.2.1).length) ((g.2.2.2.1))] 38 (0,0))),(102,QE g1 (.cells #[.int .i64 (0),.int .i64 (0),.slice none (0) (0)] 38 (0,0))),(0,wm W)]) (fun g=>(ZR d0 (Qe d0 1024 (Qe d0 1048576 (Qe d0 1048576 (0,false)).2).2).1.toNat (Qe d0 1024 (Qe d0 1048576 (Qe d0 1048576 (0,false)).2).2).2=((g.2.1)++(ZR d0 (g.1).toNat ((g.2.2.2.2.2.1),(g.2.2.2.2.2.2))).1,(ZR d0 (g.1).toNat ((g.2.2.2.2.2.1),(g.2.2.2.2.2.2))).2))∧(rOk d0 ((g.2.2.2.2.2.1),(g.2.2.2.2.2.2)))∧((g.1)≤1024)∧((g.2.1).length+(g.1).toNat≤1024)∧(Qz TOp (g.2.2.2.2.1) Qr (.slice (g.2.2.1) (g.2.1).length (g.2.2.2.1)) (g.2.1))) (fun g=>(g.1).toNat) ((Qe d0 1024 ((Qe d0 1048576 ((Qe d0 1048576 (0,false)).2)).2)).1,[],none,0,Qr,(Qe d0 1024 ((Qe d0 1048576 ((Qe d0 1048576 (0,false)).2)).2)).2.1,(Qe d0 1024 ((Qe d0 1048576 ((Qe d0 1048576 (0,false)).2)).2)).2.2) (⟨by rfl,by assumption,by omega,by (simp;omega),(Qz.nil TOp Qr Qr)⟩) ⟨esn,fun _ h=>h.sub [122,104,116,102,0]⟩ ?_
 rintro ⟨k,l,l_A,l_c,l_m,at_,bad⟩ ⟨hp,hok,hk,hlen,h_l⟩
 replace hp:ZR d0 (Qe d0 1024 (Qe d0 1048576 (Qe d0 1048576 (0,false)).2).2).1.toNat (Qe d0 1024 (Qe d0 1048576 (Qe d0 1048576 (0,false)).2).2).2=(l++(ZR d0 k.toNat (at_,bad)).1,(ZR d0 k.toNat (at_,bad)).2):=hp
 replace hok:rOk d0 (at_,bad):=hok
 replace hk:k≤1024:=hk
 replace hlen:l.length+k.toNat≤1024:=hlen
 replace h_l:Qz TOp l_m Qr (.slice l_A l.length l_c) l:=h_l
 show VC _ _ _ _ _ [(6,.int .i64 (k)),(0,.slice A0 (d0.length) (c0)),(2,.pointer (some ⟨g1,0,none⟩)),(3,.int .i64 (0)),(4,.pointer (some ⟨g3,0,none⟩)),(5,.pointer (some ⟨g15,0,none⟩))] [(122,l_m),(104,QE g3 (.cells #[.slice A0 (d0.length) (c0),.int .i64 (at_),.bool bad] 133 (0,0))),(116,QE g15 (.cells #[.int .i64 ((Qe d0 1048576 (0,false)).1),.int .i64 ((Qe d0 1048576 ((Qe d0 1048576 (0,false)).2)).1),.slice l_A (l.length) (l_c)] 38 (0,0))),(102,QE g1 (.cells #[.int .i64 (0),.int .i64 (0),.slice none (0) (0)] 38 (0,0))),(0,wm W)]
 have l_l:l.length≤l_c:=by obtain ⟨_,_,he,hl,_⟩:=h_l.slice;simp only [Value.slice.injEq] at he;omega
 have k_l:l_c≤9223372036854775807:=by obtain ⟨_,_,he,_,hl⟩:=h_l.slice;simp only [Value.slice.injEq,maxLen] at he hl;omega
 obtain ⟨hoka,hokb⟩:=(show 0≤at_∧at_≤d0.length from hok)
 refine VC.seq (VC.rs (VO.mv (VO.z (.gtr rfl rfl) (VO.mv ?_))))
 refine VO.dec (t:=19) rfl (fun hc23=>?_) (fun hc23=>?_)
 refine VO.w (.mv rfl) (VO.w (.nilp rfl) (VO.w (.fa rfl ZJ rfl) (VO.w (.ld1 104 rfl tk4 rfl (Qa rfl rfl)) (VO.w (.not rfl) (VO.z (.pT rfl rfl) (VO.k7 0 2 3 4 5 6 25 ?_))))))
 refine VC.condBN rfl (fun hc24=>?_) (fun hc24=>?_)
 refine VC.skip (Qj (VC.seq (VC.block ?_)))
 refine VC.regD _ 5 [(0,true),(1,true),(2,true),(3,false),(4,false)] follows (by kernel_rfl) (fun _ h=>h.sub [122,116,102,0]) ?_
 refine VD.z rfl (.fa rfl Jl rfl) (VD.z rfl (.ld1 116 rfl YY rfl (Qa rfl rfl)) (VD.z rfl (.mv rfl) ?_))
 refine VD.call 104 rfl rfl (.inl rfl) Qn7 rfl rfl (fun _ _ h=>h.sub [122,116,102,0]) (fun W hW=>Qkt W (d0:=(d0,at_,bad)) (hW.t 104) (Rd.mono h0 (hW.o 104 0)) bdk Xc) (fun v25 m25 hv25=>?_)
 try dsimp only at hv25
 obtain ⟨s25_0,rfl,f25_0,rfl,w25_0_1⟩:=hv25
 have hfa26:=(Qd9 (B:=d0) (s:=(at_,bad)) Xc).1
 have hfa27:=(Qd9 (B:=d0) (s:=(at_,bad)) Xc).1.1
 have hfa28:=(Qd9 (B:=d0) (s:=(at_,bad)) Xc).1.2
 have hfa29:=(Qd9 (B:=d0) (s:=(at_,bad)) Xc).2.1
 have hfa30:=(Qd9 (B:=d0) (s:=(at_,bad)) Xc).2.2
 simp only [inK] at w25_0_1
 obtain ⟨rfl,q25_0_1,q25_0_2⟩:=JA (x0:=((Yj d0 (at_,bad)).1).1) (x1:=((Yj d0 (at_,bad)).1).2.1) (x2:=((Yj d0 (at_,bad)).1).2.2) (f25_0.rd (Qb _))
 simp only [maxLen] at q25_0_1
 simp only [maxLen] at q25_0_2
 refine VD.bsl (cs:=[.bool (((Yj d0 (at_,bad)).1).1),str (((Yj d0 (at_,bad)).1).2.1),str (((Yj d0 (at_,bad)).1).2.2)]) 132 rfl rfl rfl Ji XB rfl rfl (fun _ h=>h.sub [122,116,102,0]) (fun g31=>?_)
 refine VD.nil rfl ?_ rfl
 obtain ⟨mo33,cs33,hM33,hA33,hC33⟩:=h_l
 refine VO.app 122 rfl rfl rfl Ji XB rfl rfl hM33 hA33 (.row 132 _ _ _ 1 1 _ _ Tryz.underlying36 rfl (Qa rfl rfl)) (by simp [Value.oneCell']) bdm bd (by decide) (fun v33 m33 hN33=>?_)
 have ho33:Qz TOp m33 Qr v33 (l++[((Yj d0 (at_,bad)).1)]):=Qz.one hC33 hN33 (show Rd TOp _ _ ((Yj d0 (at_,bad)).1) from (Xl (m:=_) (((Yj d0 (at_,bad)).1).1) (((Yj d0 (at_,bad)).1).2.1) (((Yj d0 (at_,bad)).1).2.2) bdm bdm))
 obtain ⟨A33,c33,rfl,l33,k33⟩:=ho33.slc
 refine VO.z (.fa rfl Jl rfl) ?_
 refine VO.store (k:=1) (c':=[.int .i64 ((Qe d0 1048576 (0,false)).1),.int .i64 ((Qe d0 1048576 ((Qe d0 1048576 (0,false)).2)).1),.slice A33 ((l++[((Yj d0 (at_,bad)).1)]).length) (c33)]) 116 rfl rfl (.inr ⟨YY,rfl⟩) rfl rfl rfl rfl rfl ?_
 refine VO.p5 104 122 116 102 0 (VO.k7 0 2 3 4 5 6 25 (JE (Qj ?_)))
 refine VC.reg ?_
 refine VO.mv ?_
 refine VO.z (.sub rfl rfl rfl ⟨bd,bd⟩) ?_
 refine VO.as (VO.k7 0 2 3 4 5 6 25 ?_)
 exact Qj ⟨⟨k - 1,l++[((Yj d0 (at_,bad)).1)],A33,c33,m33,(Yj d0 (at_,bad)).2.1,(Yj d0 (at_,bad)).2.2⟩,⟨by exact QkA hp Qx Qd,by assumption,by omega,by (simp only [List.length_append,List.length_cons,List.length_nil];omega),ho33⟩,bd,⟨esn,fun _ h=>Inv.sub h [122,104,116,102,0]⟩⟩
 refine VC.exit (Zc (Zc (Zd (Qj (VC.seq (VC.rs (VO.mv ?_)))))))
 refine VO.call 104 rfl Qld rfl rfl (fun W hW=>QiA W (d0:=(d0,at_,bad)) (hW.t 104) (Rd.mono h0 (hW.o 104 0)) bdk) (fun v34 m34 hv34=>?_)
 try dsimp only at hv34
 obtain ⟨rfl,rfl,w34_0_1⟩:=hv34
 simp only [inK] at w34_0_1
 refine VO.z (.notD rfl) (VO.mv ?_)
 refine VO.dec (t:=38) rfl (fun hc35=>?_) (fun hc35=>?_)
 · refine VO.gN (VO.gN (VO.gN (VO.z (.pT rfl rfl) (VO.p5 104 122 116 102 0 (VO.k8 0 2 3 4 5 6 25 42 (VC.condT rfl (VC.rs ?_)))))))
   refine VO.z (.bst (cs:=[.int .i64 (0),.int .i64 (0),.slice none (0) (0)]) rfl Jl X6 rfl) ?_
   refine VO.store (k:=3) (c':=[.int .i64 (0),.int .i64 (0),.slice none (0) (0)]) 102 rfl rfl (.inl Yx) rfl rfl rfl rfl rfl ?_
   refine VO.as (VO.k8 0 2 3 4 5 6 25 42 (VC.ret (QS ?_)))
   refine ⟨_,_,Q8 (rs:=[.cell 2 38,.tmp 3]) rfl (.agg 102 rfl Yx rfl ⟨_,_,_,Qq _ _,Nat.le_of_ble_eq_true rfl,rfl⟩ (.tmp rfl .nil)),fun W_ hI=>JC (l:=[]) hI [] rfl rfl (Qb _) (fun hS_=>?_)⟩
   dsimp only [Qv]
   have he0:((Qi d0).1:Ty.Den ZL)=(0,0,[]):=by first | rfl | (exact Jp)
   refine ⟨[.int .i64 (0),.int .i64 (0),.slice none (0) (0)],?_,?_⟩
   rotate_left
   · rw [he0];exact (ZC _ _ _ (Qu.nilAt 0 hS_) bdk bdk (Ow.nil _ _))
   all_goals (first | rfl | (exact Jp))
 refine VO.w (.ldA 116 rfl Yx rfl (Qa rfl rfl)) ?_
 refine VO.gcallN 136 rfl ⟨_,rfl,rfl⟩ Qk1 rfl (fun W hW=>QcU W (Qce (m:=wm W) ((Qe d0 1048576 (0,false)).1) ((Qe d0 1048576 ((Qe d0 1048576 (0,false)).2)).1) l bdk bdk (Qz.rd h_l (hW.t 122) (Jr _)))) (fun v36 m36 hv36=>?_)
 try dsimp only at hv36
 subst hv36
 have hfa37:=Ya ((Qe d0 1048576 (0,false)).1,(Qe d0 1048576 ((Qe d0 1048576 (0,false)).2)).1,l)
 refine VO.w (.neq rfl rfl) (VO.z (.pF rfl rfl) (VO.p5 104 122 116 102 0 (VO.k8 0 2 3 4 5 6 25 42 ?_)))
 refine VC.cond rfl (fun hc38=>?_) (fun hc38=>?_)
 · refine VC.rs ?_
   refine VO.z (.bst (cs:=[.int .i64 (0),.int .i64 (0),.slice none (0) (0)]) rfl Jl X6 rfl) ?_
   refine VO.store (k:=3) (c':=[.int .i64 (0),.int .i64 (0),.slice none (0) (0)]) 102 rfl rfl (.inl Yx) rfl rfl rfl rfl rfl ?_
   refine VO.as (VO.k8 0 2 3 4 5 6 25 42 (VC.ret (QS ?_)))
   refine ⟨_,_,Q8 (rs:=[.cell 2 38,.tmp 3]) rfl (.agg 102 rfl Yx rfl ⟨_,_,_,Qq _ _,Nat.le_of_ble_eq_true rfl,rfl⟩ (.tmp rfl .nil)),fun W_ hI=>JC (l:=[]) hI [] rfl rfl (Qb _) (fun hS_=>?_)⟩
   dsimp only [Qv]
   have he0:((Qi d0).1:Ty.Den ZL)=(0,0,[]):=by first | rfl | (exact Jp)
   refine ⟨[.int .i64 (0),.int .i64 (0),.slice none (0) (0)],?_,?_⟩
   rotate_left
   · rw [he0];exact (ZC _ _ _ (Qu.nilAt 0 hS_) bdk bdk (Ow.nil _ _))
   all_goals (first | rfl | (exact Jp))
 · refine VC.skip (Qj (VC.rs (VO.z (.ldA 116 rfl Yx rfl (Qa rfl rfl)) ?_)))
   refine VO.store (k:=3) (c':=[.int .i64 ((Qe d0 1048576 (0,false)).1),.int .i64 ((Qe d0 1048576 ((Qe d0 1048576 (0,false)).2)).1),.slice l_A (l.length) (l_c)]) 102 rfl rfl (.inl Yx) rfl rfl rfl rfl rfl ?_
   refine VO.as (VO.k8 0 2 3 4 5 6 25 42 (VC.ret ?_))
   refine ⟨_,_,Q8 (rs:=[.cell 2 38,.tmp 3]) rfl (.agg 102 rfl Yx rfl ⟨_,_,_,Qq _ _,Nat.le_of_ble_eq_true rfl,rfl⟩ (.tmp rfl .nil)),fun W_ hI=>JC (l:=[l_m]) hI [122] rfl rfl (Qb _) (fun hS_=>?_)⟩
   dsimp only [Qv]
   have he0:((Qi d0).1:Ty.Den ZL)=((Qe d0 1048576 (0,false)).1,(Qe d0 1048576 ((Qe d0 1048576 (0,false)).2)).1,l):=by first | rfl | (exact Jp)
   refine ⟨[.int .i64 ((Qe d0 1048576 (0,false)).1),.int .i64 ((Qe d0 1048576 ((Qe d0 1048576 (0,false)).2)).1),.slice l_A (l.length) (l_c)],?_,?_⟩
   rotate_left
   · rw [he0];exact (ZC _ _ _ hS_ bdk bdk (Qz.ow h_l rfl))
   all_goals (first | rfl | (exact Jp))
 refine VO.gN (VO.gN (VO.gN (VO.gN (VO.gN (VO.z (.pF rfl rfl) (VO.k7 0 2 3 4 5 6 25 (VC.condF rfl (VC.exit (Zc (Zc (Zd ?_)))))))))))
 refine Qj (VC.seq (VC.rs (VO.mv ?_)))
 refine VO.call 104 rfl Qld rfl rfl (fun W hW=>QiA W (d0:=(d0,at_,bad)) (hW.t 104) (Rd.mono h0 (hW.o 104 0)) bdk) (fun v39 m39 hv39=>?_)
 try dsimp only at hv39
 obtain ⟨rfl,rfl,w39_0_1⟩:=hv39
 simp only [inK] at w39_0_1
 refine VO.z (.notD rfl) (VO.mv ?_)
 refine VO.dec (t:=38) rfl (fun hc40=>?_) (fun hc40=>?_)
 · refine VO.gN (VO.gN (VO.gN (VO.z (.pT rfl rfl) (VO.p5 104 122 116 102 0 (VO.k8 0 2 3 4 5 6 25 42 (VC.condT rfl (VC.rs ?_)))))))
   refine VO.z (.bst (cs:=[.int .i64 (0),.int .i64 (0),.slice none (0) (0)]) rfl Jl X6 rfl) ?_
   refine VO.store (k:=3) (c':=[.int .i64 (0),.int .i64 (0),.slice none (0) (0)]) 102 rfl rfl (.inl Yx) rfl rfl rfl rfl rfl ?_
   refine VO.as (VO.k8 0 2 3 4 5 6 25 42 (VC.ret (QS ?_)))
   refine ⟨_,_,Q8 (rs:=[.cell 2 38,.tmp 3]) rfl (.agg 102 rfl Yx rfl ⟨_,_,_,Qq _ _,Nat.le_of_ble_eq_true rfl,rfl⟩ (.tmp rfl .nil)),fun W_ hI=>JC (l:=[]) hI [] rfl rfl (Qb _) (fun hS_=>?_)⟩
   dsimp only [Qv]
   have he0:((Qi d0).1:Ty.Den ZL)=(0,0,[]):=by first | rfl | (exact Jp)
   refine ⟨[.int .i64 (0),.int .i64 (0),.slice none (0) (0)],?_,?_⟩
   rotate_left
   · rw [he0];exact (ZC _ _ _ (Qu.nilAt 0 hS_) bdk bdk (Ow.nil _ _))
   all_goals (first | rfl | (exact Jp))
 refine VO.w (.ldA 116 rfl Yx rfl (Qa rfl rfl)) ?_
 refine VO.gcallN 141 rfl ⟨_,rfl,rfl⟩ Qk1 rfl (fun W hW=>QcU W (Qce (m:=wm W) ((Qe d0 1048576 (0,false)).1) ((Qe d0 1048576 ((Qe d0 1048576 (0,false)).2)).1) l bdk bdk (Qz.rd h_l (hW.t 122) (Jr _)))) (fun v41 m41 hv41=>?_)
 try dsimp only at hv41
 subst hv41
 have hfa42:=Ya ((Qe d0 1048576 (0,false)).1,(Qe d0 1048576 ((Qe d0 1048576 (0,false)).2)).1,l)
 refine VO.w (.neq rfl rfl) (VO.z (.pF rfl rfl) (VO.p5 104 122 116 102 0 (VO.k8 0 2 3 4 5 6 25 42 ?_)))
 refine VC.cond rfl (fun hc43=>?_) (fun hc43=>?_)
 · refine VC.rs ?_
   refine VO.z (.bst (cs:=[.int .i64 (0),.int .i64 (0),.slice none (0) (0)]) rfl Jl X6 rfl) ?_
   refine VO.store (k:=3) (c':=[.int .i64 (0),.int .i64 (0),.slice none (0) (0)]) 102 rfl rfl (.inl Yx) rfl rfl rfl rfl rfl ?_
   refine VO.as (VO.k8 0 2 3 4 5 6 25 42 (VC.ret (QS ?_)))
   refine ⟨_,_,Q8 (rs:=[.cell 2 38,.tmp 3]) rfl (.agg 102 rfl Yx rfl ⟨_,_,_,Qq _ _,Nat.le_of_ble_eq_true rfl,rfl⟩ (.tmp rfl .nil)),fun W_ hI=>JC (l:=[]) hI [] rfl rfl (Qb _) (fun hS_=>?_)⟩
   dsimp only [Qv]
   have he0:((Qi d0).1:Ty.Den ZL)=(0,0,[]):=by first | rfl | (exact Jp)
   refine ⟨[.int .i64 (0),.int .i64 (0),.slice none (0) (0)],?_,?_⟩
   rotate_left
   · rw [he0];exact (ZC _ _ _ (Qu.nilAt 0 hS_) bdk bdk (Ow.nil _ _))
   all_goals (first | rfl | (exact Jp))
 · refine VC.skip (Qj (VC.rs (VO.z (.ldA 116 rfl Yx rfl (Qa rfl rfl)) ?_)))
   refine VO.store (k:=3) (c':=[.int .i64 ((Qe d0 1048576 (0,false)).1),.int .i64 ((Qe d0 1048576 ((Qe d0 1048576 (0,false)).2)).1),.slice l_A (l.length) (l_c)]) 102 rfl rfl (.inl Yx) rfl rfl rfl rfl rfl ?_
   refine VO.as (VO.k8 0 2 3 4 5 6 25 42 (VC.ret ?_))
   refine ⟨_,_,Q8 (rs:=[.cell 2 38,.tmp 3]) rfl (.agg 102 rfl Yx rfl ⟨_,_,_,Qq _ _,Nat.le_of_ble_eq_true rfl,rfl⟩ (.tmp rfl .nil)),fun W_ hI=>JC (l:=[l_m]) hI [122] rfl rfl (Qb _) (fun hS_=>?_)⟩
   dsimp only [Qv]
   have he0:((Qi d0).1:Ty.Den ZL)=((Qe d0 1048576 (0,false)).1,(Qe d0 1048576 ((Qe d0 1048576 (0,false)).2)).1,l):=by first | rfl | (exact Jp)
   refine ⟨[.int .i64 ((Qe d0 1048576 (0,false)).1),.int .i64 ((Qe d0 1048576 ((Qe d0 1048576 (0,false)).2)).1),.slice l_A (l.length) (l_c)],?_,?_⟩
   rotate_left
   · rw [he0];exact (ZC _ _ _ hS_ bdk bdk (Qz.ow h_l rfl))
   all_goals (first | rfl | (exact Jp))
theorem Qh5 (W:World) {v0:Value} {d0:List Zn} (h0:Rd (.sl ZL) (wm W) [v0] d0) {v1:Value} {d1:List Zn} (h1:Rd (.sl ZL) (wm W) [v1] d1):Qg Tryz.prog 33 [v0,v1] W (Qr) (fun v m'=>v= .bool (decide (d0=d1))):=by
 obtain ⟨A0,c0,rfl,l0,k0⟩:=h0.slc
 obtain ⟨A1,c1,rfl,l1,k1⟩:=h1.slc
 refine Qg.ofA (n:=55) Tryz.func33 rfl rfl rfl ?_
 refine VC.rs (VO.as (VO.k3 0 1 4 (VC.seq (VC.rs (VO.mv (VO.z (.lenS rfl Z3) (VO.mv (VO.z (.lenS rfl Z3) (VO.z (.neq rfl rfl) (VO.k4 0 1 4 10 ?_))))))))))
 refine VC.cond rfl (fun hc1=>?_) (fun hc1=>?_)
 refine VC.rs (VO.as (VO.p1 0 (VO.k4 0 1 4 10 (VC.ret (QS ?_)))))
 exact Xz 4 rfl (by first | rfl | (simp [QkQ hc1]))
 refine VC.skip (Qj (VC.seq (VC.rs (VO.as (VO.p1 0 (VO.k5 0 1 4 5 10 (VC.block ?_)))))))
 refine VC.loop (G:=Nat) (fun k=>[(5,.int .i64 (((k:Nat):Int))),(0,.slice A0 (d0.length) (c0)),(1,.slice A1 (d1.length) (c1)),(10,.bool (decide (¬ ((d0.length:Nat):Int)=((d1.length:Nat):Int))))]) (fun k=>[(0,wm W)]) (fun k=>(k≤d0.length)∧(d0.take k=d1.take k)) (fun k=>d0.length - k) 0 (⟨by omega,by rfl⟩) ⟨esn,fun _ h=>h.sub [0]⟩ ?_
 rintro k ⟨hk,ht⟩
 refine VC.seq (VC.rs (VO.mv (VO.mv (VO.z (.lenS rfl Z3) (VO.z (.lss rfl rfl) (VO.k5 0 1 5 10 14 ?_))))))
 refine VC.cond rfl (fun hc2=>?_) (fun hc2=>?_)
 refine VC.skip (Qj (VC.seq (VC.block (VC.seq ?_))))
 refine VC.regD _ 35 [(0,true),(1,true),(2,true),(3,true),(4,true),(5,true),(6,true),(7,true),(8,true),(9,true),(10,true),(11,true),(12,true),(13,true),(14,true),(15,true),(16,true),(17,true),(18,true),(19,true),(20,true),(21,true),(22,true),(23,true),(24,true),(25,true),(26,true),(27,true),(28,true),(29,true),(30,true),(31,true),(32,true),(33,true),(34,true)] follows (by kernel_rfl) (fun _ h=>h.sub [0]) ?_
 refine VD.z rfl (.mv rfl) (VD.z rfl (.mv rfl) ?_)
 obtain ⟨x3,hx3⟩:∃ z_,(d0)[k]? =some z_:=⟨_,List.getElem?_eq_getElem bd⟩
 obtain ⟨gg3,oo3,ec3,ea3,hce3,hre3⟩:=h0.elem hx3
 cases ea3
 obtain ⟨q3_A2,q3_c2,rfl,q3_0,q3_1,q3_2⟩:=ZF (x0:=x3.1) (x1:=x3.2.1) (x2:=x3.2.2) hre3
 simp only [inK] at q3_0 q3_1
 have q3_r2:=Rd.room q3_2
 refine VD.z rfl (.ixI k rfl rfl Z3 rfl bd) ?_
 refine VD.z rfl (.fa rfl Jl rfl) ?_
 refine VD.z rfl (.ld1 0 rfl tk3 rfl (hce3.at1 (j:=0) rfl)) ?_
 refine VD.z rfl (.mv rfl) (VD.z rfl (.mv rfl) ?_)
 obtain ⟨x4,hx4⟩:∃ z_,(d1)[k]? =some z_:=⟨_,List.getElem?_eq_getElem bd⟩
 obtain ⟨gg4,oo4,ec4,ea4,hce4,hre4⟩:=h1.elem hx4
 cases ea4
 obtain ⟨q4_A2,q4_c2,rfl,q4_0,q4_1,q4_2⟩:=ZF (x0:=x4.1) (x1:=x4.2.1) (x2:=x4.2.2) hre4
 simp only [inK] at q4_0 q4_1
 have q4_r2:=Rd.room q4_2
 refine VD.z rfl (.ixI k rfl rfl Z3 rfl bd) ?_
 refine VD.z rfl (.fa rfl Jl rfl) ?_
 refine VD.z rfl (.ld1 0 rfl tk3 rfl (hce4.at1 (j:=0) rfl)) ?_
 refine VD.z rfl (.neq rfl rfl) (VD.z rfl (.mv rfl) ?_)
 refine VD.dec (s:=28) rfl (fun hc5=>?_) (fun hc5=>?_)
 refine VD.gN rfl (VD.gN rfl (VD.gN rfl (VD.gN rfl (VD.gN rfl (VD.gN rfl (VD.gN rfl (VD.gN rfl (VD.gN rfl (VD.gN rfl (VD.gN rfl (VD.z rfl (.pT rfl rfl) ?_)))))))))))
 refine VD.z rfl (.mv rfl) (VD.gN rfl (VD.gN rfl (VD.gN rfl (VD.gN rfl (VD.gN rfl (VD.gN rfl (VD.gN rfl (VD.gN rfl (VD.gN rfl (VD.gN rfl ?_))))))))))
 refine VD.nil rfl ?_ rfl
 refine VO.gN (VO.gN (VO.z (.pT rfl rfl) (VO.k6 0 1 5 10 14 54 (Qj (VC.condT rfl (VC.rs (VO.as (VO.p1 0 (VO.k7 0 1 4 5 10 14 54 (VC.ret (JD ?_)))))))))))
 refine QS (QS (JD (QS ?_)))
 exact Xz 4 rfl (by first | rfl | (simp [QgW ‹d0[k]? =some _› ‹d1[k]? =some _› (fun e_=>by subst e_;first | exact absurd rfl Qd | (have h_:¬ (_:List DOp)=_:=by assumption;exact h_ rfl))]))
 refine VD.w rfl (.mv rfl) (VD.w rfl (.mv rfl) ?_)
 refine VD.w rfl (.ixI k rfl rfl Z3 rfl bd) ?_
 refine VD.w rfl (.fa rfl Jl rfl) ?_
 refine VD.w rfl (.ld1 0 rfl tk3 rfl (hce3.at1 (j:=1) rfl)) ?_
 refine VD.w rfl (.mv rfl) (VD.w rfl (.mv rfl) ?_)
 refine VD.w rfl (.ixI k rfl rfl Z3 rfl bd) ?_
 refine VD.w rfl (.fa rfl Jl rfl) ?_
 refine VD.w rfl (.ld1 0 rfl tk3 rfl (hce4.at1 (j:=1) rfl)) ?_
 refine VD.w rfl (.neq rfl rfl) (VD.z rfl (.pF rfl rfl) (VD.z rfl (.mv rfl) ?_))
 refine VD.dec (s:=41) rfl (fun hc8=>?_) (fun hc8=>?_)
 refine VD.gN rfl (VD.gN rfl (VD.gN rfl (VD.gN rfl (VD.gN rfl (VD.gN rfl (VD.gN rfl (VD.gN rfl (VD.gN rfl (VD.gN rfl ?_)))))))))
 refine VD.nil rfl ?_ rfl
 refine VO.gN (VO.gN (VO.z (.pT rfl rfl) (VO.k6 0 1 5 10 14 54 (Qj (VC.condT rfl (VC.rs (VO.as (VO.p1 0 (VO.k7 0 1 4 5 10 14 54 (VC.ret (JD ?_)))))))))))
 refine QS (QS (JD (QS ?_)))
 exact Xz 4 rfl (by first | rfl | (simp [QgW ‹d0[k]? =some _› ‹d1[k]? =some _› (fun e_=>by subst e_;first | exact absurd rfl Qd | (have h_:¬ (_:List DOp)=_:=by assumption;exact h_ rfl))]))
 refine VD.w rfl (.mv rfl) (VD.w rfl (.mv rfl) ?_)
 refine VD.w rfl (.ixI k rfl rfl Z3 rfl bd) ?_
 refine VD.w rfl (.fa rfl Jl rfl) ?_
 refine VD.w rfl (.ld1 0 rfl YY rfl (hce3.at1 (j:=2) rfl)) ?_
 refine VD.w rfl (.mv rfl) (VD.w rfl (.mv rfl) ?_)
 refine VD.w rfl (.ixI k rfl rfl Z3 rfl bd) ?_
 refine VD.w rfl (.fa rfl Jl rfl) ?_
 refine VD.w rfl (.ld1 0 rfl YY rfl (hce4.at1 (j:=2) rfl)) ?_
 refine VD.nil rfl ?_ rfl
 refine VO.gcallN 111 rfl ⟨_,rfl,rfl⟩ Qk4 rfl (fun W hW=>Qc4 W (Rd.mono q3_2 (hW.t 0)) (Rd.mono q4_2 (hW.t 0))) (fun v11 m11 hv11=>?_)
 subst hv11
 refine VO.w (.notD rfl) (VO.z (.pF rfl rfl) (VO.k6 0 1 5 10 14 54 (Qj ?_)))
 refine VC.cond rfl (fun hc12=>?_) (fun hc12=>?_)
 refine VC.rs (VO.as (VO.p1 0 (VO.k7 0 1 4 5 10 14 54 (VC.ret (JD (QS (QS (JD (QS ?_)))))))))
 exact Xz 4 rfl (by first | rfl | (simp [QgW ‹d0[k]? =some _› ‹d1[k]? =some _› (fun e_=>by subst e_;first | exact absurd rfl Qd | (have h_:¬ (_:List DOp)=_:=by assumption;exact h_ rfl))]))
 refine VC.skip (JE (Qj ?_))
 refine VC.reg ?_
 refine VO.mv ?_
 refine VO.z (.add (c:=((k+1:Nat):Int)) rfl rfl Qx ⟨bd,bd⟩) ?_
 refine VO.as (VO.p1 0 (VO.k6 0 1 5 10 14 54 ?_))
 exact Qj ⟨k+1,⟨by omega,by exact QdV ht ‹d0[k]? =some _› ‹d1[k]? =some _› (QnH Qx Qx (by first | assumption | exact Decidable.not_not.1 Qd))⟩,bd,⟨esn,fun _ h=>Inv.sub h [0]⟩⟩
 refine VC.exit (Zc (Zc (Zd (Qj (VC.rs (VO.as (VO.k6 0 1 4 5 10 14 (VC.ret ?_))))))))
 exact Xz 4 rfl (by first | rfl | (simp [QfN ht Qx Qx]))
abbrev Jb : Ty := .pair .bool (.pair (.ptr Qn) (.pair (.sl ZL) .bool))
abbrev XS := Bool × (Nat × Qo) × (List Zn) × Bool
theorem Qeb {m:Mem} {cs:List Value} {x0:Bool} {x1:Nat × Qo} {x2:List Zn} {x3:Bool} (h:Ow Jb m cs (x0,x1,x2,x3)):∃ (A2:Option Addr),∃ (c2:Nat),∃ (n1:Mem),∃ (n2:Mem),cs=[(.bool x0:Value),.pointer (some ⟨x1.1,0,none⟩),.slice A2 x2.length c2,.bool x3]∧Qu m [n1,n2]∧Ow (.ptr Qn) n1 [.pointer (some ⟨x1.1,0,none⟩)] x1∧Ow (.sl ZL) n2 [.slice A2 x2.length c2] x2:=by
 obtain ⟨p1,q1,ma1,mb1,rfl,dj1,la1,lb1,u1,w1⟩:=Ow.pair h
 obtain rfl:=(show _=_ from u1)
 obtain ⟨p3,q3,ma3,mb3,rfl,dj3,la3,lb3,u3,w3⟩:=Ow.pair w1
 have z4:=u3
 obtain ⟨rfl,_⟩:=u3
 obtain ⟨p5,q5,ma5,mb5,rfl,dj5,la5,lb5,u5,w5⟩:=Ow.pair w3
 have z6:=u5
 obtain ⟨A6,c6,rfl,_⟩:=Ow.slice1 u5
 obtain rfl:=(show _=_ from w5)
 exact ⟨A6,c6,_,_,rfl,(Qu.app dj1 la1 lb1 (Qu.nil _) (Qu.app dj3 la3 lb3 (Qu.one (Qb _)) (Qu.app dj5 la5 lb5 (Qu.one (Qb _)) (Qu.nil _)))),z4,z6⟩
theorem Qf2 {m:Mem} {n1 n2:Mem} (x0:Bool) (x1:Nat × Qo) (x2:List Zn) (x3:Bool) (hS:Qu m [n1,n2]) {v1:Value} (h1:Ow (.ptr Qn) n1 [v1] x1) {v2:Value} (h2:Ow (.sl ZL) n2 [v2] x2):Ow Jb m [.bool x0,v1,v2,.bool x3] (x0,x1,x2,x3):=by
 obtain ⟨e1,la1,lb1,Sa1,Sb1⟩:=Qu.cut (l:=[]) (r:=[n1,n2]) hS
 obtain ⟨e2,la2,lb2,Sa2,Sb2⟩:=Qu.cut (l:=[n1]) (r:=[n2]) Sb1
 obtain ⟨e3,la3,lb3,Sa3,Sb3⟩:=Qu.cut (l:=[n2]) (r:=[]) Sb2
 exact (Ow.mkPair (c1:=[_]) e1 la1 lb1 (show Ow .bool _ [_] _ from rfl) (Ow.mkPair (c1:=[_]) e2 la2 lb2 (h1.up (Sa2.1 _ (.head _))) (Ow.mkPair (c1:=[_]) e3 la3 lb3 (h2.up (Sa3.1 _ (.head _))) (show Ow .bool _ [_] _ from rfl))))
theorem QQ {m:Mem} {cs:List Value} {g:Nat} {x0:Bool} {x1:Nat × Qo} {x2:List Zn} {x3:Bool} (h:Ow (.ptr Jb) m cs (g,(x0,x1,x2,x3))):∃ (E:TypeId),∃ (A2:Option Addr),∃ (c2:Nat),∃ (n1:Mem),∃ (n2:Mem),cs=[.pointer (some ⟨g,0,none⟩)]∧Qu m [QE g (.cells [(.bool x0:Value),.pointer (some ⟨x1.1,0,none⟩),.slice A2 x2.length c2,.bool x3].toArray E (0,0)),n1,n2]∧Ow (.ptr Qn) n1 [.pointer (some ⟨x1.1,0,none⟩)] x1∧Ow (.sl ZL) n2 [.slice A2 x2.length c2] x2:=by
 obtain ⟨rfl,rc,E,m1,hd,l0,l1,h1⟩:=Ow.opnP h
 obtain ⟨A2,c2,n1,n2,rfl,hS,f1,f2⟩:=Qeb h1
 exact ⟨E,A2,c2,n1,n2,rfl,Qu.app hd l0 l1 (Qu.one (Qb _)) hS,f1,f2⟩
theorem QY {m:Mem} {g:Nat} {E:TypeId} {n1 n2:Mem}{v1:Value}{v2:Value} (x0:Bool) (x1:Nat × Qo) (x2:List Zn) (x3:Bool) (hS:Qu m [QE g (.cells [.bool x0,v1,v2,.bool x3].toArray E (0,0)),n1,n2]) (h1:Ow (.ptr Qn) n1 [v1] x1) (h2:Ow (.sl ZL) n2 [v2] x2):Ow (.ptr Jb) m [.pointer (some ⟨g,0,none⟩)] (g,(x0,x1,x2,x3)):=
 Ow.clsP hS fun hS=>Qf2 x0 x1 x2 x3 hS h1 h2
section
variable {d : QK} {R : JN} {br : Bool} {l l' : List Zn} {c x : Zn} {q : QK × Int} {f n to k t : Int} {b : Qm}
theorem QkN : ∀ (k : Nat) {d : QK} {b : Qm}, (JR k d f b).1.1 = d.1
  | 0, _, _ => rfl
  | k + 1, d, b => by
    unfold JR
    split
    · rfl
    · split
      · exact (QkN k).trans (Y4 d)
      · exact Y4 d
theorem Qe8:(Q7 d f b).1.1=d.1:=by
 unfold Q7;split
 ·rfl
 ·split
  ·rfl
  ·exact QkN _
theorem QiI:(Xe d f n).1.1=d.1:=by
 unfold Xe;split
 ·rfl
 ·split
  ·rfl
  ·split
   ·exact Y4 d
   ·exact Y4 d
theorem QgR:(Zx d).1.1=d.1:=by
 unfold Zx;split
 ·rfl
 ·split
  ·exact Y4 d
  ·exact Y4 d
theorem Qej:(YC d f n).1.1=d.1:=by
 unfold YC;split
 ·rfl
 ·split
  ·exact QiI
  ·exact QgR.trans QiI
theorem QkK (h:nf d):nf (YC d f n).1:=by
 unfold YC;split
 ·exact h
 ·split
  ·exact Qeg h
  ·exact QfZ (Qeg h)
theorem QnJ {D:QK} (h:okD D) (hn:nf D) (x:Int):okR (toR D x)∧Qc (toR D x)=D:=⟨Qdh h hn,ZU h hn⟩
theorem QjN (h:okR R):okR (toR (YC (Qc R) f n).1 R.2.2.2.2.2.1)∧Qc (toR (YC (Qc R) f n).1 R.2.2.2.2.2.1)=(YC (Qc R) f n).1:=QnJ (Qik h) (QkK (J1 R)) _
theorem QkO (R:JN):(Qc R).1=R.1:=rfl
theorem Qj2 (h:((JK d.2.2.2.2.2.1 d.2.2.2.2.2.2 f).length:Int)=n):YC d f n=(d,0):=if_pos h
theorem QlX (h:¬ ((JK d.2.2.2.2.2.1 d.2.2.2.2.2.2 f).length:Int)=n) (h2:¬ (Xe d f n).2=0):YC d f n=Xe d f n:=by unfold YC;rw [if_neg h,if_pos h2]
theorem QdR (h:¬ ((JK d.2.2.2.2.2.1 d.2.2.2.2.2.2 f).length:Int)=n) (h2:¬ ¬ (Xe d f n).2=0):YC d f n=Zx (Xe d f n).1:=by unfold YC;rw [if_neg h,if_neg h2]
theorem Qoj (ho:onD d) (hf:inF f) (h0:0≤n) (h1:n≤(JK d.2.2.2.2.2.1 d.2.2.2.2.2.2 f).length) (h:¬ (Xe d f n).2=0):(Xe d f n).2=6:=by
 have hw:¬ ¬ Q1 d=0:=not_not_intro (Qbo ho)
 by_cases hb:(QN d).2=true
 ·rw [Qhc hw (not_not_intro hf) (by omega) (by omega) (not_not_intro hb)] at h;exact absurd rfl h
 ·rw [QbR hw (not_not_intro hf) (by omega) (by omega) hb]
theorem cut_on (ho:onD d) (hf:inF f) (h0:0≤n) (h1:n≤(JK d.2.2.2.2.2.1 d.2.2.2.2.2.2 f).length) (h:¬ ¬ (Xe d f n).2=0):onD (Xe d f n).1:=by
 have hw:¬ ¬ Q1 d=0:=not_not_intro (Qbo ho)
 by_cases hb:(QN d).2=true
 ·rw [Qhc hw (not_not_intro hf) (by omega) (by omega) (not_not_intro hb)]
  refine ⟨(Y4 d).trans ho.1,?_⟩
  rcases Qfp d with q | q
  ·exact q.2.trans ho.2
  ·rw [hb] at q;cases q.1
 ·rw [QbR hw (not_not_intro hf) (by omega) (by omega) hb] at h;exact absurd (by show ¬ (6:Int)=0;decide) h
theorem Qio (ho:onD d) (h:¬ (Zx d).2=0):(Zx d).2=6:=by
 have hw:¬ ¬ Q1 d=0:=not_not_intro (Qbo ho)
 by_cases hb:(QN d).2=true
 ·rw [Xj hw (not_not_intro hb)] at h;exact absurd rfl h
 ·rw [ZS hw hb]
theorem xon (h:R.1=true) (h2:¬ R.2.2.2.1=false):onD (Qc R):=⟨h,by show (!R.2.2.2.1)=false;simpa using h2⟩
theorem Qot (h:R.1=true) (h2:R.2.2.2.1=true):onD (Qc R):=xon h (by rw [h2];decide)
theorem QgE (h:okR R) (hf:inF f):(JK R.2.1 (R.2.2.1.map QP) f).length≤wD (Qc R):=by
 have h1:=QmF (d:=Qc R) h hf
 have h2:=QmE (d:=Qc R) f
 rw [← h1] at h2;exact h2
theorem YV (h:((JK R.2.1 (R.2.2.1.map QP) f).length:Int)=n):toR (YC (Qc R) f n).1 R.2.2.2.2.2.1=R∧(YC (Qc R) f n).2=0:=by
 rw [Qj2 (d:=Qc R) h];exact ⟨JF R,rfl⟩
theorem Qa6 (h:¬ ((JK R.2.1 (R.2.2.1.map QP) f).length:Int)=n) (h2:¬ (Xe (Qc R) f n).2=0):YC (Qc R) f n=Xe (Qc R) f n:=QlX (d:=Qc R) h h2
theorem Qb5 (h:¬ ((JK R.2.1 (R.2.2.1.map QP) f).length:Int)=n) (ho:onD (Qc R)) (hf:inF f) (hb:0≤n∧n≤((JK R.2.1 (R.2.2.1.map QP) f).length:Int)) (h2:¬ (Xe (Qc R) f n).2=0):(YC (Qc R) f n).2=6:=by
 rw [Qa6 h h2];exact Qoj ho hf hb.1 hb.2 h2
theorem Qbh (h0:okR R) (h:¬ ((JK R.2.1 (R.2.2.1.map QP) f).length:Int)=n) (h2:¬ ¬ (Xe (Qc R) f n).2=0):toR (YC (Qc R) f n).1 R.2.2.2.2.2.1=toR (Zx (Qc (toR (Xe (Qc R) f n).1 R.2.2.2.2.2.1))).1 (toR (Xe (Qc R) f n).1 R.2.2.2.2.2.1).2.2.2.2.2.1:=by
 rw [QdR (d:=Qc R) h h2,ZU (Qbe h0) (Qeg (J1 R)),QbY QcK]
theorem Qbi (h0:okR R) (h:¬ ((JK R.2.1 (R.2.2.1.map QP) f).length:Int)=n) (ho:onD (Qc R)) (hf:inF f) (hb:0≤n∧n≤((JK R.2.1 (R.2.2.1.map QP) f).length:Int)) (h2:¬ ¬ (Xe (Qc R) f n).2=0) (h3:¬ (Zx (Qc (toR (Xe (Qc R) f n).1 R.2.2.2.2.2.1))).2=0):(YC (Qc R) f n).2=6:=by
 rw [ZU (Qbe h0) (Qeg (J1 R))] at h3
 rw [QdR (d:=Qc R) h h2];exact Qio (cut_on ho hf hb.1 hb.2 h2) h3
theorem Qdz (h0:okR R) (h:¬ ((JK R.2.1 (R.2.2.1.map QP) f).length:Int)=n) (h2:¬ ¬ (Xe (Qc R) f n).2=0) (h3:¬ ¬ (Zx (Qc (toR (Xe (Qc R) f n).1 R.2.2.2.2.2.1))).2=0):(YC (Qc R) f n).2=0:=by
 rw [ZU (Qbe h0) (Qeg (J1 R))] at h3
 rw [QdR (d:=Qc R) h h2];exact Decidable.not_not.1 h3
theorem Qax:(JL d).1.1=d.1:=by unfold JL;split;rfl;exact Qej
theorem Qmk (h:nf d):nf (JL d).1:=by unfold JL;split;exact h;exact QkK h
theorem QcZ:(QJ d br l x).1.1.1=d.1:=by
 unfold QJ;split
 ·rfl
 ·split
  ·rfl
  ·split
   ·rfl
   ·split
    ·exact Qe8
    ·split <;> exact QgR.trans Qe8
theorem Qml (h:nf d):nf (QJ d br l x).1.1:=by
 unfold QJ;split
 ·exact h
 ·split
  ·exact h
  ·split
   ·exact h
   ·split
    ·exact Qbp h
    ·split <;> exact QfZ (Qbp h)
theorem QbS (h:okR R):okR (toR (JL (Qc R)).1 R.2.2.2.2.2.1)∧Qc (toR (JL (Qc R)).1 R.2.2.2.2.2.1)=(JL (Qc R)).1:=QnJ (QaH h) (Qmk (J1 R)) _
theorem Qfw (h:okR R):okR (toR (QJ (Qc R) br l x).1.1 R.2.2.2.2.2.1)∧Qc (toR (QJ (Qc R) br l x).1.1 R.2.2.2.2.2.1)=(QJ (Qc R) br l x).1.1:=QnJ (Qck h) (Qml (J1 R)) _
theorem YO (h:R.1=false):JL (Qc R)=(Qc R,1):=by
 unfold JL;have:Q1 (Qc R)=1:=if_pos h
 rw [this];rfl
theorem Xf (h1:R.1=true) (h2:R.2.2.2.1=false):JL (Qc R)=(Qc R,6):=by
 have h:¬ R.1=false:=by rw [h1];decide
 unfold JL;have:Q1 (Qc R)=6:=by unfold Q1;rw [if_neg (show ¬ (Qc R).1=false from h),if_pos (by show (!R.2.2.2.1)=true;rw [h2];rfl)]
 rw [this];rfl
theorem Zo (h:R.1=true) (h2:R.2.2.2.1=true):JL (Qc R)=YC (Qc R) 2 (Yg (JK R.2.1 (R.2.2.1.map QP) 2)).2∧(Yg (Je (Qc R) 2).1).1=(Yg (JK R.2.1 (R.2.2.1.map QP) 2)).1:=by
 have ho:=Qbo (Qot h h2)
 have hr:=Qd7 ho (show inF 2 by decide)
 have e:Je (Qc R) 2=(JK R.2.1 (R.2.2.1.map QP) 2,0):=hr
 refine ⟨?_,by rw [e]⟩
 unfold JL;rw [if_neg (not_not_intro ho),e]
theorem xoff (h:R.2.2.2.1=false):¬ onD (Qc R):=fun q=>by
 have h1:(!R.2.2.2.1)=false:=q.2
 rw [h] at h1;cases h1
theorem QjR (ho:onD d) (hf:inF f) (h:¬ (Q7 d f b).2=0):(Q7 d f b).2=6:=by
 rw [Xn (not_not_intro (Qbo ho)) (not_not_intro hf)] at h ⊢
 exact (Qm0 b.length (d:=d) (f:=f) (b:=b)).resolve_left h
theorem go_on : ∀ (n : Nat) {d : QK} {b : Qm}, onD d → (JR n d f b).2 = 0 → onD (JR n d f b).1
  | 0, _, _, ho, _ => ho
  | n + 1, d, b, ho, h => by
    unfold JR at h ⊢
    split at h
    · rename_i h1; rw [if_pos h1]; exact ho
    · rename_i h1; rw [if_neg h1]
      split at h
      · rename_i h2; rw [if_pos h2]
        refine go_on n ⟨(Y4 d).trans ho.1, ?_⟩ h
        rcases Qfp d with q | q
        · exact q.2.trans ho.2
        · rw [h2] at q; cases q.1
      · cases h
theorem QlS (ho:onD d) (hf:inF f) (h:(Q7 d f b).2=0):onD (Q7 d f b).1:=by
 rw [Xn (not_not_intro (Qbo ho)) (not_not_intro hf)] at h ⊢
 exact go_on _ ho h
theorem xf_br (h:br=true):QJ d br l x=((d,true,l),6):=Qcl (.inl h)
theorem xf_off (h:R.2.2.2.1=false):QJ (Qc R) br l x=((Qc R,true,l),6):=Qcl (.inr (xoff h))
theorem QjO (h0:R.1=true) (h:br=false) (h2:R.2.2.2.1=true):¬ (br=true∨¬ onD (Qc R)):=by
 rintro (q | q)
 ·rw [h] at q;cases q
 ·exact q (Qot h0 h2)
section
variable (h0 : R.1 = true) (h : br = false) (h2 : R.2.2.2.1 = true)
include h0 h h2
theorem xf_enc (h3:¬ (Qh x).2=0):QJ (Qc R) br l x=((Qc R,br,l),(Qh x).2):=Qg6 (QjO h0 h h2) h3
theorem QlQ (h3:¬ ¬ (Qh x).2=0) (h4:¬ x.1 - 1=QX l):QJ (Qc R) br l x=((Qc R,br,l),15):=Qes (QjO h0 h h2) h3 (by omega)
theorem QlP (h3:¬ ¬ (Qh x).2=0) (h4:¬ ¬ x.1 - 1=QX l) (h5:¬ (Q7 (Qc R) 2 (QZ [] (Qh x).1).1).2=0):QJ (Qc R) br l x=(((Q7 (Qc R) 2 (QZ [] (Qh x).1).1).1,true,l),6):=by
 rw [Qer (QjO h0 h h2) h3 (by omega) h5,QjR (Qot h0 h2) (by decide) h5]
theorem Qhl (h1:okR R) (h3:¬ ¬ (Qh x).2=0) (h4:¬ ¬ x.1 - 1=QX l) (h5:¬ ¬ (Q7 (Qc R) 2 (QZ [] (Qh x).1).1).2=0) (h6:¬ (Zx (Qc (toR (Q7 (Qc R) 2 (QZ [] (Qh x).1).1).1 R.2.2.2.2.2.1))).2=0):
  (QJ (Qc R) br l x).1.2=(true,l)∧(QJ (Qc R) br l x).2=6∧toR (QJ (Qc R) br l x).1.1 R.2.2.2.2.2.1=toR (Zx (Qc (toR (Q7 (Qc R) 2 (QZ [] (Qh x).1).1).1 R.2.2.2.2.2.1))).1 (toR (Q7 (Qc R) 2 (QZ [] (Qh x).1).1).1 R.2.2.2.2.2.1).2.2.2.2.2.1:=by
 have h5:=Decidable.not_not.1 h5
 rw [ZU (X8 h1) (Qbp (J1 R))] at h6 ⊢
 rw [Qfe (QjO h0 h h2) h3 (by omega) h5 h6,Qio (QlS (Qot h0 h2) (by decide) h5) h6]
 exact ⟨rfl,rfl,(QbY QcK).symm⟩
theorem Qhm (h1:okR R) (h3:¬ ¬ (Qh x).2=0) (h4:¬ ¬ x.1 - 1=QX l) (h5:¬ ¬ (Q7 (Qc R) 2 (QZ [] (Qh x).1).1).2=0) (h6:¬ ¬ (Zx (Qc (toR (Q7 (Qc R) 2 (QZ [] (Qh x).1).1).1 R.2.2.2.2.2.1))).2=0):
  (QJ (Qc R) br l x).1.2=(br,l++[x])∧(QJ (Qc R) br l x).2=0∧toR (QJ (Qc R) br l x).1.1 R.2.2.2.2.2.1=toR (Zx (Qc (toR (Q7 (Qc R) 2 (QZ [] (Qh x).1).1).1 R.2.2.2.2.2.1))).1 (toR (Q7 (Qc R) 2 (QZ [] (Qh x).1).1).1 R.2.2.2.2.2.1).2.2.2.2.2.1:=by
 have h5:=Decidable.not_not.1 h5
 rw [ZU (X8 h1) (Qbp (J1 R))] at h6 ⊢
 rw [Qff (QjO h0 h h2) h3 (by omega) h5 h6]
 exact ⟨rfl,rfl,(QbY QcK).symm⟩
end
end
def Qfy (l : List Zn) : List DOp := (l.map (·.2.2)).flatten
section
variable {l : List Zn} {L y t : List DOp} {o x : DOp} {q : Qm} {k : Nat} {r : Zn}
theorem QbQ:YA (x::t) q=if x.2.1=q then some x else YA t q:=by
 unfold YA;by_cases h:x.2.1=q <;> simp [List.find?_cons,h]
theorem Qnp : ∀ {t : List DOp}, Z4 t → YA (XT t o) q = if o.2.1 = q then some o else YA t q
  | [], h => by rw [show XT [] o = [o] from rfl, QbQ]
  | x :: t, h => by
    by_cases hk : kl x.2.1 o.2.1
    · rw [show XT (x :: t) o = x :: XT t o from QiN hk, QbQ, Qnp (Qdu h), QbQ]
      by_cases h1 : x.2.1 = q
      · have h2 : ¬ o.2.1 = q := fun e => QhY hk (h1.trans e.symm)
        rw [if_pos h1, if_neg h2, if_pos h1]
      · rw [if_neg h1, if_neg h1]
    · by_cases hq : x.2.1 = o.2.1
      · rw [show XT (x :: t) o = o :: t from QiP h hq, QbQ, QbQ, hq]
        by_cases h1 : o.2.1 = q
        · rw [if_pos h1, if_pos h1]
        · rw [if_neg h1, if_neg h1, if_neg h1]
      · rw [show XT (x :: t) o = o :: x :: t from QiO h hk hq, QbQ]
theorem Qle (h:∀ x∈y,¬ x.2.1=q):YA y q=none:=by
 unfold YA;exact List.find?_eq_none.2 fun x hx=>by simpa using h x hx
theorem QmQ : ∀ {y L : List DOp}, Z4 y → Z4 L → Z4 (y.foldl XT L) ∧ YA (y.foldl XT L) q = (match YA y q with | some o => some o | none => YA L q)
  | [], L, _, hL => ⟨hL, rfl⟩
  | o :: y, L, hy, hL => by
    have h1 := QfQ hL (hy.1 o (.head _))
    obtain ⟨a, b⟩ := QmQ (Qdu hy) h1.1
    refine ⟨a, ?_⟩
    rw [List.foldl_cons, b, Qnp hL, QbQ]
    by_cases e : o.2.1 = q
    · rw [if_pos e, if_pos e, Qle (fun x hx e2 => QhY ((List.pairwise_cons.1 hy.2).1 x hx) (e.trans e2.symm))]
    · rw [if_neg e, if_neg e]
theorem Qem : ∀ {a : List Zn}, Qay (a ++ [r]) q = (match Qay a q with | some o => some o | none => YA r.2.2 q)
  | [] => by
    show (match YA r.2.2 q with | some o => some o | none => none) = YA r.2.2 q
    cases YA r.2.2 q <;> rfl
  | x :: a => by
    rw [List.cons_append, Qay, Qay, Qem (a := a)]
    cases YA x.2.2 q <;> rfl
theorem Qgm : ∀ {l : List Zn} {L : List DOp}, (∀ x ∈ l, Z4 x.2.2) → Z4 L → YA ((Qfy l).foldl XT L) q = (match Qay l.reverse q with | some o => some o | none => YA L q)
  | [], L, _, _ => rfl
  | x :: l, L, h, hL => by
    obtain ⟨a, b⟩ := QmQ (q := q) (h x (.head _)) hL
    rw [show Qfy (x :: l) = x.2.2 ++ Qfy l from rfl, List.foldl_append, Qgm (fun y hy => h y (.tail _ hy)) a, b, List.reverse_cons, Qem]
    cases Qay l.reverse q <;> rfl
theorem QkH (h:okU l):∀ x∈l,Z4 x.2.2:=fun x hx=>(JV (Qa9 h x hx)).2.2.2.2
theorem QnA (h:okU l):∀ o∈Qfy l,Jg o=0:=fun o ho=>by
 obtain ⟨y,hy,ho⟩:=List.mem_flatten.1 ho
 obtain ⟨c,hc,rfl⟩:=List.mem_map.1 hy
 exact (QkH h c hc).1 o ho
theorem QlR (h:okU l) (q:Qm):QgN (YA (XC (true,[]) (Qfy l)).1.2 q)=QgX l q:=by
 rw [Xi rfl (QnA h)]
 show QgN (YA ((Qfy l).foldl XT []) q)=QgN (Qay l.reverse q)
 rw [Qgm (QkH h) QdO]
 cases Qay l.reverse q <;> rfl
theorem QjP (hx:l[k]? =some r):Qfy (l.take k)++r.2.2=Qfy (l.take (k+1)):=by
 rw [Yq hx];unfold Qfy;rw [List.map_append,List.flatten_append];simp
theorem Qfx : ∀ {l : List Zn}, (∀ x ∈ l, x.2.2.length ≤ 1024) → (Qfy l).length ≤ 1024 * l.length
  | [], _ => Nat.le_refl _
  | x :: l, h => by
    have h1 := Qfx fun y hy => h y (.tail _ hy)
    have h2 := h x (.head _)
    rw [show Qfy (x :: l) = x.2.2 ++ Qfy l from rfl, List.length_append, List.length_cons]; omega
theorem QjQ (h:okU l) (k:Nat):(Qfy (l.take k)).length≤1024*l.length:=by
 have h1:=Qfx (l:=l.take k) fun x hx=>QiF h x (List.mem_of_mem_take hx)
 have h2:=List.length_take (i:=k) (l:=l)
 omega
theorem Qgl (h:okU l):(Qfy l).length≤1024*l.length:=Qfx (QiF h)
theorem Qnq {y z:DOp} (hn:∀ o∈L.take k,¬ o.2.1=q) (he:x.2.1=q) (hx:L[k]? =some x) (hy:L[k]? =some y) (hz:L[k]? =some z):YA L q=some (z.1,q,y.2.2):=by
 have e1:=Option.some.inj (hx.symm.trans hy);have e2:=Option.some.inj (hx.symm.trans hz)
 subst e1 e2 he
 have:L=L.take k++x::L.drop (k+1):=by rw [← QaB hx,List.take_append_drop]
 rw [this];unfold YA
 rw [List.find?_append,List.find?_eq_none.2 (fun y hy=>by simpa using hn y hy),List.find?_cons,decide_eq_true rfl];rfl
theorem Qoc (hn:∀ o∈L.take k,¬ o.2.1=q) (hx:L[k]? =some x) (he:¬ x.2.1=q):∀ o∈L.take (k+1),¬ o.2.1=q:=fun o ho=>by
 rw [Yq hx,List.mem_append,List.mem_singleton] at ho
 rcases ho with ho | rfl
 ·exact hn o ho
 ·exact he
theorem Qnr (hn:∀ o∈L.take k,¬ o.2.1=q) (hk:L.length≤k):YA L q=none:=by
 rw [List.take_of_length_le hk] at hn;exact Qle hn
end
theorem fnOk91:JX Tryz.prog 91=true:=by kernel_rfl
theorem fnOk92:JX Tryz.prog 92=true:=by kernel_rfl
theorem Qie (W:World) {v0:List Value} {d0:Zn} (h0:Rd ZL (wm W) v0 d0) (e0:d0.2.2.length≤3518437208800):Qg Tryz.prog 68 [.agg v0.toArray] W (Qr) (fun v m'=>∃ (s0:List Value),v= .agg s0.toArray∧Ow ZL m' s0 (d0)):=by
 obtain ⟨p0_A2,p0_c2,rfl,p0_0,p0_1,p0_2⟩:=ZF (x0:=d0.1) (x1:=d0.2.1) (x2:=d0.2.2) h0
 simp only [inK] at p0_0 p0_1
 have p0_r2:=Rd.room p0_2
 refine Qg.ofA (n:=13) Tryz.func68 rfl rfl rfl ?_
 refine VC.rs ?_
 refine VO.box (cs:=[.int .i64 (d0.1),.int .i64 (d0.2.1),.slice p0_A2 (d0.2.2.length) (p0_c2)]) 102 rfl rfl rfl (fun g1=>?_)
 refine VO.alloc 104 rfl X6 (fun g3=>?_)
 refine VO.k3 0 1 2 (VC.rs (VO.as (VO.k4 0 1 2 3 (VC.seq ?_))))
 refine VC.regD _ 8 [(0,true),(1,true),(2,true),(3,true),(4,true),(5,true),(6,true),(7,false)] follows (by kernel_rfl) (fun _ h=>h.sub [104,102,0]) ?_
 refine VD.z rfl (.fa rfl Jl rfl) (VD.z rfl (.ld1 102 rfl tk3 rfl (Qa rfl rfl)) (VD.z rfl (.fa rfl Jl rfl) (VD.z rfl (.ld1 102 rfl tk3 rfl (Qa rfl rfl)) (VD.z rfl (.mv rfl) (VD.z rfl (.fa rfl Jl rfl) (VD.z rfl (.ld1 102 rfl YY rfl (Qa rfl rfl)) ?_))))))
 refine VD.inv _ (fun _ h=>h.nilc 106) ?_
 obtain ⟨mo5,cs5,hM5,hA5,hC5⟩:=(Qz.nil TOp Qr Qr)
 obtain ⟨all5,hS5,hR5⟩:=Rd.srcI (P:=Tryz.prog) (p0_2) Tryz.underlying36
 refine VD.app 106 rfl rfl rfl rfl Ji XB rfl rfl hM5 hA5 (hS5 _ 0 rfl) hR5.nice bdm bd (by decide) (fun _ _ h=>h.sub [104,102,0]) (fun v5 m5 hN5=>?_)
 have ho5:Qz TOp m5 Qr v5 (d0.2.2):=Qz.more hC5 hN5 (QV.mono hR5 fun _ _ h=>Rd.flat rfl h _)
 obtain ⟨A5,c5,rfl,l5,k5⟩:=ho5.slc
 refine VD.nil rfl ?_ rfl
 refine VO.z (.bst (cs:=[.int .i64 (d0.1),.int .i64 (d0.2.1),.slice A5 ((d0.2.2).length) (c5)]) rfl Jl X6 rfl) ?_
 refine VO.store (k:=3) (c':=[.int .i64 (d0.1),.int .i64 (d0.2.1),.slice A5 ((d0.2.2).length) (c5)]) 104 rfl rfl (.inl Yx) rfl rfl rfl rfl rfl ?_
 refine VO.p4 106 104 102 0 (VO.k4 0 1 2 3 (Qj (VC.ret ?_)))
 refine ⟨_,_,Q8 (rs:=[.cell 2 38]) rfl (.agg 104 rfl Yx rfl ⟨_,_,_,Qq _ _,Nat.le_of_ble_eq_true rfl,rfl⟩ .nil),fun W_ hI=>JC (l:=[m5]) hI [106] rfl rfl (Qb _) (fun hS_=>?_)⟩
 dsimp only [Qv]
 have he0:(d0:Ty.Den ZL)=d0:=by first | rfl | (simp [*];done)
 refine ⟨[.int .i64 (d0.1),.int .i64 (d0.2.1),.slice A5 ((d0.2.2).length) (c5)],?_,?_⟩
 rotate_left
 ·rw [he0];exact (show Ow ZL _ _ d0 from (ZC d0.1 d0.2.1 d0.2.2 hS_ bdk bdk (Qz.ow ho5 rfl)))
 all_goals (first | rfl | (simp [*];done))
theorem Yt {P:Prop} (h:P:=by first | exact congrArg Prod.fst (Zb hl (QcR (by assumption))) | exact (congrArg Prod.fst (Zb hl (QcR (by assumption)))).symm | (rw [Zb hl (QcR (by assumption))];done) | exact congrArg Prod.fst (Zb hl (QcQ (by assumption))) | exact (congrArg Prod.fst (Zb hl (QcQ (by assumption)))).symm | (rw [Zb hl (QcQ (by assumption))];done) | exact congrArg Prod.fst (Zb hl (QcP hen (by omega))) | exact (congrArg Prod.fst (Zb hl (QcP hen (by omega)))).symm | (rw [Zb hl (QcP hen (by omega))];done)):P:=h
set_option maxHeartbeats 4000000 in
theorem Qid (W:World) {v0:Value} {d0:List UInt8} (h0:Rd (.sl .byte) (wm W) [v0] d0) (e0:d0.length≤140737488355000):Qg Tryz.prog 59 [v0] W (Qr) (fun v m'=>∃ (s0:Value),v= .tuple #[s0,.int .i64 ((Yg d0).2)]∧Ow (.sl ZL) m' [s0] ((Yg d0).1)):=by
 obtain ⟨A0,c0,rfl,l0,k0⟩:=h0.slc
 refine Qg.ofA (n:=48) Tryz.func59 rfl rfl rfl ?_
 refine VC.rs (VO.as (VO.as (VO.k3 0 2 3 (VC.rs (VO.as (VO.k4 0 2 3 4 (VC.rs (VO.as (VO.as (VO.p1 0 (VO.k6 0 2 3 4 5 6 ?_)))))))))))
 refine VC.block ?_
 refine VC.inv ((101,Qr)::_) (fun _ h=>h.nilc 101) ?_
 refine VC.loop (G:=(List Zn) × (Option Addr) × Nat × Mem × Int × Int) (fun g=>[(4,.slice (g.2.1) ((g.1).length) ((g.2.2.1))),(5,.int .i64 ((g.2.2.2.2.1))),(6,.int .i64 ((g.2.2.2.2.2))),(0,.slice A0 (d0.length) (c0))]) (fun g=>[(101,(g.2.2.2.1)),(0,wm W)]) (fun g=>(QgD d0 (g.1) (g.2.2.2.2.1))∧((g.2.2.2.2.2)=QX (g.1))∧(Ow (.sl ZL) (g.2.2.2.1) [.slice (g.2.1) (g.1).length (g.2.2.1)] (g.1))) (fun g=>((d0.length:Int) - (g.2.2.2.2.1)).toNat) ([],none,0,Qr,0,0) (⟨by exact Qki d0,by rfl,(Ow.nil ZL Qr)⟩) ⟨esn,fun _ h=>h.sub [101,0]⟩ ?_
 rintro ⟨l,l_A,l_c,l_m,at_,en⟩ ⟨hl,hen,h_l⟩
 replace hl:QgD d0 l at_:=hl
 replace hen:en=QX l:=hen
 replace h_l:Ow (.sl ZL) l_m [.slice l_A l.length l_c] l:=h_l
 show VC _ _ _ _ _ [(4,.slice l_A (l.length) (l_c)),(5,.int .i64 (at_)),(6,.int .i64 (en)),(0,.slice A0 (d0.length) (c0))] [(101,l_m),(0,wm W)]
 have l_l:l.length≤l_c:=by obtain ⟨_,_,he,hl,_⟩:=h_l.slice;simp only [Value.slice.injEq] at he;omega
 have k_l:l_c≤9223372036854775807:=by obtain ⟨_,_,he,_,hl⟩:=h_l.slice;simp only [Value.slice.injEq,maxLen] at he hl;omega
 have hat0:=hl.1;have hat1:=hl.2.1
 have hrb:=Xx (d0.drop at_.toNat)
 have hll:=Y3 hl.2.2.1
 have hen2:=hen
 refine VC.block (VC.rs (VO.mv (VO.mv ?_)))
 obtain ⟨A2,hA2,hs2⟩:=h0.drop 1 ((at_).toNat) rfl bd
 refine VO.z (.slLI ((at_).toNat) A2 rfl rfl Q0 bd hA2 bd) ?_
 refine VO.callN 103 rfl fnOk91 rfl (fun W hW=>Qlk W (Rd.mono hs2 (hW.t 0))) (fun v3 m3 hv3=>?_)
 obtain ⟨s3_0,rfl,f3_0⟩:=hv3
 have hfa4:=Xx (d0.drop ((at_).toNat))
 obtain ⟨A3_0,c3_0,eq3_0,l3_0,k3_0⟩:=f3_0.slc
 subst eq3_0
 refine VO.mv (VO.z (.ext rfl rfl) (VO.z (.ext rfl rfl) (VO.z (.ext rfl rfl) (VO.as (VO.as (VO.as (VO.k7 0 4 5 6 7 8 9 (VC.seq (VC.rs (VO.mv (VO.z (.neq rfl rfl) ?_)))))))))))
 refine VO.k8 0 4 5 6 7 8 9 20 ?_
 refine VC.cond rfl (fun hc5=>?_) (fun hc5=>?_)
 refine VC.rs (VO.mv (VO.mv (VO.as (VO.as (VO.p3 103 101 0 (VO.k10 0 2 3 4 5 6 7 8 9 20 (VC.ret (QS (JD (QS (JD ?_)))))))))))
 refine Qby 2 3 [101] fun hS_=>?_
 dsimp only [Qv]
 exact ⟨Value.slice l_A (l.length) (l_c),(by first | rfl | exact Yt),(Ow.cg (Ow.up h_l (hS_.1 _ (.head _))) (by first | rfl | exact Yt))⟩
 refine VC.skip (Qj (VC.rs (VO.mv ?_)))
 refine VO.callN 106 rfl fnOk92 rfl (fun W hW=>QhJ W (Ow.rd f3_0 (hW.t 103)) bd) (fun v6 m6 hv6=>?_)
 obtain ⟨s6_0,rfl,f6_0⟩:=hv6
 have hfa7:=Qbx ((Jx (d0.drop ((at_).toNat))).1)
 obtain ⟨q6_0_A2,q6_0_c2,q6_0_n2,rfl,q6_0_S,q6_0_0,q6_0_1,q6_0_2⟩:=Y2 (x0:=((Qi ((Jx (d0.drop ((at_).toNat))).1)).1).1) (x1:=((Qi ((Jx (d0.drop ((at_).toNat))).1)).1).2.1) (x2:=((Qi ((Jx (d0.drop ((at_).toNat))).1)).1).2.2) f6_0
 simp only [inK] at q6_0_0 q6_0_1
 have q6_0_r2:=q6_0_2.rm
 refine VO.inv _ (fun _ h=>h.parts (i:=106) rfl q6_0_S [108]) ?_
 refine VO.mv (VO.z (.ext rfl rfl) (VO.z (.ext rfl rfl) ?_))
 refine VO.alloc 110 rfl X6 (fun g9=>?_)
 refine VO.store (k:=3) (c':=[.int .i64 (((Qi ((Jx (d0.drop ((at_).toNat))).1)).1).1),.int .i64 (((Qi ((Jx (d0.drop ((at_).toNat))).1)).1).2.1),.slice q6_0_A2 ((((Qi ((Jx (d0.drop ((at_).toNat))).1)).1).2.2).length) (q6_0_c2)]) 110 rfl rfl (.inl Yx) rfl rfl rfl rfl rfl ?_
 refine VO.as (VO.p5 110 108 103 101 0 (VO.k9 0 4 5 6 7 8 9 10 20 (VC.seq (VC.rs (VO.mv (VO.z (.neq rfl rfl) (VO.mv ?_)))))))
 refine VO.dec (t:=30) rfl (fun hc11=>?_) (fun hc11=>?_)
 refine VO.gN (VO.gN (VO.gN (VO.gN (VO.gN (VO.z (.pT rfl rfl) (VO.k10 0 4 5 6 7 8 9 10 20 36 (VC.condT rfl (VC.rs (VO.mv (VO.mv (VO.as ?_)))))))))))
 refine VO.as (VO.k12 0 2 3 4 5 6 7 8 9 10 20 36 (VC.ret (QS (JD (QS (JD ?_))))))
 refine Qby 2 3 [101] fun hS_=>?_
 dsimp only [Qv]
 exact ⟨Value.slice l_A (l.length) (l_c),(by first | rfl | exact Yt),(Ow.cg (Ow.up h_l (hS_.1 _ (.head _))) (by first | rfl | exact Yt))⟩
 refine VO.w (.fa rfl Jl rfl) (VO.w (.ld1 110 rfl tk3 rfl (Qa rfl rfl)) ?_)
 refine VO.w (.sub rfl rfl rfl ⟨bd,bd⟩) ?_
 refine VO.w (.mv rfl) (VO.w (.neq rfl rfl) (VO.z (.pF rfl rfl) (VO.k10 0 4 5 6 7 8 9 10 20 36 ?_)))
 refine VC.cond rfl (fun hc12=>?_) (fun hc12=>?_)
 refine VC.rs (VO.mv (VO.mv (VO.as (VO.as (VO.k12 0 2 3 4 5 6 7 8 9 10 20 36 (VC.ret (QS (JD (QS (JD ?_))))))))))
 refine Qby 2 3 [101] fun hS_=>?_
 dsimp only [Qv]
 exact ⟨Value.slice l_A (l.length) (l_c),(by first | rfl | exact Yt),(Ow.cg (Ow.up h_l (hS_.1 _ (.head _))) (by first | rfl | exact Yt))⟩
 refine VC.skip (Qj (VC.rs (VO.mv (VO.z (.ldA 110 rfl Yx rfl (Qa rfl rfl)) ?_))))
 refine VO.bsl (cs:=[.int .i64 (((Qi ((Jx (d0.drop ((at_).toNat))).1)).1).1),.int .i64 (((Qi ((Jx (d0.drop ((at_).toNat))).1)).1).2.1),.slice q6_0_A2 ((((Qi ((Jx (d0.drop ((at_).toNat))).1)).1).2.2).length) (q6_0_c2)]) 114 rfl rfl Z3 X6 rfl rfl (fun g13=>?_)
 refine VO.appO (e:=ZL) 101 108 114 rfl rfl rfl Z3 X6 rfl rfl rfl rfl h_l (show Ow ZL _ _ ((Qi ((Jx (d0.drop ((at_).toNat))).1)).1) from (ZC (((Qi ((Jx (d0.drop ((at_).toNat))).1)).1).1) (((Qi ((Jx (d0.drop ((at_).toNat))).1)).1).2.1) (((Qi ((Jx (d0.drop ((at_).toNat))).1)).1).2.2) (Qu.one (Qb _)) bdk bdk q6_0_2)) Tryz.underlying43 (Qa rfl rfl) bdm bd (by decide) (fun v15 m15 ho15=>?_)
 obtain ⟨A15,c15,rfl,l15,k15⟩:=ho15.slc
 refine VO.as (VO.k10 0 4 5 6 7 8 9 10 20 36 (VC.rs (VO.z (.fa rfl Jl rfl) (VO.z (.ld1 110 rfl tk3 rfl (Qa rfl rfl)) (VO.as (VO.p4 101 110 103 0 (VO.k10 0 4 5 6 7 8 9 10 20 36 ?_)))))))
 refine VC.reg ?_
 refine VO.mv (VO.mv ?_)
 refine VO.z (.add rfl rfl rfl ⟨bd,bd⟩) ?_
 refine VO.as (VO.k10 0 4 5 6 7 8 9 10 20 36 (JE ?_))
 exact Qj ⟨⟨l++[((Qi ((Jx (d0.drop ((at_).toNat))).1)).1)],A15,c15,m15,at_+((Jx (d0.drop ((at_).toNat))).2.1),((Qi ((Jx (d0.drop ((at_).toNat))).1)).1).2.1⟩,⟨by exact QeZ hl (Qdy hen Qd Qd Qx),by exact Qha.symm,ho15⟩,by (have h_:=Qb1 (Qdy hen Qd Qd Qx);simp only [List.length_drop] at*;omega),⟨esn,fun _ h=>Inv.sub h [101,0]⟩⟩
theorem QiT:JX Tryz.prog 63=true:=by kernel_rfl
theorem Qm7:JX Tryz.prog 68=true:=by kernel_rfl
theorem fnOk80:JX Tryz.prog 80=true:=by kernel_rfl
theorem fnOk81:JX Tryz.prog 81=true:=by kernel_rfl
theorem QaI:tst Tryz.prog 99=some [(0,1),(1,1),(2,1),(3,1)]:=by kernel_rfl
theorem Qdt (W:World) {br_:Bool} {l_:List Zn} {R_:Qo} {gr_:Nat} {m0:Mem} (hm:mle (m0) (wm W)) {g0:Nat} (h0:Ow (.ptr Jb) m0 [.pointer (some ⟨g0,0,none⟩)] (g0,(true,(gr_,R_),l_,br_))):Qg Tryz.prog 63 [.pointer (some ⟨g0,0,none⟩)] W (m0) (fun v m'=>v= .bool (decide (False))∧Ow (.ptr Jb) m' [.pointer (some ⟨g0,0,none⟩)] (g0,(true,(gr_,R_),l_,br_))):=by
 refine Qg.ofB (n:=12) hm Tryz.func63 rfl rfl rfl ?_
 refine VC.rs (VO.as (VO.k2 0 2 (VC.rs (VO.mv ?_))))
 refine VO.z (.pnil rfl rfl Tryz.underlying32 rfl) ?_
 refine VO.mv (VO.w (.mv rfl) (VO.w (.nilp rfl) (VO.w (.fa rfl QaI rfl) ?_)))
 obtain ⟨q1_E,q1_A2,q1_c2,q1_n1,q1_n2,_,q1_S,q1_1,q1_2⟩:=QQ (x0:=true) (x1:=(gr_,R_)) (x2:=l_) (x3:=br_) h0
 dsimp only at q1_1
 have q1_r2:=q1_2.rm
 refine VO.inv _ (fun _ h=>h.parts (i:=1) rfl q1_S [104,102,103]) ?_
 refine VO.w (.ld1 104 rfl tk4 rfl (Qa rfl rfl)) (VO.w (.not rfl) (VO.z (.pF rfl rfl) (VO.as ?_)))
 refine VO.clsP 105 [104,102,103] rfl (fun hg5=>(QY _ _ _ _ hg5 q1_1 q1_2)) (fun mc5 ho5=>?_)
 refine VO.k2 0 2 (VC.ret ?_)
 exact ZA 2 105 rfl ho5 (by first | rfl | (simp [*];done)) (by first | rfl | (rfl))
theorem Qhq (W:World) {br_:Bool} {l_:List Zn} {R_:Qo} {gr_:Nat} {m0:Mem} (hm:mle (m0) (wm W)) {g0:Nat} (h0:Ow (.ptr Jb) m0 [.pointer (some ⟨g0,0,none⟩)] (g0,(true,(gr_,R_),l_,br_))) (e0:okU l_):Qg Tryz.prog 23 [.pointer (some ⟨g0,0,none⟩)] W (m0) (fun v m'=>v= .int .i64 (QX l_)∧Ow (.ptr Jb) m' [.pointer (some ⟨g0,0,none⟩)] (g0,(true,(gr_,R_),l_,br_))):=by
 have hll:=Y3 e0
 refine Qg.ofB (n:=26) hm Tryz.func23 rfl rfl rfl ?_
 refine VC.rs (VO.as (VO.k2 0 2 (VC.seq (VC.rs (VO.mv ?_)))))
 refine VO.call 1 rfl QiT rfl rfl (fun W hW=>Qdt W (hW.t 1) h0) (fun v1 m1 hv1=>?_)
 try dsimp only at hv1
 obtain ⟨rfl,w1_0⟩:=hv1
 refine VO.mv ?_
 refine VO.dec (t:=5) rfl (fun hc2=>?_) (fun hc2=>?_)
 exact hc2.elim
 refine VO.w (.mv rfl) (VO.w (.nilp rfl) (VO.w (.fa rfl QaI rfl) ?_))
 obtain ⟨q3_E,q3_A2,q3_c2,q3_n1,q3_n2,_,q3_S,q3_1,q3_2⟩:=QQ (x0:=true) (x1:=(gr_,R_)) (x2:=l_) (x3:=br_) w1_0
 dsimp only at q3_1
 have q3_r2:=q3_2.rm
 refine VO.inv _ (fun _ h=>h.parts (i:=1) rfl q3_S [106,104,105]) ?_
 refine VO.w (.ld1 106 rfl Qhk rfl (Qa rfl rfl)) (VO.w (.lenS rfl Z3) (VO.w (.eql rfl rfl) (VO.z (.pF rfl rfl) ?_)))
 refine VO.clsP 107 [106,104,105] rfl (fun hg7=>(QY _ _ _ _ hg7 q3_1 q3_2)) (fun mc7 ho7=>?_)
 refine VO.k3 0 2 12 ?_
 refine VC.cond rfl (fun hc8=>?_) (fun hc8=>?_)
 ·refine VC.rs (VO.as (VO.p2 107 0 (VO.k3 0 2 12 (VC.ret (QS ?_)))))
  exact ZA 2 107 rfl ho7 (by first | rfl | (simp [*];done)) (by first | rfl | (first | exact congrArg (Value.int _) (Qgc ‹l_[_]? =some _› Qx).symm | exact congrArg (Value.int _) (Qaf Qx).symm | exact congrArg (Value.int _) (Qaf (not_not_intro Qd)).symm))
 ·refine VC.skip (Qj (VC.seq ?_))
  obtain ⟨q9_E,q9_A2,q9_c2,q9_n1,q9_n2,_,q9_S,q9_1,q9_2⟩:=QQ (x0:=true) (x1:=(gr_,R_)) (x2:=l_) (x3:=br_) ho7
  dsimp only at q9_1
  have q9_r2:=q9_2.rm
  refine VC.inv _ (fun _ h=>h.parts (i:=107) rfl q9_S [112,110,111]) ?_
  refine VC.regD _ 10 [(0,true),(1,true),(2,true),(3,true),(4,true),(5,true),(6,true),(7,true),(8,true),(9,true)] follows (by kernel_rfl) (fun _ h=>h.sub [112,110,111,0]) ?_
  refine VD.z rfl (.mv rfl) (VD.z rfl (.nilp rfl) (VD.z rfl (.fa rfl QaI rfl) (VD.z rfl (.ld1 112 rfl Qhk rfl (Qa rfl rfl)) (VD.z rfl (.mv rfl) (VD.z rfl (.nilp rfl) (VD.z rfl (.fa rfl QaI rfl) (VD.z rfl (.ld1 112 rfl Qhk rfl (Qa rfl rfl)) (VD.z rfl (.lenS rfl Z3) ?_))))))))
  refine VD.z rfl (.sub rfl rfl rfl ⟨bd,bd⟩) ?_
  refine VD.nil rfl ?_ rfl
  obtain ⟨x13,hx13⟩:∃ z_,(l_)[(((l_.length:Nat):Int) - 1).toNat]? =some z_:=⟨_,List.getElem?_eq_getElem bd⟩
  obtain ⟨gg13,oo13,ec13,ea13,hce13,hre13⟩:=(Ow.rd q9_2 (Qb _)).elem hx13
  cases ea13
  obtain ⟨q13_A2,q13_c2,rfl,q13_0,q13_1,q13_2⟩:=ZF (x0:=x13.1) (x1:=x13.2.1) (x2:=x13.2.2) hre13
  simp only [inK] at q13_0 q13_1
  have q13_r2:=Rd.room q13_2
  refine VO.z (.ixI ((((l_.length:Nat):Int) - 1).toNat) rfl rfl Z3 bd bd) ?_
  refine VO.z (.fa rfl Jl rfl) ?_
  refine VO.z (.ld1 111 rfl tk3 rfl (hce13.at1 (j:=1) rfl)) ?_
  refine VO.as ?_
  refine VO.clsP 114 [112,110,111] rfl (fun hg14=>(QY _ _ _ _ hg14 q9_1 q9_2)) (fun mc14 ho14=>?_)
  refine VO.p2 114 0 (VO.k3 0 2 12 (Qj (VC.ret ?_)))
  exact ZA 2 114 rfl ho14 (by first | rfl | (simp [*];done)) (by first | rfl | (first | exact congrArg (Value.int _) (Qgc ‹l_[_]? =some _› Qx).symm | exact congrArg (Value.int _) (Qaf Qx).symm | exact congrArg (Value.int _) (Qaf (not_not_intro Qd)).symm))
theorem Zh {P:Prop} (h:P:=by first | exact bd | (have h_:=QaN e0 ‹l_[_]? =some _›;omega)):P:=h
theorem QlU (W:World) {br_:Bool} {l_:List Zn} {R_:Qo} {gr_:Nat} {m0:Mem} (hm:mle (m0) (wm W)) {g0:Nat} (h0:Ow (.ptr Jb) m0 [.pointer (some ⟨g0,0,none⟩)] (g0,(true,(gr_,R_),l_,br_))) (e0:okU l_):Qg Tryz.prog 34 [.pointer (some ⟨g0,0,none⟩)] W (m0) (fun v m'=>∃ (s0:Value),∃ (p0:Mem),∃ (p1:Mem),v=s0∧Qu m' [p0,p1]∧Ow (.sl ZL) p0 [s0] (l_)∧Ow (.ptr Jb) p1 [.pointer (some ⟨g0,0,none⟩)] (g0,(true,(gr_,R_),l_,br_))):=by
 have hll:=Y3 e0
 refine Qg.ofB (n:=29) hm Tryz.func34 rfl rfl rfl ?_
 refine VC.rs (VO.as (VO.k2 0 2 (VC.rs (VO.as (VO.k3 0 2 3 (VC.seq (VC.rs (VO.mv ?_))))))))
 refine VO.call 1 rfl QiT rfl rfl (fun W hW=>Qdt W (hW.t 1) h0) (fun v1 m1 hv1=>?_)
 try dsimp only at hv1
 obtain ⟨rfl,w1_0⟩:=hv1
 refine VO.p2 1 0 (VO.k4 0 2 3 6 ?_)
 refine VC.cond rfl (fun hc2=>?_) (fun hc2=>?_)
 exact hc2.elim
 refine VC.skip (Qj (VC.seq (VC.rs (VO.as (VO.k5 0 2 3 4 6 (VC.block ?_))))))
 refine VC.inv ((103,Qr)::_) (fun _ h=>h.nilc 103) ?_
 refine VC.loop (G:=Nat × (List Zn) × (Option Addr) × Nat × Mem × Mem) (fun g=>[(3,.slice (g.2.2.1) ((g.2.1).length) ((g.2.2.2.1))),(4,.int .i64 ((((g.1):Nat):Int))),(0,.pointer (some ⟨g0,0,none⟩)),(2,.slice none (0) (0)),(6,.bool (decide (False)))]) (fun g=>[(103,(g.2.2.2.2.1)),(1,(g.2.2.2.2.2)),(0,JY (wm W) (m0))]) (fun g=>((g.1)≤l_.length)∧((g.2.1)=l_.take (g.1))∧(Ow (.sl ZL) (g.2.2.2.2.1) [.slice (g.2.2.1) (g.2.1).length (g.2.2.2.1)] (g.2.1))∧(Ow (.ptr Jb) (g.2.2.2.2.2) [.pointer (some ⟨g0,0,none⟩)] (g0,(true,(gr_,R_),l_,br_)))) (fun g=>l_.length - (g.1)) (0,[],none,0,Qr,m1) (⟨by omega,by rfl,(Ow.nil ZL Qr),w1_0⟩) ⟨esn,fun _ h=>h.sub [103,1,0]⟩ ?_
 rintro ⟨k,out,out_A,out_c,out_m,x_m⟩ ⟨hk,ho,h_out,h_x⟩
 replace hk:k≤l_.length:=hk
 replace ho:out=l_.take k:=ho
 replace h_out:Ow (.sl ZL) out_m [.slice out_A out.length out_c] out:=h_out
 replace h_x:Ow (.ptr Jb) x_m [.pointer (some ⟨g0,0,none⟩)] (g0,(true,(gr_,R_),l_,br_)):=h_x
 show VC _ _ _ _ _ [(3,.slice out_A (out.length) (out_c)),(4,.int .i64 (((k:Nat):Int))),(0,.pointer (some ⟨g0,0,none⟩)),(2,.slice none (0) (0)),(6,.bool (decide (False)))] [(103,out_m),(1,x_m),(0,JY (wm W) (m0))]
 have l_out:out.length≤out_c:=by obtain ⟨_,_,he,hl,_⟩:=h_out.slice;simp only [Value.slice.injEq] at he;omega
 have k_out:out_c≤9223372036854775807:=by obtain ⟨_,_,he,_,hl⟩:=h_out.slice;simp only [Value.slice.injEq,maxLen] at he hl;omega
 have hlo:out.length≤k:=by rw [ho,List.length_take];omega
 refine VC.seq (VC.rs (VO.mv (VO.mv (VO.z (.nilp rfl) (VO.z (.fa rfl QaI rfl) ?_)))))
 obtain ⟨q4_E,q4_A2,q4_c2,q4_n1,q4_n2,_,q4_S,q4_1,q4_2⟩:=QQ (x0:=true) (x1:=(gr_,R_)) (x2:=l_) (x3:=br_) h_x
 dsimp only at q4_1
 have q4_r2:=q4_2.rm
 refine VO.inv _ (fun _ h=>h.parts (i:=1) rfl q4_S [107,105,106]) ?_
 refine VO.z (.ld1 107 rfl Qhk rfl (Qa rfl rfl)) (VO.z (.lenS rfl Z3) (VO.z (.lss rfl rfl) ?_))
 refine VO.clsP 108 [107,105,106] rfl (fun hg8=>(QY _ _ _ _ hg8 q4_1 q4_2)) (fun mc8 ho8=>?_)
 refine VO.k6 0 2 3 4 6 14 ?_
 refine VC.cond rfl (fun hc9=>?_) (fun hc9=>?_)
 ·refine VC.skip (Qj (VC.seq (VC.block ?_)))
  refine VC.reg ?_
  refine VO.mv (VO.mv (VO.z (.nilp rfl) (VO.z (.fa rfl QaI rfl) ?_)))
  obtain ⟨q10_E,q10_A2,q10_c2,q10_n1,q10_n2,_,q10_S,q10_1,q10_2⟩:=QQ (x0:=true) (x1:=(gr_,R_)) (x2:=l_) (x3:=br_) ho8
  dsimp only at q10_1
  have q10_r2:=q10_2.rm
  refine VO.inv _ (fun _ h=>h.parts (i:=108) rfl q10_S [113,111,112]) ?_
  refine VO.z (.ld1 113 rfl Qhk rfl (Qa rfl rfl)) (VO.mv ?_)
  obtain ⟨x14,hx14⟩:∃ z_,(l_)[k]? =some z_:=⟨_,List.getElem?_eq_getElem Zh⟩
  obtain ⟨gg14,oo14,ec14,ea14,hce14,hre14⟩:=(Ow.rd q10_2 (Qb _)).elem hx14
  cases ea14
  obtain ⟨q14_A2,q14_c2,rfl,q14_0,q14_1,q14_2⟩:=ZF (x0:=x14.1) (x1:=x14.2.1) (x2:=x14.2.2) hre14
  simp only [inK] at q14_0 q14_1
  have q14_r2:=Rd.room q14_2
  refine VO.z (.ixI k rfl rfl Z3 rfl Zh) ?_
  refine VO.z (.ldA 112 rfl Yx rfl hce14) ?_
  refine VO.callN 115 rfl Qm7 rfl (fun W hW=>Qie W (Rd.mono hre14 (hW.t 112)) Zh) (fun v15 m15 hv15=>?_)
  obtain ⟨s15_0,rfl,f15_0⟩:=hv15
  obtain ⟨q15_0_A2,q15_0_c2,q15_0_n2,rfl,q15_0_S,q15_0_0,q15_0_1,q15_0_2⟩:=Y2 (x0:=x14.1) (x1:=x14.2.1) (x2:=x14.2.2) f15_0
  simp only [inK] at q15_0_0 q15_0_1
  have q15_0_r2:=q15_0_2.rm
  refine VO.inv _ (fun _ h=>h.parts (i:=115) rfl q15_0_S [116]) ?_
  refine VO.bsl (cs:=[.int .i64 (x14.1),.int .i64 (x14.2.1),.slice q15_0_A2 (x14.2.2.length) (q15_0_c2)]) 118 rfl rfl Z3 X6 rfl rfl (fun g17=>?_)
  refine VO.appO (e:=ZL) 103 116 118 rfl rfl rfl Z3 X6 rfl rfl rfl rfl h_out (show Ow ZL _ _ x14 from (ZC x14.1 x14.2.1 x14.2.2 (Qu.one (Qb _)) (by simp only [inK];(exact Zh)) (by simp only [inK];(exact Zh)) q15_0_2)) Tryz.underlying43 (Qa rfl rfl) (by simp only [maxLen];(exact Zh)) Zh (by decide) (fun v19 m19 ho19=>?_)
  obtain ⟨A19,c19,rfl,l19,k19⟩:=ho19.slc
  refine VO.as ?_
  refine VO.clsP 120 [113,111,112] rfl (fun hg20=>(QY _ _ _ _ hg20 q10_1 q10_2)) (fun mc20 ho20=>?_)
  refine VO.p3 120 103 0 (VO.k6 0 2 3 4 6 14 (JE (Qj ?_)))
  refine VC.reg ?_
  refine VO.mv ?_
  refine VO.z (.add (c:=((k+1:Nat):Int)) rfl rfl Qx ⟨by exact Zh,by exact Zh⟩) ?_
  refine VO.as (VO.k6 0 2 3 4 6 14 ?_)
  exact Qj ⟨⟨k+1,out++[x14],A19,c19,m19,mc20⟩,⟨by omega,by (rw [ho];exact (Yq ‹l_[k]? =some _›).symm),ho19,ho20⟩,by exact Zh,⟨esn,fun _ h=>Inv.sub (Inv.num h 120 1 rfl) [103,1,0]⟩⟩
 ·refine VC.exit (Zc (Zc (Zd (Qj (VC.rs (VO.mv (VO.as (VO.p3 108 103 0 (VO.k6 0 2 3 4 6 14 (VC.ret ?_))))))))))
  refine Yz 2 [103,108] fun hS_=>?_
  dsimp only [Qv]
  refine ⟨.slice out_A (out.length) (out_c),Zv [out_m],Zv [mc8],?_,?_,?_,?_⟩
  rotate_left
  ·exact Qu.grp (ls:=[[out_m],[mc8]]) hS_
  ·exact Ow.cg (Ow.up h_out ((Qu.self hS_ (List.Sublist.cons_cons _ (List.Sublist.cons _ List.Sublist.slnil))).1 _ (.head _))) (by first | rfl | (rw [ho,List.take_of_length_le Qx]))
  ·exact Ow.cgP (Ow.up ho8 ((Qu.self hS_ (List.Sublist.cons _ (List.Sublist.cons_cons _ List.Sublist.slnil))).1 _ (.head _))) (by first | rfl | (rw [ho,List.take_of_length_le Qx]))
  all_goals (first | rfl | (simp [*];done))
theorem QnC (W:World) {br_:Bool} {l_:List Zn} {R_:Qo} {gr_:Nat} {m0:Mem} (hm:mle (m0) (wm W)) {g0:Nat} (h0:Ow (.ptr Jb) m0 [.pointer (some ⟨g0,0,none⟩)] (g0,(true,(gr_,R_),l_,br_))) (e0:okU l_):Qg Tryz.prog 80 [.pointer (some ⟨g0,0,none⟩)] W (m0) (fun v m'=>∃ (s0:Value),∃ (p0:Mem),∃ (p1:Mem),v=s0∧Qu m' [p0,p1]∧Ow (.sl TOp) p0 [s0] (Qfy l_)∧Ow (.ptr Jb) p1 [.pointer (some ⟨g0,0,none⟩)] (g0,(true,(gr_,R_),l_,br_))):=by
 have hll:=Y3 e0
 refine Qg.ofB (n:=28) hm Tryz.func80 rfl rfl rfl ?_
 refine VC.rs (VO.as (VO.k2 0 2 (VC.rs (VO.as (VO.k3 0 2 3 (VC.seq (VC.rs (VO.mv ?_))))))))
 refine VO.call 1 rfl QiT rfl rfl (fun W hW=>Qdt W (hW.t 1) h0) (fun v1 m1 hv1=>?_)
 try dsimp only at hv1
 obtain ⟨rfl,w1_0⟩:=hv1
 refine VO.p2 1 0 (VO.k4 0 2 3 6 ?_)
 refine VC.cond rfl (fun hc2=>?_) (fun hc2=>?_)
 exact hc2.elim
 refine VC.skip (Qj (VC.seq (VC.rs (VO.as (VO.k5 0 2 3 4 6 (VC.block ?_))))))
 refine VC.inv ((103,Qr)::_) (fun _ h=>h.nilc 103) ?_
 refine VC.loop (G:=Nat × (List DOp) × (Option Addr) × Nat × Mem × Mem) (fun g=>[(3,.slice (g.2.2.1) ((g.2.1).length) ((g.2.2.2.1))),(4,.int .i64 ((((g.1):Nat):Int))),(0,.pointer (some ⟨g0,0,none⟩)),(2,.slice none (0) (0)),(6,.bool (decide (False)))]) (fun g=>[(103,(g.2.2.2.2.1)),(1,(g.2.2.2.2.2)),(0,JY (wm W) (m0))]) (fun g=>((g.1)≤l_.length)∧((g.2.1)=Qfy (l_.take (g.1)))∧(Qz TOp (g.2.2.2.2.1) Qr (.slice (g.2.2.1) (g.2.1).length (g.2.2.2.1)) (g.2.1))∧(Ow (.ptr Jb) (g.2.2.2.2.2) [.pointer (some ⟨g0,0,none⟩)] (g0,(true,(gr_,R_),l_,br_)))) (fun g=>l_.length - (g.1)) (0,[],none,0,Qr,m1) (⟨by omega,by rfl,(Qz.nil TOp Qr Qr),w1_0⟩) ⟨esn,fun _ h=>h.sub [103,1,0]⟩ ?_
 rintro ⟨k,out,out_A,out_c,out_m,x_m⟩ ⟨hk,ho,h_out,h_x⟩
 replace hk:k≤l_.length:=hk
 replace ho:out=Qfy (l_.take k):=ho
 replace h_out:Qz TOp out_m Qr (.slice out_A out.length out_c) out:=h_out
 replace h_x:Ow (.ptr Jb) x_m [.pointer (some ⟨g0,0,none⟩)] (g0,(true,(gr_,R_),l_,br_)):=h_x
 show VC _ _ _ _ _ [(3,.slice out_A (out.length) (out_c)),(4,.int .i64 (((k:Nat):Int))),(0,.pointer (some ⟨g0,0,none⟩)),(2,.slice none (0) (0)),(6,.bool (decide (False)))] [(103,out_m),(1,x_m),(0,JY (wm W) (m0))]
 have l_out:out.length≤out_c:=by obtain ⟨_,_,he,hl,_⟩:=h_out.slice;simp only [Value.slice.injEq] at he;omega
 have k_out:out_c≤9223372036854775807:=by obtain ⟨_,_,he,_,hl⟩:=h_out.slice;simp only [Value.slice.injEq,maxLen] at he hl;omega
 have hlo:out.length≤1024*l_.length:=by rw [ho];exact QjQ e0 k
 refine VC.seq (VC.rs (VO.mv (VO.mv (VO.z (.nilp rfl) (VO.z (.fa rfl QaI rfl) ?_)))))
 obtain ⟨q4_E,q4_A2,q4_c2,q4_n1,q4_n2,_,q4_S,q4_1,q4_2⟩:=QQ (x0:=true) (x1:=(gr_,R_)) (x2:=l_) (x3:=br_) h_x
 dsimp only at q4_1
 have q4_r2:=q4_2.rm
 refine VO.inv _ (fun _ h=>h.parts (i:=1) rfl q4_S [107,105,106]) ?_
 refine VO.z (.ld1 107 rfl Qhk rfl (Qa rfl rfl)) (VO.z (.lenS rfl Z3) (VO.z (.lss rfl rfl) ?_))
 refine VO.clsP 108 [107,105,106] rfl (fun hg8=>(QY _ _ _ _ hg8 q4_1 q4_2)) (fun mc8 ho8=>?_)
 refine VO.k6 0 2 3 4 6 14 ?_
 refine VC.cond rfl (fun hc9=>?_) (fun hc9=>?_)
 ·refine VC.skip (Qj (VC.seq (VC.block ?_)))
  refine VC.reg ?_
  refine VO.mv (VO.mv (VO.z (.nilp rfl) (VO.z (.fa rfl QaI rfl) ?_)))
  obtain ⟨q10_E,q10_A2,q10_c2,q10_n1,q10_n2,_,q10_S,q10_1,q10_2⟩:=QQ (x0:=true) (x1:=(gr_,R_)) (x2:=l_) (x3:=br_) ho8
  dsimp only at q10_1
  have q10_r2:=q10_2.rm
  refine VO.inv _ (fun _ h=>h.parts (i:=108) rfl q10_S [113,111,112]) ?_
  refine VO.z (.ld1 113 rfl Qhk rfl (Qa rfl rfl)) (VO.mv ?_)
  obtain ⟨x14,hx14⟩:∃ z_,(l_)[k]? =some z_:=⟨_,List.getElem?_eq_getElem (by first | exact bd | (have h_:=QaN e0 ‹l_[_]? =some _›;omega))⟩
  obtain ⟨gg14,oo14,ec14,ea14,hce14,hre14⟩:=(Ow.rd q10_2 (Qb _)).elem hx14
  cases ea14
  obtain ⟨q14_A2,q14_c2,rfl,q14_0,q14_1,q14_2⟩:=ZF (x0:=x14.1) (x1:=x14.2.1) (x2:=x14.2.2) hre14
  simp only [inK] at q14_0 q14_1
  have q14_r2:=Rd.room q14_2
  refine VO.z (.ixI k rfl rfl Z3 rfl (by first | exact bd | (have h_:=QaN e0 ‹l_[_]? =some _›;omega))) ?_
  refine VO.z (.fa rfl Jl rfl) ?_
  refine VO.z (.ld1 112 rfl YY rfl (hce14.at1 (j:=2) rfl)) ?_
  obtain ⟨mo15,cs15,hM15,hA15,hC15⟩:=h_out
  obtain ⟨all15,hS15,hR15⟩:=Rd.srcI (P:=Tryz.prog) (q14_2) Tryz.underlying36
  refine VO.app 103 rfl rfl rfl Ji XB rfl rfl hM15 hA15 (hS15 _ 112 rfl) hR15.nice (by simp only [maxLen];(first | exact bd | (have h_:=QaN e0 ‹l_[_]? =some _›;omega))) (by first | exact bd | (have h_:=QaN e0 ‹l_[_]? =some _›;omega)) (by decide) (fun v15 m15 hN15=>?_)
  have ho15:Qz TOp m15 Qr v15 (out++x14.2.2):=Qz.more hC15 hN15 (QV.mono hR15 fun _ _ h=>Rd.flat rfl h _)
  obtain ⟨A15,c15,rfl,l15,k15⟩:=ho15.slc
  refine VO.as ?_
  refine VO.clsP 116 [113,111,112] rfl (fun hg16=>(QY _ _ _ _ hg16 q10_1 q10_2)) (fun mc16 ho16=>?_)
  refine VO.p3 116 103 0 (VO.k6 0 2 3 4 6 14 (JE (Qj ?_)))
  refine VC.reg ?_
  refine VO.mv ?_
  refine VO.z (.add (c:=((k+1:Nat):Int)) rfl rfl Qx ⟨by first | exact bd | (have h_:=QaN e0 ‹l_[_]? =some _›;omega),by first | exact bd | (have h_:=QaN e0 ‹l_[_]? =some _›;omega)⟩) ?_
  refine VO.as (VO.k6 0 2 3 4 6 14 ?_)
  exact Qj ⟨⟨k+1,out++x14.2.2,A15,c15,m15,mc16⟩,⟨by omega,by (rw [ho];exact QjP ‹l_[k]? =some _›),ho15,ho16⟩,by first | exact bd | (have h_:=QaN e0 ‹l_[_]? =some _›;omega),⟨esn,fun _ h=>Inv.sub (Inv.num h 116 1 rfl) [103,1,0]⟩⟩
 ·refine VC.exit (Zc (Zc (Zd (Qj (VC.rs (VO.mv (VO.as (VO.p3 108 103 0 (VO.k6 0 2 3 4 6 14 (VC.ret ?_))))))))))
  refine Yz 2 [103,108] fun hS_=>?_
  dsimp only [Qv]
  refine ⟨.slice out_A (out.length) (out_c),Zv [out_m],Zv [mc8],?_,?_,?_,?_⟩
  rotate_left
  ·exact Qu.grp (ls:=[[out_m],[mc8]]) hS_
  ·exact Ow.cg (Ow.up (Qz.ow h_out rfl) ((Qu.self hS_ (List.Sublist.cons_cons _ (List.Sublist.cons _ List.Sublist.slnil))).1 _ (.head _))) (by first | rfl | (rw [ho,List.take_of_length_le Qx]))
  ·exact Ow.cgP (Ow.up ho8 ((Qu.self hS_ (List.Sublist.cons _ (List.Sublist.cons_cons _ List.Sublist.slnil))).1 _ (.head _))) (by first | rfl | (rw [ho,List.take_of_length_le Qx]))
  all_goals (first | rfl | (simp [*];done))
theorem Qj9 (W:World) {m0:Mem} (hm:mle (m0) (wm W)) {g0:Nat} {d0:JG} (h0:Ow (.ptr Q3) m0 [.pointer (some ⟨g0,0,none⟩)] (g0,d0)) (d1:List UInt8) (h1:d1.length≤maxLen) (e0:d0.1=true) (e1:d0.2.length≤1700000000000):Qg Tryz.prog 81 [.pointer (some ⟨g0,0,none⟩),str d1] W (m0) (fun v m'=>v= .tuple #[str ((QgN (YA d0.2 d1)).1),.bool ((QgN (YA d0.2 d1)).2.1),.bool ((QgN (YA d0.2 d1)).2.2)]∧Ow (.ptr Q3) m' [.pointer (some ⟨g0,0,none⟩)] (g0,d0)):=by
 have h1':=h1;simp only [maxLen] at h1'
 refine Qg.ofB (n:=45) hm Tryz.func81 rfl rfl rfl ?_
 refine VC.rs (VO.as (VO.as (VO.as (VO.k5 0 1 4 5 6 (VC.seq (VC.rs (VO.mv ?_)))))))
 refine VO.call 1 rfl QkZ rfl rfl (fun W hW=>QdW W (hW.t 1) h0) (fun v1 m1 hv1=>?_)
 obtain ⟨rfl,w1_0⟩:=hv1
 refine VO.k6 0 1 4 5 6 9 ?_
 refine VC.cond rfl (fun hc2=>?_) (fun hc2=>?_)
 exact absurd (e0.symm.trans hc2) (by decide)
 refine VC.skip (Qj (VC.seq (VC.rs (VO.as (VO.p2 1 0 (VO.k7 0 1 4 5 6 7 9 (VC.block ?_)))))))
 refine VC.loop (G:=Nat × Mem) (fun g=>[(7,.int .i64 ((((g.1):Nat):Int))),(0,.pointer (some ⟨g0,0,none⟩)),(1,str (d1)),(9,.bool (decide (d0.1=false)))]) (fun g=>[(1,(g.2)),(0,JY (wm W) (m0))]) (fun g=>((g.1)≤d0.2.length)∧(∀ o∈d0.2.take (g.1),¬ o.2.1=d1)∧(Ow (.ptr Q3) (g.2) [.pointer (some ⟨g0,0,none⟩)] (g0,d0))) (fun g=>d0.2.length - (g.1)) (0,m1) (⟨by omega,by (intro x_ h_;cases h_),w1_0⟩) ⟨esn,fun _ h=>h.sub [1,0]⟩ ?_
 rintro ⟨k,t_m⟩ ⟨hk,hg,h_t⟩
 replace hk:k≤d0.2.length:=hk
 replace hg:∀ o∈d0.2.take k,¬ o.2.1=d1:=hg
 replace h_t:Ow (.ptr Q3) t_m [.pointer (some ⟨g0,0,none⟩)] (g0,d0):=h_t
 show VC _ _ _ _ _ [(7,.int .i64 (((k:Nat):Int))),(0,.pointer (some ⟨g0,0,none⟩)),(1,str (d1)),(9,.bool (decide (d0.1=false)))] [(1,t_m),(0,JY (wm W) (m0))]
 refine VC.seq (VC.rs (VO.mv (VO.mv (VO.z (.nilp rfl) (VO.z (.fa rfl Xt rfl) ?_)))))
 obtain ⟨q3_E,q3_A1,q3_c1,q3_n1,_,q3_S,q3_1⟩:=QW h_t
 have q3_r1:=q3_1.rm
 refine VO.inv _ (fun _ h=>h.parts (i:=1) rfl q3_S [105,104]) ?_
 refine VO.z (.ld1 105 rfl YY rfl (Qa rfl rfl)) (VO.z (.lenS rfl Ji) (VO.z (.lss rfl rfl) ?_))
 refine VO.clsP 106 [105,104] rfl (fun hg6=>(Jh d0 hg6 q3_1)) (fun mc6 ho6=>?_)
 refine VO.k5 0 1 7 9 16 ?_
 refine VC.cond rfl (fun hc7=>?_) (fun hc7=>?_)
 refine VC.skip (Qj (VC.seq (VC.block (VC.rs (VO.mv (VO.z (.nilp rfl) (VO.z (.fa rfl Xt rfl) ?_)))))))
 obtain ⟨q8_E,q8_A1,q8_c1,q8_n1,_,q8_S,q8_1⟩:=QW ho6
 have q8_r1:=q8_1.rm
 refine VO.inv _ (fun _ h=>h.parts (i:=106) rfl q8_S [110,109]) ?_
 refine VO.z (.ld1 110 rfl YY rfl (Qa rfl rfl)) (VO.mv ?_)
 obtain ⟨x11,hx11⟩:∃ z_,(d0.2)[k]? =some z_:=⟨_,List.getElem?_eq_getElem bd⟩
 obtain ⟨gg11,oo11,ec11,ea11,hce11,hre11⟩:=(Ow.ownl q8_1 rfl Qr).elem hx11
 cases ea11
 obtain ⟨rfl,q11_1,q11_2⟩:=JA (x0:=x11.1) (x1:=x11.2.1) (x2:=x11.2.2) hre11
 simp only [maxLen] at q11_1
 simp only [maxLen] at q11_2
 refine VO.z (.ixI k rfl rfl Ji rfl bd) ?_
 refine VO.z (.fa rfl JM rfl) ?_
 refine VO.z (.ld1 109 rfl tk9 rfl (hce11.at1 (j:=1) rfl)) ?_
 refine VO.mv (VO.z (.seql rfl rfl) ?_)
 refine VO.clsP 112 [110,109] rfl (fun hg12=>(Jh d0 hg12 q8_1)) (fun mc12 ho12=>?_)
 refine VO.k6 0 1 7 9 16 28 ?_
 refine VC.cond rfl (fun hc13=>?_) (fun hc13=>?_)
 ·refine VC.seq ?_
  obtain ⟨q14_E,q14_A1,q14_c1,q14_n1,_,q14_S,q14_1⟩:=QW ho12
  have q14_r1:=q14_1.rm
  refine VC.inv _ (fun _ h=>h.parts (i:=112) rfl q14_S [116,115]) ?_
  refine VC.regD _ 18 [(0,true),(1,true),(2,true),(3,true),(4,true),(5,true),(6,true),(7,true),(8,true),(9,true),(10,true),(11,true),(12,true),(13,true),(14,true),(15,true),(16,true),(17,true)] follows (by kernel_rfl) (fun _ h=>h.sub [116,115,0]) ?_
  refine VD.z rfl (.mv rfl) (VD.z rfl (.nilp rfl) (VD.z rfl (.fa rfl Xt rfl) (VD.z rfl (.ld1 116 rfl YY rfl (Qa rfl rfl)) (VD.z rfl (.mv rfl) ?_))))
  obtain ⟨x17,hx17⟩:∃ z_,(d0.2)[k]? =some z_:=⟨_,List.getElem?_eq_getElem bd⟩
  obtain ⟨gg17,oo17,ec17,ea17,hce17,hre17⟩:=(Ow.ownl q14_1 rfl Qr).elem hx17
  cases ea17
  obtain ⟨rfl,q17_1,q17_2⟩:=JA (x0:=x17.1) (x1:=x17.2.1) (x2:=x17.2.2) hre17
  simp only [maxLen] at q17_1
  simp only [maxLen] at q17_2
  refine VD.z rfl (.ixI k rfl rfl Ji rfl bd) ?_
  refine VD.z rfl (.fa rfl JM rfl) ?_
  refine VD.z rfl (.ld1 115 rfl tk9 rfl (hce17.at1 (j:=2) rfl)) ?_
  refine VD.z rfl (.mv rfl) (VD.z rfl (.nilp rfl) (VD.z rfl (.fa rfl Xt rfl) (VD.z rfl (.ld1 116 rfl YY rfl (Qa rfl rfl)) (VD.z rfl (.mv rfl) ?_))))
  refine VD.z rfl (.ixI k rfl rfl Ji rfl bd) ?_
  refine VD.z rfl (.fa rfl JM rfl) ?_
  refine VD.z rfl (.ld1 115 rfl tk4 rfl (hce17.at1 (j:=0) rfl)) ?_
  refine VD.z rfl (.as rfl) (VD.z rfl (.as rfl) ?_)
  refine VD.nil rfl ?_ rfl
  refine VO.as ?_
  refine VO.clsP 119 [116,115] rfl (fun hg19=>(Jh d0 hg19 q14_1)) (fun mc19 ho19=>?_)
  refine VO.p2 119 0 (VO.k9 0 1 4 5 6 7 9 16 28 (Qj (VC.ret (JD (QS (QS (JD (QS ?_))))))))
  refine Qbj 4 5 6 [119] fun hS_=>?_
  dsimp only [Qv]
  exact ⟨(by first | rfl | (first | (rw [Qnr hg Qx];rfl) | (rw [Qnq hg Qd ‹d0.2[k]? =some _› ‹d0.2[k]? =some _› ‹d0.2[k]? =some _›];rfl))),(Ow.cgP (Ow.up ho19 (hS_.1 _ (.head _))))⟩
 refine VC.skip (JE (Qj ?_))
 refine VC.reg ?_
 refine VO.mv ?_
 refine VO.z (.add (c:=((k+1:Nat):Int)) rfl rfl Qx ⟨bd,bd⟩) ?_
 refine VO.as (VO.p2 112 0 (VO.k6 0 1 7 9 16 28 ?_))
 exact Qj ⟨⟨k+1,mc12⟩,⟨by omega,by exact Qoc hg ‹d0.2[k]? =some _› Qd,ho12⟩,bd,⟨esn,fun _ h=>Inv.sub (Inv.num h 112 1 rfl) [1,0]⟩⟩
 refine VC.exit (Zc (Zc (Zd (Qj (VC.rs (VO.as (VO.as (VO.as (VO.k8 0 1 4 5 6 7 9 16 (VC.ret ?_))))))))))
 refine Qbj 4 5 6 [106] fun hS_=>?_
 dsimp only [Qv]
 exact ⟨(by first | rfl | (first | (rw [Qnr hg Qx];rfl) | (rw [Qnq hg Qd ‹d0.2[k]? =some _› ‹d0.2[k]? =some _› ‹d0.2[k]? =some _›];rfl))),(Ow.cgP (Ow.up ho6 (hS_.1 _ (.head _))))⟩
theorem QnD (W:World) {br_:Bool} {l_:List Zn} {R_:Qo} {gr_:Nat} {m0:Mem} (hm:mle (m0) (wm W)) {g0:Nat} (h0:Ow (.ptr Jb) m0 [.pointer (some ⟨g0,0,none⟩)] (g0,(true,(gr_,R_),l_,br_))) (d1:List UInt8) (h1:d1.length≤maxLen) (e0:okU l_):Qg Tryz.prog 41 [.pointer (some ⟨g0,0,none⟩),str d1] W (m0) (fun v m'=>v= .tuple #[str ((QgX l_ d1).1),.bool ((QgX l_ d1).2.1),.bool ((QgX l_ d1).2.2)]∧Ow (.ptr Jb) m' [.pointer (some ⟨g0,0,none⟩)] (g0,(true,(gr_,R_),l_,br_))):=by
 have hll:=Y3 e0;have hxl:=Qgl e0;have hta:=QcJ (true,[]) (Qfy l_);simp only [List.length_nil] at hta
 have h1':=h1;simp only [maxLen] at h1'
 refine Qg.ofB (n:=19) hm Tryz.func41 rfl rfl rfl ?_
 refine VC.rs (VO.as (VO.as (VO.as (VO.k5 0 1 4 5 6 (VC.rs ?_)))))
 refine VO.callN 101 rfl Qm4 rfl (fun W hW=>Qin W) (fun v1 m1 hv1=>?_)
 obtain ⟨s1_0,rfl,f1_0⟩:=hv1
 refine VO.as (VO.k6 0 1 4 5 6 7 (VC.rs (VO.mv (VO.mv ?_))))
 refine VO.call 1 rfl fnOk80 rfl rfl (fun W hW=>QnC W (hW.t 1) h0 Qd) (fun v2 m2 hv2=>?_)
 try dsimp only at hv2
 obtain ⟨s2_0,p2_0,p2_1,rfl,hS2,f2_0,w2_0⟩:=hv2
 refine VO.inv _ (fun _ h=>h.parts (i:=1) rfl hS2 [103,104]) ?_
 have hfa5:=Qgl (show okU l_ by assumption)
 obtain ⟨A2_0,c2_0,eq2_0,l2_0,k2_0⟩:=f2_0.slc
 subst eq2_0
 refine VO.call 101 rfl Qm3 rfl rfl (fun W hW=>QeP W (hW.t 101) f1_0 (Ow.rd f2_0 (hW.o 101 103)) (by rfl) (by (dsimp only [List.length_nil];omega))) (fun v6 m6 hv6=>?_)
 try dsimp only at hv6
 obtain ⟨rfl,w6_0⟩:=hv6
 have hfa7:=QcJ (true,[]) (Qfy l_)
 refine VO.p3 101 104 0 (VO.k6 0 1 4 5 6 7 (VC.rs (VO.mv (VO.mv ?_))))
 refine VO.call 101 rfl fnOk81 rfl rfl (fun W hW=>Qj9 W (hW.t 101) w6_0 d1 bdm (by exact hta.2.2) Qx) (fun v8 m8 hv8=>?_)
 obtain ⟨rfl,w8_0⟩:=hv8
 refine VO.z (.ext rfl rfl) (VO.z (.ext rfl rfl) (VO.z (.ext rfl rfl) (VO.as (VO.as (VO.as (VO.k6 0 1 4 5 6 7 (VC.ret ?_)))))))
 refine Qbj 4 5 6 [104] fun hS_=>?_
 dsimp only [Qv]
 exact ⟨(by first | rfl | ((rw [← QlR e0];rfl))),(Ow.cgP (Ow.up w2_0 (hS_.1 _ (.head _))))⟩
theorem Qk6:JX Tryz.prog 23=true:=by kernel_rfl
theorem fnOk64:JX Tryz.prog 64=true:=by kernel_rfl
theorem fnOk65:JX Tryz.prog 65=true:=by kernel_rfl
theorem fnOk66:JX Tryz.prog 66=true:=by kernel_rfl
theorem Qm8:JX Tryz.prog 67=true:=by kernel_rfl
theorem QjK:tk Tryz.prog 29=some none:=by kernel_rfl
theorem Js {P:Prop} (h:P:=by first | (rw [xf_br (by assumption)] <;> first | rfl | (rw [JF];done) | done) | (rw [xf_off (by assumption)] <;> first | rfl | (rw [JF];done) | done) | (rw [xf_enc e1 (by assumption) (by assumption) (by assumption)] <;> first | rfl | (rw [JF];done) | done) | (rw [QlQ e1 (by assumption) (by assumption) (by assumption) (by assumption)] <;> first | rfl | (rw [JF];done) | done) | (rw [QlP e1 (by assumption) (by assumption) (by assumption) (by assumption) (by assumption)] <;> first | rfl | (rw [JF];done) | done) | (rw [(Qhl e1 (by assumption) (by assumption) e0 (by assumption) (by assumption) (by assumption) (by assumption)).2.2,(Qhl e1 (by assumption) (by assumption) e0 (by assumption) (by assumption) (by assumption) (by assumption)).1] <;> first | rfl | done) | (rw [(Qhl e1 (by assumption) (by assumption) e0 (by assumption) (by assumption) (by assumption) (by assumption)).2.1] <;> first | rfl | done) | (rw [(Qhm e1 (by assumption) (by assumption) e0 (by assumption) (by assumption) (by assumption) (by assumption)).2.2,(Qhm e1 (by assumption) (by assumption) e0 (by assumption) (by assumption) (by assumption) (by assumption)).1] <;> first | rfl | done) | (rw [(Qhm e1 (by assumption) (by assumption) e0 (by assumption) (by assumption) (by assumption) (by assumption)).2.1] <;> first | rfl | done)):P:=h
theorem Zg {P:Prop} (h:P:=by first | exact bd | (have h_:=JV (Qag ‹¬ ¬ (Qh d1).2=0›).1;omega) | (have h_:=Qi2 ‹¬ ¬ (Qh d1).2=0›;omega) | (have h_:=write_rng (Qc R_) 2 (QZ [] (Qh d1).1).1;omega)):P:=h
theorem Y6 {k:IntKind} {x:Int} (h:inK k x:=by simp only [inK];exact Zg):inK k x:=h
set_option maxHeartbeats 4000000 in
theorem Qgs (W:World) {br_:Bool} {l_:List Zn} {R_:Qo} {gr_:Nat} {m0:Mem} (hm:mle (m0) (wm W)) {g0:Nat} (h0:Ow (.ptr Jb) m0 [.pointer (some ⟨g0,0,none⟩)] (g0,(true,(gr_,R_),l_,br_))) {v1:List Value} {d1:Zn} (h1:Rd ZL (JY (wm W) (m0)) v1 d1) (e0:okR R_) (e1:R_.1=true) (e2:wD (Qc R_)+400000≤1000000000000) (e3:okU l_):Qg Tryz.prog 26 [.pointer (some ⟨g0,0,none⟩),.agg v1.toArray] W (m0) (fun v m'=>v= .int .i64 ((QJ (Qc R_) br_ l_ d1).2)∧Ow (.ptr Jb) m' [.pointer (some ⟨g0,0,none⟩)] (g0,(true,(gr_,toR (QJ (Qc R_) br_ l_ d1).1.1 R_.2.2.2.2.2.1),(QJ (Qc R_) br_ l_ d1).1.2.2,(QJ (Qc R_) br_ l_ d1).1.2.1))):=by
 have hll:=Y3 e3
 obtain ⟨p1_A2,p1_c2,rfl,p1_0,p1_1,p1_2⟩:=ZF (x0:=d1.1) (x1:=d1.2.1) (x2:=d1.2.2) h1
 simp only [inK] at p1_0 p1_1
 have p1_r2:=Rd.room p1_2
 refine Qg.ofB (n:=74) hm Tryz.func26 rfl rfl rfl ?_
 refine VC.rs ?_
 refine VO.box (cs:=[.int .i64 (d1.1),.int .i64 (d1.2.1),.slice p1_A2 (d1.2.2.length) (p1_c2)]) 102 rfl rfl rfl (fun g1=>?_)
 refine VO.as (VO.k4 0 1 3 4 (VC.seq (VC.rs (VO.mv ?_))))
 refine VO.call 1 rfl QiT rfl rfl (fun W hW=>Qdt W (hW.t 1) h0) (fun v3 m3 hv3=>?_)
 try dsimp only at hv3
 obtain ⟨rfl,w3_0⟩:=hv3
 refine VO.k5 0 1 3 4 8 ?_
 refine VC.cond rfl (fun hc4=>?_) (fun hc4=>?_)
 exact hc4.elim
 refine VC.skip (Qj (VC.seq (VC.rs (VO.mv (VO.z (.nilp rfl) (VO.z (.fa rfl QaI rfl) ?_))))))
 obtain ⟨q5_E,q5_A2,q5_c2,q5_n1,q5_n2,_,q5_S,q5_1,q5_2⟩:=QQ (x0:=true) (x1:=(gr_,R_)) (x2:=l_) (x3:=br_) w3_0
 dsimp only at q5_1
 have q5_r2:=q5_2.rm
 refine VO.inv _ (fun _ h=>h.parts (i:=1) rfl q5_S [108,106,107]) ?_
 refine VO.z (.ld1 108 rfl tk4 rfl (Qa rfl rfl)) (VO.mv ?_)
 refine VO.decB (t:=13) rfl (fun hc9=>?_) (fun hc9=>?_)
 refine VO.gN (VO.gN (VO.gN (VO.gN (VO.gN (VO.gN (VO.gN (VO.gN (VO.z (.pT rfl rfl) ?_))))))))
 refine VO.clsP 110 [108,106,107] rfl (fun hg10=>(QY _ _ _ _ hg10 q5_1 q5_2)) (fun mc10 ho10=>?_)
 refine VO.p3 110 102 0 (VO.k6 0 1 3 4 8 22 (VC.condT rfl (VC.rs (VO.mv (VO.z (.nilp rfl) (VO.z (.fa rfl QaI rfl) ?_))))))
 obtain ⟨q11_E,q11_A2,q11_c2,q11_n1,q11_n2,_,q11_S,q11_1,q11_2⟩:=QQ (x0:=true) (x1:=(gr_,R_)) (x2:=l_) (x3:=br_) ho10
 dsimp only at q11_1
 have q11_r2:=q11_2.rm
 refine VO.inv _ (fun _ h=>h.parts (i:=110) rfl q11_S [114,112,113]) ?_
 refine VO.store (k:=1) (c':=[.bool true,.pointer (some ⟨gr_,0,none⟩),.slice q11_A2 (l_.length) (q11_c2),.bool true]) 114 rfl rfl (.inr ⟨tk4,rfl⟩) rfl rfl rfl rfl rfl ?_
 refine VO.clsP 115 [114,112,113] rfl (fun hg15=>(QY _ _ _ _ hg15 q11_1 q11_2)) (fun mc15 ho15=>?_)
 refine VO.k6 0 1 3 4 8 22 (VC.rs (VO.as (VO.k6 0 1 3 4 8 22 (VC.ret (QS ?_)))))
 exact ZA 4 115 rfl ho15 (by first | rfl | exact Js) (by first | rfl | exact Js)
 refine VO.w (.mv rfl) (VO.w (.nilp rfl) (VO.w (.fa rfl QaI rfl) (VO.w (.ld1 108 rfl QjK rfl (Qa rfl rfl)) (VO.w (.nilp rfl) (VO.w (.fa rfl JJ rfl) ?_)))))
 obtain ⟨q16_E,q16_A1,q16_c1,q16_A2,q16_c2,q16_A3,q16_c3,q16_A4,q16_c4,q16_A5,q16_c5,q16_n1,q16_n2,q16_n3,q16_n4,q16_n5,_,q16_S,q16_1,q16_2,q16_3,q16_4,q16_5,q16_8,q16_9⟩:=Ql q5_1
 have q16_r1:=q16_1.rm
 have q16_r2:=q16_2.rm
 have q16_r3:=q16_3.rm
 have q16_r4:=q16_4.rm
 have q16_r5:=q16_5.rm
 simp only [inK] at q16_8 q16_9
 refine VO.inv _ (fun _ h=>h.parts (i:=106) rfl q16_S [122,117,118,119,120,121]) ?_
 refine VO.w (.ld1 122 rfl tk4 rfl (Qa rfl rfl)) (VO.w (.not rfl) (VO.z (.pF rfl rfl) ?_))
 refine VO.clsP 123 [122,117,118,119,120,121] rfl (fun hg23=>(QB R_ hg23 q16_1 q16_2 q16_3 q16_4 q16_5 Y6 Y6)) (fun mc23 ho23=>?_)
 refine VO.clsP 124 [108,123,107] rfl (fun hg24=>(QY _ _ _ _ hg24 ho23 q5_2)) (fun mc24 ho24=>?_)
 refine VO.p3 124 102 0 (VO.k6 0 1 3 4 8 22 ?_)
 refine VC.condBN rfl (fun hc25=>?_) (fun hc25=>?_)
 refine VC.rs (VO.mv (VO.z (.nilp rfl) (VO.z (.fa rfl QaI rfl) ?_)))
 obtain ⟨q26_E,q26_A2,q26_c2,q26_n1,q26_n2,_,q26_S,q26_1,q26_2⟩:=QQ (x0:=true) (x1:=(gr_,R_)) (x2:=l_) (x3:=br_) ho24
 dsimp only at q26_1
 have q26_r2:=q26_2.rm
 refine VO.inv _ (fun _ h=>h.parts (i:=124) rfl q26_S [129,127,128]) ?_
 refine VO.store (k:=1) (c':=[.bool true,.pointer (some ⟨gr_,0,none⟩),.slice q26_A2 (l_.length) (q26_c2),.bool true]) 129 rfl rfl (.inr ⟨tk4,rfl⟩) rfl rfl rfl rfl rfl ?_
 refine VO.clsP 130 [129,127,128] rfl (fun hg30=>(QY _ _ _ _ hg30 q26_1 q26_2)) (fun mc30 ho30=>?_)
 refine VO.k6 0 1 3 4 8 22 (VC.rs (VO.as (VO.k6 0 1 3 4 8 22 (VC.ret (QS ?_)))))
 exact ZA 4 130 rfl ho30 (by first | rfl | exact Js) (by first | rfl | exact Js)
 refine VC.skip (Qj (VC.rs (VO.z (.ldA 102 rfl Yx rfl (Qa rfl rfl)) ?_)))
 refine VO.callN 131 rfl fnOk64 rfl (fun W hW=>QhI W (Rd.mono h1 (hW.t 0))) (fun v31 m31 hv31=>?_)
 obtain ⟨s31_0,rfl,f31_0⟩:=hv31
 have hfa32:=QaM d1
 obtain ⟨A31_0,c31_0,eq31_0,l31_0,k31_0⟩:=f31_0.slc
 subst eq31_0
 refine VO.mv (VO.z (.ext rfl rfl) (VO.z (.ext rfl rfl) (VO.as (VO.as (VO.k8 0 1 3 4 5 6 8 22 (VC.seq (VC.rs (VO.mv (VO.z (.neq rfl rfl) (VO.k9 0 1 3 4 5 6 8 22 32 ?_))))))))))
 refine VC.cond rfl (fun hc33=>?_) (fun hc33=>?_)
 refine VC.rs (VO.mv (VO.as (VO.p4 131 124 102 0 (VO.k9 0 1 3 4 5 6 8 22 32 (VC.ret (QS ?_))))))
 exact ZA 4 124 rfl ho24 (by first | rfl | exact Js) (by first | rfl | exact Js)
 refine VC.skip (Qj (VC.seq (VC.seq ?_)))
 refine VC.regD _ 5 [(0,true),(1,true),(2,true),(3,true),(4,false)] follows (by kernel_rfl) (fun _ h=>h.sub [131,102,0]) ?_
 refine VD.z rfl (.fa rfl Jl rfl) (VD.z rfl (.ld1 102 rfl tk3 rfl (Qa rfl rfl)) ?_)
 refine VD.z rfl (.sub rfl rfl rfl ⟨by exact Zg,by exact Zg⟩) ?_
 refine VD.z rfl (.mv rfl) ?_
 refine VD.call 124 rfl rfl (.inl rfl) Qk6 rfl rfl (fun _ _ h=>h.sub [131,102,0]) (fun W hW=>Qhq W (hW.t 124) ho24 Qd) (fun v34 m34 hv34=>?_)
 try dsimp only at hv34
 obtain ⟨rfl,w34_0⟩:=hv34
 refine VD.nil rfl ?_ rfl
 refine VO.z (.neq rfl rfl) (VO.p4 124 131 102 0 (VO.k10 0 1 3 4 5 6 8 22 32 39 (Qj ?_)))
 refine VC.cond rfl (fun hc35=>?_) (fun hc35=>?_)
 refine VC.rs (VO.as (VO.k10 0 1 3 4 5 6 8 22 32 39 (VC.ret (QS ?_))))
 exact ZA 4 124 rfl w34_0 (by first | rfl | exact Js) (by first | rfl | exact Js)
 refine VC.skip (Qj (VC.rs (VO.mv ?_)))
 refine VO.callN 136 rfl fnOk65 rfl (fun W hW=>Qh0 W (Rd.nil _ _ none 0 (Nat.zero_le _)) (Ow.rd f31_0 (hW.t 131)) Zg) (fun v36 m36 hv36=>?_)
 obtain ⟨s36_0,rfl,f36_0⟩:=hv36
 have hfa37:=Qeu [] ((Qh d1).1)
 have hfa38:=Qco [] ((Qh d1).1)
 obtain ⟨A36_0,c36_0,eq36_0,l36_0,k36_0⟩:=f36_0.slc
 subst eq36_0
 refine VO.mv (VO.z (.ext rfl rfl) (VO.z (.ext rfl rfl) (VO.as (VO.k10 0 1 3 4 5 6 8 22 32 39 (VC.seq (VC.rs (VO.mv (VO.z (.nilp rfl) (VO.z (.fa rfl QaI rfl) ?_)))))))))
 obtain ⟨q39_E,q39_A2,q39_c2,q39_n1,q39_n2,_,q39_S,q39_1,q39_2⟩:=QQ (x0:=true) (x1:=(gr_,R_)) (x2:=l_) (x3:=br_) w34_0
 dsimp only at q39_1
 have q39_r2:=q39_2.rm
 refine VO.inv _ (fun _ h=>h.parts (i:=124) rfl q39_S [142,140,141]) ?_
 refine VO.z (.ld1 142 rfl QjK rfl (Qa rfl rfl)) (VO.mv ?_)
 refine VO.call 140 rfl fnOk66 rfl rfl (fun W hW=>Qkq W (hW.t 140) q39_1 2 Y6 (Ow.rd f36_0 (hW.o 140 136)) Qd Zg) (fun v43 m43 hv43=>?_)
 obtain ⟨rfl,w43_0⟩:=hv43
 have hfa44:=(Ql9 (f:=2) (b:=((QZ [] ((Qh d1).1)).1)) (show okR R_ by assumption))
 have hfa45:=(Ql6 (f:=2) (b:=((QZ [] ((Qh d1).1)).1)) (show okR R_ by assumption))
 refine VO.z (.neq rfl rfl) (VO.mv ?_)
 refine VO.dec (t:=52) rfl (fun hc46=>?_) (fun hc46=>?_)
 refine VO.gN (VO.gN (VO.gN (VO.gN (VO.gN (VO.gN (VO.z (.pT rfl rfl) ?_))))))
 refine VO.clsP 147 [142,140,141] rfl (fun hg47=>(QY _ _ _ _ hg47 w43_0 q39_2)) (fun mc47 ho47=>?_)
 refine VO.k11 0 1 3 4 5 6 8 22 32 39 59 (VC.condT rfl (VC.rs (VO.mv (VO.z (.nilp rfl) (VO.z (.fa rfl QaI rfl) ?_)))))
 obtain ⟨q48_E,q48_A2,q48_c2,q48_n1,q48_n2,_,q48_S,q48_1,q48_2⟩:=QQ (x0:=true) (x1:=(gr_,toR (Q7 (Qc R_) 2 ((QZ [] ((Qh d1).1)).1)).1 R_.2.2.2.2.2.1)) (x2:=l_) (x3:=br_) ho47
 dsimp only at q48_1
 have q48_r2:=q48_2.rm
 refine VO.inv _ (fun _ h=>h.parts (i:=147) rfl q48_S [151,149,150]) ?_
 refine VO.store (k:=1) (c':=[.bool true,.pointer (some ⟨gr_,0,none⟩),.slice q48_A2 (l_.length) (q48_c2),.bool true]) 151 rfl rfl (.inr ⟨tk4,rfl⟩) rfl rfl rfl rfl rfl ?_
 refine VO.clsP 152 [151,149,150] rfl (fun hg52=>(QY _ _ _ _ hg52 q48_1 q48_2)) (fun mc52 ho52=>?_)
 refine VO.p4 152 136 102 0 (VO.k11 0 1 3 4 5 6 8 22 32 39 59 (VC.rs (VO.as (VO.k11 0 1 3 4 5 6 8 22 32 39 59 (VC.ret (QS ?_))))))
 exact ZA 4 152 rfl ho52 (by first | rfl | exact Js) (by first | rfl | exact Js)
 refine VO.w (.mv rfl) (VO.w (.nilp rfl) (VO.w (.fa rfl QaI rfl) (VO.w (.ld1 142 rfl QjK rfl (Qa rfl rfl)) ?_)))
 refine VO.gcall 140 rfl ⟨_,rfl,rfl⟩ Qm8 rfl rfl (fun W hW=>Qiy W (hW.t 140) w43_0 Qd Zg) (fun v53 m53 hv53=>?_)
 obtain ⟨rfl,w53_0⟩:=hv53
 have hfa54:=(Qkl (show okR (toR (Q7 (Qc R_) 2 ((QZ [] ((Qh d1).1)).1)).1 R_.2.2.2.2.2.1) by assumption))
 have hfa55:=(Qkg (show okR (toR (Q7 (Qc R_) 2 ((QZ [] ((Qh d1).1)).1)).1 R_.2.2.2.2.2.1) by assumption))
 refine VO.w (.neq rfl rfl) (VO.z (.pF rfl rfl) ?_)
 refine VO.clsP 156 [142,140,141] rfl (fun hg56=>(QY _ _ _ _ hg56 w53_0 q39_2)) (fun mc56 ho56=>?_)
 refine VO.k11 0 1 3 4 5 6 8 22 32 39 59 ?_
 refine VC.cond rfl (fun hc57=>?_) (fun hc57=>?_)
 refine VC.rs (VO.mv (VO.z (.nilp rfl) (VO.z (.fa rfl QaI rfl) ?_)))
 obtain ⟨q58_E,q58_A2,q58_c2,q58_n1,q58_n2,_,q58_S,q58_1,q58_2⟩:=QQ (x0:=true) (x1:=(gr_,toR (Zx (Qc (toR (Q7 (Qc R_) 2 ((QZ [] ((Qh d1).1)).1)).1 R_.2.2.2.2.2.1))).1 (toR (Q7 (Qc R_) 2 ((QZ [] ((Qh d1).1)).1)).1 R_.2.2.2.2.2.1).2.2.2.2.2.1)) (x2:=l_) (x3:=br_) ho56
 dsimp only at q58_1
 have q58_r2:=q58_2.rm
 refine VO.inv _ (fun _ h=>h.parts (i:=156) rfl q58_S [161,159,160]) ?_
 refine VO.store (k:=1) (c':=[.bool true,.pointer (some ⟨gr_,0,none⟩),.slice q58_A2 (l_.length) (q58_c2),.bool true]) 161 rfl rfl (.inr ⟨tk4,rfl⟩) rfl rfl rfl rfl rfl ?_
 refine VO.clsP 162 [161,159,160] rfl (fun hg62=>(QY _ _ _ _ hg62 q58_1 q58_2)) (fun mc62 ho62=>?_)
 refine VO.p4 162 136 102 0 (VO.k11 0 1 3 4 5 6 8 22 32 39 59 (VC.rs (VO.as (VO.k11 0 1 3 4 5 6 8 22 32 39 59 (VC.ret (QS ?_))))))
 exact ZA 4 162 rfl ho62 (by first | rfl | exact Js) (by first | rfl | exact Js)
 refine VC.skip (Qj (VC.seq ?_))
 obtain ⟨q63_E,q63_A2,q63_c2,q63_n1,q63_n2,_,q63_S,q63_1,q63_2⟩:=QQ (x0:=true) (x1:=(gr_,toR (Zx (Qc (toR (Q7 (Qc R_) 2 ((QZ [] ((Qh d1).1)).1)).1 R_.2.2.2.2.2.1))).1 (toR (Q7 (Qc R_) 2 ((QZ [] ((Qh d1).1)).1)).1 R_.2.2.2.2.2.1).2.2.2.2.2.1)) (x2:=l_) (x3:=br_) ho56
 dsimp only at q63_1
 have q63_r2:=q63_2.rm
 refine VC.inv _ (fun _ h=>h.parts (i:=156) rfl q63_S [166,164,165]) ?_
 refine VC.regD _ 9 [(0,true),(1,true),(2,true),(3,true),(4,true),(5,true),(6,false),(7,false),(8,false)] follows (by kernel_rfl) (fun _ h=>h.sub [166,164,136,131,102,0]) ?_
 refine VD.z rfl (.mv rfl) (VD.z rfl (.mv rfl) (VD.z rfl (.nilp rfl) (VD.z rfl (.fa rfl QaI rfl) (VD.z rfl (.ld1 166 rfl Qhk rfl (Qa rfl rfl)) (VD.z rfl (.ldA 102 rfl Yx rfl (Qa rfl rfl)) ?_)))))
 refine VD.callN 167 rfl rfl (.inl rfl) Qm7 rfl (fun _ h=>h.sub [166,164,136,131,102,0]) (fun W hW=>Qie W (Rd.mono h1 (hW.t 0)) Zg) (fun v67 m67 hv67=>?_)
 obtain ⟨s67_0,rfl,f67_0⟩:=hv67
 obtain ⟨q67_0_A2,q67_0_c2,q67_0_n2,rfl,q67_0_S,q67_0_0,q67_0_1,q67_0_2⟩:=Y2 (x0:=d1.1) (x1:=d1.2.1) (x2:=d1.2.2) f67_0
 simp only [inK] at q67_0_0 q67_0_1
 have q67_0_r2:=q67_0_2.rm
 refine VD.inv _ (fun _ h=>h.parts (i:=167) rfl q67_0_S [168]) ?_
 refine VD.bsl (cs:=[.int .i64 (d1.1),.int .i64 (d1.2.1),.slice q67_0_A2 (d1.2.2.length) (q67_0_c2)]) 170 rfl rfl rfl Z3 X6 rfl rfl (fun _ h=>h.sub [166,164,136,131,102,0]) (fun g69=>?_)
 refine VD.appO (e:=ZL) 165 168 170 rfl rfl rfl rfl Z3 X6 rfl rfl rfl rfl q63_2 (show Ow ZL _ _ d1 from (ZC d1.1 d1.2.1 d1.2.2 (Qu.one (Qb _)) Y6 Y6 q67_0_2)) Tryz.underlying43 (Qa rfl rfl) (by simp only [maxLen];(exact Zg)) Zg (by decide) (fun _ _ h=>h.sub [166,164,136,131,102,0]) (fun v71 m71 ho71=>?_)
 obtain ⟨A71,c71,rfl,l71,k71⟩:=ho71.slc
 refine VD.nil rfl ?_ rfl
 refine VO.z (.nilp rfl) (VO.z (.fa rfl QaI rfl) ?_)
 refine VO.store (k:=1) (c':=[.bool true,.pointer (some ⟨gr_,0,none⟩),.slice A71 ((l_++[d1]).length) (c71),.bool br_]) 166 rfl rfl (.inr ⟨Qhk,rfl⟩) rfl rfl rfl rfl rfl ?_
 refine VO.clsP 172 [166,164,165] rfl (fun hg72=>(QY _ _ _ _ hg72 q63_1 ho71)) (fun mc72 ho72=>?_)
 refine VO.p4 172 136 102 0 (VO.k11 0 1 3 4 5 6 8 22 32 39 59 (Qj (VC.rs (VO.as (VO.k11 0 1 3 4 5 6 8 22 32 39 59 (VC.ret ?_))))))
 exact ZA 4 172 rfl ho72 (by first | rfl | exact Js) (by first | rfl | exact Js)
theorem Qna:JX Tryz.prog 59=true:=by kernel_rfl
theorem Qm9:JX Tryz.prog 61=true:=by kernel_rfl
theorem fnOk93:JX Tryz.prog 93=true:=by kernel_rfl
theorem tz99:tz Tryz.prog 99=some [.bool false,.pointer none,.slice none 0 0,.bool false]:=by kernel_rfl
theorem Qh7 (W:World) {m0:Mem} (hm:mle (m0) (wm W)) {g0:Nat} {d0:Qo} (h0:Ow (.ptr Qn) m0 [.pointer (some ⟨g0,0,none⟩)] (g0,d0)) (d1:Int) (h1:inK .i64 d1) (d2:Int) (h2:inK .i64 d2) (e0:okR d0) (e1:wD (Qc d0)+3000≤1000000000000) (e2:onD (Qc d0)) (e3:inF d1) (e4:0≤d2∧d2≤((JK d0.2.1 (d0.2.2.1.map QP) d1).length:Int)):Qg Tryz.prog 61 [.pointer (some ⟨g0,0,none⟩),.int .i64 d1,.int .i64 d2] W (m0) (fun v m'=>v= .int .i64 ((YC (Qc d0) d1 d2).2)∧Ow (.ptr Qn) m' [.pointer (some ⟨g0,0,none⟩)] (g0,toR (YC (Qc d0) d1 d2).1 d0.2.2.2.2.2.1)):=by
 have h1':=h1;simp only [inK] at h1'
 have h2':=h2;simp only [inK] at h2'
 refine Qg.ofB (n:=23) hm Tryz.func61 rfl rfl rfl ?_
 refine VC.rs (VO.as (VO.k4 0 1 2 6 (VC.seq (VC.rs (VO.mv (VO.mv ?_))))))
 refine VO.call 1 rfl QiU rfl rfl (fun W hW=>Qb8 W (hW.t 1) h0 d1 bdk Qd bd (by first | assumption | exact ⟨by omega,by omega⟩)) (fun v1 m1 hv1=>?_)
 obtain ⟨s1_0,p1_0,p1_1,rfl,hS1,f1_0,w1_0⟩:=hv1
 refine VO.inv _ (fun _ h=>h.parts (i:=1) rfl hS1 [102,103]) ?_
 have hfa4:=YW d0.2.1 (d0.2.2.1.map QP) d1
 obtain ⟨A1_0,c1_0,eq1_0,l1_0,k1_0⟩:=f1_0.slc
 subst eq1_0
 refine VO.z (.lenS rfl Q0) (VO.mv (VO.z (.eql rfl rfl) (VO.k5 0 1 2 6 12 ?_)))
 refine VC.cond rfl (fun hc5=>?_) (fun hc5=>?_)
 ·refine VC.rs (VO.as (VO.p2 103 0 (VO.k5 0 1 2 6 12 (VC.ret (QS ?_)))))
  exact ZA 6 103 rfl w1_0 (by first | rfl | (first | exact (YV Qd).1 | (rw [Qa6 Qd Qd];done) | exact Qbh e0 Qd Qd)) (by first | rfl | (first | exact congrArg (Value.int _) (YV Qd).2.symm | exact congrArg (Value.int _) (Qb5 Qd e2 e3 e4 Qd).symm | exact congrArg (Value.int _) (Qbi e0 Qd e2 e3 e4 Qd Qd).symm | exact congrArg (Value.int _) (Qdz e0 Qd Qd Qd).symm))
 refine VC.skip (Qj (VC.seq (VC.rs (VO.mv (VO.mv (VO.mv ?_))))))
 refine VO.call 103 rfl fnOk93 rfl rfl (fun W hW=>QnU W (hW.t 103) w1_0 d1 bdk d2 bdk Qd bd) (fun v6 m6 hv6=>?_)
 obtain ⟨rfl,w6_0⟩:=hv6
 have hfa7:=(ro_cut (f:=d1) (n:=d2) (show okR d0 by assumption))
 have hfa8:=(rw_cut (f:=d1) (n:=d2) (show okR d0 by assumption))
 refine VO.z (.neq rfl rfl) (VO.mv ?_)
 refine VO.dec (t:=18) rfl (fun hc9=>?_) (fun hc9=>?_)
 ·refine VO.gN (VO.gN (VO.gN (VO.z (.pT rfl rfl) (VO.p2 103 0 (VO.k6 0 1 2 6 12 22 (VC.condT rfl (VC.rs (VO.as (VO.k6 0 1 2 6 12 22 (VC.ret (QS ?_)))))))))))
  exact ZA 6 103 rfl w6_0 (by first | rfl | (first | exact (YV Qd).1 | (rw [Qa6 Qd Qd];done) | exact Qbh e0 Qd Qd)) (by first | rfl | (first | exact congrArg (Value.int _) (YV Qd).2.symm | exact congrArg (Value.int _) (Qb5 Qd e2 e3 e4 Qd).symm | exact congrArg (Value.int _) (Qbi e0 Qd e2 e3 e4 Qd Qd).symm | exact congrArg (Value.int _) (Qdz e0 Qd Qd Qd).symm))
 refine VO.w (.mv rfl) ?_
 refine VO.gcall 103 rfl ⟨_,rfl,rfl⟩ Qm8 rfl rfl (fun W hW=>Qiy W (hW.t 103) w6_0 Qd bd) (fun v10 m10 hv10=>?_)
 obtain ⟨rfl,w10_0⟩:=hv10
 have hfa11:=(Qkl (show okR (toR (Xe (Qc d0) d1 d2).1 d0.2.2.2.2.2.1) by assumption))
 have hfa12:=(Qkg (show okR (toR (Xe (Qc d0) d1 d2).1 d0.2.2.2.2.2.1) by assumption))
 refine VO.w (.neq rfl rfl) (VO.z (.pF rfl rfl) (VO.p2 103 0 (VO.k6 0 1 2 6 12 22 ?_)))
 refine VC.cond rfl (fun hc13=>?_) (fun hc13=>?_)
 ·refine VC.rs (VO.as (VO.k6 0 1 2 6 12 22 (VC.ret (QS ?_))))
  exact ZA 6 103 rfl w10_0 (by first | rfl | (first | exact (YV Qd).1 | (rw [Qa6 Qd Qd];done) | exact Qbh e0 Qd Qd)) (by first | rfl | (first | exact congrArg (Value.int _) (YV Qd).2.symm | exact congrArg (Value.int _) (Qb5 Qd e2 e3 e4 Qd).symm | exact congrArg (Value.int _) (Qbi e0 Qd e2 e3 e4 Qd Qd).symm | exact congrArg (Value.int _) (Qdz e0 Qd Qd Qd).symm))
 ·refine VC.skip (Qj (VC.rs (VO.as (VO.k6 0 1 2 6 12 22 (VC.ret ?_)))))
  exact ZA 6 103 rfl w10_0 (by first | rfl | (first | exact (YV Qd).1 | (rw [Qa6 Qd Qd];done) | exact Qbh e0 Qd Qd)) (by first | rfl | (first | exact congrArg (Value.int _) (YV Qd).2.symm | exact congrArg (Value.int _) (Qb5 Qd e2 e3 e4 Qd).symm | exact congrArg (Value.int _) (Qbi e0 Qd e2 e3 e4 Qd Qd).symm | exact congrArg (Value.int _) (Qdz e0 Qd Qd Qd).symm))
theorem Qgr (W:World) {m0:Mem} (hm:mle (m0) (wm W)) {g0:Nat} {d0:Qo} (h0:Ow (.ptr Qn) m0 [.pointer (some ⟨g0,0,none⟩)] (g0,d0)) (e0:okR d0) (e1:wD (Qc d0)+400000≤1000000000000) (e2:(JL (Qc d0)).2=0):Qg Tryz.prog 20 [.pointer (some ⟨g0,0,none⟩)] W (m0) (fun v m'=>∃ (s0:Nat),v= .tuple #[.pointer (some ⟨s0,0,none⟩),.int .i64 (0)]∧Ow (.ptr Jb) m' [.pointer (some ⟨s0,0,none⟩)] (s0,(true,(g0,toR (JL (Qc d0)).1 d0.2.2.2.2.2.1),(Yg (Je (Qc d0) 2).1).1,false))):=by
 have hhl:=QgE (f:=2) e0 (by decide);have hrf:=YP (JK d0.2.1 (d0.2.2.1.map QP) 2)
 refine Qg.ofB (n:=37) hm Tryz.func20 rfl rfl rfl ?_
 refine VC.rs (VO.as (VO.as (VO.k3 0 2 3 (VC.seq (VC.rs (VO.mv ?_))))))
 refine VO.z (.pnil rfl rfl Tryz.underlying29 rfl) ?_
 refine VO.mv (VO.w (.mv rfl) (VO.w (.nilp rfl) (VO.w (.fa rfl JJ rfl) ?_)))
 obtain ⟨q1_E,q1_A1,q1_c1,q1_A2,q1_c2,q1_A3,q1_c3,q1_A4,q1_c4,q1_A5,q1_c5,q1_n1,q1_n2,q1_n3,q1_n4,q1_n5,_,q1_S,q1_1,q1_2,q1_3,q1_4,q1_5,q1_8,q1_9⟩:=Ql h0
 have q1_r1:=q1_1.rm
 have q1_r2:=q1_2.rm
 have q1_r3:=q1_3.rm
 have q1_r4:=q1_4.rm
 have q1_r5:=q1_5.rm
 simp only [inK] at q1_8 q1_9
 refine VO.inv _ (fun _ h=>h.parts (i:=1) rfl q1_S [107,102,103,104,105,106]) ?_
 refine VO.w (.ld1 107 rfl tk4 rfl (Qa rfl rfl)) (VO.w (.not rfl) (VO.z (.pF rfl rfl) ?_))
 refine VO.clsP 108 [107,102,103,104,105,106] rfl (fun hg8=>(QB d0 hg8 q1_1 q1_2 q1_3 q1_4 q1_5 bdk bdk)) (fun mc8 ho8=>?_)
 refine VO.k4 0 2 3 15 ?_
 refine VC.condBN rfl (fun hc9=>?_) (fun hc9=>?_)
 rw [YO hc9] at e2;exact absurd e2 (by show ¬ (1:Int)=0;decide)
 refine VC.skip (Qj (VC.seq (VC.rs (VO.mv (VO.z (.nilp rfl) (VO.z (.fa rfl JJ rfl) ?_))))))
 obtain ⟨q10_E,q10_A1,q10_c1,q10_A2,q10_c2,q10_A3,q10_c3,q10_A4,q10_c4,q10_A5,q10_c5,q10_n1,q10_n2,q10_n3,q10_n4,q10_n5,_,q10_S,q10_1,q10_2,q10_3,q10_4,q10_5,q10_8,q10_9⟩:=Ql ho8
 have q10_r1:=q10_1.rm
 have q10_r2:=q10_2.rm
 have q10_r3:=q10_3.rm
 have q10_r4:=q10_4.rm
 have q10_r5:=q10_5.rm
 simp only [inK] at q10_8 q10_9
 refine VO.inv _ (fun _ h=>h.parts (i:=108) rfl q10_S [116,111,112,113,114,115]) ?_
 refine VO.z (.ld1 116 rfl tk4 rfl (Qa rfl rfl)) (VO.z (.not rfl) ?_)
 refine VO.clsP 117 [116,111,112,113,114,115] rfl (fun hg17=>(QB d0 hg17 q10_1 q10_2 q10_3 q10_4 q10_5 bdk bdk)) (fun mc17 ho17=>?_)
 refine VO.p2 117 0 (VO.k5 0 2 3 15 20 ?_)
 refine VC.condBN rfl (fun hc18=>?_) (fun hc18=>?_)
 rw [Xf Qd hc18] at e2;exact absurd e2 (by show ¬ (6:Int)=0;decide)
 refine VC.skip (Qj (VC.rs (VO.mv ?_)))
 refine VO.call 117 rfl QiU rfl rfl (fun W hW=>Qb8 W (hW.t 117) ho17 2 bdk Qd bd (by first | assumption | exact ⟨by omega,by omega⟩)) (fun v19 m19 hv19=>?_)
 obtain ⟨s19_0,p19_0,p19_1,rfl,hS19,f19_0,w19_0⟩:=hv19
 refine VO.inv _ (fun _ h=>h.parts (i:=117) rfl hS19 [120,121]) ?_
 have hfa22:=YW d0.2.1 (d0.2.2.1.map QP) 2
 obtain ⟨A19_0,c19_0,eq19_0,l19_0,k19_0⟩:=f19_0.slc
 subst eq19_0
 refine VO.callN 123 rfl Qna rfl (fun W hW=>Qid W (Ow.rd f19_0 (hW.t 120)) bd) (fun v23 m23 hv23=>?_)
 obtain ⟨s23_0,rfl,f23_0⟩:=hv23
 have hfa24:=YP (JK d0.2.1 (d0.2.2.1.map QP) 2)
 obtain ⟨A23_0,c23_0,eq23_0,l23_0,k23_0⟩:=f23_0.slc
 subst eq23_0
 refine VO.mv (VO.z (.ext rfl rfl) (VO.z (.ext rfl rfl) (VO.as (VO.as (VO.k7 0 2 3 4 5 15 20 (VC.rs (VO.mv (VO.mv ?_))))))))
 refine VO.call 121 rfl Qm9 rfl rfl (fun W hW=>Qh7 W (hW.t 121) w19_0 2 bdk ((Yg (JK d0.2.1 (d0.2.2.1.map QP) 2)).2) bdk Qd bd (by exact Qot Qd Qd) (by first | assumption | decide) bd) (fun v25 m25 hv25=>?_)
 obtain ⟨rfl,w25_0⟩:=hv25
 have hfa26:=(QjN (f:=2) (n:=((Yg (JK d0.2.1 (d0.2.2.1.map QP) 2)).2)) (show okR d0 by assumption))
 have hfa27:=(Qhs (f:=2) (n:=((Yg (JK d0.2.1 (d0.2.2.1.map QP) 2)).2)) (show okD (Qc d0) by assumption))
 have hfa28:=(Qej (d:=Qc d0) (f:=2) (n:=((Yg (JK d0.2.1 (d0.2.2.1.map QP) 2)).2)))
 refine VO.as (VO.k8 0 2 3 4 5 6 15 20 (VC.seq (VC.rs (VO.mv (VO.z (.neq rfl rfl) (VO.p3 121 123 0 (VO.k9 0 2 3 4 5 6 15 20 31 ?_)))))))
 refine VC.cond rfl (fun hc29=>?_) (fun hc29=>?_)
 rw [(Zo Qd Qd).1] at e2;exact absurd e2 hc29
 ·refine VC.skip (Qj (VC.rs (VO.mv (VO.mv ?_))))
  refine VO.z (.bst (cs:=[.bool true,.pointer (some ⟨g0,0,none⟩),.slice A23_0 (((Yg (JK d0.2.1 (d0.2.2.1.map QP) 2)).1).length) (c23_0),.bool false]) rfl QaI tz99 rfl) ?_
  refine VO.box (cs:=[.bool true,.pointer (some ⟨g0,0,none⟩),.slice A23_0 (((Yg (JK d0.2.1 (d0.2.2.1.map QP) 2)).1).length) (c23_0),.bool false]) 131 rfl rfl rfl (fun g30=>?_)
  refine VO.as (VO.as (VO.k9 0 2 3 4 5 6 15 20 31 (VC.ret ?_)))
  refine Qby 2 3 [131,121,123] fun hS_=>?_
  dsimp only [Qv]
  have he0:((true,(g0,toR (JL (Qc d0)).1 d0.2.2.2.2.2.1),(Yg (Je (Qc d0) 2).1).1,false):XS)=(true,(g0,toR (YC (Qc d0) 2 ((Yg (JK d0.2.1 (d0.2.2.1.map QP) 2)).2)).1 d0.2.2.2.2.2.1),(Yg (JK d0.2.1 (d0.2.2.1.map QP) 2)).1,false):=by first | rfl | (first | (rw [YO Qd,JF];done) | (rw [YO Qd];done) | (rw [Xf Qd Qd,JF];done) | (rw [Xf Qd Qd];done) | (rw [(Zo Qd Qd).1];done) | (rw [(Zo Qd Qd).2];done) | (rw [(Zo Qd Qd).1,(Zo Qd Qd).2];done))
  refine ⟨g30,?_,?_⟩
  rotate_left
  ·rw [he0];exact (QY _ _ _ _ hS_ w25_0 f23_0)
  all_goals (first | rfl | (first | (rw [YO Qd,JF];done) | (rw [YO Qd];done) | (rw [Xf Qd Qd,JF];done) | (rw [Xf Qd Qd];done) | (rw [(Zo Qd Qd).1];done) | (rw [(Zo Qd Qd).2];done) | (rw [(Zo Qd Qd).1,(Zo Qd Qd).2];done)))
theorem Yc {P:Prop} (h:P:=by first | (rw [YO (by assumption),JF];done) | (rw [YO (by assumption)];done) | (rw [Xf (by assumption) (by assumption),JF];done) | (rw [Xf (by assumption) (by assumption)];done) | (rw [(Zo (by assumption) (by assumption)).1];done) | (rw [(Zo (by assumption) (by assumption)).2];done) | (rw [(Zo (by assumption) (by assumption)).1,(Zo (by assumption) (by assumption)).2];done)):P:=h
theorem QjU (W:World) {m0:Mem} (hm:mle (m0) (wm W)) {g0:Nat} {d0:Qo} (h0:Ow (.ptr Qn) m0 [.pointer (some ⟨g0,0,none⟩)] (g0,d0)) (e0:okR d0) (e1:wD (Qc d0)+400000≤1000000000000) (e2:¬ (JL (Qc d0)).2=0):Qg Tryz.prog 20 [.pointer (some ⟨g0,0,none⟩)] W (m0) (fun v m'=>v= .tuple #[.pointer none,.int .i64 ((JL (Qc d0)).2)]∧Ow (.ptr Qn) m' [.pointer (some ⟨g0,0,none⟩)] (g0,toR (JL (Qc d0)).1 d0.2.2.2.2.2.1)):=by
 have hhl:=QgE (f:=2) e0 (by decide);have hrf:=YP (JK d0.2.1 (d0.2.2.1.map QP) 2)
 refine Qg.ofB (n:=37) hm Tryz.func20 rfl rfl rfl ?_
 refine VC.rs (VO.as (VO.as (VO.k3 0 2 3 (VC.seq (VC.rs (VO.mv ?_))))))
 refine VO.z (.pnil rfl rfl Tryz.underlying29 rfl) ?_
 refine VO.mv (VO.w (.mv rfl) (VO.w (.nilp rfl) (VO.w (.fa rfl JJ rfl) ?_)))
 obtain ⟨q1_E,q1_A1,q1_c1,q1_A2,q1_c2,q1_A3,q1_c3,q1_A4,q1_c4,q1_A5,q1_c5,q1_n1,q1_n2,q1_n3,q1_n4,q1_n5,_,q1_S,q1_1,q1_2,q1_3,q1_4,q1_5,q1_8,q1_9⟩:=Ql h0
 have q1_r1:=q1_1.rm
 have q1_r2:=q1_2.rm
 have q1_r3:=q1_3.rm
 have q1_r4:=q1_4.rm
 have q1_r5:=q1_5.rm
 simp only [inK] at q1_8 q1_9
 refine VO.inv _ (fun _ h=>h.parts (i:=1) rfl q1_S [107,102,103,104,105,106]) ?_
 refine VO.w (.ld1 107 rfl tk4 rfl (Qa rfl rfl)) (VO.w (.not rfl) (VO.z (.pF rfl rfl) ?_))
 refine VO.clsP 108 [107,102,103,104,105,106] rfl (fun hg8=>(QB d0 hg8 q1_1 q1_2 q1_3 q1_4 q1_5 bdk bdk)) (fun mc8 ho8=>?_)
 refine VO.k4 0 2 3 15 ?_
 refine VC.condBN rfl (fun hc9=>?_) (fun hc9=>?_)
 refine VC.rs (VO.as (VO.as (VO.p2 108 0 (VO.k4 0 2 3 15 (VC.ret (QS ?_))))))
 refine Qby 2 3 [108] fun hS_=>?_
 dsimp only [Qv]
 exact ⟨(by first | rfl | exact Yc),(Ow.cgP (Ow.up ho8 (hS_.1 _ (.head _))) (by first | rfl | exact Yc))⟩
 refine VC.skip (Qj (VC.seq (VC.rs (VO.mv (VO.z (.nilp rfl) (VO.z (.fa rfl JJ rfl) ?_))))))
 obtain ⟨q10_E,q10_A1,q10_c1,q10_A2,q10_c2,q10_A3,q10_c3,q10_A4,q10_c4,q10_A5,q10_c5,q10_n1,q10_n2,q10_n3,q10_n4,q10_n5,_,q10_S,q10_1,q10_2,q10_3,q10_4,q10_5,q10_8,q10_9⟩:=Ql ho8
 have q10_r1:=q10_1.rm
 have q10_r2:=q10_2.rm
 have q10_r3:=q10_3.rm
 have q10_r4:=q10_4.rm
 have q10_r5:=q10_5.rm
 simp only [inK] at q10_8 q10_9
 refine VO.inv _ (fun _ h=>h.parts (i:=108) rfl q10_S [116,111,112,113,114,115]) ?_
 refine VO.z (.ld1 116 rfl tk4 rfl (Qa rfl rfl)) (VO.z (.not rfl) ?_)
 refine VO.clsP 117 [116,111,112,113,114,115] rfl (fun hg17=>(QB d0 hg17 q10_1 q10_2 q10_3 q10_4 q10_5 bdk bdk)) (fun mc17 ho17=>?_)
 refine VO.p2 117 0 (VO.k5 0 2 3 15 20 ?_)
 refine VC.condBN rfl (fun hc18=>?_) (fun hc18=>?_)
 refine VC.rs (VO.as (VO.as (VO.k5 0 2 3 15 20 (VC.ret (QS ?_)))))
 refine Qby 2 3 [117] fun hS_=>?_
 dsimp only [Qv]
 exact ⟨(by first | rfl | exact Yc),(Ow.cgP (Ow.up ho17 (hS_.1 _ (.head _))) (by first | rfl | exact Yc))⟩
 refine VC.skip (Qj (VC.rs (VO.mv ?_)))
 refine VO.call 117 rfl QiU rfl rfl (fun W hW=>Qb8 W (hW.t 117) ho17 2 bdk Qd bd (by first | assumption | exact ⟨by omega,by omega⟩)) (fun v19 m19 hv19=>?_)
 obtain ⟨s19_0,p19_0,p19_1,rfl,hS19,f19_0,w19_0⟩:=hv19
 refine VO.inv _ (fun _ h=>h.parts (i:=117) rfl hS19 [120,121]) ?_
 have hfa22:=YW d0.2.1 (d0.2.2.1.map QP) 2
 obtain ⟨A19_0,c19_0,eq19_0,l19_0,k19_0⟩:=f19_0.slc
 subst eq19_0
 refine VO.callN 123 rfl Qna rfl (fun W hW=>Qid W (Ow.rd f19_0 (hW.t 120)) bd) (fun v23 m23 hv23=>?_)
 obtain ⟨s23_0,rfl,f23_0⟩:=hv23
 have hfa24:=YP (JK d0.2.1 (d0.2.2.1.map QP) 2)
 obtain ⟨A23_0,c23_0,eq23_0,l23_0,k23_0⟩:=f23_0.slc
 subst eq23_0
 refine VO.mv (VO.z (.ext rfl rfl) (VO.z (.ext rfl rfl) (VO.as (VO.as (VO.k7 0 2 3 4 5 15 20 (VC.rs (VO.mv (VO.mv ?_))))))))
 refine VO.call 121 rfl Qm9 rfl rfl (fun W hW=>Qh7 W (hW.t 121) w19_0 2 bdk ((Yg (JK d0.2.1 (d0.2.2.1.map QP) 2)).2) bdk Qd bd (by exact Qot Qd Qd) (by first | assumption | decide) bd) (fun v25 m25 hv25=>?_)
 obtain ⟨rfl,w25_0⟩:=hv25
 have hfa26:=(QjN (f:=2) (n:=((Yg (JK d0.2.1 (d0.2.2.1.map QP) 2)).2)) (show okR d0 by assumption))
 have hfa27:=(Qhs (f:=2) (n:=((Yg (JK d0.2.1 (d0.2.2.1.map QP) 2)).2)) (show okD (Qc d0) by assumption))
 have hfa28:=(Qej (d:=Qc d0) (f:=2) (n:=((Yg (JK d0.2.1 (d0.2.2.1.map QP) 2)).2)))
 refine VO.as (VO.k8 0 2 3 4 5 6 15 20 (VC.seq (VC.rs (VO.mv (VO.z (.neq rfl rfl) (VO.p3 121 123 0 (VO.k9 0 2 3 4 5 6 15 20 31 ?_)))))))
 refine VC.cond rfl (fun hc29=>?_) (fun hc29=>?_)
 refine VC.rs (VO.mv (VO.as (VO.as (VO.k9 0 2 3 4 5 6 15 20 31 (VC.ret (QS ?_))))))
 refine Qby 2 3 [121] fun hS_=>?_
 dsimp only [Qv]
 exact ⟨(by first | rfl | exact Yc),(Ow.cgP (Ow.up w25_0 (hS_.1 _ (.head _))) (by first | rfl | exact Yc))⟩
 rw [(Zo Qd Qd).1] at e2;exact (hc29 e2).elim
abbrev Zf : Ty := .pair .addr (.pair (.ptr ZI) (.pair .addr (.ptr Jb)))
abbrev QjJ := (Option Nat) × (Nat × Qaj) × (Option Nat) × (Nat × XS)
theorem Qed {m:Mem} {cs:List Value} {x0:Option Nat} {x1:Nat × Qaj} {x2:Option Nat} {x3:Nat × XS} (h:Ow Zf m cs (x0,x1,x2,x3)):∃ (n1:Mem),∃ (n3:Mem),cs=[(.pointer (x0.map fun g=>⟨g,0,none⟩):Value),.pointer (some ⟨x1.1,0,none⟩),.pointer (x2.map fun g=>⟨g,0,none⟩),.pointer (some ⟨x3.1,0,none⟩)]∧Qu m [n1,n3]∧Ow (.ptr ZI) n1 [.pointer (some ⟨x1.1,0,none⟩)] x1∧Ow (.ptr Jb) n3 [.pointer (some ⟨x3.1,0,none⟩)] x3:=by
 obtain ⟨p1,q1,ma1,mb1,rfl,dj1,la1,lb1,u1,w1⟩:=Ow.pair h
 obtain rfl:=(show _=_ from u1)
 obtain ⟨p3,q3,ma3,mb3,rfl,dj3,la3,lb3,u3,w3⟩:=Ow.pair w1
 have z4:=u3
 obtain ⟨rfl,_⟩:=u3
 obtain ⟨p5,q5,ma5,mb5,rfl,dj5,la5,lb5,u5,w5⟩:=Ow.pair w3
 obtain rfl:=(show _=_ from u5)
 have z7:=w5
 obtain ⟨rfl,_⟩:=w5
 exact ⟨_,_,rfl,(Qu.app dj1 la1 lb1 (Qu.nil _) (Qu.app dj3 la3 lb3 (Qu.one (Qb _)) (Qu.app dj5 la5 lb5 (Qu.nil _) (Qu.one (Qb _))))),z4,z7⟩
theorem Qf4 {m:Mem} {n1 n3:Mem} (x0:Option Nat) (x1:Nat × Qaj) (x2:Option Nat) (x3:Nat × XS) (hS:Qu m [n1,n3]) {v1:Value} (h1:Ow (.ptr ZI) n1 [v1] x1) {v3:Value} (h3:Ow (.ptr Jb) n3 [v3] x3):Ow Zf m [.pointer (x0.map fun g=>⟨g,0,none⟩),v1,.pointer (x2.map fun g=>⟨g,0,none⟩),v3] (x0,x1,x2,x3):=by
 obtain ⟨e1,la1,lb1,Sa1,Sb1⟩:=Qu.cut (l:=[]) (r:=[n1,n3]) hS
 obtain ⟨e2,la2,lb2,Sa2,Sb2⟩:=Qu.cut (l:=[n1]) (r:=[n3]) Sb1
 obtain ⟨e3,la3,lb3,Sa3,Sb3⟩:=Qu.cut (l:=[]) (r:=[n3]) Sb2
 exact (Ow.mkPair (c1:=[_]) e1 la1 lb1 (show Ow .addr _ [_] _ from rfl) (Ow.mkPair (c1:=[_]) e2 la2 lb2 (h1.up (Sa2.1 _ (.head _))) (Ow.mkPair (c1:=[_]) e3 la3 lb3 (show Ow .addr _ [_] _ from rfl) (h3.up (Sb3.1 _ (.head _))))))
theorem Jf {m:Mem} {cs:List Value} {g:Nat} {x0:Option Nat} {x1:Nat × Qaj} {x2:Option Nat} {x3:Nat × XS} (h:Ow (.ptr Zf) m cs (g,(x0,x1,x2,x3))):∃ (E:TypeId),∃ (n1:Mem),∃ (n3:Mem),cs=[.pointer (some ⟨g,0,none⟩)]∧Qu m [QE g (.cells [(.pointer (x0.map fun g=>⟨g,0,none⟩):Value),.pointer (some ⟨x1.1,0,none⟩),.pointer (x2.map fun g=>⟨g,0,none⟩),.pointer (some ⟨x3.1,0,none⟩)].toArray E (0,0)),n1,n3]∧Ow (.ptr ZI) n1 [.pointer (some ⟨x1.1,0,none⟩)] x1∧Ow (.ptr Jb) n3 [.pointer (some ⟨x3.1,0,none⟩)] x3:=by
 obtain ⟨rfl,rc,E,m1,hd,l0,l1,h1⟩:=Ow.opnP h
 obtain ⟨n1,n3,rfl,hS,f1,f3⟩:=Qed h1
 exact ⟨E,n1,n3,rfl,Qu.app hd l0 l1 (Qu.one (Qb _)) hS,f1,f3⟩
theorem Jo {m:Mem} {g:Nat} {E:TypeId} {n1 n3:Mem}{v1:Value}{v3:Value} (x0:Option Nat) (x1:Nat × Qaj) (x2:Option Nat) (x3:Nat × XS) (hS:Qu m [QE g (.cells [.pointer (x0.map fun g=>⟨g,0,none⟩),v1,.pointer (x2.map fun g=>⟨g,0,none⟩),v3].toArray E (0,0)),n1,n3]) (h1:Ow (.ptr ZI) n1 [v1] x1) (h3:Ow (.ptr Jb) n3 [v3] x3):Ow (.ptr Zf) m [.pointer (some ⟨g,0,none⟩)] (g,(x0,x1,x2,x3)):=
 Ow.clsP hS fun hS=>Qf4 x0 x1 x2 x3 hS h1 h3
abbrev X5 : Ty := .pair (.ptr Qy) (.pair .addr (.pair (.ptr Qn) .addr))
theorem Qds {m:Mem} {cs:List Value} {x0:Nat × QG} {x1:Option Nat} {x2:Nat × Qo} {x3:Option Nat} (h:Ow X5 m cs (x0,x1,x2,x3)):∃ (n0:Mem),∃ (n2:Mem),cs=[(.pointer (some ⟨x0.1,0,none⟩):Value),.pointer (x1.map fun g=>⟨g,0,none⟩),.pointer (some ⟨x2.1,0,none⟩),.pointer (x3.map fun g=>⟨g,0,none⟩)]∧Qu m [n0,n2]∧Ow (.ptr Qy) n0 [.pointer (some ⟨x0.1,0,none⟩)] x0∧Ow (.ptr Qn) n2 [.pointer (some ⟨x2.1,0,none⟩)] x2:=by
 obtain ⟨p1,q1,ma1,mb1,rfl,dj1,la1,lb1,u1,w1⟩:=Ow.pair h
 have z2:=u1
 obtain ⟨rfl,_⟩:=u1
 obtain ⟨p3,q3,ma3,mb3,rfl,dj3,la3,lb3,u3,w3⟩:=Ow.pair w1
 obtain rfl:=(show _=_ from u3)
 obtain ⟨p5,q5,ma5,mb5,rfl,dj5,la5,lb5,u5,w5⟩:=Ow.pair w3
 have z6:=u5
 obtain ⟨rfl,_⟩:=u5
 obtain rfl:=(show _=_ from w5)
 exact ⟨_,_,rfl,(Qu.app dj1 la1 lb1 (Qu.one (Qb _)) (Qu.app dj3 la3 lb3 (Qu.nil _) (Qu.app dj5 la5 lb5 (Qu.one (Qb _)) (Qu.nil _)))),z2,z6⟩
theorem QeE {m:Mem} {n0 n2:Mem} (x0:Nat × QG) (x1:Option Nat) (x2:Nat × Qo) (x3:Option Nat) (hS:Qu m [n0,n2]) {v0:Value} (h0:Ow (.ptr Qy) n0 [v0] x0) {v2:Value} (h2:Ow (.ptr Qn) n2 [v2] x2):Ow X5 m [v0,.pointer (x1.map fun g=>⟨g,0,none⟩),v2,.pointer (x3.map fun g=>⟨g,0,none⟩)] (x0,x1,x2,x3):=by
 obtain ⟨e1,la1,lb1,Sa1,Sb1⟩:=Qu.cut (l:=[n0]) (r:=[n2]) hS
 obtain ⟨e2,la2,lb2,Sa2,Sb2⟩:=Qu.cut (l:=[]) (r:=[n2]) Sb1
 obtain ⟨e3,la3,lb3,Sa3,Sb3⟩:=Qu.cut (l:=[n2]) (r:=[]) Sb2
 exact (Ow.mkPair (c1:=[_]) e1 la1 lb1 (h0.up (Sa1.1 _ (.head _))) (Ow.mkPair (c1:=[_]) e2 la2 lb2 (show Ow .addr _ [_] _ from rfl) (Ow.mkPair (c1:=[_]) e3 la3 lb3 (h2.up (Sa3.1 _ (.head _))) (show Ow .addr _ [_] _ from rfl))))
theorem Qdq {m:Mem} {cs:List Value} {g:Nat} {x0:Nat × QG} {x1:Option Nat} {x2:Nat × Qo} {x3:Option Nat} (h:Ow (.ptr X5) m cs (g,(x0,x1,x2,x3))):∃ (E:TypeId),∃ (n0:Mem),∃ (n2:Mem),cs=[.pointer (some ⟨g,0,none⟩)]∧Qu m [QE g (.cells [(.pointer (some ⟨x0.1,0,none⟩):Value),.pointer (x1.map fun g=>⟨g,0,none⟩),.pointer (some ⟨x2.1,0,none⟩),.pointer (x3.map fun g=>⟨g,0,none⟩)].toArray E (0,0)),n0,n2]∧Ow (.ptr Qy) n0 [.pointer (some ⟨x0.1,0,none⟩)] x0∧Ow (.ptr Qn) n2 [.pointer (some ⟨x2.1,0,none⟩)] x2:=by
 obtain ⟨rfl,rc,E,m1,hd,l0,l1,h1⟩:=Ow.opnP h
 obtain ⟨n0,n2,rfl,hS,f0,f2⟩:=Qds h1
 exact ⟨E,n0,n2,rfl,Qu.app hd l0 l1 (Qu.one (Qb _)) hS,f0,f2⟩
theorem QeC {m:Mem} {g:Nat} {E:TypeId} {n0 n2:Mem}{v0:Value}{v2:Value} (x0:Nat × QG) (x1:Option Nat) (x2:Nat × Qo) (x3:Option Nat) (hS:Qu m [QE g (.cells [v0,.pointer (x1.map fun g=>⟨g,0,none⟩),v2,.pointer (x3.map fun g=>⟨g,0,none⟩)].toArray E (0,0)),n0,n2]) (h0:Ow (.ptr Qy) n0 [v0] x0) (h2:Ow (.ptr Qn) n2 [v2] x2):Ow (.ptr X5) m [.pointer (some ⟨g,0,none⟩)] (g,(x0,x1,x2,x3)):=
 Ow.clsP hS fun hS=>QeE x0 x1 x2 x3 hS h0 h2
abbrev QaE : Ty := .pair (.int .i64) (.pair (.int .i64) (.pair (.int .i64) ZL))
abbrev QaF := Int × Int × Int × Zn
instance Qof : DecidableEq QaF := (@instDecidableEqProd _ _ inferInstance (@instDecidableEqProd _ _ inferInstance (@instDecidableEqProd _ _ inferInstance (@instDecidableEqProd _ _ inferInstance (@instDecidableEqProd _ _ inferInstance inferInstance)))))
theorem XI {m:Mem} {cs:List Value} {x0:Int} {x1:Int} {x2:Int} {x3:Int} {x4:Int} {x5:List DOp} (h:Rd QaE m cs (x0,x1,x2,x3,x4,x5)):∃ (A5:Option Addr),∃ (c5:Nat),cs=[(.int .i64 x0:Value),.int .i64 x1,.int .i64 x2,.int .i64 x3,.int .i64 x4,.slice A5 x5.length c5]∧inK .i64 x0∧inK .i64 x1∧inK .i64 x2∧inK .i64 x3∧inK .i64 x4∧Rd (.sl TOp) m [.slice A5 x5.length c5] x5:=by
 obtain ⟨p1,q1,rfl,u1,w1⟩:=Rd.pair h
 obtain ⟨rfl,z2⟩:=(show _=_∧_ from u1)
 obtain ⟨p3,q3,rfl,u3,w3⟩:=Rd.pair w1
 obtain ⟨rfl,z4⟩:=(show _=_∧_ from u3)
 obtain ⟨p5,q5,rfl,u5,w5⟩:=Rd.pair w3
 obtain ⟨rfl,z6⟩:=(show _=_∧_ from u5)
 obtain ⟨p7,q7,rfl,u7,w7⟩:=Rd.pair w5
 obtain ⟨rfl,z8⟩:=(show _=_∧_ from u7)
 obtain ⟨p9,q9,rfl,u9,w9⟩:=Rd.pair w7
 obtain ⟨rfl,z10⟩:=(show _=_∧_ from u9)
 have z11:=w9
 obtain ⟨A11,c11,rfl,_⟩:=Rd.slice1 w9
 exact ⟨A11,c11,rfl,z2,z4,z6,z8,z10,z11⟩
abbrev THR : Ty := .pair (.int .i64) (.pair (.int .i64) .hdr)
abbrev DHR := Int × Int × Hd
instance decHR : DecidableEq DHR := (@instDecidableEqProd _ _ inferInstance (@instDecidableEqProd _ _ inferInstance inferInstance))
theorem QnY {m:Mem} {cs:List Value} {x0:Int} {x1:Int} {x2:Hd} (h:Rd THR m cs (x0,x1,x2)):cs=[(.int .i64 x0:Value),.int .i64 x1,.slice x2.1 x2.2.1 x2.2.2]∧inK .i64 x0∧inK .i64 x1:=by
 obtain ⟨p1,q1,rfl,u1,w1⟩:=Rd.pair h
 obtain ⟨rfl,z2⟩:=(show _=_∧_ from u1)
 obtain ⟨p3,q3,rfl,u3,w3⟩:=Rd.pair w1
 obtain ⟨rfl,z4⟩:=(show _=_∧_ from u3)
 obtain rfl:=(show _=_ from w3)
 exact ⟨rfl,z2,z4⟩
section
def hdO (h : DH) : Hd := h.2.2
variable {mo : Mem} {hss l : List (List DH)} {d was : List (List Yn)} {p k : Nat} {x : List DH} {y : List Yn} {a : DH} {b : Yn}
end
abbrev Qos := QaF
def QeW (l : List Qos) : Prop := (∀ a ∈ l, a.2.2.2.2.2.length ≤ 40) ∧ l.length ≤ 40
instance (l : List Qos) : Decidable (QeW l) := by unfold QeW; infer_instance
theorem QlH {l:List Qos} {k:Nat} {x:Qos} (h:∀ a∈l.take k,a.2.2.2.2.2.length≤40) (hx:l[k]? =some x) (hc:x.2.2.2.2.2.length≤40):∀ a∈l.take (k+1),a.2.2.2.2.2.length≤40:=fun a ha=>by
 rw [Yq hx,List.mem_append,List.mem_singleton] at ha
 rcases ha with ha | rfl
 ·exact h a ha
 ·exact hc
theorem Qgx {l:List Qos} {k:Nat} {x:Qos} (hx:l[k]? =some x) (hc:¬ x.2.2.2.2.2.length≤40):¬ QeW l:=fun h=>hc (h.1 x (List.mem_of_getElem? hx))
theorem QeV {l:List Qos} {k:Nat} (h:∀ a∈l.take k,a.2.2.2.2.2.length≤40) (hk:l.length≤k):(l.length:Int)≤40↔QeW l:=by
 rw [List.take_of_length_le hk] at h
 exact ⟨fun q=>⟨h,by omega⟩,fun q=>by have:=q.2;omega⟩
structure PR (m : Nat) (D : QK) (br : Bool) (l : List Zn) (R : JN) (k : List Zn) (bx : Bool) : Prop where
  ok : okD D
  fr : Qc R = D
  made : D.1 = true
  kl : k = l
  bb : bx = br
  okl : okU l
  w : wD D ≤ m
section
variable {m : Nat} {D : QK} {br : Bool} {l : List Zn} {R : JN} {k : List Zn} {bx : Bool} {c : Zn} {n t to : Int}
theorem PR.okr (h:PR m D br l R k bx):okR R:=by unfold okR;rw [h.fr];exact h.ok
theorem PR.wr (h:PR m D br l R k bx):wD (Qc R)=wD D:=by rw [h.fr]
theorem PR.rm (h:PR m D br l R k bx):R.1=true:=by rw [← QkO R,h.fr];exact h.made
theorem PR.okk (h:PR m D br l R k bx):okU k:=by rw [h.kl];exact h.okl
theorem PR.up {m':Nat} (h:PR m D br l R k bx) (hm:m≤m'):PR m' D br l R k bx:=⟨h.ok,h.fr,h.made,h.kl,h.bb,h.okl,Nat.le_trans h.w hm⟩
theorem pr_new:PR 0 X7 false [] QdA [] false:=⟨QcY,Qaz,rfl,rfl,rfl,QhU,Nat.le_refl _⟩
section
variable (h : PR m D br l R k bx)
include h
theorem PR.flush:(QJ D br l c).2=(QJ (Qc R) bx k c).2∧PR (m+200000) (QJ D br l c).1.1 (QJ D br l c).1.2.1 (QJ D br l c).1.2.2 (toR (QJ (Qc R) bx k c).1.1 R.2.2.2.2.2.1) (QJ (Qc R) bx k c).1.2.2 (QJ (Qc R) bx k c).1.2.1:=by
 have hx:=(Qfw (br:=br) (l:=l) (x:=c) h.okr).2
 have hw:=Qc1 (br:=br) (l:=l) (x:=c) h.ok;have hm:=h.w
 rw [h.kl,h.bb,h.fr] at*
 exact ⟨rfl,Qck h.ok,hx,QcZ.trans h.made,rfl,rfl,QaA h.okl,by omega⟩
theorem PR.lent (x:Zn):(QJ D br l (x.1,x.2.1,(x.2.2++JQ).take x.2.2.length)).2=(QJ (Qc R) bx k x).2∧PR (m+200000) (QJ D br l (x.1,x.2.1,(x.2.2++JQ).take x.2.2.length)).1.1 (QJ D br l (x.1,x.2.1,(x.2.2++JQ).take x.2.2.length)).1.2.1 (QJ D br l (x.1,x.2.1,(x.2.2++JQ).take x.2.2.length)).1.2.2 (toR (QJ (Qc R) bx k x).1.1 R.2.2.2.2.2.1) (QJ (Qc R) bx k x).1.2.2 (QJ (Qc R) bx k x).1.2.1:=by
 have e:(x.1,x.2.1,(x.2.2++JQ).take x.2.2.length)=x:=by rw [List.take_left]
 rw [e];exact h.flush
theorem QnV:(Yv D).1.1=D.1:=by have _:=h;unfold Yv;split <;> rfl
theorem QnW:(Zm D n).1.1=D.1:=by have _:=h;unfold Zm;split;rfl;split <;> rfl
theorem PR.fuse:(Zm D n).2=(Zm (Qc R) n).2∧PR (m+200000) (Zm D n).1 br l (toR (Zm (Qc R) n).1 R.2.2.2.2.2.1) k bx:=by
 have hx:=ZU (x:=R.2.2.2.2.2.1) (Qen (n:=n) h.ok) (QhW (by rw [← h.fr];exact J1 R))
 have hw:=QkX D n;have hm:=h.w
 rw [h.fr] at*
 exact ⟨rfl,Qen h.ok,hx,(QnW h).trans h.made,h.kl,h.bb,h.okl,by omega⟩
theorem PR.pull:(Yv D).2=(Yv (Qc R)).2∧PR m (Yv D).1 br l (toR (Yv (Qc R)).1 R.2.2.2.2.2.1) k bx:=by
 have hx:=ZU (x:=R.2.2.2.2.2.1) (Qea h.ok) (QhV (by rw [← h.fr];exact J1 R))
 have hw:=Qkv D;have hm:=h.w
 rw [h.fr] at*
 exact ⟨rfl,Qea h.ok,hx,(QnV h).trans h.made,h.kl,h.bb,h.okl,by omega⟩
theorem Qmd:(Zr D n t).1.1=D.1:=by
 have _:=h
 unfold Zr;split
 ·rfl
 ·split <;> rfl
theorem PR.start:(Zr D n t).2=(Zr (Qc R) n t).2∧PR m (Zr D n t).1 br l (toR (Zr (Qc R) n t).1 R.2.2.2.2.2.1) k bx:=by
 have hx:=ZU (x:=R.2.2.2.2.2.1) (Qb0 (k:=n) (t:=t) h.ok) (Qf0 (by rw [← h.fr];exact J1 R))
 have hw:=Qhw D n t;have hm:=h.w
 rw [h.fr] at*
 exact ⟨rfl,Qb0 h.ok,hx,(Qmd h).trans h.made,h.kl,h.bb,h.okl,by omega⟩
theorem PR.openY:PR (m+3) (JL D).1 false (Yg (Je D 2).1).1 (toR (JL (Qc R)).1 R.2.2.2.2.2.1) (Yg (Je (Qc R) 2).1).1 false:=by
 have hx:=(QbS h.okr).2
 have hw:=QaG h.ok;have hm:=h.w
 rw [h.fr] at*
 exact ⟨QaH h.ok,hx,Qax.trans h.made,rfl,rfl,(Qa3 _).1,by omega⟩
theorem PR.openN:PR (m+3) (JL D).1 br l (toR (JL (Qc R)).1 R.2.2.2.2.2.1) k bx:=by
 have hx:=(QbS h.okr).2
 have hw:=QaG h.ok;have hm:=h.w
 rw [h.fr] at*
 exact ⟨QaH h.ok,hx,Qax.trans h.made,h.kl,h.bb,h.okl,by omega⟩
end
theorem Qjg (l:List Zn) (h:okU l):∀ x∈((l++l).map (·.2.2)),x.length≤3518437208800∧∀ o∈x,o.2.1.length≤140737488400000:=fun x hx=>by
 obtain ⟨r,hr,rfl⟩:=List.mem_map.1 hx
 have hr:r∈l:=by rcases List.mem_append.1 hr with q | q <;> exact q
 have h1:=JV (Qa9 h r hr)
 refine ⟨by omega,fun o ho=>?_⟩
 have h2:=(QfX (h1.2.2.2.2.1 o ho)).2.1
 omega
end
theorem Qk7:JX Tryz.prog 20=true:=by kernel_rfl
theorem QiW:JX Tryz.prog 21=true:=by kernel_rfl
theorem fnOk62:JX Tryz.prog 62=true:=by kernel_rfl
theorem QlZ:tk Tryz.prog 31=some none:=by kernel_rfl
theorem QlY:tk Tryz.prog 32=some none:=by kernel_rfl
theorem QjZ:tsl Tryz.prog 22=some (40,6,64):=by kernel_rfl
theorem Yh:tst Tryz.prog 34=some [(0,1),(1,1),(2,1),(3,1)]:=by kernel_rfl
theorem QbV:tst Tryz.prog 40=some [(0,1),(1,1),(2,1),(3,3)]:=by kernel_rfl
theorem QiX:JX Tryz.prog 15=true:=by kernel_rfl
theorem Qjl (W:World) {v0:Value} {d0:List QaF} (h0:Rd (.sl QaE) (wm W) [v0] d0):Qg Tryz.prog 5 [v0] W (Qr) (fun v m'=>v= .bool (decide (QeW d0))):=by
 obtain ⟨A0,c0,rfl,l0,k0⟩:=h0.slc
 refine Qg.ofA (n:=21) Tryz.func5 rfl rfl rfl ?_
 refine VC.rs (VO.as (VO.k2 0 2 (VC.seq (VC.rs (VO.as (VO.k3 0 2 3 (VC.block ?_)))))))
 refine VC.loop (G:=Nat) (fun k=>[(3,.int .i64 (((k:Nat):Int))),(0,.slice A0 (d0.length) (c0))]) (fun k=>[(0,wm W)]) (fun k=>(k≤d0.length)∧(∀ a∈d0.take k,a.2.2.2.2.2.length≤40)) (fun k=>d0.length - k) 0 (⟨by omega,by simp⟩) ⟨⟨rfl,rfl,trivial⟩,fun _ h=>h.sub [0]⟩ ?_
 rintro k ⟨hk,ha⟩
 refine VC.seq (VC.rs (VO.mv (VO.mv (VO.z (.lenS rfl QjZ) (VO.z (.lss rfl rfl) (VO.p1 0 (VO.k3 0 3 7 ?_)))))))
 refine VC.cond rfl (fun hc1=>?_) (fun hc1=>?_)
 refine VC.skip (Qj (VC.seq (VC.block (VC.rs (VO.mv (VO.mv ?_))))))
 obtain ⟨x2,hx2⟩:∃ z_,(d0)[k]? =some z_:=⟨_,List.getElem?_eq_getElem bd⟩
 obtain ⟨gg2,oo2,ec2,ea2,hce2,hre2⟩:=h0.elem hx2
 cases ea2
 obtain ⟨q2_A5,q2_c5,rfl,q2_0,q2_1,q2_2,q2_3,q2_4,q2_5⟩:=XI (x0:=x2.1) (x1:=x2.2.1) (x2:=x2.2.2.1) (x3:=x2.2.2.2.1) (x4:=x2.2.2.2.2.1) (x5:=x2.2.2.2.2.2) hre2
 simp only [inK] at q2_0 q2_1 q2_2 q2_3 q2_4
 have q2_r5:=Rd.room q2_5
 refine VO.z (.ixI k rfl rfl QjZ rfl bd) ?_
 refine VO.z (.fa rfl QbV rfl) (VO.z (.fa rfl Jl rfl) ?_)
 refine VO.z (.ld1 0 rfl YY rfl (hce2.at1 (j:=5) rfl)) ?_
 refine VO.z (.lenS rfl Ji) (VO.z (.gtr rfl rfl) (VO.k4 0 3 7 17 ?_))
 refine VC.cond rfl (fun hc3=>?_) (fun hc3=>?_)
 refine VC.rs (VO.as (VO.k5 0 2 3 7 17 (VC.ret (JD (QS (QS (JD (QS ?_))))))))
 exact Xz 2 rfl (by first | rfl | (first | exact congrArg Value.bool (decide_eq_false (Qgx ‹d0[k]? =some _› Qx)).symm | exact congrArg Value.bool (decide_eq_decide.2 (QeV ha Qx))))
 refine VC.skip (JE (Qj ?_))
 refine VC.reg ?_
 refine VO.mv ?_
 refine VO.z (.add (c:=((k+1:Nat):Int)) rfl rfl Qx ⟨bd,bd⟩) ?_
 refine VO.as (VO.k4 0 3 7 17 ?_)
 exact Qj ⟨k+1,⟨by omega,by exact QlH ha ‹d0[k]? =some _› Qx⟩,bd,⟨⟨rfl,rfl,trivial⟩,fun _ h=>Inv.sub h [0]⟩⟩
 refine VC.exit (Zc (Zc (Zd (Qj (VC.rs (VO.mv (VO.z (.lenS rfl QjZ) (VO.z (.leq rfl rfl) (VO.as (VO.k4 0 2 3 7 (VC.ret ?_)))))))))))
 exact Xz 2 rfl (by first | rfl | (first | exact congrArg Value.bool (decide_eq_false (Qgx ‹d0[k]? =some _› Qx)).symm | exact congrArg Value.bool (decide_eq_decide.2 (QeV ha Qx))))
theorem QkM (W:World) {v0:List Value} {d0:QaF} (h0:Rd QaE (wm W) v0 d0) (d1:Int) (h1:inK .i64 d1) (e0:0≤d1∧d1≤1048576) (e1:d0.2.2.2.2.2.length≤1000):Qg Tryz.prog 22 [.agg v0.toArray,.int .i64 d1] W (Qr) (fun v m'=>∃ (s0:List Value),v= .agg s0.toArray∧Ow ZL m' s0 ((d1+1,d1+1+QR d0.2.1 3,Qf d0.2.2.2.2.2))):=by
 obtain ⟨p0_A5,p0_c5,rfl,p0_0,p0_1,p0_2,p0_3,p0_4,p0_5⟩:=XI (x0:=d0.1) (x1:=d0.2.1) (x2:=d0.2.2.1) (x3:=d0.2.2.2.1) (x4:=d0.2.2.2.2.1) (x5:=d0.2.2.2.2.2) h0
 simp only [inK] at p0_0 p0_1 p0_2 p0_3 p0_4
 have p0_r5:=Rd.room p0_5
 have h1':=h1;simp only [inK] at h1'
 refine Qg.ofA (n:=18) Tryz.func22 rfl rfl rfl ?_
 refine VC.rs ?_
 refine VO.box (cs:=[.int .i64 (d0.1),.int .i64 (d0.2.1),.int .i64 (d0.2.2.1),.int .i64 (d0.2.2.2.1),.int .i64 (d0.2.2.2.2.1),.slice p0_A5 (d0.2.2.2.2.2.length) (p0_c5)]) 102 rfl rfl rfl (fun g1=>?_)
 refine VO.alloc 104 rfl X6 (fun g3=>?_)
 refine VO.k4 0 1 2 4 (VC.seq ?_)
 refine VC.regD _ 12 [(0,true),(1,true),(2,true),(3,true),(4,true),(5,true),(8,true),(9,true),(10,true),(6,false),(7,true),(11,false)] follows (by kernel_rfl) (fun _ h=>h.sub [104,102,0]) ?_
 refine VD.z rfl (.mv rfl) ?_
 refine VD.z rfl (.add rfl rfl rfl ⟨bd,bd⟩) ?_
 refine VD.z rfl (.mv rfl) ?_
 refine VD.z rfl (.add rfl rfl rfl ⟨bd,bd⟩) ?_
 refine VD.z rfl (.fa rfl QbV rfl) (VD.z rfl (.ld1 102 rfl tk3 rfl (Qa rfl rfl)) (VD.z rfl (.fa rfl QbV rfl) (VD.z rfl (.fa rfl Jl rfl) (VD.z rfl (.ld1 102 rfl YY rfl (Qa rfl rfl)) ?_))))
 refine VD.callN 105 rfl rfl (.inl rfl) QiW rfl (fun _ h=>h.sub [104,102,0]) (fun W hW=>QfT W d0.2.1 bdk 3 bdk bd) (fun v5 m5 hv5=>?_)
 subst hv5
 have hfa6:=Xw d0.2.1 3 Qx
 refine VD.z rfl (.add rfl rfl rfl ⟨bd,bd⟩) ?_
 refine VD.callN 107 rfl rfl (.inl rfl) fnOk62 rfl (fun _ h=>h.sub [104,102,0]) (fun W hW=>QhA W (Rd.mono p0_5 (hW.t 0)) bd) (fun v7 m7 hv7=>?_)
 obtain ⟨s7_0,rfl,f7_0⟩:=hv7
 have hfa8:=QdY d0.2.2.2.2.2
 obtain ⟨A7_0,c7_0,eq7_0,l7_0,k7_0⟩:=f7_0.slc
 subst eq7_0
 refine VD.nil rfl ?_ rfl
 refine VO.z (.bst (cs:=[.int .i64 (d1+1),.int .i64 ((d1+1)+(QR d0.2.1 3)),.slice A7_0 ((Qf d0.2.2.2.2.2).length) (c7_0)]) rfl Jl X6 rfl) ?_
 refine VO.store (k:=3) (c':=[.int .i64 (d1+1),.int .i64 ((d1+1)+(QR d0.2.1 3)),.slice A7_0 ((Qf d0.2.2.2.2.2).length) (c7_0)]) 104 rfl rfl (.inl Yx) rfl rfl rfl rfl rfl ?_
 refine VO.k4 0 1 2 4 (Qj (VC.ret ?_))
 refine ⟨_,_,Q8 (rs:=[.cell 4 38]) rfl (.agg 104 rfl Yx rfl ⟨_,_,_,Qq _ _,Nat.le_of_ble_eq_true rfl,rfl⟩ .nil),fun W_ hI=>JC (l:=[m7]) hI [107] rfl rfl (Qb _) (fun hS_=>?_)⟩
 dsimp only [Qv]
 have he0:((d1+1,d1+1+QR d0.2.1 3,Qf d0.2.2.2.2.2):Ty.Den ZL)=(d1+1,(d1+1)+(QR d0.2.1 3),Qf d0.2.2.2.2.2):=by first | rfl | (simp [*];done)
 refine ⟨[.int .i64 (d1+1),.int .i64 ((d1+1)+(QR d0.2.1 3)),.slice A7_0 ((Qf d0.2.2.2.2.2).length) (c7_0)],?_,?_⟩
 rotate_left
 ·rw [he0];exact (ZC _ _ _ hS_ bdk bdk f7_0)
 all_goals (first | rfl | (simp [*];done))
theorem QhQ (W:World) {gr_:Nat} {gd_:Nat} {m0:Mem} (hm:mle (m0) (wm W)) {g0:Nat} (h0:Ow (.ptr X5) m0 [.pointer (some ⟨g0,0,none⟩)] (g0,((gd_,(X7)),none,(gr_,(QdA)),none))):Qg Tryz.prog 8 [.pointer (some ⟨g0,0,none⟩)] W (m0) (fun v m'=>∃ (gw2:Nat),∃ (gx2:Nat),v= .bool true∧Ow (.ptr Zf) m' [.pointer (some ⟨g0,0,none⟩)] (g0,(some gd_,(gw2,((gd_,X7),false,[])),some gr_,(gx2,(true,(gr_,QdA),[],false))))):=by
 have hz1:=QcY;have hz2:okR QdA:=QcY;have hz3:wD X7=0:=rfl;have hz4:wD (Qc QdA)=0:=rfl
 refine Qg.ofB (n:=43) hm Tryz.func8 rfl rfl rfl ?_
 refine VC.rs (VO.as (VO.k2 0 2 (VC.rs (VO.mv (VO.z (.nilp rfl) (VO.z (.fa rfl Yh rfl) ?_))))))
 obtain ⟨q1_E,q1_n0,q1_n2,_,q1_S,q1_0,q1_2⟩:=Qdq (x0:=(gd_,(X7))) (x1:=none) (x2:=(gr_,(QdA))) (x3:=none) h0
 dsimp only at q1_0
 dsimp only at q1_2
 refine VO.inv _ (fun _ h=>h.parts (i:=1) rfl q1_S [104,102,103]) ?_
 refine VO.z (.ld1 104 rfl Qji rfl (Qa rfl rfl)) ?_
 by_cases hsp5:(JL (X7)).2=0
 refine VO.call 102 rfl QiX rfl rfl (fun W hW=>QdP W (hW.t 102) q1_0 Qd (by rw [hz3];decide) Qd) (fun v6 m6 hv6=>?_)
 obtain ⟨s6_0,rfl,f6_0⟩:=hv6
 have hfa7:=(QaH (show okD (X7) by assumption))
 have hfa8:=(QaG (show okD (X7) by assumption))
 have hfa9:=(Qa3 (Je (X7) 2).1).1
 refine VO.mv (VO.z (.ext rfl rfl) (VO.z (.ext rfl rfl) (VO.as (VO.as (VO.k4 0 2 3 4 (VC.rs (VO.mv (VO.z (.nilp rfl) (VO.z (.fa rfl Yh rfl) (VO.z (.ld1 104 rfl QjK rfl (Qa rfl rfl)) ?_))))))))))
 by_cases hsp10:(JL (Qc (QdA))).2=0
 refine VO.call 103 rfl Qk7 rfl rfl (fun W hW=>Qgr W (hW.t 103) q1_2 Qd (by rw [hz4];decide) Qd) (fun v11 m11 hv11=>?_)
 obtain ⟨s11_0,rfl,f11_0⟩:=hv11
 have hfa12:=(QbS (show okR (QdA) by assumption))
 have hfa13:=(QaG (show okD (Qc (QdA)) by assumption))
 have hfa14:=(Qax (d:=Qc (QdA)))
 have hfa15:=(Qa3 (Je (Qc (QdA)) 2).1).1
 refine VO.mv (VO.z (.ext rfl rfl) (VO.z (.ext rfl rfl) (VO.as (VO.as (VO.p4 103 102 104 0 (VO.k6 0 2 3 4 5 6 (VC.seq (VC.rs (VO.mv (VO.mv (VO.z (.neq rfl rfl) ?_)))))))))))
 refine VO.mv ?_
 refine VO.dec (t:=26) rfl (fun hc16=>?_) (fun hc16=>?_)
 ·first | exact absurd (by decide) hc16 | exact absurd rfl hc16 | exact hc16 (by (rw [Qaz,ru0];done)) | exact hc16 (by (rw [ru0];done))
 refine VO.w (.mv rfl) ?_
 refine VO.w (.pnil rfl rfl Tryz.underlying31 rfl) ?_
 refine VO.w (.mv rfl) ?_
 refine VO.w (.pnil rfl rfl Tryz.underlying32 rfl) ?_
 refine VO.w (.bneq rfl rfl Tryz.underlying4) ?_
 refine VO.z (.pF rfl rfl) (VO.k7 0 2 3 4 5 6 32 ?_)
 refine VC.cond rfl (fun hc17=>?_) (fun hc17=>?_)
 ·first | exact absurd (by decide) hc17 | exact absurd rfl hc17 | exact hc17 (by (rw [Qaz,ru0];done)) | exact hc17 (by (rw [ru0];done))
 ·refine VC.skip (Qj (VC.seq (VC.rs (VO.mv ?_))))
  refine VO.z (.pnilN rfl rfl Tryz.underlying32 rfl) ?_
  refine VO.k8 0 2 3 4 5 6 32 34 (VC.condT rfl ?_)
  refine VC.reg ?_
  refine VO.mv (VO.mv (VO.mv (VO.mv (VO.z (.nilp rfl) (VO.z (.fa rfl Yh rfl) ?_)))))
  refine VO.store (k:=1) (c':=[.pointer (some ⟨gd_,0,none⟩),.pointer (some ⟨s6_0,0,none⟩),.pointer (some ⟨gr_,0,none⟩),.pointer none]) 104 rfl rfl (.inr ⟨QlZ,rfl⟩) rfl rfl rfl rfl rfl ?_
  refine VO.z (.nilp rfl) (VO.z (.fa rfl Yh rfl) ?_)
  refine VO.store (k:=1) (c':=[.pointer (some ⟨gd_,0,none⟩),.pointer (some ⟨s6_0,0,none⟩),.pointer (some ⟨gr_,0,none⟩),.pointer (some ⟨s11_0,0,none⟩)]) 104 rfl rfl (.inr ⟨QlY,rfl⟩) rfl rfl rfl rfl rfl ?_
  refine VO.p4 103 102 104 0 (VO.k8 0 2 3 4 5 6 32 34 (Qj (VC.rs (VO.as (VO.k8 0 2 3 4 5 6 32 34 (VC.ret ?_))))))
  refine Yz 2 [104,102,103] fun hS_=>?_
  dsimp only [Qv]
  have hm0_:((some gd_,(s6_0,((gd_,X7),false,[])),some gr_,(s11_0,(true,(gr_,QdA),[],false))):QjJ)=((some gd_),(s6_0,((gd_,(JL (X7)).1),false,(Yg (Je (X7) 2).1).1)),(some gr_),(s11_0,(true,(gr_,toR (JL (Qc (QdA))).1 (QdA).2.2.2.2.2.1),(Yg (Je (Qc (QdA)) 2).1).1,false))):=by first | rfl | ((simp only [Qaz,ru0,Qb4];first | done | rfl))
  refine ⟨s6_0,s11_0,?_,?_⟩
  rotate_left
  ·rw [hm0_];exact (Jo _ _ _ _ hS_ f6_0 f11_0)
  all_goals (first | rfl | (simp [*];done))
 ·first | exact absurd (by decide) hsp10 | exact absurd rfl hsp10 | exact hsp10 (by (rw [Qaz,ru0];done)) | exact hsp10 (by (rw [ru0];done))
 ·first | exact absurd (by decide) hsp5 | exact absurd rfl hsp5 | exact hsp5 (by (rw [Qaz,ru0];done)) | exact hsp5 (by (rw [ru0];done))
set_option maxHeartbeats 1000000 in
theorem Qe5 (W:World) {m_:Nat} {bx_:Bool} {k_:List Zn} {R_:Qo} {gx_:Nat} {gr_:Nat} {l_:List Zn} {br_:Bool} {D_:QG} {gw_:Nat} {gd_:Nat} {m0:Mem} (hm:mle (m0) (wm W)) {g0:Nat} (h0:Ow (.ptr Zf) m0 [.pointer (some ⟨g0,0,none⟩)] (g0,((some gd_),(gw_,((gd_,D_),br_,l_)),(some gr_),(gx_,(true,(gr_,R_),k_,bx_))))) (e0:PR m_ D_ br_ l_ R_ k_ bx_) (e1:m_+400000≤1000000000000):Qg Tryz.prog 8 [.pointer (some ⟨g0,0,none⟩)] W (m0) (fun v m'=>∃ (gw2:Nat),∃ (gx2:Nat),∃ (D2:QK),∃ (br2:Bool),∃ (l2:List Zn),∃ (R2:JN),∃ (k2:List Zn),∃ (bx2:Bool),v= .bool true∧Ow (.ptr Zf) m' [.pointer (some ⟨g0,0,none⟩)] (g0,(some gd_,(gw2,((gd_,D2),br2,l2)),some gr_,(gx2,(true,(gr_,R2),k2,bx2))))∧PR (m_+3) D2 br2 l2 R2 k2 bx2):=by
 have hpo:=e0.ok;have hpr:=e0.okr;have hpm:=e0.rm;have hpw:=e0.w;have hpx:=e0.wr;have hpl:=e0.okl;have hpk:=e0.okk
 refine Qg.ofB (n:=43) hm Tryz.func8 rfl rfl rfl ?_
 refine VC.rs (VO.as (VO.k2 0 2 (VC.rs (VO.mv (VO.z (.nilp rfl) (VO.z (.fa rfl Yh rfl) ?_))))))
 obtain ⟨q1_E,q1_n1,q1_n3,_,q1_S,q1_1,q1_3⟩:=Jf (x0:=(some gd_)) (x1:=(gw_,((gd_,D_),br_,l_))) (x2:=(some gr_)) (x3:=(gx_,(true,(gr_,R_),k_,bx_))) h0
 dsimp only at q1_1
 dsimp only at q1_3
 refine VO.inv _ (fun _ h=>h.parts (i:=1) rfl q1_S [104,102,103]) ?_
 refine VO.z (.ld1 104 rfl Qji rfl (Qa rfl rfl)) ?_
 obtain ⟨q5_E,q5_A2,q5_c2,q5_n0,q5_n2,_,q5_S,q5_0,q5_2⟩:=Ja (x0:=(gd_,D_)) (x1:=br_) (x2:=l_) q1_1
 dsimp only at q5_0
 have q5_r2:=q5_2.rm
 refine VO.inv _ (fun _ h=>h.parts (i:=102) rfl q5_S [108,106,107]) ?_
 by_cases hsp9:(JL D_).2=0
 refine VO.call 106 rfl QiX rfl rfl (fun W hW=>QdP W (hW.t 106) q5_0 Qd bd Qd) (fun v10 m10 hv10=>?_)
 obtain ⟨s10_0,rfl,f10_0⟩:=hv10
 have hfa11:=(QaH (show okD D_ by assumption))
 have hfa12:=(QaG (show okD D_ by assumption))
 have hfa13:=(Qa3 (Je D_ 2).1).1
 refine VO.mv (VO.z (.ext rfl rfl) (VO.z (.ext rfl rfl) (VO.as (VO.as (VO.k4 0 2 3 4 (VC.rs (VO.mv (VO.z (.nilp rfl) (VO.z (.fa rfl Yh rfl) (VO.z (.ld1 104 rfl QjK rfl (Qa rfl rfl)) ?_))))))))))
 obtain ⟨q14_E,q14_A2,q14_c2,q14_n1,q14_n2,_,q14_S,q14_1,q14_2⟩:=QQ (x0:=true) (x1:=(gr_,R_)) (x2:=k_) (x3:=bx_) q1_3
 dsimp only at q14_1
 have q14_r2:=q14_2.rm
 refine VO.inv _ (fun _ h=>h.parts (i:=103) rfl q14_S [117,115,116]) ?_
 by_cases hsp18:(JL (Qc R_)).2=0
 refine VO.call 115 rfl Qk7 rfl rfl (fun W hW=>Qgr W (hW.t 115) q14_1 Qd bd Qd) (fun v19 m19 hv19=>?_)
 obtain ⟨s19_0,rfl,f19_0⟩:=hv19
 have hfa20:=(QbS (show okR R_ by assumption))
 have hfa21:=(QaG (show okD (Qc R_) by assumption))
 have hfa22:=(Qax (d:=Qc R_))
 have hfa23:=(Qa3 (Je (Qc R_) 2).1).1
 refine VO.mv (VO.z (.ext rfl rfl) (VO.z (.ext rfl rfl) (VO.as (VO.as (VO.p8 115 117 116 106 108 107 104 0 (VO.k6 0 2 3 4 5 6 (VC.seq (VC.rs (VO.mv (VO.mv (VO.z (.neq rfl rfl) ?_)))))))))))
 refine VO.mv ?_
 refine VO.dec (t:=26) rfl (fun hc24=>?_) (fun hc24=>?_)
 · first | exact absurd rfl hc24 | (refine absurd ?_ hc24;rw [e0.fr];assumption) | (refine absurd hc24 ?_;rw [e0.fr];assumption) | (refine absurd ?_ hc24;rw [e0.fr];done)
 refine VO.w (.mv rfl) ?_
 refine VO.w (.pnil rfl rfl Tryz.underlying31 rfl) ?_
 refine VO.w (.mv rfl) ?_
 refine VO.w (.pnil rfl rfl Tryz.underlying32 rfl) ?_
 refine VO.w (.bneq rfl rfl Tryz.underlying4) ?_
 refine VO.z (.pF rfl rfl) (VO.k7 0 2 3 4 5 6 32 ?_)
 refine VC.cond rfl (fun hc25=>?_) (fun hc25=>?_)
 · first | exact absurd rfl hc25 | (refine absurd ?_ hc25;rw [e0.fr];assumption) | (refine absurd hc25 ?_;rw [e0.fr];assumption) | (refine absurd ?_ hc25;rw [e0.fr];done)
 · refine VC.skip (Qj (VC.seq (VC.rs (VO.mv ?_))))
   refine VO.z (.pnilN rfl rfl Tryz.underlying32 rfl) ?_
   refine VO.k8 0 2 3 4 5 6 32 34 (VC.condT rfl ?_)
   refine VC.reg ?_
   refine VO.mv (VO.mv (VO.mv (VO.mv (VO.z (.nilp rfl) (VO.z (.fa rfl Yh rfl) ?_)))))
   refine VO.store (k:=1) (c':=[.pointer (some ⟨gd_,0,none⟩),.pointer (some ⟨s10_0,0,none⟩),.pointer (some ⟨gr_,0,none⟩),.pointer (some ⟨gx_,0,none⟩)]) 104 rfl rfl (.inr ⟨QlZ,rfl⟩) rfl rfl rfl rfl rfl ?_
   refine VO.z (.nilp rfl) (VO.z (.fa rfl Yh rfl) ?_)
   refine VO.store (k:=1) (c':=[.pointer (some ⟨gd_,0,none⟩),.pointer (some ⟨s10_0,0,none⟩),.pointer (some ⟨gr_,0,none⟩),.pointer (some ⟨s19_0,0,none⟩)]) 104 rfl rfl (.inr ⟨QlY,rfl⟩) rfl rfl rfl rfl rfl ?_
   refine VO.clsP 126 [104,106,115] rfl (fun hg26=>(Jo (some gd_) (s10_0,((gd_,(JL D_).1),false,(Yg (Je D_ 2).1).1)) (some gr_) (s19_0,(true,(gr_,toR (JL (Qc R_)).1 R_.2.2.2.2.2.1),(Yg (Je (Qc R_) 2).1).1,false)) hg26 f10_0 f19_0)) (fun mc26 ho26=>?_)
   refine VO.p2 126 0 (VO.k8 0 2 3 4 5 6 32 34 (Qj (VC.rs (VO.as (VO.k8 0 2 3 4 5 6 32 34 (VC.ret ?_))))))
   refine Yz 2 [126] fun hS_=>?_
   dsimp only [Qv]
   refine ⟨s10_0,s19_0,(JL D_).1,false,(Yg (Je D_ 2).1).1,toR (JL (Qc R_)).1 R_.2.2.2.2.2.1,(Yg (Je (Qc R_) 2).1).1,false,?_,?_,?_⟩
   rotate_left
   · exact Ow.cgP (Ow.up ho26 (hS_.1 _ (.head _)))
   · (first | exact e0.openY | exact e0.openN)
   all_goals (first | rfl | (simp [*];done))
 · first | exact absurd rfl hsp18 | (refine absurd ?_ hsp18;rw [e0.fr];assumption) | (refine absurd hsp18 ?_;rw [e0.fr];assumption) | (refine absurd ?_ hsp18;rw [e0.fr];done)
 refine VO.call 106 rfl QiX rfl rfl (fun W hW=>QjV W (hW.t 106) q5_0 Qd bd Qd) (fun v27 m27 hv27=>?_)
 obtain ⟨rfl,w27_0⟩:=hv27
 have hfa28:=(QaH (show okD D_ by assumption))
 have hfa29:=(QaG (show okD D_ by assumption))
 refine VO.mv (VO.z (.ext rfl rfl) (VO.z (.ext rfl rfl) (VO.as (VO.as ?_))))
 refine VO.clsP 130 [108,106,107] rfl (fun hg30=>(Jj (gd_,(JL D_).1) br_ l_ hg30 w27_0 q5_2)) (fun mc30 ho30=>?_)
 refine VO.clsP 131 [104,130,103] rfl (fun hg31=>(Jo (some gd_) (gw_,((gd_,(JL D_).1),br_,l_)) (some gr_) (gx_,(true,(gr_,R_),k_,bx_)) hg31 ho30 q1_3)) (fun mc31 ho31=>?_)
 refine VO.k4 0 2 3 4 (VC.rs (VO.mv (VO.z (.nilp rfl) (VO.z (.fa rfl Yh rfl) ?_))))
 obtain ⟨q32_E,q32_n1,q32_n3,_,q32_S,q32_1,q32_3⟩:=Jf (x0:=(some gd_)) (x1:=(gw_,((gd_,(JL D_).1),br_,l_))) (x2:=(some gr_)) (x3:=(gx_,(true,(gr_,R_),k_,bx_))) ho31
 dsimp only at q32_1
 dsimp only at q32_3
 refine VO.inv _ (fun _ h=>h.parts (i:=131) rfl q32_S [135,133,134]) ?_
 refine VO.z (.ld1 135 rfl QjK rfl (Qa rfl rfl)) ?_
 obtain ⟨q36_E,q36_A2,q36_c2,q36_n1,q36_n2,_,q36_S,q36_1,q36_2⟩:=QQ (x0:=true) (x1:=(gr_,R_)) (x2:=k_) (x3:=bx_) q32_3
 dsimp only at q36_1
 have q36_r2:=q36_2.rm
 refine VO.inv _ (fun _ h=>h.parts (i:=134) rfl q36_S [139,137,138]) ?_
 by_cases hsp40:(JL (Qc R_)).2=0
 · first | exact absurd rfl hsp40 | (refine absurd ?_ hsp40;rw [e0.fr];assumption) | (refine absurd hsp40 ?_;rw [e0.fr];assumption) | (refine absurd ?_ hsp40;rw [e0.fr];done)
 refine VO.call 137 rfl Qk7 rfl rfl (fun W hW=>QjU W (hW.t 137) q36_1 Qd bd Qd) (fun v41 m41 hv41=>?_)
 obtain ⟨rfl,w41_0⟩:=hv41
 have hfa42:=(QbS (show okR R_ by assumption))
 have hfa43:=(QaG (show okD (Qc R_) by assumption))
 have hfa44:=(Qax (d:=Qc R_))
 have hfa45:=(Qa3 (Je (Qc R_) 2).1).1
 refine VO.mv (VO.z (.ext rfl rfl) (VO.z (.ext rfl rfl) (VO.as (VO.as ?_))))
 refine VO.clsP 146 [139,137,138] rfl (fun hg46=>(QY true (gr_,toR (JL (Qc R_)).1 R_.2.2.2.2.2.1) k_ bx_ hg46 w41_0 q36_2)) (fun mc46 ho46=>?_)
 refine VO.clsP 147 [135,133,146] rfl (fun hg47=>(Jo (some gd_) (gw_,((gd_,(JL D_).1),br_,l_)) (some gr_) (gx_,(true,(gr_,toR (JL (Qc R_)).1 R_.2.2.2.2.2.1),k_,bx_)) hg47 q32_1 ho46)) (fun mc47 ho47=>?_)
 refine VO.p2 147 0 (VO.k6 0 2 3 4 5 6 (VC.seq (VC.rs (VO.mv (VO.mv (VO.z (.neq rfl rfl) (VO.mv ?_)))))))
 refine VO.dec (t:=26) rfl (fun hc48=>?_) (fun hc48=>?_)
 · first | exact absurd rfl hc48 | (refine absurd ?_ hc48;rw [e0.fr];assumption) | (refine absurd hc48 ?_;rw [e0.fr];assumption) | (refine absurd ?_ hc48;rw [e0.fr];done)
 refine VO.w (.mv rfl) ?_
 refine VO.w (.pnil rfl rfl Tryz.underlying31 rfl) ?_
 refine VO.w (.mv rfl) ?_
 refine VO.w (.pnil rfl rfl Tryz.underlying32 rfl) ?_
 refine VO.w (.bneq rfl rfl Tryz.underlying4) ?_
 refine VO.z (.pF rfl rfl) (VO.k7 0 2 3 4 5 6 32 ?_)
 refine VC.cond rfl (fun hc49=>?_) (fun hc49=>?_)
 · first | exact absurd rfl hc49 | (refine absurd ?_ hc49;rw [e0.fr];assumption) | (refine absurd hc49 ?_;rw [e0.fr];assumption) | (refine absurd ?_ hc49;rw [e0.fr];done)
 · refine VC.skip (Qj (VC.seq (VC.rs (VO.mv ?_))))
   refine VO.z (.pnilN rfl rfl Tryz.underlying32 rfl) ?_
   refine VO.k8 0 2 3 4 5 6 32 34 (VC.condF rfl (VC.skip (Qj (VC.rs (VO.as (VO.p2 147 0 (VO.k8 0 2 3 4 5 6 32 34 (VC.ret ?_))))))))
   refine Yz 2 [147] fun hS_=>?_
   dsimp only [Qv]
   refine ⟨gw_,gx_,(JL D_).1,br_,l_,toR (JL (Qc R_)).1 R_.2.2.2.2.2.1,k_,bx_,?_,?_,?_⟩
   rotate_left
   · exact Ow.cgP (Ow.up ho47 (hS_.1 _ (.head _)))
   · (first | exact e0.openY | exact e0.openN)
   all_goals (first | rfl | (simp [*];done))
theorem fnOk22:JX Tryz.prog 22=true:=by kernel_rfl
theorem Qnj:JX Tryz.prog 25=true:=by kernel_rfl
theorem Qni:JX Tryz.prog 26=true:=by kernel_rfl
theorem fnOk27:JX Tryz.prog 27=true:=by kernel_rfl
theorem fnOk28:JX Tryz.prog 28=true:=by kernel_rfl
theorem fnOk29:JX Tryz.prog 29=true:=by kernel_rfl
theorem fnOk30:JX Tryz.prog 30=true:=by kernel_rfl
theorem fnOk31:JX Tryz.prog 31=true:=by kernel_rfl
theorem fnOk32:JX Tryz.prog 32=true:=by kernel_rfl
theorem Qn3:JX Tryz.prog 8=true:=by kernel_rfl
theorem tk40:tk Tryz.prog 40=some (some 6):=by kernel_rfl
theorem Qk9:JX Tryz.prog 17=true:=by kernel_rfl
set_option maxHeartbeats 8000000 in
theorem Qmf (W:World) {m_:Nat} {bx_:Bool} {k_:List Zn} {R_:Qo} {gx_:Nat} {gr_:Nat} {l_:List Zn} {br_:Bool} {D_:QG} {gw_:Nat} {gd_:Nat} {m0:Mem} (hm:mle (m0) (wm W)) {g0:Nat} (h0:Ow (.ptr Zf) m0 [.pointer (some ⟨g0,0,none⟩)] (g0,((some gd_),(gw_,((gd_,D_),br_,l_)),(some gr_),(gx_,(true,(gr_,R_),k_,bx_))))) {v1:List Value} {d1:QaF} (h1:Rd QaE (JY (wm W) (m0)) v1 d1) (e0:PR m_ D_ br_ l_ R_ k_ bx_) (e1:m_+500000≤1000000000000) (e2:d1.2.2.2.2.2.length≤60):Qg Tryz.prog 9 [.pointer (some ⟨g0,0,none⟩),.agg v1.toArray] W (m0) (fun v m'=>∃ (gw2:Nat),∃ (gx2:Nat),∃ (D2:QK),∃ (br2:Bool),∃ (l2:List Zn),∃ (R2:JN),∃ (k2:List Zn),∃ (bx2:Bool),v= .bool true∧Ow (.ptr Zf) m' [.pointer (some ⟨g0,0,none⟩)] (g0,(some gd_,(gw2,((gd_,D2),br2,l2)),some gr_,(gx2,(true,(gr_,R2),k2,bx2))))∧PR (m_+200000) D2 br2 l2 R2 k2 bx2):=by
 have hpo:=e0.ok;have hpr:=e0.okr;have hpm:=e0.rm;have hpw:=e0.w;have hpx:=e0.wr;have hpl:=e0.okl;have hpk:=e0.okk;have hul:=Y3 hpk
 obtain ⟨p1_A5,p1_c5,rfl,p1_0,p1_1,p1_2,p1_3,p1_4,p1_5⟩:=XI (x0:=d1.1) (x1:=d1.2.1) (x2:=d1.2.2.1) (x3:=d1.2.2.2.1) (x4:=d1.2.2.2.2.1) (x5:=d1.2.2.2.2.2) h1
 simp only [inK] at p1_0 p1_1 p1_2 p1_3 p1_4
 have p1_r5:=Rd.room p1_5
 refine Qg.ofB (n:=129) hm Tryz.func9 rfl rfl rfl ?_
 refine VC.rs ?_
 refine VO.box (cs:=[.int .i64 (d1.1),.int .i64 (d1.2.1),.int .i64 (d1.2.2.1),.int .i64 (d1.2.2.2.1),.int .i64 (d1.2.2.2.2.1),.slice p1_A5 (d1.2.2.2.2.2.length) (p1_c5)]) 102 rfl rfl rfl (fun g1=>?_)
 refine VO.as (VO.k4 0 1 3 4 (VC.seq (VC.rs (VO.z (.fa rfl QbV rfl) (VO.z (.ld1 102 rfl tk3 rfl (Qa rfl rfl)) ?_)))))
 refine VO.callN 103 rfl QiW rfl (fun W hW=>QfT W d1.1 bdk 5 bdk bd) (fun v3 m3 hv3=>?_)
 subst hv3
 have hfa4:=Xw d1.1 5 Qx
 refine VO.k5 0 1 3 4 12 (VC.block (VC.seq (VC.rs (VO.z (.eql rfl rfl) (VO.as (VO.p3 102 0 1 (VO.k6 0 1 3 4 12 13 ?_)))))))
 refine VC.cond rfl (fun hc5=>?_) (fun hc5=>?_)
 refine VC.skip (Qj ?_)
 refine VC.condKT rfl (decide_eq_true hc5) ?_
 refine VC.rs (VO.z (.fa rfl QbV rfl) (VO.z (.ldA 102 rfl Yx rfl (Qa rfl rfl)) ?_))
 refine VO.alloc 107 rfl X6 (fun g6=>?_)
 refine VO.store (k:=3) (c':=[.int .i64 (d1.2.2.2.1),.int .i64 (d1.2.2.2.2.1),.slice p1_A5 (d1.2.2.2.2.2.length) (p1_c5)]) 107 rfl rfl (.inl Yx) rfl rfl rfl rfl rfl ?_
 refine VO.k7 0 1 3 4 5 12 13 (VC.seq (VC.rs (VO.z (.fa rfl QbV rfl) (VO.z (.ld1 102 rfl tk3 rfl (Qa rfl rfl)) ?_))))
 refine VO.callN 108 rfl QiW rfl (fun W hW=>QfT W d1.1 bdk 5 bdk bd) (fun v8 m8 hv8=>?_)
 subst hv8
 have hfa9:=Xw d1.1 5 Qx
 refine VO.z (.eql rfl rfl) (VO.k8 0 1 3 4 5 12 13 21 ?_)
 refine VC.cond rfl (fun hc10=>?_) (fun hc10=>?_)
 first | exact absurd e0.flush.1 hc10 | exact absurd e0.pull.1 hc10 | exact absurd e0.pull.2.start.1 hc10 | exact absurd rfl hc10 | (exfalso;omega)
 refine VC.skip (Qj (VC.rs (VO.z (.fa rfl Jl rfl) (VO.z (.ld1 107 rfl YY rfl (Qa rfl rfl)) ?_))))
 refine VO.callN 111 rfl Qk5 rfl (fun W hW=>Qc5 W (Rd.mono p1_5 (hW.t 0)) bd) (fun v11 m11 hv11=>?_)
 obtain ⟨s11_0,rfl,f11_0⟩:=hv11
 obtain ⟨A11_0,c11_0,eq11_0,l11_0,k11_0⟩:=f11_0.slc
 subst eq11_0
 refine VO.as (VO.p5 111 107 102 0 1 (VO.k9 0 1 3 4 5 6 12 13 21 (VC.seq ?_)))
 obtain ⟨q12_E,q12_n1,q12_n3,_,q12_S,q12_1,q12_3⟩:=Jf (x0:=(some gd_)) (x1:=(gw_,((gd_,D_),br_,l_))) (x2:=(some gr_)) (x3:=(gx_,(true,(gr_,R_),k_,bx_))) h0
 dsimp only at q12_1
 dsimp only at q12_3
 refine VC.inv _ (fun _ h=>h.parts (i:=1) rfl q12_S [115,113,114]) ?_
 refine VC.regD _ 14 [(0,true),(1,true),(2,true),(3,true),(4,true),(5,true),(6,true),(7,true),(8,true),(9,true),(10,true),(11,true),(12,true),(13,true)] follows (by kernel_rfl) (fun _ h=>h.sub [115,113,114,111,107,102,0]) ?_
 refine VD.z rfl (.mv rfl) (VD.z rfl (.nilp rfl) (VD.z rfl (.fa rfl Yh rfl) (VD.z rfl (.ld1 115 rfl QlZ rfl (Qa rfl rfl)) (VD.z rfl (.fa rfl Jl rfl) (VD.z rfl (.ld1 107 rfl tk3 rfl (Qa rfl rfl)) (VD.z rfl (.fa rfl Jl rfl) (VD.z rfl (.ld1 107 rfl tk3 rfl (Qa rfl rfl)) (VD.z rfl (.mv rfl) (VD.z rfl (.fa rfl Jl rfl) (VD.z rfl (.ld1 107 rfl YY rfl (Qa rfl rfl)) (VD.z rfl (.lenS rfl Ji) ?_)))))))))))
 have hs16:=(Ow.rd f11_0 (Qb _)).pre (j:=d1.2.2.2.2.2.length) bd
 rw [List.take_left] at hs16
 refine VD.z rfl (.slHI d1.2.2.2.2.2.length rfl rfl Ji rfl bd) ?_
 refine VD.z rfl (.bst (cs:=[.int .i64 (d1.2.2.2.1),.int .i64 (d1.2.2.2.2.1),.slice A11_0 (d1.2.2.2.2.2.length) (c11_0)]) rfl Jl X6 rfl) ?_
 refine VD.nil rfl ?_ rfl
 refine VO.call 113 rfl Qk9 rfl rfl (fun W hW=>QdQ W (hW.t 113) q12_1 (show Rd ZL _ _ d1.2.2.2 from (Qce (m:=JY (wm W) (q12_n1)) d1.2.2.2.1 d1.2.2.2.2.1 d1.2.2.2.2.2 bdk bdk (Qz.rd (by have h_:=((Ow.ownl f11_0 rfl Qr).pre (j:=d1.2.2.2.2.2.length) bd);rw [List.take_left] at h_;exact h_) (hW.o 113 111) (Jr _)))) Qd bd Qd) (fun v17 m17 hv17=>?_)
 try dsimp only at hv17
 obtain ⟨rfl,w17_0⟩:=hv17
 have hfa18:=(Qck (br:=br_) (l:=l_) (x:=d1.2.2.2) (show okD D_ by assumption))
 have hfa19:=(Qc1 (br:=br_) (l:=l_) (x:=d1.2.2.2) (show okD D_ by assumption))
 have hfa20:=(QaA (d:=D_) (br:=br_) (x:=d1.2.2.2) (show okU l_ by assumption))
 refine VO.as ?_
 refine VO.clsP 121 [115,113,114] rfl (fun hg21=>(Jo _ _ _ _ hg21 w17_0 q12_3)) (fun mc21 ho21=>?_)
 refine VO.k10 0 1 3 4 5 6 7 12 13 21 (Qj (VC.rs (VO.mv (VO.z (.fa rfl Jl rfl) (VO.z (.ld1 107 rfl YY rfl (Qa rfl rfl)) ?_)))))
 refine VO.callN 122 rfl Qnj rfl (fun W hW=>Qfs W (Ow.rd f11_0 (hW.t 111)) (Rd.mono p1_5 (hW.t 0)) bd) (fun v22 m22 hv22=>?_)
 subst hv22
 refine VO.as (VO.k11 0 1 3 4 5 6 7 8 12 13 21 (VC.seq (VC.rs (VO.as (VO.p5 121 111 107 102 0 (VO.k12 0 1 3 4 5 6 7 8 9 12 13 21 (VC.block ?_)))))))
 refine VC.loop (G:=Nat × (List DOp) × Mem) (fun g=>[(6,.slice A11_0 ((d1.2.2.2.2.2++JQ).length) (c11_0)),(9,.int .i64 ((((g.1):Nat):Int))),(0,.pointer (some ⟨g0,0,none⟩)),(1,.agg [.int .i64 (d1.1),.int .i64 (d1.2.1),.int .i64 (d1.2.2.1),.int .i64 (d1.2.2.2.1),.int .i64 (d1.2.2.2.2.1),.slice p1_A5 (d1.2.2.2.2.2.length) (p1_c5)].toArray),(3,.pointer (some ⟨g1,0,none⟩)),(4,.bool false),(5,.pointer (some ⟨g6,0,none⟩)),(7,.int .i64 ((QJ D_ br_ l_ d1.2.2.2).2)),(8,.bool (decide ((d1.2.2.2.2.2++JQ)=d1.2.2.2.2.2++JQ))),(12,.int .i64 (QR d1.1 5)),(13,.bool (decide ((QR d1.1 5)=0))),(21,.bool (decide ((QR d1.1 5)=1)))]) (fun g=>[(121,mc21),(111,(g.2.2)),(107,QE g6 (.cells #[.int .i64 (d1.2.2.2.1),.int .i64 (d1.2.2.2.2.1),.slice p1_A5 (d1.2.2.2.2.2.length) (p1_c5)] 38 (0,0))),(102,QE g1 (.cells #[.int .i64 (d1.1),.int .i64 (d1.2.1),.int .i64 (d1.2.2.1),.int .i64 (d1.2.2.2.1),.int .i64 (d1.2.2.2.2.1),.slice p1_A5 (d1.2.2.2.2.2.length) (p1_c5)] 40 (0,0))),(0,JY (wm W) (m0))]) (fun g=>((g.1)≤(g.2.1).length)∧(Qz TOp (g.2.2) Qr (.slice A11_0 ((d1.2.2.2.2.2++JQ).length) (c11_0)) (g.2.1))) (fun g=>(g.2.1).length - (g.1)) (0,d1.2.2.2.2.2++JQ,m11) (⟨by (dsimp only;omega),(Ow.ownl f11_0 rfl Qr)⟩) ⟨esn,fun _ h=>h.sub [121,111,107,102,0]⟩ ?_
 rintro ⟨i,ops,ops_m⟩ ⟨hi,h_ops⟩
 replace hi:i≤ops.length:=hi
 replace h_ops:Qz TOp ops_m Qr (.slice A11_0 ((d1.2.2.2.2.2++JQ).length) (c11_0)) ops:=h_ops
 show VC _ _ _ _ _ [(6,.slice A11_0 ((d1.2.2.2.2.2++JQ).length) (c11_0)),(9,.int .i64 (((i:Nat):Int))),(0,.pointer (some ⟨g0,0,none⟩)),(1,.agg [.int .i64 (d1.1),.int .i64 (d1.2.1),.int .i64 (d1.2.2.1),.int .i64 (d1.2.2.2.1),.int .i64 (d1.2.2.2.2.1),.slice p1_A5 (d1.2.2.2.2.2.length) (p1_c5)].toArray),(3,.pointer (some ⟨g1,0,none⟩)),(4,.bool false),(5,.pointer (some ⟨g6,0,none⟩)),(7,.int .i64 ((QJ D_ br_ l_ d1.2.2.2).2)),(8,.bool (decide ((d1.2.2.2.2.2++JQ)=d1.2.2.2.2.2++JQ))),(12,.int .i64 (QR d1.1 5)),(13,.bool (decide ((QR d1.1 5)=0))),(21,.bool (decide ((QR d1.1 5)=1)))] [(121,mc21),(111,ops_m),(107,QE g6 (.cells #[.int .i64 (d1.2.2.2.1),.int .i64 (d1.2.2.2.2.1),.slice p1_A5 (d1.2.2.2.2.2.length) (p1_c5)] 38 (0,0))),(102,QE g1 (.cells #[.int .i64 (d1.1),.int .i64 (d1.2.1),.int .i64 (d1.2.2.1),.int .i64 (d1.2.2.2.1),.int .i64 (d1.2.2.2.2.1),.slice p1_A5 (d1.2.2.2.2.2.length) (p1_c5)] 40 (0,0))),(0,JY (wm W) (m0))]
 have ll_ops:=ZM (Qz.ow h_ops rfl)
 refine VC.seq (VC.rs (VO.mv (VO.mv (VO.z (.lenS rfl Ji) (VO.z (.lss rfl rfl) (VO.nil ?_))))))
 refine VC.cond rfl (fun hc23=>?_) (fun hc23=>?_)
 · refine VC.skip (Qj (VC.seq (VC.block ?_)))
   refine VC.reg ?_
   refine VO.mv (VO.mv ?_)
   refine VO.z (.bst (cs:=[.bool false,str ([111,118,101,114]),str ([])]) rfl JM XB rfl) ?_
   obtain ⟨x24,hx24⟩:∃ z_,(ops)[i]? =some z_:=⟨_,List.getElem?_eq_getElem bd⟩
   obtain ⟨gg24,oo24,ec24,ea24,hce24,hre24⟩:=h_ops.elem hx24
   cases ea24
   obtain ⟨rfl,q24_1,q24_2⟩:=JA (x0:=x24.1) (x1:=x24.2.1) (x2:=x24.2.2) hre24
   simp only [maxLen] at q24_1
   simp only [maxLen] at q24_2
   refine VO.z (.ixI i rfl rfl Ji rfl bd) ?_
   refine VO.upd (e:=TOp) (k:=3) (i:=i) (x':=(false,[111,118,101,114],[])) 111 0 rfl rfl (.inl YS) rfl rfl rfl (Qz.ow h_ops rfl) rfl hx24 rfl (fun mi ec he=>by obtain ⟨rfl,z1,z2⟩:=JA (x0:=x24.1) (x1:=x24.2.1) (x2:=x24.2.2) (he.rd (Qb _));exact Ow.of (m:=Qr) rfl (Xl false ([111,118,101,114]) [] bdm bdm)) (fun mu25 hu25=>?_)
   have hl25:=ZM hu25
   refine VO.nil (JE (Qj ?_))
   refine VC.reg ?_
   refine VO.mv ?_
   refine VO.z (.add (c:=((i+1:Nat):Int)) rfl rfl Qx ⟨bd,bd⟩) ?_
   refine VO.as (VO.p5 121 111 107 102 0 (VO.nil ?_))
   exact Qj ⟨⟨i+1,(ops).set i (false,[111,118,101,114],[]),mu25⟩,⟨by (simp only [List.length_set];omega),(Ow.ownl hu25 rfl Qr)⟩,by (simp only [List.length_set];omega),⟨esn,fun _ h=>Inv.sub h [121,111,107,102,0]⟩⟩
 refine VC.exit (Zc (Zc (Zd (Qj (VC.seq ?_)))))
 obtain ⟨q26_E,q26_n1,q26_n3,_,q26_S,q26_1,q26_3⟩:=Jf (x0:=(some gd_)) (x1:=(gw_,((gd_,(QJ D_ br_ l_ d1.2.2.2).1.1),(QJ D_ br_ l_ d1.2.2.2).1.2))) (x2:=(some gr_)) (x3:=(gx_,(true,(gr_,R_),k_,bx_))) ho21
 dsimp only at q26_1
 dsimp only at q26_3
 refine VC.inv _ (fun _ h=>h.parts (i:=121) rfl q26_S [129,127,128]) ?_
 refine VC.regD _ 9 [(0,true),(1,true),(2,true),(3,true),(4,true),(5,true),(6,true),(7,true),(8,false)] follows (by kernel_rfl) (fun _ h=>h.sub [129,127,111,107,102,0]) ?_
 refine VD.z rfl (.mv rfl) (VD.z rfl (.mv rfl) ?_)
 refine VD.dec (s:=62) rfl (fun hc30=>?_) (fun hc30=>?_)
 · refine VD.w rfl (.mv rfl) (VD.w rfl (.mv rfl) (VD.w rfl (.nilp rfl) (VD.w rfl (.fa rfl Yh rfl) (VD.w rfl (.ld1 129 rfl QlY rfl (Qa rfl rfl)) (VD.w rfl (.ldA 107 rfl Yx rfl (Qa rfl rfl)) ?_)))))
   refine VD.call 128 rfl rfl (.inr ⟨_,_,rfl,_,rfl,rfl⟩) Qni rfl rfl (fun _ _ h=>h.sub [129,127,111,107,102,0]) (fun W hW=>Qgs W (hW.t 128) q26_3 (show Rd ZL _ _ d1.2.2.2 from (Qce (m:=JY (wm W) (q26_n3)) d1.2.2.2.1 d1.2.2.2.2.1 d1.2.2.2.2.2 bdk bdk (Rd.mono p1_5 (hW.o 128 0)))) Qd Qd bd Qd) (fun v31 m31 hv31=>?_)
   try dsimp only at hv31
   obtain ⟨rfl,w31_0⟩:=hv31
   have hfa32:=(Qfw (br:=bx_) (l:=k_) (x:=d1.2.2.2) (show okR R_ by assumption))
   have hfa33:=(Qc1 (br:=bx_) (l:=k_) (x:=d1.2.2.2) (show okD (Qc R_) by assumption))
   have hfa34:=(QaA (d:=Qc R_) (br:=bx_) (x:=d1.2.2.2) (show okU k_ by assumption))
   have hfa35:=((QcZ (d:=Qc R_) (br:=bx_) (l:=k_) (x:=d1.2.2.2)).trans (show R_.1=true by assumption))
   refine VD.nil rfl ?_ rfl
   refine VO.w (.eql rfl rfl) (VO.z (.pT rfl rfl) (VO.as ?_))
   refine VO.clsP 136 [129,127,128] rfl (fun hg36=>(Jo _ _ _ _ hg36 q26_1 w31_0)) (fun mc36 ho36=>?_)
   refine VO.nil (Qj (VC.ret (JD (QS ?_))))
   refine Yz 4 [136] fun hS_=>?_
   dsimp only [Qv]
   refine ⟨gw_,gx_,(QJ D_ br_ l_ d1.2.2.2).1.1,(QJ D_ br_ l_ d1.2.2.2).1.2.1,(QJ D_ br_ l_ d1.2.2.2).1.2.2,toR (QJ (Qc R_) bx_ k_ d1.2.2.2).1.1 R_.2.2.2.2.2.1,(QJ (Qc R_) bx_ k_ d1.2.2.2).1.2.2,(QJ (Qc R_) bx_ k_ d1.2.2.2).1.2.1,?_,?_,?_⟩
   rotate_left
   · exact Ow.cgP (Ow.up ho36 (hS_.1 _ (.head _)))
   · (first | exact e0.flush.2 | exact (e0.lent (QX k_+1,QX k_+1+QR d1.2.1 3,Qf d1.2.2.2.2.2)).2 | exact (e0.fuse).2 | exact PR.up e0 Qx | exact PR.up Qd Qx)
   all_goals (first | rfl | (first | exact congrArg Value.bool (decide_eq_true e0.flush.1) | exact congrArg Value.bool (decide_eq_true (e0.lent (QX k_+1,QX k_+1+QR d1.2.1 3,Qf d1.2.2.2.2.2)).1) | exact congrArg Value.bool (decide_eq_true e0.fuse.1) | rfl))
 first | exact absurd e0.flush.1 hc30 | exact absurd e0.pull.1 hc30 | exact absurd e0.pull.2.start.1 hc30 | exact absurd rfl hc30 | (exfalso;omega)
 refine VC.reg ?_
 refine VO.z (.eql rfl rfl) (VO.as (VO.k6 0 1 3 4 12 13 (Qj ?_)))
 refine VC.cond rfl (fun hc37=>?_) (fun hc37=>?_)
 refine VC.rs (VO.z (.fa rfl QbV rfl) (VO.z (.ldA 102 rfl Yx rfl (Qa rfl rfl)) ?_))
 refine VO.alloc 139 rfl X6 (fun g38=>?_)
 refine VO.store (k:=3) (c':=[.int .i64 (d1.2.2.2.1),.int .i64 (d1.2.2.2.2.1),.slice p1_A5 (d1.2.2.2.2.2.length) (p1_c5)]) 139 rfl rfl (.inl Yx) rfl rfl rfl rfl rfl ?_
 refine VO.k7 0 1 3 4 5 12 13 (VC.seq (VC.rs (VO.z (.fa rfl QbV rfl) (VO.z (.ld1 102 rfl tk3 rfl (Qa rfl rfl)) ?_))))
 refine VO.callN 140 rfl QiW rfl (fun W hW=>QfT W d1.1 bdk 5 bdk bd) (fun v40 m40 hv40=>?_)
 subst hv40
 have hfa41:=Xw d1.1 5 Qx
 refine VO.z (.eql rfl rfl) (VO.p4 139 102 0 1 (VO.k8 0 1 3 4 5 12 13 21 ?_))
 refine VC.condKT rfl (decide_eq_true hc37) ?_
 obtain ⟨q42_E,q42_n1,q42_n3,_,q42_S,q42_1,q42_3⟩:=Jf (x0:=(some gd_)) (x1:=(gw_,((gd_,D_),br_,l_))) (x2:=(some gr_)) (x3:=(gx_,(true,(gr_,R_),k_,bx_))) h0
 dsimp only at q42_1
 dsimp only at q42_3
 refine VC.inv _ (fun _ h=>h.parts (i:=1) rfl q42_S [145,143,144]) ?_
 refine VC.regD _ 6 [(0,true),(1,true),(2,true),(3,true),(4,true),(5,false)] follows (by kernel_rfl) (fun _ h=>h.sub [145,143,139,102,0]) ?_
 refine VD.z rfl (.ldA 102 rfl tk40 rfl (Qa rfl rfl)) (VD.z rfl (.mv rfl) (VD.z rfl (.nilp rfl) (VD.z rfl (.fa rfl Yh rfl) (VD.z rfl (.ld1 145 rfl QlY rfl (Qa rfl rfl)) ?_))))
 refine VD.call 144 rfl rfl (.inl rfl) Qk6 rfl rfl (fun _ _ h=>h.sub [145,143,139,102,0]) (fun W hW=>Qhq W (hW.t 144) q42_3 Qd) (fun v46 m46 hv46=>?_)
 try dsimp only at hv46
 obtain ⟨rfl,w46_0⟩:=hv46
 refine VD.nil rfl ?_ rfl
 refine VO.callN 147 rfl fnOk22 rfl (fun W hW=>QkM W (Rd.mono h1 (hW.t 0)) (QX k_) bdk bd bd) (fun v47 m47 hv47=>?_)
 obtain ⟨s47_0,rfl,f47_0⟩:=hv47
 have hfa48:=Xw d1.2.1 3 Qx
 have hfa49:=QdY d1.2.2.2.2.2
 obtain ⟨q47_0_A2,q47_0_c2,q47_0_n2,rfl,q47_0_S,q47_0_0,q47_0_1,q47_0_2⟩:=Y2 (x0:=((QX k_)+1,(QX k_)+1+QR d1.2.1 3,Qf d1.2.2.2.2.2).1) (x1:=((QX k_)+1,(QX k_)+1+QR d1.2.1 3,Qf d1.2.2.2.2.2).2.1) (x2:=((QX k_)+1,(QX k_)+1+QR d1.2.1 3,Qf d1.2.2.2.2.2).2.2) f47_0
 simp only [inK] at q47_0_0 q47_0_1
 have q47_0_r2:=q47_0_2.rm
 refine VO.inv _ (fun _ h=>h.parts (i:=147) rfl q47_0_S [150]) ?_
 refine VO.store (k:=3) (c':=[.int .i64 (((QX k_)+1,(QX k_)+1+QR d1.2.1 3,Qf d1.2.2.2.2.2).1),.int .i64 (((QX k_)+1,(QX k_)+1+QR d1.2.1 3,Qf d1.2.2.2.2.2).2.1),.slice q47_0_A2 ((((QX k_)+1,(QX k_)+1+QR d1.2.1 3,Qf d1.2.2.2.2.2).2.2).length) (q47_0_c2)]) 139 rfl rfl (.inl Yx) rfl rfl rfl rfl rfl ?_
 refine VO.clsP 151 [145,143,144] rfl (fun hg51=>(Jo _ _ _ _ hg51 q42_1 w46_0)) (fun mc51 ho51=>?_)
 refine VO.k8 0 1 3 4 5 12 13 21 (Qj (VC.rs (VO.z (.fa rfl Jl rfl) (VO.z (.ld1 139 rfl YY rfl (Qa rfl rfl)) ?_))))
 refine VO.callN 152 rfl Qk5 rfl (fun W hW=>Qc5 W (Ow.rd q47_0_2 (hW.t 150)) bd) (fun v52 m52 hv52=>?_)
 obtain ⟨s52_0,rfl,f52_0⟩:=hv52
 obtain ⟨A52_0,c52_0,eq52_0,l52_0,k52_0⟩:=f52_0.slc
 subst eq52_0
 refine VO.as (VO.k9 0 1 3 4 5 6 12 13 21 (VC.seq ?_))
 obtain ⟨q53_E,q53_n1,q53_n3,_,q53_S,q53_1,q53_3⟩:=Jf (x0:=(some gd_)) (x1:=(gw_,((gd_,D_),br_,l_))) (x2:=(some gr_)) (x3:=(gx_,(true,(gr_,R_),k_,bx_))) ho51
 dsimp only at q53_1
 dsimp only at q53_3
 refine VC.inv _ (fun _ h=>h.parts (i:=151) rfl q53_S [156,154,155]) ?_
 refine VC.regD _ 14 [(0,true),(1,true),(2,true),(3,true),(4,true),(5,true),(6,true),(7,true),(8,true),(9,true),(10,true),(11,true),(12,true),(13,true)] follows (by kernel_rfl) (fun _ h=>h.sub [156,154,155,152,150,139,102,0]) ?_
 refine VD.z rfl (.mv rfl) (VD.z rfl (.nilp rfl) (VD.z rfl (.fa rfl Yh rfl) (VD.z rfl (.ld1 156 rfl QlZ rfl (Qa rfl rfl)) (VD.z rfl (.fa rfl Jl rfl) (VD.z rfl (.ld1 139 rfl tk3 rfl (Qa rfl rfl)) (VD.z rfl (.fa rfl Jl rfl) (VD.z rfl (.ld1 139 rfl tk3 rfl (Qa rfl rfl)) (VD.z rfl (.mv rfl) (VD.z rfl (.fa rfl Jl rfl) (VD.z rfl (.ld1 139 rfl YY rfl (Qa rfl rfl)) (VD.z rfl (.lenS rfl Ji) ?_)))))))))))
 have hs57:=(Ow.rd f52_0 (Qb _)).pre (j:=((((QX k_)+1,(QX k_)+1+QR d1.2.1 3,Qf d1.2.2.2.2.2).2.2).length)) bd
 refine VD.z rfl (.slHI ((((QX k_)+1,(QX k_)+1+QR d1.2.1 3,Qf d1.2.2.2.2.2).2.2).length) rfl rfl Ji rfl bd) ?_
 refine VD.z rfl (.bst (cs:=[.int .i64 (((QX k_)+1,(QX k_)+1+QR d1.2.1 3,Qf d1.2.2.2.2.2).1),.int .i64 (((QX k_)+1,(QX k_)+1+QR d1.2.1 3,Qf d1.2.2.2.2.2).2.1),.slice A52_0 ((((QX k_)+1,(QX k_)+1+QR d1.2.1 3,Qf d1.2.2.2.2.2).2.2).length) (c52_0)]) rfl Jl X6 rfl) ?_
 refine VD.nil rfl ?_ rfl
 refine VO.call 154 rfl Qk9 rfl rfl (fun W hW=>QdQ W (hW.t 154) q53_1 (Qce (m:=JY (wm W) (q53_n1)) (((QX k_)+1,(QX k_)+1+QR d1.2.1 3,Qf d1.2.2.2.2.2).1) (((QX k_)+1,(QX k_)+1+QR d1.2.1 3,Qf d1.2.2.2.2.2).2.1) (((((QX k_)+1,(QX k_)+1+QR d1.2.1 3,Qf d1.2.2.2.2.2).2.2)++JQ).take ((((QX k_)+1,(QX k_)+1+QR d1.2.1 3,Qf d1.2.2.2.2.2).2.2).length)) bdk bdk (Qz.rd ((Ow.ownl f52_0 rfl Qr).pre (j:=((((QX k_)+1,(QX k_)+1+QR d1.2.1 3,Qf d1.2.2.2.2.2).2.2).length)) bd) (hW.o 154 152) (Jr _))) Qd bd Qd) (fun v58 m58 hv58=>?_)
 try dsimp only at hv58
 obtain ⟨rfl,w58_0⟩:=hv58
 have hfa59:=(Qck (br:=br_) (l:=l_) (x:=(((QX k_)+1,(QX k_)+1+QR d1.2.1 3,Qf d1.2.2.2.2.2).1,((QX k_)+1,(QX k_)+1+QR d1.2.1 3,Qf d1.2.2.2.2.2).2.1,((((QX k_)+1,(QX k_)+1+QR d1.2.1 3,Qf d1.2.2.2.2.2).2.2)++JQ).take ((((QX k_)+1,(QX k_)+1+QR d1.2.1 3,Qf d1.2.2.2.2.2).2.2).length))) (show okD D_ by assumption))
 have hfa60:=(Qc1 (br:=br_) (l:=l_) (x:=(((QX k_)+1,(QX k_)+1+QR d1.2.1 3,Qf d1.2.2.2.2.2).1,((QX k_)+1,(QX k_)+1+QR d1.2.1 3,Qf d1.2.2.2.2.2).2.1,((((QX k_)+1,(QX k_)+1+QR d1.2.1 3,Qf d1.2.2.2.2.2).2.2)++JQ).take ((((QX k_)+1,(QX k_)+1+QR d1.2.1 3,Qf d1.2.2.2.2.2).2.2).length))) (show okD D_ by assumption))
 have hfa61:=(QaA (d:=D_) (br:=br_) (x:=(((QX k_)+1,(QX k_)+1+QR d1.2.1 3,Qf d1.2.2.2.2.2).1,((QX k_)+1,(QX k_)+1+QR d1.2.1 3,Qf d1.2.2.2.2.2).2.1,((((QX k_)+1,(QX k_)+1+QR d1.2.1 3,Qf d1.2.2.2.2.2).2.2)++JQ).take ((((QX k_)+1,(QX k_)+1+QR d1.2.1 3,Qf d1.2.2.2.2.2).2.2).length))) (show okU l_ by assumption))
 refine VO.as ?_
 refine VO.clsP 162 [156,154,155] rfl (fun hg62=>(Jo _ _ _ _ hg62 w58_0 q53_3)) (fun mc62 ho62=>?_)
 refine VO.p6 162 152 150 139 102 0 (VO.k10 0 1 3 4 5 6 7 12 13 21 (Qj (VC.rs (VO.mv (VO.z (.fa rfl Jl rfl) (VO.z (.ld1 139 rfl YY rfl (Qa rfl rfl)) ?_))))))
 refine VO.callN 163 rfl Qnj rfl (fun W hW=>Qfs W (Ow.rd f52_0 (hW.t 152)) (Ow.rd q47_0_2 (hW.t 150)) bd) (fun v63 m63 hv63=>?_)
 subst hv63
 refine VO.as (VO.k11 0 1 3 4 5 6 7 8 12 13 21 (VC.seq (VC.rs (VO.as (VO.k12 0 1 3 4 5 6 7 8 9 12 13 21 (VC.block ?_))))))
 refine VC.loop (G:=Nat × (List DOp) × Mem) (fun g=>[(6,.slice A52_0 (((((QX k_)+1,(QX k_)+1+QR d1.2.1 3,Qf d1.2.2.2.2.2).2.2)++JQ).length) (c52_0)),(9,.int .i64 ((((g.1):Nat):Int))),(0,.pointer (some ⟨g0,0,none⟩)),(1,.agg [.int .i64 (d1.1),.int .i64 (d1.2.1),.int .i64 (d1.2.2.1),.int .i64 (d1.2.2.2.1),.int .i64 (d1.2.2.2.2.1),.slice p1_A5 (d1.2.2.2.2.2.length) (p1_c5)].toArray),(3,.pointer (some ⟨g1,0,none⟩)),(4,.bool false),(5,.pointer (some ⟨g38,0,none⟩)),(7,.int .i64 ((QJ D_ br_ l_ (((QX k_)+1,(QX k_)+1+QR d1.2.1 3,Qf d1.2.2.2.2.2).1,((QX k_)+1,(QX k_)+1+QR d1.2.1 3,Qf d1.2.2.2.2.2).2.1,((((QX k_)+1,(QX k_)+1+QR d1.2.1 3,Qf d1.2.2.2.2.2).2.2)++JQ).take ((((QX k_)+1,(QX k_)+1+QR d1.2.1 3,Qf d1.2.2.2.2.2).2.2).length))).2)),(8,.bool (decide (((((QX k_)+1,(QX k_)+1+QR d1.2.1 3,Qf d1.2.2.2.2.2).2.2)++JQ)=(((QX k_)+1,(QX k_)+1+QR d1.2.1 3,Qf d1.2.2.2.2.2).2.2)++JQ))),(12,.int .i64 (QR d1.1 5)),(13,.bool (decide ((QR d1.1 5)=1))),(21,.bool (decide ((QR d1.1 5)=1)))]) (fun g=>[(162,mc62),(152,(g.2.2)),(150,q47_0_n2),(139,QE g38 (.cells #[.int .i64 (((QX k_)+1,(QX k_)+1+QR d1.2.1 3,Qf d1.2.2.2.2.2).1),.int .i64 (((QX k_)+1,(QX k_)+1+QR d1.2.1 3,Qf d1.2.2.2.2.2).2.1),.slice q47_0_A2 ((((QX k_)+1,(QX k_)+1+QR d1.2.1 3,Qf d1.2.2.2.2.2).2.2).length) (q47_0_c2)] 38 (0,0))),(102,QE g1 (.cells #[.int .i64 (d1.1),.int .i64 (d1.2.1),.int .i64 (d1.2.2.1),.int .i64 (d1.2.2.2.1),.int .i64 (d1.2.2.2.2.1),.slice p1_A5 (d1.2.2.2.2.2.length) (p1_c5)] 40 (0,0))),(0,JY (wm W) (m0))]) (fun g=>((g.1)≤(g.2.1).length)∧(Qz TOp (g.2.2) Qr (.slice A52_0 (((((QX k_)+1,(QX k_)+1+QR d1.2.1 3,Qf d1.2.2.2.2.2).2.2)++JQ).length) (c52_0)) (g.2.1))) (fun g=>(g.2.1).length - (g.1)) (0,(((QX k_)+1,(QX k_)+1+QR d1.2.1 3,Qf d1.2.2.2.2.2).2.2)++JQ,m52) (⟨by (dsimp only;omega),(Ow.ownl f52_0 rfl Qr)⟩) ⟨esn,fun _ h=>h.sub [162,152,150,139,102,0]⟩ ?_
 rintro ⟨i,ops,ops_m⟩ ⟨hi,h_ops⟩
 replace hi:i≤ops.length:=hi
 replace h_ops:Qz TOp ops_m Qr (.slice A52_0 (((((QX k_)+1,(QX k_)+1+QR d1.2.1 3,Qf d1.2.2.2.2.2).2.2)++JQ).length) (c52_0)) ops:=h_ops
 show VC _ _ _ _ _ [(6,.slice A52_0 (((((QX k_)+1,(QX k_)+1+QR d1.2.1 3,Qf d1.2.2.2.2.2).2.2)++JQ).length) (c52_0)),(9,.int .i64 (((i:Nat):Int))),(0,.pointer (some ⟨g0,0,none⟩)),(1,.agg [.int .i64 (d1.1),.int .i64 (d1.2.1),.int .i64 (d1.2.2.1),.int .i64 (d1.2.2.2.1),.int .i64 (d1.2.2.2.2.1),.slice p1_A5 (d1.2.2.2.2.2.length) (p1_c5)].toArray),(3,.pointer (some ⟨g1,0,none⟩)),(4,.bool false),(5,.pointer (some ⟨g38,0,none⟩)),(7,.int .i64 ((QJ D_ br_ l_ (((QX k_)+1,(QX k_)+1+QR d1.2.1 3,Qf d1.2.2.2.2.2).1,((QX k_)+1,(QX k_)+1+QR d1.2.1 3,Qf d1.2.2.2.2.2).2.1,((((QX k_)+1,(QX k_)+1+QR d1.2.1 3,Qf d1.2.2.2.2.2).2.2)++JQ).take ((((QX k_)+1,(QX k_)+1+QR d1.2.1 3,Qf d1.2.2.2.2.2).2.2).length))).2)),(8,.bool (decide (((((QX k_)+1,(QX k_)+1+QR d1.2.1 3,Qf d1.2.2.2.2.2).2.2)++JQ)=(((QX k_)+1,(QX k_)+1+QR d1.2.1 3,Qf d1.2.2.2.2.2).2.2)++JQ))),(12,.int .i64 (QR d1.1 5)),(13,.bool (decide ((QR d1.1 5)=1))),(21,.bool (decide ((QR d1.1 5)=1)))] [(162,mc62),(152,ops_m),(150,q47_0_n2),(139,QE g38 (.cells #[.int .i64 (((QX k_)+1,(QX k_)+1+QR d1.2.1 3,Qf d1.2.2.2.2.2).1),.int .i64 (((QX k_)+1,(QX k_)+1+QR d1.2.1 3,Qf d1.2.2.2.2.2).2.1),.slice q47_0_A2 ((((QX k_)+1,(QX k_)+1+QR d1.2.1 3,Qf d1.2.2.2.2.2).2.2).length) (q47_0_c2)] 38 (0,0))),(102,QE g1 (.cells #[.int .i64 (d1.1),.int .i64 (d1.2.1),.int .i64 (d1.2.2.1),.int .i64 (d1.2.2.2.1),.int .i64 (d1.2.2.2.2.1),.slice p1_A5 (d1.2.2.2.2.2.length) (p1_c5)] 40 (0,0))),(0,JY (wm W) (m0))]
 have ll_ops:=ZM (Qz.ow h_ops rfl)
 refine VC.seq (VC.rs (VO.mv (VO.mv (VO.z (.lenS rfl Ji) (VO.z (.lss rfl rfl) (VO.p6 162 152 150 139 102 0 (VO.nil ?_)))))))
 refine VC.cond rfl (fun hc64=>?_) (fun hc64=>?_)
 · refine VC.skip (Qj (VC.seq (VC.block ?_)))
   refine VC.reg ?_
   refine VO.mv (VO.mv ?_)
   refine VO.z (.bst (cs:=[.bool false,str ([111,118,101,114]),str ([])]) rfl JM XB rfl) ?_
   obtain ⟨x65,hx65⟩:∃ z_,(ops)[i]? =some z_:=⟨_,List.getElem?_eq_getElem bd⟩
   obtain ⟨gg65,oo65,ec65,ea65,hce65,hre65⟩:=h_ops.elem hx65
   cases ea65
   obtain ⟨rfl,q65_1,q65_2⟩:=JA (x0:=x65.1) (x1:=x65.2.1) (x2:=x65.2.2) hre65
   simp only [maxLen] at q65_1
   simp only [maxLen] at q65_2
   refine VO.z (.ixI i rfl rfl Ji rfl bd) ?_
   refine VO.upd (e:=TOp) (k:=3) (i:=i) (x':=(false,[111,118,101,114],[])) 152 0 rfl rfl (.inl YS) rfl rfl rfl (Qz.ow h_ops rfl) rfl hx65 rfl (fun mi ec he=>by obtain ⟨rfl,z1,z2⟩:=JA (x0:=x65.1) (x1:=x65.2.1) (x2:=x65.2.2) (he.rd (Qb _));exact Ow.of (m:=Qr) rfl (Xl false ([111,118,101,114]) [] bdm bdm)) (fun mu66 hu66=>?_)
   have hl66:=ZM hu66
   refine VO.nil (JE (Qj ?_))
   refine VC.reg ?_
   refine VO.mv ?_
   refine VO.z (.add (c:=((i+1:Nat):Int)) rfl rfl Qx ⟨bd,bd⟩) ?_
   refine VO.as (VO.nil ?_)
   exact Qj ⟨⟨i+1,(ops).set i (false,[111,118,101,114],[]),mu66⟩,⟨by (simp only [List.length_set];omega),(Ow.ownl hu66 rfl Qr)⟩,by (simp only [List.length_set];omega),⟨esn,fun _ h=>Inv.sub h [162,152,150,139,102,0]⟩⟩
 refine VC.exit (Zc (Zc (Zd (Qj (VC.seq ?_)))))
 obtain ⟨q67_E,q67_n1,q67_n3,_,q67_S,q67_1,q67_3⟩:=Jf (x0:=(some gd_)) (x1:=(gw_,((gd_,(QJ D_ br_ l_ (((QX k_)+1,(QX k_)+1+QR d1.2.1 3,Qf d1.2.2.2.2.2).1,((QX k_)+1,(QX k_)+1+QR d1.2.1 3,Qf d1.2.2.2.2.2).2.1,((((QX k_)+1,(QX k_)+1+QR d1.2.1 3,Qf d1.2.2.2.2.2).2.2)++JQ).take ((((QX k_)+1,(QX k_)+1+QR d1.2.1 3,Qf d1.2.2.2.2.2).2.2).length))).1.1),(QJ D_ br_ l_ (((QX k_)+1,(QX k_)+1+QR d1.2.1 3,Qf d1.2.2.2.2.2).1,((QX k_)+1,(QX k_)+1+QR d1.2.1 3,Qf d1.2.2.2.2.2).2.1,((((QX k_)+1,(QX k_)+1+QR d1.2.1 3,Qf d1.2.2.2.2.2).2.2)++JQ).take ((((QX k_)+1,(QX k_)+1+QR d1.2.1 3,Qf d1.2.2.2.2.2).2.2).length))).1.2))) (x2:=(some gr_)) (x3:=(gx_,(true,(gr_,R_),k_,bx_))) ho62
 dsimp only at q67_1
 dsimp only at q67_3
 refine VC.inv _ (fun _ h=>h.parts (i:=162) rfl q67_S [170,168,169]) ?_
 refine VC.regD _ 9 [(0,true),(1,true),(2,true),(3,true),(4,true),(5,true),(6,true),(7,true),(8,false)] follows (by kernel_rfl) (fun _ h=>h.sub [170,168,152,150,139,102,0]) ?_
 refine VD.z rfl (.mv rfl) (VD.z rfl (.mv rfl) ?_)
 refine VD.dec (s:=62) rfl (fun hc71=>?_) (fun hc71=>?_)
 · refine VD.w rfl (.mv rfl) (VD.w rfl (.mv rfl) (VD.w rfl (.nilp rfl) (VD.w rfl (.fa rfl Yh rfl) (VD.w rfl (.ld1 170 rfl QlY rfl (Qa rfl rfl)) (VD.w rfl (.ldA 139 rfl Yx rfl (Qa rfl rfl)) ?_)))))
   refine VD.call 169 rfl rfl (.inr ⟨_,_,rfl,_,rfl,rfl⟩) Qni rfl rfl (fun _ _ h=>h.sub [170,168,152,150,139,102,0]) (fun W hW=>Qgs W (hW.t 169) q67_3 (show Rd ZL _ _ ((QX k_)+1,(QX k_)+1+QR d1.2.1 3,Qf d1.2.2.2.2.2) from (Qce (m:=JY (wm W) (q67_n3)) (((QX k_)+1,(QX k_)+1+QR d1.2.1 3,Qf d1.2.2.2.2.2).1) (((QX k_)+1,(QX k_)+1+QR d1.2.1 3,Qf d1.2.2.2.2.2).2.1) (((QX k_)+1,(QX k_)+1+QR d1.2.1 3,Qf d1.2.2.2.2.2).2.2) bdk bdk (Ow.rd q47_0_2 (hW.o 169 150)))) Qd Qd bd Qd) (fun v72 m72 hv72=>?_)
   try dsimp only at hv72
   obtain ⟨rfl,w72_0⟩:=hv72
   have hfa73:=(Qfw (br:=bx_) (l:=k_) (x:=((QX k_)+1,(QX k_)+1+QR d1.2.1 3,Qf d1.2.2.2.2.2)) (show okR R_ by assumption))
   have hfa74:=(Qc1 (br:=bx_) (l:=k_) (x:=((QX k_)+1,(QX k_)+1+QR d1.2.1 3,Qf d1.2.2.2.2.2)) (show okD (Qc R_) by assumption))
   have hfa75:=(QaA (d:=Qc R_) (br:=bx_) (x:=((QX k_)+1,(QX k_)+1+QR d1.2.1 3,Qf d1.2.2.2.2.2)) (show okU k_ by assumption))
   have hfa76:=((QcZ (d:=Qc R_) (br:=bx_) (l:=k_) (x:=((QX k_)+1,(QX k_)+1+QR d1.2.1 3,Qf d1.2.2.2.2.2))).trans (show R_.1=true by assumption))
   refine VD.nil rfl ?_ rfl
   refine VO.w (.eql rfl rfl) (VO.z (.pT rfl rfl) (VO.as ?_))
   refine VO.clsP 177 [170,168,169] rfl (fun hg77=>(Jo _ _ _ _ hg77 q67_1 w72_0)) (fun mc77 ho77=>?_)
   refine VO.nil (Qj (VC.ret (JD (QS ?_))))
   refine Yz 4 [177] fun hS_=>?_
   dsimp only [Qv]
   refine ⟨gw_,gx_,(QJ D_ br_ l_ (((QX k_)+1,(QX k_)+1+QR d1.2.1 3,Qf d1.2.2.2.2.2).1,((QX k_)+1,(QX k_)+1+QR d1.2.1 3,Qf d1.2.2.2.2.2).2.1,((((QX k_)+1,(QX k_)+1+QR d1.2.1 3,Qf d1.2.2.2.2.2).2.2)++JQ).take ((((QX k_)+1,(QX k_)+1+QR d1.2.1 3,Qf d1.2.2.2.2.2).2.2).length))).1.1,(QJ D_ br_ l_ (((QX k_)+1,(QX k_)+1+QR d1.2.1 3,Qf d1.2.2.2.2.2).1,((QX k_)+1,(QX k_)+1+QR d1.2.1 3,Qf d1.2.2.2.2.2).2.1,((((QX k_)+1,(QX k_)+1+QR d1.2.1 3,Qf d1.2.2.2.2.2).2.2)++JQ).take ((((QX k_)+1,(QX k_)+1+QR d1.2.1 3,Qf d1.2.2.2.2.2).2.2).length))).1.2.1,(QJ D_ br_ l_ (((QX k_)+1,(QX k_)+1+QR d1.2.1 3,Qf d1.2.2.2.2.2).1,((QX k_)+1,(QX k_)+1+QR d1.2.1 3,Qf d1.2.2.2.2.2).2.1,((((QX k_)+1,(QX k_)+1+QR d1.2.1 3,Qf d1.2.2.2.2.2).2.2)++JQ).take ((((QX k_)+1,(QX k_)+1+QR d1.2.1 3,Qf d1.2.2.2.2.2).2.2).length))).1.2.2,toR (QJ (Qc R_) bx_ k_ ((QX k_)+1,(QX k_)+1+QR d1.2.1 3,Qf d1.2.2.2.2.2)).1.1 R_.2.2.2.2.2.1,(QJ (Qc R_) bx_ k_ ((QX k_)+1,(QX k_)+1+QR d1.2.1 3,Qf d1.2.2.2.2.2)).1.2.2,(QJ (Qc R_) bx_ k_ ((QX k_)+1,(QX k_)+1+QR d1.2.1 3,Qf d1.2.2.2.2.2)).1.2.1,?_,?_,?_⟩
   rotate_left
   · exact Ow.cgP (Ow.up ho77 (hS_.1 _ (.head _)))
   · (first | exact e0.flush.2 | exact (e0.lent (QX k_+1,QX k_+1+QR d1.2.1 3,Qf d1.2.2.2.2.2)).2 | exact (e0.fuse).2 | exact PR.up e0 Qx | exact PR.up Qd Qx)
   all_goals (first | rfl | (first | exact congrArg Value.bool (decide_eq_true e0.flush.1) | exact congrArg Value.bool (decide_eq_true (e0.lent (QX k_+1,QX k_+1+QR d1.2.1 3,Qf d1.2.2.2.2.2)).1) | exact congrArg Value.bool (decide_eq_true e0.fuse.1) | rfl))
 first | exact absurd e0.flush.1 hc71 | exact absurd e0.pull.1 hc71 | exact absurd e0.pull.2.start.1 hc71 | exact absurd rfl hc71 | (exfalso;omega)
 refine VC.rs (VO.z (.eql rfl rfl) (VO.as (VO.k7 0 1 3 4 12 13 72 ?_)))
 refine VC.cond rfl (fun hc78=>?_) (fun hc78=>?_)
 refine VC.seq ?_
 obtain ⟨q79_E,q79_n1,q79_n3,_,q79_S,q79_1,q79_3⟩:=Jf (x0:=(some gd_)) (x1:=(gw_,((gd_,D_),br_,l_))) (x2:=(some gr_)) (x3:=(gx_,(true,(gr_,R_),k_,bx_))) h0
 dsimp only at q79_1
 dsimp only at q79_3
 refine VC.inv _ (fun _ h=>h.parts (i:=1) rfl q79_S [182,180,181]) ?_
 refine VC.regD _ 29 [(0,true),(1,true),(2,true),(3,true),(5,true),(6,true),(7,true),(8,true),(4,false),(9,false),(10,true),(11,true),(12,true),(13,true),(14,true),(15,true),(16,true),(17,true),(18,true),(19,true),(21,true),(22,true),(23,true),(24,true),(25,true),(26,true),(27,true),(28,true),(20,false)] follows (by kernel_rfl) (fun _ h=>h.sub [182,102,0]) ?_
 refine VD.z rfl (.mv rfl) (VD.z rfl (.nilp rfl) (VD.z rfl (.fa rfl Yh rfl) (VD.z rfl (.ld1 182 rfl Qji rfl (Qa rfl rfl)) (VD.z rfl (.mv rfl) (VD.z rfl (.nilp rfl) (VD.z rfl (.fa rfl Yh rfl) (VD.z rfl (.ld1 182 rfl QjK rfl (Qa rfl rfl)) ?_)))))))
 obtain ⟨q84_E,q84_A2,q84_c2,q84_n0,q84_n2,_,q84_S,q84_0,q84_2⟩:=Ja (x0:=(gd_,D_)) (x1:=br_) (x2:=l_) q79_1
 dsimp only at q84_0
 have q84_r2:=q84_2.rm
 refine VD.inv _ (fun _ h=>h.parts (i:=180) rfl q84_S [187,185,186]) ?_
 refine VD.call 185 rfl rfl (.inl rfl) fnOk27 rfl rfl (fun _ _ h=>h.sub [182,102,0]) (fun W hW=>QmB W (hW.t 185) q84_0 Qd) (fun v83 m83 hv83=>?_)
 obtain ⟨rfl,w83_0⟩:=hv83
 have hfa88:=(Qea (show okD D_ by assumption))
 have hfa89:=(Qkv D_)
 obtain ⟨q91_E,q91_A2,q91_c2,q91_n1,q91_n2,_,q91_S,q91_1,q91_2⟩:=QQ (x0:=true) (x1:=(gr_,R_)) (x2:=k_) (x3:=bx_) q79_3
 dsimp only at q91_1
 have q91_r2:=q91_2.rm
 refine VD.inv _ (fun _ h=>h.parts (i:=181) rfl q91_S [194,192,193]) ?_
 refine VD.call 192 rfl rfl (.inl rfl) fnOk28 rfl rfl (fun _ _ h=>h.sub [182,102,0]) (fun W hW=>Qmb W (hW.t 192) q91_1 Qd) (fun v90 m90 hv90=>?_)
 obtain ⟨rfl,w90_0⟩:=hv90
 have hfa95:=(QnI (show okR R_ by assumption))
 have hfa96:=(QnF (show okR R_ by assumption))
 refine VD.z rfl (.eql rfl rfl) (VD.z rfl (.mv rfl) ?_)
 refine VD.dec (s:=85) rfl (fun hc97=>?_) (fun hc97=>?_)
 refine VD.w rfl (.mv rfl) (VD.w rfl (.nilp rfl) (VD.w rfl (.fa rfl Yh rfl) (VD.w rfl (.ld1 182 rfl Qji rfl (Qa rfl rfl)) (VD.w rfl (.fa rfl QbV rfl) (VD.w rfl (.ld1 102 rfl tk3 rfl (Qa rfl rfl)) (VD.w rfl (.fa rfl QbV rfl) (VD.w rfl (.ld1 102 rfl tk3 rfl (Qa rfl rfl)) (VD.w rfl (.mv rfl) (VD.w rfl (.nilp rfl) (VD.w rfl (.fa rfl Yh rfl) (VD.w rfl (.ld1 182 rfl QjK rfl (Qa rfl rfl)) ?_)))))))))))
 refine VD.w rfl (.fa rfl QbV rfl) (VD.w rfl (.ld1 102 rfl tk3 rfl (Qa rfl rfl)) (VD.w rfl (.fa rfl QbV rfl) (VD.w rfl (.ld1 102 rfl tk3 rfl (Qa rfl rfl)) ?_)))
 refine VD.call 185 rfl rfl (.inr ⟨_,_,rfl,_,rfl,rfl⟩) fnOk29 rfl rfl (fun _ _ h=>h.sub [182,102,0]) (fun W hW=>Qls W (hW.t 185) w83_0 d1.2.1 bdk d1.2.2.1 bdk Qd bd) (fun v98 m98 hv98=>?_)
 obtain ⟨rfl,w98_0⟩:=hv98
 have hfa99:=(Qb0 (k:=d1.2.1) (t:=d1.2.2.1) (show okD ((Yv D_).1) by assumption))
 have hfa100:=(Qhw ((Yv D_).1) d1.2.1 d1.2.2.1)
 refine VD.nil rfl ?_ rfl
 refine VO.gcall 192 rfl ⟨_,rfl,rfl⟩ fnOk30 rfl rfl (fun W hW=>Qks W (hW.t 192) w90_0 d1.2.1 bdk d1.2.2.1 bdk Qd bd) (fun v101 m101 hv101=>?_)
 obtain ⟨rfl,w101_0⟩:=hv101
 have hfa102:=(Qma (k:=d1.2.1) (t:=d1.2.2.1) (show okR (toR (Yv (Qc R_)).1 R_.2.2.2.2.2.1) by assumption))
 have hfa103:=(Ql7 (k:=d1.2.1) (t:=d1.2.2.1) (show okR (toR (Yv (Qc R_)).1 R_.2.2.2.2.2.1) by assumption))
 refine VO.w (.eql rfl rfl) (VO.z (.pT rfl rfl) (VO.mv ?_))
 refine VO.dec (t:=106) rfl (fun hc104=>?_) (fun hc104=>?_)
 · refine VO.w (.mv rfl) ?_
   refine VO.clsP 206 [187,185,186] rfl (fun hg106=>(Jj _ _ _ hg106 w98_0 q84_2)) (fun mc106 ho106=>?_)
   refine VO.clsP 207 [194,192,193] rfl (fun hg107=>(QY _ _ _ _ hg107 w101_0 q91_2)) (fun mc107 ho107=>?_)
   refine VO.clsP 208 [182,206,207] rfl (fun hg108=>(Jo _ _ _ _ hg108 ho106 ho107)) (fun mc108 ho108=>?_)
   refine VO.gcall 208 rfl ⟨_,rfl,rfl⟩ Qn3 rfl rfl (fun W hW=>Qe5 W (hW.t 208) ho108 (by first | assumption | exact e0.pull.2.start.2) bd) (fun v105 m105 hv105=>?_)
   try dsimp only at hv105
   obtain ⟨gw2_105,gx2_105,D2_105,br2_105,l2_105,R2_105,k2_105,bx2_105,rfl,w105_0,xf105_0⟩:=hv105
   refine VO.z (.pT rfl rfl) (VO.as (VO.p3 208 102 0 (VO.k7 0 1 3 4 12 13 72 (Qj (VC.ret (JD (QS ?_)))))))
   refine Yz 4 [208] fun hS_=>?_
   dsimp only [Qv]
   refine ⟨gw2_105,gx2_105,D2_105,br2_105,l2_105,R2_105,k2_105,bx2_105,?_,?_,?_⟩
   rotate_left
   · exact Ow.cgP (Ow.up w105_0 (hS_.1 _ (.head _)))
   · (first | exact e0.flush.2 | exact (e0.lent (QX k_+1,QX k_+1+QR d1.2.1 3,Qf d1.2.2.2.2.2)).2 | exact (e0.fuse).2 | exact PR.up e0 Qx | exact PR.up Qd Qx)
   all_goals (first | rfl | (first | exact congrArg Value.bool (decide_eq_true e0.flush.1) | exact congrArg Value.bool (decide_eq_true (e0.lent (QX k_+1,QX k_+1+QR d1.2.1 3,Qf d1.2.2.2.2.2)).1) | exact congrArg Value.bool (decide_eq_true e0.fuse.1) | rfl))
 first | exact absurd e0.flush.1 hc104 | exact absurd e0.pull.1 hc104 | exact absurd e0.pull.2.start.1 hc104 | exact absurd rfl hc104 | (exfalso;omega)
 first | exact absurd e0.flush.1 hc97 | exact absurd e0.pull.1 hc97 | exact absurd e0.pull.2.start.1 hc97 | exact absurd rfl hc97 | (exfalso;omega)
 refine VC.rs (VO.z (.eql rfl rfl) (VO.as (VO.p3 102 0 1 (VO.k8 0 1 3 4 12 13 72 110 ?_))))
 refine VC.cond rfl (fun hc109=>?_) (fun hc109=>?_)
 · refine VC.seq ?_
   obtain ⟨q110_E,q110_n1,q110_n3,_,q110_S,q110_1,q110_3⟩:=Jf (x0:=(some gd_)) (x1:=(gw_,((gd_,D_),br_,l_))) (x2:=(some gr_)) (x3:=(gx_,(true,(gr_,R_),k_,bx_))) h0
   dsimp only at q110_1
   dsimp only at q110_3
   refine VC.inv _ (fun _ h=>h.parts (i:=1) rfl q110_S [213,211,212]) ?_
   refine VC.regD _ 13 [(0,true),(1,true),(2,true),(3,true),(4,true),(5,true),(7,true),(8,true),(9,true),(10,true),(11,true),(12,true),(6,false)] follows (by kernel_rfl) (fun _ h=>h.sub [213,212,102,0]) ?_
   refine VD.z rfl (.mv rfl) (VD.z rfl (.nilp rfl) (VD.z rfl (.fa rfl Yh rfl) (VD.z rfl (.ld1 213 rfl Qji rfl (Qa rfl rfl)) (VD.z rfl (.fa rfl QbV rfl) (VD.z rfl (.ld1 102 rfl tk3 rfl (Qa rfl rfl)) (VD.z rfl (.mv rfl) (VD.z rfl (.nilp rfl) (VD.z rfl (.fa rfl Yh rfl) (VD.z rfl (.ld1 213 rfl QjK rfl (Qa rfl rfl)) (VD.z rfl (.fa rfl QbV rfl) (VD.z rfl (.ld1 102 rfl tk3 rfl (Qa rfl rfl)) ?_)))))))))))
   obtain ⟨q115_E,q115_A2,q115_c2,q115_n0,q115_n2,_,q115_S,q115_0,q115_2⟩:=Ja (x0:=(gd_,D_)) (x1:=br_) (x2:=l_) q110_1
   dsimp only at q115_0
   have q115_r2:=q115_2.rm
   refine VD.inv _ (fun _ h=>h.parts (i:=211) rfl q115_S [218,216,217]) ?_
   refine VD.call 216 rfl rfl (.inl rfl) fnOk31 rfl rfl (fun _ _ h=>h.sub [213,212,102,0]) (fun W hW=>QmC W (hW.t 216) q115_0 d1.2.1 bdk Qd) (fun v114 m114 hv114=>?_)
   obtain ⟨rfl,w114_0⟩:=hv114
   have hfa119:=(Qen (n:=d1.2.1) (show okD D_ by assumption))
   have hfa120:=(QkX D_ d1.2.1)
   refine VD.nil rfl ?_ rfl
   obtain ⟨q122_E,q122_A2,q122_c2,q122_n1,q122_n2,_,q122_S,q122_1,q122_2⟩:=QQ (x0:=true) (x1:=(gr_,R_)) (x2:=k_) (x3:=bx_) q110_3
   dsimp only at q122_1
   have q122_r2:=q122_2.rm
   refine VO.inv _ (fun _ h=>h.parts (i:=212) rfl q122_S [225,223,224]) ?_
   refine VO.call 223 rfl fnOk32 rfl rfl (fun W hW=>Qmc W (hW.t 223) q122_1 d1.2.1 bdk Qd) (fun v121 m121 hv121=>?_)
   obtain ⟨rfl,w121_0⟩:=hv121
   have hfa126:=(QnK (n:=d1.2.1) (show okR R_ by assumption))
   have hfa127:=(QnG (n:=d1.2.1) (show okR R_ by assumption))
   refine VO.z (.eql rfl rfl) (VO.as ?_)
   refine VO.clsP 228 [225,223,224] rfl (fun hg128=>(QY _ _ _ _ hg128 w121_0 q122_2)) (fun mc128 ho128=>?_)
   refine VO.clsP 229 [218,216,217] rfl (fun hg129=>(Jj _ _ _ hg129 w114_0 q115_2)) (fun mc129 ho129=>?_)
   refine VO.clsP 230 [213,229,228] rfl (fun hg130=>(Jo _ _ _ _ hg130 ho129 ho128)) (fun mc130 ho130=>?_)
   refine VO.k8 0 1 3 4 12 13 72 110 (Qj (VC.ret (JD (QS ?_))))
   refine Yz 4 [230] fun hS_=>?_
   dsimp only [Qv]
   refine ⟨gw_,gx_,(Zm D_ d1.2.1).1,br_,l_,toR (Zm (Qc R_) d1.2.1).1 R_.2.2.2.2.2.1,k_,bx_,?_,?_,?_⟩
   rotate_left
   · exact Ow.cgP (Ow.up ho130 (hS_.1 _ (.head _)))
   · (first | exact e0.flush.2 | exact (e0.lent (QX k_+1,QX k_+1+QR d1.2.1 3,Qf d1.2.2.2.2.2)).2 | exact (e0.fuse).2 | exact PR.up e0 Qx | exact PR.up Qd Qx)
   all_goals (first | rfl | (first | exact congrArg Value.bool (decide_eq_true e0.flush.1) | exact congrArg Value.bool (decide_eq_true (e0.lent (QX k_+1,QX k_+1+QR d1.2.1 3,Qf d1.2.2.2.2.2)).1) | exact congrArg Value.bool (decide_eq_true e0.fuse.1) | rfl))
 · refine VC.skip (JE (Qj (VC.rs (VO.mv ?_))))
   refine VO.call 1 rfl Qn3 rfl rfl (fun W hW=>Qe5 W (hW.t 1) h0 (by first | assumption | exact e0.pull.2.start.2) bd) (fun v131 m131 hv131=>?_)
   try dsimp only at hv131
   obtain ⟨gw2_131,gx2_131,D2_131,br2_131,l2_131,R2_131,k2_131,bx2_131,rfl,w131_0,xf131_0⟩:=hv131
   refine VO.as (VO.k8 0 1 3 4 12 13 72 110 (VC.ret ?_))
   refine Yz 4 [1] fun hS_=>?_
   dsimp only [Qv]
   refine ⟨gw2_131,gx2_131,D2_131,br2_131,l2_131,R2_131,k2_131,bx2_131,?_,?_,?_⟩
   rotate_left
   · exact Ow.cgP (Ow.up w131_0 (hS_.1 _ (.head _)))
   · (first | exact e0.flush.2 | exact (e0.lent (QX k_+1,QX k_+1+QR d1.2.1 3,Qf d1.2.2.2.2.2)).2 | exact (e0.fuse).2 | exact PR.up e0 Qx | exact PR.up Qd Qx)
   all_goals (first | rfl | (first | exact congrArg Value.bool (decide_eq_true e0.flush.1) | exact congrArg Value.bool (decide_eq_true (e0.lent (QX k_+1,QX k_+1+QR d1.2.1 3,Qf d1.2.2.2.2.2)).1) | exact congrArg Value.bool (decide_eq_true e0.fuse.1) | rfl))
theorem Qlc:JX Tryz.prog 11=true:=by kernel_rfl
theorem fnOk33:JX Tryz.prog 33=true:=by kernel_rfl
theorem fnOk34:JX Tryz.prog 34=true:=by kernel_rfl
theorem fnOk35:JX Tryz.prog 35=true:=by kernel_rfl
theorem fnOk36:JX Tryz.prog 36=true:=by kernel_rfl
theorem fnOk37:JX Tryz.prog 37=true:=by kernel_rfl
theorem fnOk38:JX Tryz.prog 38=true:=by kernel_rfl
theorem fnOk40:JX Tryz.prog 40=true:=by kernel_rfl
theorem fnOk41:JX Tryz.prog 41=true:=by kernel_rfl
theorem QlW:tsl Tryz.prog 23=some (9,1,16):=by kernel_rfl
theorem Qnl:JX Tryz.prog 16=true:=by kernel_rfl
theorem Qnk:JX Tryz.prog 18=true:=by kernel_rfl
set_option maxHeartbeats 8000000 in
theorem QiC (W:World) {m_:Nat} {bx_:Bool} {k_:List Zn} {R_:Qo} {gx_:Nat} {gr_:Nat} {l_:List Zn} {br_:Bool} {D_:QG} {gw_:Nat} {gd_:Nat} {m0:Mem} (hm:mle (m0) (wm W)) {g0:Nat} (h0:Ow (.ptr Zf) m0 [.pointer (some ⟨g0,0,none⟩)] (g0,((some gd_),(gw_,((gd_,D_),br_,l_)),(some gr_),(gx_,(true,(gr_,R_),k_,bx_))))) {v1:Value} {d1:List (List UInt8)} (h1:Rd (.sl .str) (JY (wm W) (m0)) [v1] d1) (e0:PR m_ D_ br_ l_ R_ k_ bx_) (e1:m_+500000≤1000000000000):Qg Tryz.prog 10 [.pointer (some ⟨g0,0,none⟩),v1] W (m0) (fun v m'=>v= .bool true∧Ow (.ptr Zf) m' [.pointer (some ⟨g0,0,none⟩)] (g0,(some gd_,(gw_,((gd_,D_),br_,l_)),some gr_,(gx_,(true,(gr_,R_),k_,bx_))))):=by
 have hpo:=e0.ok;have hpr:=e0.okr;have hpm:=e0.rm;have hpw:=e0.w;have hpx:=e0.wr;have hpl:=e0.okl;have hpk:=e0.okk
 obtain ⟨A1,c1,rfl,l1,k1⟩:=h1.slc
 refine Qg.ofB (n:=122) hm Tryz.func10 rfl rfl rfl ?_
 refine VC.rs (VO.as (VO.k3 0 1 4 (VC.seq (VC.seq ?_))))
 obtain ⟨q1_E,q1_n1,q1_n3,_,q1_S,q1_1,q1_3⟩:=Jf (x0:=(some gd_)) (x1:=(gw_,((gd_,D_),br_,l_))) (x2:=(some gr_)) (x3:=(gx_,(true,(gr_,R_),k_,bx_))) h0
 dsimp only at q1_1
 dsimp only at q1_3
 refine VC.inv _ (fun _ h=>h.parts (i:=1) rfl q1_S [104,102,103]) ?_
 refine VC.regT _ 62 65 [(0,true),(1,true),(2,true),(3,true),(5,true),(6,true),(7,true),(8,true),(4,false),(9,false),(10,true),(11,true),(12,true),(13,true),(14,true),(15,true),(17,true),(18,true),(19,true),(20,true),(16,false),(21,false),(22,false),(23,true),(24,true),(25,true),(26,true),(27,true),(28,true),(29,true),(31,true),(32,true),(33,true),(34,true),(30,false),(35,false),(36,false),(37,true),(38,true),(39,true),(40,true),(41,true),(42,true),(43,true),(45,true),(46,true),(47,true),(48,true),(44,false),(49,false),(50,true),(51,true),(52,true),(53,true),(54,true),(55,true),(56,true),(58,true),(59,true),(60,true),(61,true),(57,false)] [(13,1,0),(14,4096,1),(15,8192,2),(16,16384,4),(17,32768,8),(18,1,0),(19,131072,32),(20,262144,64),(21,524288,128),(22,1048576,272),(23,2162688,528),(24,4194304,1536),(25,8388609,2048),(26,25165824,6144),(27,41943040,10240),(28,75497472,18432),(29,142606336,34816),(30,8388609,2048),(31,545259520,133120),(32,1082130432,264192),(33,2155872256,526336),(34,4303355904,1116160),(35,8866758656,2164736),(36,17188257792,4196352),(37,34368126976,8390656),(38,68719476736,20971520),(39,137438953473,33554432),(40,412316860416,100663296),(41,687194767360,167772160),(42,1236950581248,301989888),(43,2336462209024,570425344),(44,137438953473,33554432),(45,8933531975680,2181038080),(46,17729624997888,4328521728),(47,35321811042304,8623489024),(48,70506183131136,18287165440),(49,145272973819904,35467034624),(50,281612415664128,68753031168),(51,563087392374784,137472507904),(52,1125899906842624,343597383680),(53,2251799813685249,549755813888),(54,6755399441055744,1649267441664),(55,11258999068426240,2748779069440),(56,20266198323167232,4947802324992),(57,38280596832649216,9345848836096),(58,2251799813685249,549755813888),(59,146366987889541120,35734127902720),(60,290482175965396992,70918499991552),(61,578712552117108736,141287244169216),(62,1155173304420532224,299616918568960),(63,2380152403065307136,581091895279616),(64,4613937818241073152,1126449662656512),(65,9223372036854775808,2814749767106560),(66,18446744073709551617,4503599627370496),(67,55340232221128654848,13510798882111488),(68,92233720368547758080,22517998136852480),(69,166020696663385964544,40532396646334464),(70,313594649253062377472,76561193665298432),(71,18446744073709551617,4503599627370496),(72,1199038364791120855040,292733975779082240),(73,2379629985508532158464,580964351930793984),(74,4740813226943354765312,1157425104234217472),(75,9463179709812999979008,2454461796916920320),(76,19498208485910996058112,4760304806130614272),(77,37797378607030871261184,9227875636482146304)] follows (by kernel_rfl) (by kernel_rfl) (by kernel_rfl) (by kernel_rfl) (by kernel_rfl) (fun _ h=>h.sub [104,0]) ?_
 refine VD.z rfl (.mv rfl) (VD.z rfl (.nilp rfl) (VD.z rfl (.fa rfl Yh rfl) (VD.z rfl (.ld1 104 rfl QlZ rfl (Qa rfl rfl)) (VD.z rfl (.mv rfl) (VD.z rfl (.nilp rfl) (VD.z rfl (.fa rfl Yh rfl) (VD.z rfl (.ld1 104 rfl QlY rfl (Qa rfl rfl)) ?_)))))))
 refine VD.call 102 rfl rfl (.inl rfl) Qk8 rfl rfl (fun _ _ h=>h.sub [104,0]) (fun W hW=>Qhr W (hW.t 102) q1_1 Qd) (fun v5 m5 hv5=>?_)
 try dsimp only at hv5
 obtain ⟨rfl,w5_0⟩:=hv5
 refine VD.call 103 rfl rfl (.inl rfl) Qk6 rfl rfl (fun _ _ h=>h.sub [104,0]) (fun W hW=>Qhq W (hW.t 103) q1_3 Qd) (fun v6 m6 hv6=>?_)
 try dsimp only at hv6
 obtain ⟨rfl,w6_0⟩:=hv6
 refine VD.z rfl (.neq rfl rfl) (VD.z rfl (.mv rfl) ?_)
 refine VD.dec (s:=23) rfl (fun hc7=>?_) (fun hc7=>?_)
 · first | (refine absurd ?_ hc7;rw [e0.kl];done) | (refine absurd ?_ hc7;rw [e0.fr];done) | exact absurd rfl hc7 | exact absurd (decide_eq_decide.2 (by (rw [e0.fr];done))) hc7 | (refine absurd ?_ hc7;simp only [e0.kl];done)
 refine VD.w rfl (.mv rfl) (VD.w rfl (.nilp rfl) (VD.w rfl (.fa rfl Yh rfl) (VD.w rfl (.ld1 104 rfl QlZ rfl (Qa rfl rfl)) (VD.w rfl (.mv rfl) (VD.w rfl (.nilp rfl) (VD.w rfl (.fa rfl Yh rfl) (VD.w rfl (.ld1 104 rfl QlY rfl (Qa rfl rfl)) ?_)))))))
 refine VD.call 102 rfl rfl (.inr ⟨_,_,rfl,_,rfl,rfl⟩) Qlc rfl rfl (fun _ _ h=>h.sub [104,0]) (fun W hW=>QfE W (hW.t 102) w5_0 Qd) (fun v8 m8 hv8=>?_)
 try dsimp only at hv8
 obtain ⟨s8_0,p8_0,p8_1,rfl,hS8,f8_0,w8_0⟩:=hv8
 refine VD.inv _ (fun _ h=>h.parts (i:=102) rfl hS8 [109,110]) ?_
 obtain ⟨A8_0,c8_0,eq8_0,l8_0,k8_0⟩:=f8_0.slc
 subst eq8_0
 refine VD.call 103 rfl rfl (.inr ⟨_,_,rfl,_,rfl,rfl⟩) fnOk34 rfl rfl (fun _ _ h=>h.sub [104,0]) (fun W hW=>QlU W (hW.t 103) w6_0 Qd) (fun v11 m11 hv11=>?_)
 try dsimp only at hv11
 obtain ⟨s11_0,p11_0,p11_1,rfl,hS11,f11_0,w11_0⟩:=hv11
 refine VD.inv _ (fun _ h=>h.parts (i:=103) rfl hS11 [112,113]) ?_
 obtain ⟨A11_0,c11_0,eq11_0,l11_0,k11_0⟩:=f11_0.slc
 subst eq11_0
 refine VD.callN 114 rfl rfl (.inr ⟨_,_,rfl,_,rfl,rfl⟩) fnOk33 rfl (fun _ h=>h.sub [104,0]) (fun W hW=>Qh5 W (Ow.rd f8_0 (hW.t 109)) (Ow.rd f11_0 (hW.t 112))) (fun v14 m14 hv14=>?_)
 subst hv14
 refine VD.w rfl (.notD rfl) (VD.z rfl (.pF rfl rfl) (VD.z rfl (.mv rfl) ?_))
 refine VD.dec (s:=37) rfl (fun hc15=>?_) (fun hc15=>?_)
 · first | (refine absurd ?_ hc15;rw [e0.kl];done) | (refine absurd ?_ hc15;rw [e0.fr];done) | exact absurd rfl hc15 | exact absurd (decide_eq_decide.2 (by (rw [e0.fr];done))) hc15 | (refine absurd ?_ hc15;simp only [e0.kl];done)
 refine VD.w rfl (.mv rfl) (VD.w rfl (.nilp rfl) (VD.w rfl (.fa rfl Yh rfl) (VD.w rfl (.ld1 104 rfl Qji rfl (Qa rfl rfl)) (VD.w rfl (.mv rfl) (VD.w rfl (.nilp rfl) (VD.w rfl (.fa rfl Yh rfl) (VD.w rfl (.ld1 104 rfl QjK rfl (Qa rfl rfl)) ?_)))))))
 obtain ⟨q17_E,q17_A2,q17_c2,q17_n0,q17_n2,_,q17_S,q17_0,q17_2⟩:=Ja (x0:=(gd_,D_)) (x1:=br_) (x2:=l_) w8_0
 dsimp only at q17_0
 have q17_r2:=q17_2.rm
 refine VD.inv _ (fun _ h=>h.parts (i:=110) rfl q17_S [120,118,119]) ?_
 refine VD.call 118 rfl rfl (.inr ⟨_,_,rfl,_,rfl,rfl⟩) fnOk35 rfl rfl (fun _ _ h=>h.sub [104,0]) (fun W hW=>Qh2 W (hW.t 118) q17_0 2 bdk bd) (fun v16 m16 hv16=>?_)
 obtain ⟨s16_0,p16_0,p16_1,rfl,hS16,f16_0,w16_0⟩:=hv16
 refine VD.inv _ (fun _ h=>h.parts (i:=118) rfl hS16 [121,122]) ?_
 have hfa23:=(Qdl D_ 2)
 obtain ⟨A16_0,c16_0,eq16_0,l16_0,k16_0⟩:=f16_0.slc
 subst eq16_0
 obtain ⟨q25_E,q25_A2,q25_c2,q25_n1,q25_n2,_,q25_S,q25_1,q25_2⟩:=QQ (x0:=true) (x1:=(gr_,R_)) (x2:=k_) (x3:=bx_) w11_0
 dsimp only at q25_1
 have q25_r2:=q25_2.rm
 refine VD.inv _ (fun _ h=>h.parts (i:=113) rfl q25_S [128,126,127]) ?_
 refine VD.call 126 rfl rfl (.inr ⟨_,_,rfl,_,rfl,rfl⟩) fnOk36 rfl rfl (fun _ _ h=>h.sub [104,0]) (fun W hW=>QhO W (hW.t 126) q25_1 2 bdk bd) (fun v24 m24 hv24=>?_)
 obtain ⟨s24_0,p24_0,p24_1,rfl,hS24,f24_0,w24_0⟩:=hv24
 refine VD.inv _ (fun _ h=>h.parts (i:=126) rfl hS24 [129,130]) ?_
 have hfa31:=(Qdl (Qc R_) 2)
 obtain ⟨A24_0,c24_0,eq24_0,l24_0,k24_0⟩:=f24_0.slc
 subst eq24_0
 refine VD.callN 132 rfl rfl (.inr ⟨_,_,rfl,_,rfl,rfl⟩) Qnl rfl (fun _ h=>h.sub [104,0]) (fun W hW=>Qdn W (Ow.rd f16_0 (hW.t 121)) (Ow.rd f24_0 (hW.t 129))) (fun v32 m32 hv32=>?_)
 subst hv32
 refine VD.w rfl (.notD rfl) (VD.z rfl (.pF rfl rfl) (VD.z rfl (.mv rfl) ?_))
 refine VD.dec (s:=51) rfl (fun hc33=>?_) (fun hc33=>?_)
 · first | (refine absurd ?_ hc33;rw [e0.kl];done) | (refine absurd ?_ hc33;rw [e0.fr];done) | exact absurd rfl hc33 | exact absurd (decide_eq_decide.2 (by (rw [e0.fr];done))) hc33 | (refine absurd ?_ hc33;simp only [e0.kl];done)
 refine VD.w rfl (.mv rfl) (VD.w rfl (.nilp rfl) (VD.w rfl (.fa rfl Yh rfl) (VD.w rfl (.ld1 104 rfl Qji rfl (Qa rfl rfl)) (VD.w rfl (.mv rfl) (VD.w rfl (.nilp rfl) (VD.w rfl (.fa rfl Yh rfl) (VD.w rfl (.ld1 104 rfl QjK rfl (Qa rfl rfl)) ?_)))))))
 refine VD.call 122 rfl rfl (.inr ⟨_,_,rfl,_,rfl,rfl⟩) fnOk37 rfl rfl (fun _ _ h=>h.sub [104,0]) (fun W hW=>Qlr W (hW.t 122) w16_0) (fun v34 m34 hv34=>?_)
 obtain ⟨rfl,w34_0⟩:=hv34
 refine VD.call 130 rfl rfl (.inr ⟨_,_,rfl,_,rfl,rfl⟩) fnOk38 rfl rfl (fun _ _ h=>h.sub [104,0]) (fun W hW=>Qkr W (hW.t 130) w24_0) (fun v35 m35 hv35=>?_)
 obtain ⟨rfl,w35_0⟩:=hv35
 refine VD.w rfl (.neq rfl rfl) (VD.z rfl (.pF rfl rfl) (VD.z rfl (.mv rfl) ?_))
 refine VD.dec (s:=64) rfl (fun hc36=>?_) (fun hc36=>?_)
 · first | (refine absurd ?_ hc36;rw [e0.kl];done) | (refine absurd ?_ hc36;rw [e0.fr];done) | exact absurd rfl hc36 | exact absurd (decide_eq_decide.2 (by (rw [e0.fr];done))) hc36 | (refine absurd ?_ hc36;simp only [e0.kl];done)
 refine VD.w rfl (.mv rfl) (VD.w rfl (.nilp rfl) (VD.w rfl (.fa rfl Yh rfl) (VD.w rfl (.ld1 104 rfl Qji rfl (Qa rfl rfl)) (VD.w rfl (.mv rfl) (VD.w rfl (.nilp rfl) (VD.w rfl (.fa rfl Yh rfl) (VD.w rfl (.ld1 104 rfl QjK rfl (Qa rfl rfl)) ?_)))))))
 refine VD.call 122 rfl rfl (.inr ⟨_,_,rfl,_,rfl,rfl⟩) Qnh rfl rfl (fun _ _ h=>h.sub [104,0]) (fun W hW=>Qnu W (hW.t 122) w34_0) (fun v37 m37 hv37=>?_)
 obtain ⟨rfl,w37_0⟩:=hv37
 refine VD.nil rfl ?_ rfl
 refine VO.gcall 130 rfl ⟨_,rfl,rfl⟩ fnOk40 rfl rfl (fun W hW=>rOn_ok W (hW.t 130) w35_0) (fun v38 m38 hv38=>?_)
 obtain ⟨rfl,w38_0⟩:=hv38
 refine VO.w (.bneq rfl rfl Tryz.underlying4) ?_
 refine VO.z (.pF rfl rfl) ?_
 refine VO.clsP 139 [128,130,127] rfl (fun hg39=>(QY _ _ _ _ hg39 w38_0 q25_2)) (fun mc39 ho39=>?_)
 refine VO.clsP 140 [120,122,119] rfl (fun hg40=>(Jj _ _ _ hg40 w37_0 q17_2)) (fun mc40 ho40=>?_)
 refine VO.clsP 141 [104,140,139] rfl (fun hg41=>(Jo _ _ _ _ hg41 ho40 ho39)) (fun mc41 ho41=>?_)
 refine VO.p2 141 0 (VO.k4 0 1 4 76 (Qj ?_))
 refine VC.cond rfl (fun hc42=>?_) (fun hc42=>?_)
 · first | (refine absurd ?_ hc42;rw [e0.kl];done) | (refine absurd ?_ hc42;rw [e0.fr];done) | exact absurd rfl hc42 | exact absurd (decide_eq_decide.2 (by (rw [e0.fr];done))) hc42 | (refine absurd ?_ hc42;simp only [e0.kl];done)
 refine VC.skip (Qj (VC.seq (VC.rs (VO.as (VO.k5 0 1 4 5 76 (VC.block ?_))))))
 refine VC.loop (G:=Nat × Mem) (fun g=>[(5,.int .i64 ((((g.1):Nat):Int))),(0,.pointer (some ⟨g0,0,none⟩)),(1,.slice A1 (d1.length) (c1)),(76,.bool (decide (¬ (decide (D_.1=true∧D_.2.1=false))=(decide ((Qc R_).1=true∧(Qc R_).2.1=false)))))]) (fun g=>[(141,(g.2)),(0,JY (wm W) (m0))]) (fun g=>((g.1)≤d1.length)∧(Ow (.ptr Zf) (g.2) [.pointer (some ⟨g0,0,none⟩)] (g0,((some gd_),(gw_,((gd_,D_),br_,l_)),(some gr_),(gx_,(true,(gr_,R_),k_,bx_)))))) (fun g=>d1.length - (g.1)) (0,mc41) (⟨by (dsimp only;omega),ho41⟩) ⟨esn,fun _ h=>h.sub [141,0]⟩ ?_
 rintro ⟨k,p_m⟩ ⟨hk,h_p⟩
 replace hk:k≤d1.length:=hk
 replace h_p:Ow (.ptr Zf) p_m [.pointer (some ⟨g0,0,none⟩)] (g0,((some gd_),(gw_,((gd_,D_),br_,l_)),(some gr_),(gx_,(true,(gr_,R_),k_,bx_)))):=h_p
 show VC _ _ _ _ _ [(5,.int .i64 (((k:Nat):Int))),(0,.pointer (some ⟨g0,0,none⟩)),(1,.slice A1 (d1.length) (c1)),(76,.bool (decide (¬ (decide (D_.1=true∧D_.2.1=false))=(decide ((Qc R_).1=true∧(Qc R_).2.1=false)))))] [(141,p_m),(0,JY (wm W) (m0))]
 refine VC.seq (VC.rs (VO.mv (VO.mv (VO.z (.lenS rfl QlW) (VO.z (.lss rfl rfl) (VO.k5 0 1 5 76 80 ?_))))))
 refine VC.cond rfl (fun hc43=>?_) (fun hc43=>?_)
 refine VC.skip (Qj (VC.seq (VC.block (VC.seq ?_))))
 obtain ⟨q44_E,q44_n1,q44_n3,_,q44_S,q44_1,q44_3⟩:=Jf (x0:=(some gd_)) (x1:=(gw_,((gd_,D_),br_,l_))) (x2:=(some gr_)) (x3:=(gx_,(true,(gr_,R_),k_,bx_))) h_p
 dsimp only at q44_1
 dsimp only at q44_3
 refine VC.inv _ (fun _ h=>h.parts (i:=141) rfl q44_S [147,145,146]) ?_
 refine VC.regD _ 15 [(0,true),(1,true),(2,true),(3,true),(4,true),(5,true),(6,true),(7,true),(8,false),(9,true),(10,true),(11,true),(12,true),(13,true),(14,true)] follows (by kernel_rfl) (fun _ h=>h.sub [147,146,0]) ?_
 refine VD.z rfl (.mv rfl) (VD.z rfl (.nilp rfl) (VD.z rfl (.fa rfl Yh rfl) (VD.z rfl (.ld1 147 rfl QlZ rfl (Qa rfl rfl)) (VD.z rfl (.mv rfl) (VD.z rfl (.mv rfl) ?_)))))
 obtain ⟨x48,hx48⟩:∃ z_,(d1)[k]? =some z_:=⟨_,List.getElem?_eq_getElem bd⟩
 obtain ⟨gg48,oo48,ec48,ea48,hce48,hre48⟩:=h1.elem hx48
 cases ea48
 obtain ⟨rfl,q48⟩:=hre48
 have q48':=q48;simp only [maxLen] at q48'
 refine VD.z rfl (.ixI k rfl rfl QlW rfl bd) ?_
 refine VD.z rfl (.ld1 0 rfl tk9 rfl hce48) ?_
 obtain ⟨q50_E,q50_A2,q50_c2,q50_n0,q50_n2,_,q50_S,q50_0,q50_2⟩:=Ja (x0:=(gd_,D_)) (x1:=br_) (x2:=l_) q44_1
 dsimp only at q50_0
 have q50_r2:=q50_2.rm
 refine VD.inv _ (fun _ h=>h.parts (i:=145) rfl q50_S [153,151,152]) ?_
 refine VD.call 153 rfl rfl (.inl rfl) Qnk rfl rfl (fun _ _ h=>h.sub [147,146,0]) (fun W hW=>QjX W (d0:=((some gd_),br_,l_)) (hW.t 153) (Ow.rd q50_2 (hW.o 153 152)) x48 bdm Qd (by first | assumption | simp)) (fun v49 m49 hv49=>?_)
 try dsimp only at hv49
 obtain ⟨rfl,rfl⟩:=hv49
 refine VD.z rfl (.mv rfl) (VD.z rfl (.ext rfl rfl) (VD.z rfl (.ext rfl rfl) (VD.z rfl (.ext rfl rfl) (VD.z rfl (.as rfl) (VD.z rfl (.as rfl) ?_)))))
 refine VD.nil rfl ?_ rfl
 refine VO.as ?_
 refine VO.clsP 154 [153,151,152] rfl (fun hg54=>(Jj _ _ _ hg54 q50_0 q50_2)) (fun mc54 ho54=>?_)
 refine VO.clsP 155 [147,154,146] rfl (fun hg55=>(Jo _ _ _ _ hg55 ho54 q44_3)) (fun mc55 ho55=>?_)
 refine VO.p2 155 0 (VO.k8 0 1 5 6 7 8 76 80 (Qj (VC.seq ?_)))
 obtain ⟨q56_E,q56_n1,q56_n3,_,q56_S,q56_1,q56_3⟩:=Jf (x0:=(some gd_)) (x1:=(gw_,((gd_,D_),br_,l_))) (x2:=(some gr_)) (x3:=(gx_,(true,(gr_,R_),k_,bx_))) ho55
 dsimp only at q56_1
 dsimp only at q56_3
 refine VC.inv _ (fun _ h=>h.parts (i:=155) rfl q56_S [159,157,158]) ?_
 refine VC.regD _ 15 [(0,true),(1,true),(2,true),(3,true),(4,true),(5,true),(6,true),(7,true),(8,false),(9,true),(10,true),(11,true),(12,true),(13,true),(14,true)] follows (by kernel_rfl) (fun _ h=>h.sub [159,157,0]) ?_
 refine VD.z rfl (.mv rfl) (VD.z rfl (.nilp rfl) (VD.z rfl (.fa rfl Yh rfl) (VD.z rfl (.ld1 159 rfl QlY rfl (Qa rfl rfl)) (VD.z rfl (.mv rfl) (VD.z rfl (.mv rfl) ?_)))))
 refine VD.z rfl (.ixI k rfl rfl QlW rfl bd) ?_
 refine VD.z rfl (.ld1 0 rfl tk9 rfl hce48) ?_
 refine VD.call 158 rfl rfl (.inl rfl) fnOk41 rfl rfl (fun _ _ h=>h.sub [159,157,0]) (fun W hW=>QnD W (hW.t 158) q56_3 x48 bdm Qd) (fun v61 m61 hv61=>?_)
 try dsimp only at hv61
 obtain ⟨rfl,w61_0⟩:=hv61
 refine VD.z rfl (.mv rfl) (VD.z rfl (.ext rfl rfl) (VD.z rfl (.ext rfl rfl) (VD.z rfl (.ext rfl rfl) (VD.z rfl (.as rfl) (VD.z rfl (.as rfl) ?_)))))
 refine VD.nil rfl ?_ rfl
 refine VO.as ?_
 refine VO.clsP 162 [159,157,158] rfl (fun hg62=>(Jo _ _ _ _ hg62 q56_1 w61_0)) (fun mc62 ho62=>?_)
 refine VO.k11 0 1 5 6 7 8 9 10 11 76 80 (Qj (VC.rs (VO.mv (VO.mv (VO.z (.sneq rfl rfl) (VO.mv ?_))))))
 refine VO.dec (t:=112) rfl (fun hc63=>?_) (fun hc63=>?_)
 · first | (refine absurd ?_ hc63;rw [e0.kl];done) | (refine absurd ?_ hc63;rw [e0.fr];done) | exact absurd rfl hc63 | exact absurd (decide_eq_decide.2 (by (rw [e0.fr];done))) hc63 | (refine absurd ?_ hc63;simp only [e0.kl];done)
 refine VO.w (.mv rfl) (VO.w (.mv rfl) ?_)
 refine VO.w (.bneq rfl rfl Tryz.underlying4) ?_
 refine VO.z (.pF rfl rfl) (VO.mv ?_)
 refine VO.dec (t:=117) rfl (fun hc64=>?_) (fun hc64=>?_)
 · first | (refine absurd ?_ hc64;rw [e0.kl];done) | (refine absurd ?_ hc64;rw [e0.fr];done) | exact absurd rfl hc64 | exact absurd (decide_eq_decide.2 (by (rw [e0.fr];done))) hc64 | (refine absurd ?_ hc64;simp only [e0.kl];done)
 refine VO.w (.mv rfl) (VO.w (.mv rfl) ?_)
 refine VO.w (.bneq rfl rfl Tryz.underlying4) ?_
 refine VO.z (.pF rfl rfl) (VO.k12 0 1 5 6 7 8 9 10 11 76 80 121 ?_)
 refine VC.cond rfl (fun hc65=>?_) (fun hc65=>?_)
 · first | (refine absurd ?_ hc65;rw [e0.kl];done) | (refine absurd ?_ hc65;rw [e0.fr];done) | exact absurd rfl hc65 | exact absurd (decide_eq_decide.2 (by (rw [e0.fr];done))) hc65 | (refine absurd ?_ hc65;simp only [e0.kl];done)
 refine VC.skip (JE (Qj ?_))
 refine VC.reg ?_
 refine VO.mv ?_
 refine VO.z (.add (c:=((k+1:Nat):Int)) rfl rfl Qx ⟨bd,bd⟩) ?_
 refine VO.as (VO.p2 162 0 (VO.k12 0 1 5 6 7 8 9 10 11 76 80 121 ?_))
 exact Qj ⟨⟨k+1,mc62⟩,⟨by (dsimp only;omega),ho62⟩,by (dsimp only;omega),⟨esn,fun _ h=>Inv.sub (Inv.num h 162 141 rfl) [141,0]⟩⟩
 · refine VC.exit (Zc (Zc (Zd (Qj (VC.rs (VO.as (VO.p2 141 0 (VO.k6 0 1 4 5 76 80 (VC.ret ?_)))))))))
   exact ZA 4 141 rfl h_p (by first | rfl | (simp [*];done)) (by first | rfl | (rfl))
def exR : Zn := (1, 2, [(false, [97], []), (true, [98], [49])])
def Qns : Zn := (3, 3, [(true, [97], [57])])
def exBy : Qm := [1, 2, 2, 0, 1, 97, 1, 1, 98, 1, 49]
theorem Qao {x:Nat} (h:x < 128):ZK x=[UInt8.ofNat x]:=by rw [QbT h,QkI]
theorem Qi0:YQ exR=exBy:=by
 simp only [YQ,exR,QbJ,List.map_cons,List.map_nil,List.flatten_cons,List.flatten_nil,List.length_cons,List.length_nil,Int.toNat_one,show Int.toNat 2=2 from rfl]
 rw [Qao (x:=1) (by decide),Qao (x:=2) (by decide)];decide
theorem Qlm:YQ Qns=[3,3,1,1,1,97,1,57]:=by
 simp only [YQ,Qns,QbJ,List.map_cons,List.map_nil,List.flatten_cons,List.flatten_nil,List.length_cons,List.length_nil,show Int.toNat 3=3 from rfl]
 rw [Qao (x:=3) (by decide),Qao (x:=0+1) (by decide)];decide
theorem Qll:Xv exR=11::exBy:=by
 unfold Xv Qg8;rw [Qi0,Qao (by decide)];rfl
theorem QjF:Xv Qns=[8,3,3,1,1,1,97,1,57]:=by
 unfold Xv Qg8;rw [Qlm,Qao (by decide)];rfl
def Qou : QK := (Zx (Q7 X7 2 (11 :: exBy)).1).1
def ruD2 : QK := (Zx (Q7 Qou 2 [8, 3, 3, 1, 1, 1, 97, 1, 57]).1).1
theorem ruE:Qh exR=(exBy,0):=by unfold Qh;rw [if_pos (by decide),Qi0]
theorem ru0:JL X7=(X7,0):=by decide+kernel
theorem Qb4:(Yg (Je X7 2).1).1=[]:=by decide+kernel
theorem ru1:QJ X7 false [] exR=((Qou,false,[exR]),0):=by
 unfold QJ;rw [if_neg (by decide),if_neg (by decide),if_neg (by decide),Qll,if_neg (by decide+kernel),if_neg (by decide+kernel)];rfl
theorem ru2:QJ Qou false [exR] (4,4,[])=((Qou,false,[exR]),15):=by
 unfold QJ;rw [if_neg (by decide+kernel),if_neg (by decide),if_pos (by decide)]
theorem ru3:QJ Qou false [exR] (3,3,[(true,[97],[57])])=((ruD2,false,[exR,Qns]),0):=by
 show QJ Qou false [exR] Qns=_
 unfold QJ;rw [if_neg (by decide+kernel),if_neg (by decide),if_neg (by decide),QjF,if_neg (by decide+kernel),if_neg (by decide+kernel)];rfl
theorem Qcz:QgX [exR] [98]=([49],true,true):=by decide
theorem Qcy:QgX [exR,Qns] [97]=([57],true,true):=by decide
theorem Qcx:QgX [exR,Qns] [98]=([49],true,true):=by decide
theorem Qcw:QgX [exR,Qns] [99]=([],false,false):=by decide
theorem Qcv:QX [exR]=2:=by decide
theorem QcC:QF (2,1,[])=2:=by decide
theorem QcB:QF (1,1,[(true,[98],[]),(true,[97],[])])=2:=by decide
theorem QcA (x:DOp):QF (1,1,List.replicate 1025 x)=3:=if_pos (by rw [List.length_replicate];decide)
theorem Qnm:JX Tryz.prog 14=true:=by kernel_rfl
theorem fnOk6:JX Tryz.prog 6=true:=by kernel_rfl
theorem Qdk (W:World):Qg Tryz.prog 14 [] W (Qr) (fun v m'=>∃ (s0:List Value),v= .agg s0.toArray∧Ow ZL m' s0 (exR)):=by
 refine Qg.ofA (n:=5) Tryz.func14 rfl rfl rfl ?_
 refine VC.rs ?_
 refine VO.alloc 102 rfl X6 (fun g1=>?_)
 refine VO.k1 0 (VC.rs ?_)
 refine VO.z (.bst (cs:=[.bool false,str ([97]),str ([])]) rfl JM XB rfl) ?_
 refine VO.z (.bst (cs:=[.bool true,str ([98]),str ([49])]) rfl JM XB rfl) ?_
 refine VO.bsl (cs:=[.bool false,str ([97]),str ([]),.bool true,str ([98]),str ([49])]) 104 rfl rfl Ji XB rfl rfl (fun g3=>?_)
 refine VO.z (.bst (cs:=[.int .i64 (1),.int .i64 (2),.slice (some ⟨g3,0,none⟩) (2) (2)]) rfl Jl X6 rfl) ?_
 refine VO.store (k:=3) (c':=[.int .i64 (1),.int .i64 (2),.slice (some ⟨g3,0,none⟩) (2) (2)]) 102 rfl rfl (.inl Yx) rfl rfl rfl rfl rfl ?_
 refine VO.k1 0 (VC.ret ?_)
 have ho5:Qz TOp (QE g3 (.cells [Value.bool false,str ([97]),str ([]),Value.bool true,str ([98]),str ([49])].toArray 73 (0,0))) Qr (Value.slice (some ⟨g3,0,none⟩) (2) (2)) [(false,[97],[]),(true,[98],[49])]:=Qz.lit 2 (QV.cons (c1:=[Value.bool false,str ([97]),str ([])]) (Xl (m:=_) false ([97]) [] bdm bdm) (QV.cons (c1:=[Value.bool true,str ([98]),str ([49])]) (Xl (m:=_) true ([98]) ([49]) bdm bdm) QV.nil)) rfl rfl
 refine ⟨_,_,Q8 (rs:=[.cell 0 38]) rfl (.agg 102 rfl Yx rfl ⟨_,_,_,Qq _ _,Nat.le_of_ble_eq_true rfl,rfl⟩ .nil),fun W_ hI=>JC (l:=[QE g3 (.cells #[.bool false,str ([97]),str ([]),.bool true,str ([98]),str ([49])] 73 (0,0))]) hI [104] rfl rfl (Qb _) (fun hS_=>?_)⟩
 dsimp only [Qv]
 have he0:(exR:Ty.Den ZL)=(1,2,[(false,[97],[]),(true,[98],[49])]):=by first | rfl | (simp [*];done)
 refine ⟨[.int .i64 (1),.int .i64 (2),.slice (some ⟨g3,0,none⟩) (2) (2)],?_,?_⟩
 rotate_left
 ·rw [he0];exact (ZC _ _ _ hS_ bdk bdk (Qz.ow ho5 rfl))
 all_goals (first | rfl | (simp [*];done))
set_option maxHeartbeats 4000000 in
theorem QjB (W:World):Qg Tryz.prog 4 [] W (Qr) (fun v m'=>v= .bool true):=by
 refine Qg.ofA (n:=59) Tryz.func4 rfl rfl rfl ?_
 refine VC.rs (VO.as (VO.k1 0 (VC.rs ?_)))
 refine VO.callN 101 rfl Qnm rfl (fun W hW=>Qdk W) (fun v1 m1 hv1=>?_)
 obtain ⟨s1_0,rfl,f1_0⟩:=hv1
 obtain ⟨q1_0_A2,q1_0_c2,q1_0_n2,rfl,q1_0_S,q1_0_0,q1_0_1,q1_0_2⟩:=Y2 (x0:=exR.1) (x1:=exR.2.1) (x2:=exR.2.2) f1_0
 simp only [inK] at q1_0_0 q1_0_1
 have q1_0_r2:=q1_0_2.rm
 refine VO.inv _ (fun _ h=>h.parts (i:=101) rfl q1_0_S [102]) ?_
 refine VO.callN 103 rfl Qnn rfl (fun W hW=>Qc8 W (show Rd ZL _ _ exR from (Qce (m:=wm W) exR.1 exR.2.1 exR.2.2 bdk bdk (Ow.rd q1_0_2 (hW.t 102))))) (fun v3 m3 hv3=>?_)
 obtain ⟨s3_0,rfl,f3_0⟩:=hv3
 have hfa4:=QaM exR
 obtain ⟨A3_0,c3_0,eq3_0,l3_0,k3_0⟩:=f3_0.slc
 subst eq3_0
 refine VO.mv (VO.z (.ext rfl rfl) (VO.z (.ext rfl rfl) (VO.as (VO.as (VO.k3 0 1 2 (VC.rs ?_))))))
 refine VO.callN 105 rfl fnOk6 rfl (fun W hW=>Qlt W) (fun v5 m5 hv5=>?_)
 obtain ⟨s5_0,rfl,f5_0⟩:=hv5
 have hfa6:=QcY
 have hfa7:=(show wD X7=0 from rfl)
 by_cases hsp8:(JL X7).2=0
 refine VO.call 105 rfl QiX rfl rfl (fun W hW=>QdP W (hW.t 105) f5_0 Qd (by first | (simp only [ru0,Qb4,ru1,ru2,ru3,ruE,Qcz,Qcy,Qcx,Qcw,Qcv,QcC,QcB,QcA];decide+kernel) | decide+kernel) Qd) (fun v9 m9 hv9=>?_)
 obtain ⟨s9_0,rfl,f9_0⟩:=hv9
 have hfa10:=(QaH (show okD X7 by assumption))
 have hfa11:=(QaG (show okD X7 by assumption))
 have hfa12:=(Qa3 (Je X7 2).1).1
 refine VO.mv (VO.z (.ext rfl rfl) (VO.z (.ext rfl rfl) (VO.as (VO.as (VO.p3 105 103 0 (VO.k5 0 1 2 3 4 (VC.seq (VC.rs (VO.mv (VO.z (.neq rfl rfl) (VO.mv ?_)))))))))))
 refine VO.dec (t:=20) rfl (fun hc13=>?_) (fun hc13=>?_)
 · first | exact absurd rfl hc13 | exact absurd (by first | rfl | decide | (simp only [ru0,Qb4,ru1,ru2,ru3,ruE,Qcz,Qcy,Qcx,Qcw,Qcv,QcC,QcB,QcA];first | done | rfl | decide | omega)) hc13 | exact absurd hc13 (by first | decide | (simp only [ru0,Qb4,ru1,ru2,ru3,ruE,Qcz,Qcy,Qcx,Qcw,Qcv,QcC,QcB,QcA];first | done | rfl | decide | omega)) | (simp only [ru0,Qb4,ru1,ru2,ru3,ruE,Qcz,Qcy,Qcx,Qcw,Qcv,QcC,QcB,QcA] at hc13;first | done | exact absurd hc13 (by decide) | exact absurd rfl hc13)
 refine VO.w (.mv rfl) (VO.w (.neq rfl rfl) (VO.z (.pF rfl rfl) (VO.mv ?_)))
 refine VO.dec (t:=24) rfl (fun hc14=>?_) (fun hc14=>?_)
 · first | exact absurd rfl hc14 | exact absurd (by first | rfl | decide | (simp only [ru0,Qb4,ru1,ru2,ru3,ruE,Qcz,Qcy,Qcx,Qcw,Qcv,QcC,QcB,QcA];first | done | rfl | decide | omega)) hc14 | exact absurd hc14 (by first | decide | (simp only [ru0,Qb4,ru1,ru2,ru3,ruE,Qcz,Qcy,Qcx,Qcw,Qcv,QcC,QcB,QcA];first | done | rfl | decide | omega)) | (simp only [ru0,Qb4,ru1,ru2,ru3,ruE,Qcz,Qcy,Qcx,Qcw,Qcv,QcC,QcB,QcA] at hc14;first | done | exact absurd hc14 (by decide) | exact absurd rfl hc14)
 refine VO.w (.mv rfl) ?_
 refine VO.w (.pnil rfl rfl Tryz.underlying31 rfl) ?_
 refine VO.z (.pF rfl rfl) (VO.mv (VO.w (.mv rfl) ?_))
 refine VO.gbsl (cs:=[Value.int .u8 (1),Value.int .u8 (2),Value.int .u8 (2),Value.int .u8 (0),Value.int .u8 (1),Value.int .u8 (97),Value.int .u8 (1),Value.int .u8 (1),Value.int .u8 (98),Value.int .u8 (1),Value.int .u8 (49)]) 116 rfl ⟨_,rfl,rfl⟩ rfl Q0 tz5 rfl rfl (fun g15=>?_)
 have ho18:Qz .byte (QE g15 (.cells [Value.int .u8 (1),Value.int .u8 (2),Value.int .u8 (2),Value.int .u8 (0),Value.int .u8 (1),Value.int .u8 (97),Value.int .u8 (1),Value.int .u8 (1),Value.int .u8 (98),Value.int .u8 (1),Value.int .u8 (49)].toArray 5 (0,0))) Qr (Value.slice (some ⟨g15,0,none⟩) (11) (11)) [UInt8.ofNat 1,UInt8.ofNat 2,UInt8.ofNat 2,UInt8.ofNat 0,UInt8.ofNat 1,UInt8.ofNat 97,UInt8.ofNat 1,UInt8.ofNat 1,UInt8.ofNat 98,UInt8.ofNat 1,UInt8.ofNat 49]:=Qz.lit 11 (QV.cons (c1:=[Value.int .u8 (1)]) (ZE bd) (QV.cons (c1:=[Value.int .u8 (2)]) (ZE bd) (QV.cons (c1:=[Value.int .u8 (2)]) (ZE bd) (QV.cons (c1:=[Value.int .u8 (0)]) (ZE bd) (QV.cons (c1:=[Value.int .u8 (1)]) (ZE bd) (QV.cons (c1:=[Value.int .u8 (97)]) (ZE bd) (QV.cons (c1:=[Value.int .u8 (1)]) (ZE bd) (QV.cons (c1:=[Value.int .u8 (1)]) (ZE bd) (QV.cons (c1:=[Value.int .u8 (98)]) (ZE bd) (QV.cons (c1:=[Value.int .u8 (1)]) (ZE bd) (QV.cons (c1:=[Value.int .u8 (49)]) (ZE bd) QV.nil))))))))))) rfl rfl
 refine VO.gcallN 117 rfl ⟨_,rfl,rfl⟩ Qnl rfl (fun W hW=>Qdn W (Ow.rd f3_0 (hW.t 103)) (Qz.rd ho18 (hW.t 116) (Jr _))) (fun v17 m17 hv17=>?_)
 subst hv17
 refine VO.w (.notD rfl) (VO.z (.pF rfl rfl) (VO.mv ?_))
 refine VO.dec (t:=34) rfl (fun hc19=>?_) (fun hc19=>?_)
 · first | exact absurd rfl hc19 | exact absurd (by first | rfl | decide | (simp only [ru0,Qb4,ru1,ru2,ru3,ruE,Qcz,Qcy,Qcx,Qcw,Qcv,QcC,QcB,QcA];first | done | rfl | decide | omega)) hc19 | exact absurd hc19 (by first | decide | (simp only [ru0,Qb4,ru1,ru2,ru3,ruE,Qcz,Qcy,Qcx,Qcw,Qcv,QcC,QcB,QcA];first | done | rfl | decide | omega)) | (simp only [ru0,Qb4,ru1,ru2,ru3,ruE,Qcz,Qcy,Qcx,Qcw,Qcv,QcC,QcB,QcA] at hc19;first | done | exact absurd hc19 (by decide) | exact absurd rfl hc19)
 refine VO.w (.mv rfl) ?_
 refine VO.gcallN 120 rfl ⟨_,rfl,rfl⟩ Qnm rfl (fun W hW=>Qdk W) (fun v20 m20 hv20=>?_)
 obtain ⟨s20_0,rfl,f20_0⟩:=hv20
 obtain ⟨q20_0_A2,q20_0_c2,q20_0_n2,rfl,q20_0_S,q20_0_0,q20_0_1,q20_0_2⟩:=Y2 (x0:=exR.1) (x1:=exR.2.1) (x2:=exR.2.2) f20_0
 simp only [inK] at q20_0_0 q20_0_1
 have q20_0_r2:=q20_0_2.rm
 refine VO.inv _ (fun _ h=>h.parts (i:=120) rfl q20_0_S [121]) ?_
 refine VO.gcall 105 rfl ⟨_,rfl,rfl⟩ Qk9 rfl rfl (fun W hW=>QdQ W (hW.t 105) f9_0 (show Rd ZL _ _ exR from (Qce (m:=JY (wm W) (m9)) exR.1 exR.2.1 exR.2.2 bdk bdk (Ow.rd q20_0_2 (hW.o 105 121)))) Qd (by first | (simp only [ru0,Qb4,ru1,ru2,ru3,ruE,Qcz,Qcy,Qcx,Qcw,Qcv,QcC,QcB,QcA];decide+kernel) | decide+kernel) Qd) (fun v22 m22 hv22=>?_)
 try dsimp only at hv22
 obtain ⟨rfl,w22_0⟩:=hv22
 have hfa23:=(Qck (br:=false) (l:=((Yg (Je X7 2).1).1)) (x:=exR) (show okD ((JL X7).1) by assumption))
 have hfa24:=(Qc1 (br:=false) (l:=((Yg (Je X7 2).1).1)) (x:=exR) (show okD ((JL X7).1) by assumption))
 have hfa25:=(QaA (d:=((JL X7).1)) (br:=false) (x:=exR) (show okU ((Yg (Je X7 2).1).1) by assumption))
 refine VO.w (.neq rfl rfl) (VO.z (.pF rfl rfl) (VO.k6 0 1 2 3 4 39 ?_))
 refine VC.cond rfl (fun hc26=>?_) (fun hc26=>?_)
 · first | exact absurd rfl hc26 | exact absurd (by first | rfl | decide | (simp only [ru0,Qb4,ru1,ru2,ru3,ruE,Qcz,Qcy,Qcx,Qcw,Qcv,QcC,QcB,QcA];first | done | rfl | decide | omega)) hc26 | exact absurd hc26 (by first | decide | (simp only [ru0,Qb4,ru1,ru2,ru3,ruE,Qcz,Qcy,Qcx,Qcw,Qcv,QcC,QcB,QcA];first | done | rfl | decide | omega)) | (simp only [ru0,Qb4,ru1,ru2,ru3,ruE,Qcz,Qcy,Qcx,Qcw,Qcv,QcC,QcB,QcA] at hc26;first | done | exact absurd hc26 (by decide) | exact absurd rfl hc26)
 refine VC.skip (Qj (VC.rs (VO.mv ?_)))
 obtain ⟨q28_E,q28_A2,q28_c2,q28_n0,q28_n2,_,q28_S,q28_0,q28_2⟩:=Ja (x0:=(s5_0,(QJ ((JL X7).1) false ((Yg (Je X7 2).1).1) exR).1.1)) (x1:=(QJ ((JL X7).1) false ((Yg (Je X7 2).1).1) exR).1.2.1) (x2:=(QJ ((JL X7).1) false ((Yg (Je X7 2).1).1) exR).1.2.2) w22_0
 dsimp only at q28_0
 have q28_r2:=q28_2.rm
 refine VO.inv _ (fun _ h=>h.parts (i:=105) rfl q28_S [131,129,130]) ?_
 refine VO.call 131 rfl Qnk rfl rfl (fun W hW=>QjX W (d0:=((some s5_0),(QJ ((JL X7).1) false ((Yg (Je X7 2).1).1) exR).1.2)) (hW.t 131) (Ow.rd q28_2 (hW.o 131 130)) ([98]) bdm Qd (by first | assumption | simp)) (fun v27 m27 hv27=>?_)
 try dsimp only at hv27
 obtain ⟨rfl,rfl⟩:=hv27
 refine VO.mv (VO.z (.ext rfl rfl) (VO.z (.ext rfl rfl) (VO.z (.ext rfl rfl) (VO.as (VO.as (VO.as ?_))))))
 refine VO.clsP 132 [131,129,130] rfl (fun hg32=>(Jj _ _ _ hg32 q28_0 q28_2)) (fun mc32 ho32=>?_)
 refine VO.k9 0 1 2 3 4 5 6 7 39 (VC.rs (VO.mv ?_))
 refine VO.call 132 rfl Qk8 rfl rfl (fun W hW=>Qhr W (hW.t 132) ho32 Qd) (fun v33 m33 hv33=>?_)
 try dsimp only at hv33
 obtain ⟨rfl,w33_0⟩:=hv33
 refine VO.z (.eql rfl rfl) (VO.mv ?_)
 refine VO.dec (t:=49) rfl (fun hc34=>?_) (fun hc34=>?_)
 refine VO.w (.mv rfl) (VO.w (.seql rfl rfl) (VO.z (.pT rfl rfl) (VO.mv ?_)))
 refine VO.dec (t:=53) rfl (fun hc35=>?_) (fun hc35=>?_)
 refine VO.w (.mv rfl) (VO.z (.pT rfl rfl) (VO.mv ?_))
 refine VO.decB (t:=56) rfl (fun hc36=>?_) (fun hc36=>?_)
 · refine VO.w (.mv rfl) (VO.z (.pT rfl rfl) (VO.as (VO.p3 132 103 0 (VO.k9 0 1 2 3 4 5 6 7 39 (VC.ret ?_)))))
   exact Xz 0 rfl (by first | rfl | (first | exact congrArg Value.bool (decide_eq_true (by (simp only [ru0,Qb4,ru1,ru2,ru3,ruE,Qcz,Qcy,Qcx,Qcw,Qcv,QcC,QcB,QcA];first | done | rfl | decide | omega))) | (show Value.bool _=Value.bool true;simp only [ru0,Qb4,ru1,ru2,ru3,ruE,Qcz,Qcy,Qcx,Qcw,Qcv,QcC,QcB,QcA];done) | rfl))
 · first | exact absurd rfl hc36 | exact absurd (by first | rfl | decide | (simp only [ru0,Qb4,ru1,ru2,ru3,ruE,Qcz,Qcy,Qcx,Qcw,Qcv,QcC,QcB,QcA];first | done | rfl | decide | omega)) hc36 | exact absurd hc36 (by first | decide | (simp only [ru0,Qb4,ru1,ru2,ru3,ruE,Qcz,Qcy,Qcx,Qcw,Qcv,QcC,QcB,QcA];first | done | rfl | decide | omega)) | (simp only [ru0,Qb4,ru1,ru2,ru3,ruE,Qcz,Qcy,Qcx,Qcw,Qcv,QcC,QcB,QcA] at hc36;first | done | exact absurd hc36 (by decide) | exact absurd rfl hc36)
 · first | exact absurd rfl hc35 | exact absurd (by first | rfl | decide | (simp only [ru0,Qb4,ru1,ru2,ru3,ruE,Qcz,Qcy,Qcx,Qcw,Qcv,QcC,QcB,QcA];first | done | rfl | decide | omega)) hc35 | exact absurd hc35 (by first | decide | (simp only [ru0,Qb4,ru1,ru2,ru3,ruE,Qcz,Qcy,Qcx,Qcw,Qcv,QcC,QcB,QcA];first | done | rfl | decide | omega)) | (simp only [ru0,Qb4,ru1,ru2,ru3,ruE,Qcz,Qcy,Qcx,Qcw,Qcv,QcC,QcB,QcA] at hc35;first | done | exact absurd hc35 (by decide) | exact absurd rfl hc35)
 · first | exact absurd rfl hc34 | exact absurd (by first | rfl | decide | (simp only [ru0,Qb4,ru1,ru2,ru3,ruE,Qcz,Qcy,Qcx,Qcw,Qcv,QcC,QcB,QcA];first | done | rfl | decide | omega)) hc34 | exact absurd hc34 (by first | decide | (simp only [ru0,Qb4,ru1,ru2,ru3,ruE,Qcz,Qcy,Qcx,Qcw,Qcv,QcC,QcB,QcA];first | done | rfl | decide | omega)) | (simp only [ru0,Qb4,ru1,ru2,ru3,ruE,Qcz,Qcy,Qcx,Qcw,Qcv,QcC,QcB,QcA] at hc34;first | done | exact absurd hc34 (by decide) | exact absurd rfl hc34)
 · first | exact absurd rfl hsp8 | exact absurd (by first | rfl | decide | (simp only [ru0,Qb4,ru1,ru2,ru3,ruE,Qcz,Qcy,Qcx,Qcw,Qcv,QcC,QcB,QcA];first | done | rfl | decide | omega)) hsp8 | exact absurd hsp8 (by first | decide | (simp only [ru0,Qb4,ru1,ru2,ru3,ruE,Qcz,Qcy,Qcx,Qcw,Qcv,QcC,QcB,QcA];first | done | rfl | decide | omega)) | (simp only [ru0,Qb4,ru1,ru2,ru3,ruE,Qcz,Qcy,Qcx,Qcw,Qcv,QcC,QcB,QcA] at hsp8;first | done | exact absurd hsp8 (by decide) | exact absurd rfl hsp8)
section
variable {P : Program} {n : Nat} {w0 : World} {σ : Env} {Ω : Ctx} {ops : Array Oper} {K : Env → Ctx → Prop}
theorem Stp.appOs {e:Ty} {s x:Operand} {t xt et xe:TypeId} {b:Nat} {d:Option Nat} {gd:Option (Nat × Bool)} {ty:TypeId} {pos:String} {af:Array Edge} {v xv:Value} {xs ys:List e.Den} {z:List Value} (i j:Nat) {m mj:Mem} (hsv:ev σ s=some v) (hxv:ev σ x=some xv) (ht:tsl P t=some (et,e.sz,b)) (hz:tz P et=some z) (hzl:z.length=e.sz)
  (hm:Z6 Ω i=some m) (hj:Z6 (J5 Ω i) j=some mj) (hown:Ow (.sl e) m [v] xs) (hy:Ow (.sl e) mj [xv] ys) (hxt:P.underlying xt=some (.slice xe)) (hml:xs.length+ys.length≤maxLen) (hb:(xs.length+ys.length)*b≤140737488355328) (hb0:b≠0):
  Stp P n w0 σ Ω ⟨d,.call { callee:= .builtin .append,args:=[s,x].toArray,argTypes:=[t,xt].toArray },ty,pos,af,gd⟩ (fun v' Ω'=>∃ m',Ow (.sl e) m' [v'] (xs++ys)∧Ω'=(i,m')::J5 (J5 Ω i) j):=
 fun a W he hi K' Q hK=>by
  obtain ⟨m0,m1,rc,hS,hA,hL⟩:=hown.opn
  obtain ⟨j0,j1,rj,hSj,hAj,hLj⟩:=hy.opn
  obtain ⟨q1,q2,q3,q4,_⟩:=hi.gets (ids:=[i,j]) (l:=[m,mj]) (by simp [QaV,hm,hj])
  have dmj:mdj m mj:=by simpa using q1
  have d01:mdj m0 m1:=by have:=hS.2;simpa using this
  have l0:=hS.1 m0 (.head _)
  have l1:=hS.1 m1 (.tail _ (.head _))
  have lj0:=hSj.1 j0 (.head _)
  have lj1:=hSj.1 j1 (.tail _ (.head _))
  have d1j:mdj m1 j1:=dmj.mono l1 lj1
  have hnew:mdj m0 (mun m1 j1):=(Zk d01.symm (dmj.mono l0 lj1).symm).symm
  have hΩ2:Inv w0 ((i,m0)::(j,mun m1 j1)::J5 (J5 Ω i) j) W:=by
   have hdel:Inv w0 (J5 (J5 Ω i) j) W:=q4
   have f1:∀ p∈J5 (J5 Ω i) j,mdj m p.2:=fun p hp=>q3 m (.head _) p hp
   have f2:∀ p∈J5 (J5 Ω i) j,mdj mj p.2:=fun p hp=>q3 mj (.tail _ (.head _)) p hp
   refine ⟨hi.os,hi.tape,hi.output,hi.size,fun p hp=>?_,List.pairwise_cons.2 ⟨fun p hp=>?_,List.pairwise_cons.2 ⟨fun p hp=>?_,hdel.dj⟩⟩⟩
   ·rcases List.mem_cons.1 hp with rfl | hp
    ·exact l0.trans (hi.at hm)
    ·rcases List.mem_cons.1 hp with rfl | hp
     ·exact Yw (l1.trans (hi.at hm)) (lj1.trans (q2 mj (.tail _ (.head _))))
     ·exact hdel.le p hp
   ·rcases List.mem_cons.1 hp with rfl | hp
    ·exact hnew
    ·exact (f1 p hp).mono l0 (Qb _)
   ·exact Zk ((f1 p hp).mono l1 (Qb _)) ((f2 p hp).mono lj1 (Qb _))
  have hsrc:QmM P W e.sz xt xv ys.length rj:=by
   refine ⟨⟨_,hxt,by simp⟩,hAj.len_eq,fun W' hW=>?_,fun W'=>?_⟩
   ·by_cases h0:ys.length=0
    ·obtain ⟨A,c,rfl,_⟩:=hAj.slice
     have:rj=[]:=List.eq_nil_of_length_eq_zero (by rw [hAj.len_eq,h0];simp)
     subst this
     rw [h0]
     cases A <;> simp [Builtin.firstCells,loadCells,loadCellsFrom]
    ·obtain ⟨g,off,c,rfl,hc⟩:=hAj.cells h0
     refine Xs (hc.mono fun q o ho=>?_)
     have:=q2 mj (.tail _ (.head _)) q o (lj0 q o ho)
     unfold wm at this ⊢
     rw [hW];exact this
   ·obtain ⟨A,c,rfl,_⟩:=hAj.slice
    simp [Builtin.lenOf]
  refine Qja (i:=i) (m:=m0) (m0:=m0) he hΩ2 hsv hxv ht hz hzl (by simp [Z6]) (Qb _) hA hsrc (QV.nice (hLj.rd (Qb _))) hml hb hb0 fun v' m' W' hA' hi'=>?_
  have hc':QaD ((i,m0)::(j,mun m1 j1)::J5 (J5 Ω i) j) i m'=(i,m')::(j,mun m1 j1)::J5 (J5 Ω i) j:=by simp [QaD]
  rw [hc'] at hi'
  have hdj:mdj m' (mun m1 j1):=(List.pairwise_cons.1 hi'.dj).1 _ (.head _)
  have hall:JB (Ow e) (mun m1 j1) (rc++rj) (xs++ys):=JB.app d1j (QI _ _) (QM d1j) hL hLj
  have how:Ow (.sl e) (mun m' (mun m1 j1)) [v'] (xs++ys):=⟨v',m',mun m1 j1,rc++rj,rfl,hdj,QI _ _,QM hdj,by simpa using hA',hall⟩
  refine hK v' ((i,mun m' (mun m1 j1))::J5 (J5 Ω i) j) W' ⟨_,how,rfl⟩ ?_
  refine ⟨hi'.os,hi'.tape,hi'.output,hi'.size,fun p hp=>?_,List.pairwise_cons.2 ⟨fun p hp=>?_,(List.pairwise_cons.1 (List.pairwise_cons.1 hi'.dj).2).2⟩⟩
  ·rcases List.mem_cons.1 hp with rfl | hp
   ·exact Yw (hi'.le (i,m') (.head _)) (hi'.le (j,mun m1 j1) (.tail _ (.head _)))
   ·exact hi'.le p (.tail _ (.tail _ hp))
  ·exact Zk ((List.pairwise_cons.1 hi'.dj).1 p (.tail _ hp)) ((List.pairwise_cons.1 (List.pairwise_cons.1 hi'.dj).2).1 p hp)
theorem VD.appOs {tt q:Nat} {ss:List (Nat × Bool)} {ΩS:Ctx} {ty:TypeId} {pos:String} {af:Array Edge} {e:Ty} {s x:Operand} {t xt et xe:TypeId} {b dd:Nat} {v xv:Value} {xs ys:List e.Den} {z:List Value} (i j:Nat) {m mj:Mem} (hd:Nat.blt dd n=true) (ho:ops[q]? =some ⟨some dd,.call { callee:= .builtin .append,args:=[s,x].toArray,argTypes:=[t,xt].toArray },ty,pos,af,none⟩) (hsv:ev σ s=some v) (hxv:ev σ x=some xv) (ht:tsl P t=some (et,e.sz,b)) (hz:tz P et=some z) (hzl:z.length=e.sz)
  (hm:Z6 Ω i=some m) (hj:Z6 (J5 Ω i) j=some mj) (hown:Ow (.sl e) m [v] xs) (hy:Ow (.sl e) mj [xv] ys) (hxt:P.underlying xt=some (.slice xe)) (hml:xs.length+ys.length≤maxLen) (hb:(xs.length+ys.length)*b≤140737488355328) (hb0:b≠0) (hS:∀ m' W,Inv w0 ((i,m')::J5 (J5 Ω i) j) W→Inv w0 ΩS W)
  (h:∀ v' m',Ow (.sl e) m' [v'] (xs++ys)→VD P n w0 ops ΩS tt ss ((dd,v')::σ) ((i,m')::J5 (J5 Ω i) j) K):VD P n w0 ops ΩS tt ((q,false)::ss) σ Ω K:=
 VD.s (fun v=>(dd,v)::σ) ho (fun v _ he=>he.put hd v) (.inl rfl) (Stp.appOs i j hsv hxv ht hz hzl hm hj hown hy hxt hml hb hb0) (fun _ _ ⟨m',_,hΩ⟩ W hW=>hS m' W (by subst hΩ;exact hW)) (fun v _ ⟨m',hp,hΩ⟩=>hΩ ▸ h v m' hp)
end
end Go.Proofs.YtgmdjhdgaddigaaGreat
