/- Part 3 of the proof of LRunScript: what it needs of the library, the walks and the plain laws. Conditions: those named in each theorem. -/
import Derived.Test.YtgmdjhdgaddigaaGreatLRunScriptM2
set_option linter.unusedVariables false
set_option linter.unusedSimpArgs false
set_option maxRecDepth 4000
namespace Go.Proofs.YtgmdjhdgaddigaaGreat
theorem fnOk46:JX Tryz.prog 46=true:=by kernel_rfl
theorem QbD:tsl Tryz.prog 42=some (36,1,24):=by kernel_rfl
theorem tz36:tz Tryz.prog 36=some [.slice none 0 0]:=by kernel_rfl
theorem Jv {P:Prop} (h:P:=by first | exact bd | (have h_:=e0 _ (List.mem_of_getElem? (Qbl hl ‹l[_]? =some _›).1);omega) | (have h_:=e0 _ (List.mem_of_getElem? (Qbl hl ‹l[_]? =some _›).1);simp only [List.length_append,List.length_cons,List.length_nil] at*;omega)):P:=h
theorem Qjs (W:World) {m0:Mem} (hm:mle (m0) (wm W)) {v0:Value} {d0:List DOp} (h0:Ow (.sl TOp) m0 [v0] d0) (e0:∀ o∈d0,o.2.1.length≤140737488400000):Qg Tryz.prog 46 [v0] W (m0) (fun v m'=>v= .tuple #[]∧Ow (.sl TOp) m' [v0] (d0.map Qa8)):=by
 obtain ⟨A0,c0,e0_,l0,k0⟩:=h0.slc
 subst e0_
 refine Qg.ofB (n:=30) hm Tryz.func46 rfl rfl rfl ?_
 refine VC.rs (VO.mv (VO.z (.capS rfl Ji) (VO.as (VO.k2 0 2 (VC.seq (VC.rs (VO.as (VO.k3 0 2 3 (VC.block ?_)))))))))
 refine VC.loop (G:=Nat × (List DOp) × Mem) (fun g=>[(0,.slice A0 (d0.length) (c0)),(3,.int .i64 ((((g.1):Nat):Int))),(2,.int .i64 (((c0:Nat):Int)))]) (fun g=>[(0,JY (wm W) (m0)),(1,(g.2.2))]) (fun g=>((g.1)≤d0.length)∧((g.2.1)=(d0.take (g.1)).map Qa8++d0.drop (g.1))∧(Qz TOp (g.2.2) Qr (.slice A0 (d0.length) (c0)) (g.2.1))) (fun g=>d0.length - (g.1)) (0,d0,m0) (⟨by omega,by simp,(Ow.ownl h0 rfl Qr)⟩) ⟨esn,fun _ h=>h.sub [0,1]⟩ ?_
 rintro ⟨k,l,l_m⟩ ⟨hk,hl,h_l⟩
 replace hk:k≤d0.length:=hk
 replace hl:l=(d0.take k).map Qa8++d0.drop k:=hl
 replace h_l:Qz TOp l_m Qr (.slice A0 (d0.length) (c0)) l:=h_l
 show VC _ _ _ _ _ [(0,.slice A0 (d0.length) (c0)),(3,.int .i64 (((k:Nat):Int))),(2,.int .i64 (((c0:Nat):Int)))] [(0,JY (wm W) (m0)),(1,l_m)]
 have ll_l:=ZM (Qz.ow h_l rfl)
 refine VC.seq (VC.rs (VO.mv (VO.mv (VO.z (.lenS rfl Ji) (VO.z (.lss rfl rfl) (VO.p2 0 1 (VO.k4 0 2 3 9 ?_)))))))
 refine VC.cond rfl (fun hc1=>?_) (fun hc1=>?_)
 ·refine VC.skip (Qj (VC.seq (VC.block ?_)))
  refine VC.reg ?_
  refine VO.mv (VO.mv (VO.mv (VO.mv ?_)))
  obtain ⟨x2,hx2⟩:∃ z_,(l)[k]? =some z_:=⟨_,List.getElem?_eq_getElem Jv⟩
  obtain ⟨gg2,oo2,ec2,ea2,hce2,hre2⟩:=h_l.elem hx2
  cases ea2
  obtain ⟨rfl,q2_1,q2_2⟩:=JA (x0:=x2.1) (x1:=x2.2.1) (x2:=x2.2.2) hre2
  simp only [maxLen] at q2_1
  simp only [maxLen] at q2_2
  refine VO.z (.ixI k rfl rfl Ji rfl Jv) ?_
  refine VO.z (.fa rfl JM rfl) ?_
  refine VO.z (.ld1 1 rfl tk9 rfl (hce2.at1 (j:=1) rfl)) ?_
  refine VO.z (.scat rfl rfl Jv) ?_
  refine VO.z (.ixI k rfl rfl Ji rfl Jv) ?_
  refine VO.z (.fa rfl JM rfl) ?_
  refine VO.upd (e:=TOp) (k:=1) (i:=k) (x':=(x2.1,x2.2.1++([126]),x2.2.2)) 1 1 rfl rfl (.inr ⟨tk9,rfl⟩) rfl rfl rfl (Qz.ow h_l rfl) rfl hx2 rfl (fun mi ec he=>by obtain ⟨rfl,z1,z2⟩:=JA (x0:=x2.1) (x1:=x2.2.1) (x2:=x2.2.2) (he.rd (Qb _));exact Ow.of (m:=Qr) rfl (Xl x2.1 (x2.2.1++([126])) x2.2.2 (by simp only [maxLen];(exact Jv)) z2)) (fun mu4 hu4=>?_)
  have hl4:=ZM hu4
  refine VO.k4 0 2 3 9 (JE (Qj ?_))
  refine VC.reg ?_
  refine VO.mv ?_
  refine VO.z (.add (c:=((k+1:Nat):Int)) rfl rfl Qx ⟨by exact Jv,by exact Jv⟩) ?_
  refine VO.as (VO.k4 0 2 3 9 ?_)
  exact Qj ⟨⟨k+1,(l).set k (x2.1,x2.2.1++([126]),x2.2.2),mu4⟩,⟨by omega,by exact (Qbl (f:=Qa8) hl ‹l[k]? =some _›).2,(Ow.ownl hu4 rfl Qr)⟩,by exact Jv,⟨esn,fun _ h=>Inv.sub h [0,1]⟩⟩
 refine VC.exit (Zc (Zc (Zd (Qj (VC.block ?_)))))
 refine VC.loop (G:=(List DOp) × Mem × Nat) (fun g=>[(0,.slice A0 ((g.2.2)) (c0)),(2,.int .i64 (((c0:Nat):Int))),(3,.int .i64 (((k:Nat):Int))),(9,.bool (decide (((k:Nat):Int) < ((d0.length:Nat):Int))))]) (fun g=>[(0,JY (wm W) (m0)),(1,(g.2.1))]) (fun g=>(∃ j,(g.1)=d0.map Qa8++List.replicate j (false,[111,118,101,114],[]))∧((g.2.2)≤c0)∧(Qz TOp (g.2.1) Qr (.slice A0 ((g.2.2)) (c0)) (g.1))) (fun g=>c0 - (g.2.2)) (l,l_m,d0.length) (⟨by (exact ⟨0,by rw [hl,List.take_of_length_le Qx,List.drop_of_length_le Qx];simp⟩),by omega,h_l⟩) ⟨esn,fun _ h=>h.sub [0,1]⟩ ?_
 rintro ⟨l2,l2_m,l2_n⟩ ⟨hl2,hc,h_l2⟩
 replace hl2:∃ j,l2=d0.map Qa8++List.replicate j (false,[111,118,101,114],[]):=hl2
 replace hc:l2_n≤c0:=hc
 replace h_l2:Qz TOp l2_m Qr (.slice A0 (l2_n) (c0)) l2:=h_l2
 show VC _ _ _ _ _ [(0,.slice A0 (l2_n) (c0)),(2,.int .i64 (((c0:Nat):Int))),(3,.int .i64 (((k:Nat):Int))),(9,.bool (decide (((k:Nat):Int) < ((d0.length:Nat):Int))))] [(0,JY (wm W) (m0)),(1,l2_m)]
 have ll_l2:=ZM (Qz.ow h_l2 rfl)
 refine VC.seq (VC.rs (VO.mv (VO.z (.lenS rfl Ji) (VO.mv (VO.z (.lss rfl rfl) (VO.k5 0 2 3 9 25 ?_))))))
 refine VC.cond rfl (fun hc5=>?_) (fun hc5=>?_)
 refine VC.skip (Qj (VC.block ?_))
 refine VC.reg ?_
 refine VO.mv ?_
 refine VO.z (.bst (cs:=[.bool false,str ([111,118,101,114]),str ([])]) rfl JM XB rfl) ?_
 refine VO.bsl (cs:=[.bool false,str ([111,118,101,114]),str ([])]) 107 rfl rfl Ji XB rfl rfl (fun g6=>?_)
 refine VO.inv ((109,Qr)::_) (fun _ h=>h.nilc 109) ?_
 have hxl8:=ZM (Qz.ow h_l2 rfl)
 refine VO.appI (e:=TOp) (xs:=l2) (cap:=c0) (A:=A0) (l:=l2_n) 1 109 107 rfl rfl rfl Ji rfl rfl rfl (Qz.ow h_l2 rfl) (Ow.of (m:=Qr) rfl (Xl (m:=_) false ([111,118,101,114]) [] (by simp only [maxLen];(exact Jv)) (by simp only [maxLen];(exact Jv)))) Tryz.underlying36 (Qa rfl rfl) Jv (fun m8 ho8=>?_)
 refine VO.as (VO.k5 0 2 3 9 25 (JE ?_))
 exact Qj ⟨⟨l2++[(false,[111,118,101,114],[])],m8,l2_n+1⟩,⟨by exact Qkx hl2,by dsimp only;omega,(Ow.ownl ho8 rfl Qr)⟩,by (dsimp only;omega),⟨esn,fun _ h=>Inv.sub h [0,1]⟩⟩
 ·refine VC.exit (Zc (Zc (Zd ?_)))
  have hcut0:=Ow.pre (j:=d0.length) (Qz.ow h_l2 rfl) Jv
  refine ⟨_,_,Q8 (rs:=[]) rfl .nil,fun W_ hI=>JC (l:=[l2_m]) hI [1] rfl rfl (Qb _) (fun hS_=>?_)⟩
  dsimp only [Qv]
  exact ⟨(by first | rfl | (simp [*];done)),(Ow.cg (Ow.up hcut0 (hS_.1 _ (.head _))) (by first | rfl | (obtain ⟨j,rfl⟩:=hl2;simp)))⟩
theorem Qk {P:Prop} (h:P:=by first | exact bd | (have h_:=QlF hl4 hw4 ‹l[_]? =some _› ‹was[_]? =some _›;omega) | (have h_:=key_of hw4 e1 ‹was[_]? =some _› (by assumption);simp only [List.length_append,List.length_cons,List.length_nil] at*;omega) | (exact (e1 _ (List.mem_of_getElem? ‹d0[_]? =some _›)).1)):P:=h
set_option maxHeartbeats 1000000 in
theorem Qh6 (W:World) {m0:Mem} (hm:mle (m0) (wm W)) {v0:Value} {d0:List (List DOp)} (h0:Ow (.sl (.sl TOp)) m0 [v0] d0) (e0:d0.length≤3000000) (e1:∀ x∈d0,x.length≤3518437208800∧∀ o∈x,o.2.1.length≤140737488400000):Qg Tryz.prog 12 [v0] W (m0) (fun v m'=>v= .bool true):=by
 obtain ⟨A0,c0,e0_,l0,k0⟩:=h0.slc
 subst e0_
 refine Qg.ofB (n:=79) hm Tryz.func12 rfl rfl rfl ?_
 refine VC.rs (VO.as (VO.k2 0 2 (VC.rs (VO.mv (VO.z (.lenS rfl QbD) ?_)))))
 refine VO.mks (e:=(.sl TOp)) (a:=((d0.length:Nat):Int)) (k:=d0.length) 101 rfl rfl rfl rfl QbD tz36 (y:=[]) (Ow.nil _ Qr) (by simp only [maxLen];(exact Qk)) Qk (by decide) (fun v1 m1 hk1=>?_)
 obtain ⟨A1,c1,rfl,l1,k1⟩:=hk1.slc
 have ln1:(List.replicate d0.length ([]:List DOp)).length=d0.length:=List.length_replicate
 refine VO.as (VO.k3 0 2 3 (VC.seq (VC.rs (VO.as (VO.p3 101 0 1 (VO.k4 0 2 3 4 (VC.block ?_)))))))
 refine VC.loop (G:=Nat × (List (List DOp)) × Mem) (fun g=>[(3,.slice A1 ((List.replicate d0.length ([]:List DOp)).length) (c1)),(4,.int .i64 ((((g.1):Nat):Int))),(0,.slice A0 (d0.length) (c0)),(2,.bool false)]) (fun g=>[(101,(g.2.2)),(0,JY (wm W) (m0)),(1,m0)]) (fun g=>((g.1)≤d0.length)∧((g.2.1)=d0.take (g.1)++List.replicate (d0.length - (g.1)) [])∧(Ow (.sl (.sl TOp)) (g.2.2) [.slice A1 ((List.replicate d0.length ([]:List DOp)).length) (c1)] (g.2.1))) (fun g=>d0.length - (g.1)) (0,List.replicate d0.length ([]:List DOp),m1) (⟨by omega,by simp,hk1⟩) ⟨esn,fun _ h=>h.sub [101,0,1]⟩ ?_
 rintro ⟨i,was,was_m⟩ ⟨hi,hw,h_was⟩
 replace hi:i≤d0.length:=hi
 replace hw:was=d0.take i++List.replicate (d0.length - i) []:=hw
 replace h_was:Ow (.sl (.sl TOp)) was_m [.slice A1 ((List.replicate d0.length ([]:List DOp)).length) (c1)] was:=h_was
 show VC _ _ _ _ _ [(3,.slice A1 ((List.replicate d0.length ([]:List DOp)).length) (c1)),(4,.int .i64 (((i:Nat):Int))),(0,.slice A0 (d0.length) (c0)),(2,.bool false)] [(101,was_m),(0,JY (wm W) (m0)),(1,m0)]
 have ll_was:=ZM h_was
 refine VC.seq (VC.rs (VO.mv (VO.mv (VO.z (.lenS rfl QbD) (VO.z (.lss rfl rfl) (VO.k5 0 2 3 4 14 ?_))))))
 refine VC.cond rfl (fun hc2=>?_) (fun hc2=>?_)
 · refine VC.skip (Qj (VC.seq (VC.block ?_)))
   refine VC.reg ?_
   refine VO.mv (VO.mv (VO.mv (VO.mv ?_)))
   obtain ⟨x3,hx3⟩:∃ z_,(d0)[i]? =some z_:=⟨_,List.getElem?_eq_getElem Qk⟩
   obtain ⟨gg3,oo3,ec3,ea3,hce3,hre3⟩:=(Ow.rd h0 (Qb _)).elem hx3
   cases ea3
   have hr3:=hre3
   obtain ⟨A3_,c3_,rfl,_⟩:=hre3
   have rr3:=Rd.room hr3
   refine VO.z (.ixI i rfl rfl QbD rfl Qk) ?_
   refine VO.z (.ld1 1 rfl YY rfl hce3) ?_
   refine VO.callN 104 rfl Qnf rfl (fun W hW=>Qfu W (Rd.mono hr3 (hW.t 1)) Qk) (fun v4 m4 hv4=>?_)
   obtain ⟨s4_0,rfl,f4_0⟩:=hv4
   obtain ⟨A4_0,c4_0,eq4_0,l4_0,k4_0⟩:=f4_0.slc
   subst eq4_0
   obtain ⟨x5,hx5⟩:∃ z_,(was)[i]? =some z_:=⟨_,List.getElem?_eq_getElem Qk⟩
   obtain ⟨gg5,oo5,ec5,ea5,hce5,hre5⟩:=(Ow.rd h_was (Qb _)).elem hx5
   cases ea5
   have hr5:=hre5
   obtain ⟨A5_,c5_,rfl,_⟩:=hre5
   have rr5:=Rd.room hr5
   refine VO.z (.ixI i rfl rfl QbD rfl Qk) ?_
   refine VO.setE (e:=(.sl TOp)) (k:=1) (i:=i) 101 104 rfl rfl (.inr ⟨YY,rfl⟩) rfl rfl rfl rfl h_was rfl hx5 (x':=x3) (Ow.up f4_0 ((Qu.one (Qb _)).1 _ (.head _))) (fun mu6 hu6=>?_)
   have hl6:=ZM hu6
   refine VO.k5 0 2 3 4 14 (JE (Qj ?_))
   refine VC.reg ?_
   refine VO.mv ?_
   refine VO.z (.add (c:=((i+1:Nat):Int)) rfl rfl Qx ⟨by exact Qk,by exact Qk⟩) ?_
   refine VO.as (VO.p3 101 0 1 (VO.k5 0 2 3 4 14 ?_))
   exact Qj ⟨⟨i+1,(was).set i x3,mu6⟩,⟨by omega,by exact Qlf hw ‹d0[i]? =some _›,hu6⟩,by exact Qk,⟨esn,fun _ h=>Inv.sub h [101,0,1]⟩⟩
 refine VC.exit (Zc (Zc (Zd (Qj (VC.seq (VC.rs (VO.as (VO.k6 0 2 3 4 5 14 (VC.block ?_)))))))))
 refine VC.loop (G:=Nat × (List (List DOp)) × Mem) (fun g=>[(0,.slice A0 (d0.length) (c0)),(5,.int .i64 ((((g.1):Nat):Int))),(3,.slice A1 ((List.replicate d0.length ([]:List DOp)).length) (c1)),(4,.int .i64 (((i:Nat):Int))),(14,.bool (decide (((i:Nat):Int) < ((d0.length:Nat):Int))))]) (fun g=>[(101,was_m),(0,JY (wm W) (m0)),(1,(g.2.2))]) (fun g=>(was=d0)∧((g.1)≤d0.length)∧((g.2.1)=(d0.take (g.1)).map (List.map Qa8)++d0.drop (g.1))∧(Ow (.sl (.sl TOp)) (g.2.2) [.slice A0 (d0.length) (c0)] (g.2.1))) (fun g=>d0.length - (g.1)) (0,d0,m0) (⟨by exact Qmt hw Qx,by omega,by simp,h0⟩) ⟨esn,fun _ h=>h.sub [101,0,1]⟩ ?_
 rintro ⟨j,l,l_m⟩ ⟨hw2,hj,hl,h_l⟩
 replace hw2:was=d0:=hw2
 replace hj:j≤d0.length:=hj
 replace hl:l=(d0.take j).map (List.map Qa8)++d0.drop j:=hl
 replace h_l:Ow (.sl (.sl TOp)) l_m [.slice A0 (d0.length) (c0)] l:=h_l
 show VC _ _ _ _ _ [(0,.slice A0 (d0.length) (c0)),(5,.int .i64 (((j:Nat):Int))),(3,.slice A1 ((List.replicate d0.length ([]:List DOp)).length) (c1)),(4,.int .i64 (((i:Nat):Int))),(14,.bool (decide (((i:Nat):Int) < ((d0.length:Nat):Int))))] [(101,was_m),(0,JY (wm W) (m0)),(1,l_m)]
 have ll_l:=ZM h_l
 refine VC.seq (VC.rs (VO.mv (VO.mv (VO.z (.lenS rfl QbD) (VO.z (.lss rfl rfl) (VO.p3 101 0 1 (VO.k6 0 3 4 5 14 28 ?_)))))))
 refine VC.cond rfl (fun hc7=>?_) (fun hc7=>?_)
 refine VC.skip (Qj (VC.seq (VC.block (VC.seq (VC.seq ?_)))))
 refine VC.regD _ 8 [(0,true),(1,true),(2,true),(3,true),(4,true),(5,true),(6,true),(7,true)] follows (by kernel_rfl) (fun _ h=>h.sub [101,0,1]) ?_
 refine VD.z rfl (.mv rfl) (VD.z rfl (.mv rfl) ?_)
 obtain ⟨x8,hx8⟩:∃ z_,(l)[j]? =some z_:=⟨_,List.getElem?_eq_getElem Qk⟩
 obtain ⟨gg8,oo8,ec8,ea8,hce8,hre8⟩:=(Ow.rd h_l (Qb _)).elem hx8
 cases ea8
 have hr8:=hre8
 obtain ⟨A8_,c8_,rfl,_⟩:=hre8
 have rr8:=Rd.room hr8
 refine VD.z rfl (.ixI j rfl rfl QbD rfl Qk) ?_
 refine VD.z rfl (.ld1 1 rfl YY rfl hce8) ?_
 refine VD.z rfl (.mv rfl) (VD.z rfl (.mv rfl) ?_)
 obtain ⟨x9,hx9⟩:∃ z_,(was)[j]? =some z_:=⟨_,List.getElem?_eq_getElem Qk⟩
 obtain ⟨gg9,oo9,ec9,ea9,hce9,hre9⟩:=(Ow.rd h_was (Qb _)).elem hx9
 cases ea9
 have hr9:=hre9
 obtain ⟨A9_,c9_,rfl,_⟩:=hre9
 have rr9:=Rd.room hr9
 refine VD.z rfl (.ixI j rfl rfl QbD rfl Qk) ?_
 refine VD.z rfl (.ld1 101 rfl YY rfl hce9) ?_
 refine VD.nil rfl ?_ rfl
 refine VO.callN 110 rfl Qk4 rfl (fun W hW=>Qc4 W (Rd.mono hr8 (hW.t 1)) (Rd.mono hr9 (hW.t 101))) (fun v10 m10 hv10=>?_)
 subst hv10
 refine VO.z (.notD rfl) (VO.k7 0 3 4 5 14 28 40 (Qj ?_))
 refine VC.cond rfl (fun hc11=>?_) (fun hc11=>?_)
 exact absurd (QjI hl hw2 ‹l[j]? =some _› ‹was[j]? =some _›) hc11
 refine VC.skip (Qj ?_)
 refine VC.reg ?_
 refine VO.mv (VO.mv ?_)
 refine VO.z (.ixI j rfl rfl QbD rfl Qk) ?_
 refine VO.z (.ld1 1 rfl YY rfl hce8) ?_
 obtain ⟨mr13,me13,hH13,hE13,hB13⟩:=Ow.hole h_l hx8 hce8
 refine VO.parts 1 [1,114] rfl hH13 ?_
 refine VO.call 114 rfl fnOk46 rfl rfl (fun W hW=>Qjs W (hW.t 114) hE13 (by exact fun o ho=>(e1 _ (List.mem_of_getElem? (Qbl hl ‹l[_]? =some _›).1)).2 o ho)) (fun v13 m13 hv13=>?_)
 obtain ⟨rfl,w13_0⟩:=hv13
 have wl13_0:=ZM w13_0
 refine VO.gather (l:=[mr13,m13]) 1 [1,114] rfl (fun hg13=>?_)
 have hL13:=Qu.back hg13 (fun hd_=>hB13 _ _ hd_ w13_0)
 have hl13:=ZM hL13
 refine VO.k7 0 3 4 5 14 28 40 (JE (Qj ?_))
 refine VC.reg ?_
 refine VO.mv ?_
 refine VO.z (.add (c:=((j+1:Nat):Int)) rfl rfl Qx ⟨by exact Qk,by exact Qk⟩) ?_
 refine VO.as (VO.p3 1 101 0 (VO.k7 0 3 4 5 14 28 40 ?_))
 exact Qj ⟨⟨j+1,(l).set j (x8.map Qa8),Zv [mr13,m13]⟩,⟨by exact hw2,by omega,by exact (Qbl hl ‹l[j]? =some _›).2,hL13⟩,by exact Qk,⟨esn,fun _ h=>Inv.sub h [101,0,1]⟩⟩
 refine VC.exit (Zc (Zc (Zd (Qj (VC.seq (VC.rs (VO.as (VO.k7 0 3 4 5 6 14 28 (VC.block ?_)))))))))
 refine VC.loop (G:=Nat) (fun p=>[(6,.int .i64 (((p:Nat):Int))),(0,.slice A0 (d0.length) (c0)),(3,.slice A1 ((List.replicate d0.length ([]:List DOp)).length) (c1)),(4,.int .i64 (((i:Nat):Int))),(5,.int .i64 (((j:Nat):Int))),(14,.bool (decide (((i:Nat):Int) < ((d0.length:Nat):Int)))),(28,.bool (decide (((j:Nat):Int) < ((d0.length:Nat):Int))))]) (fun p=>[(101,was_m),(0,JY (wm W) (m0)),(1,l_m)]) (fun p=>(was=d0)∧(p≤d0.length)∧(l=d0.map (List.map Qa8))) (fun p=>d0.length - p) 0 (⟨by exact hw2,by omega,by exact Qmh hl Qx⟩) ⟨esn,fun _ h=>h.sub [101,0,1]⟩ ?_
 rintro p ⟨hw4,hp,hl4⟩
 refine VC.seq (VC.rs (VO.mv (VO.mv (VO.z (.lenS rfl QbD) (VO.z (.lss rfl rfl) (VO.k8 0 3 4 5 6 14 28 49 ?_))))))
 refine VC.cond rfl (fun hc15=>?_) (fun hc15=>?_)
 refine VC.skip (Qj (VC.seq (VC.block (VC.rs (VO.as (VO.p3 101 0 1 (VO.k9 0 3 4 5 6 7 14 28 49 (VC.block ?_))))))))
 refine VC.loop (G:=Nat) (fun k=>[(7,.int .i64 (((k:Nat):Int))),(0,.slice A0 (d0.length) (c0)),(3,.slice A1 ((List.replicate d0.length ([]:List DOp)).length) (c1)),(4,.int .i64 (((i:Nat):Int))),(5,.int .i64 (((j:Nat):Int))),(6,.int .i64 (((p:Nat):Int))),(14,.bool (decide (((i:Nat):Int) < ((d0.length:Nat):Int)))),(28,.bool (decide (((j:Nat):Int) < ((d0.length:Nat):Int)))),(49,.bool (decide (((p:Nat):Int) < ((d0.length:Nat):Int))))]) (fun k=>[(101,was_m),(0,JY (wm W) (m0)),(1,l_m)]) (fun k=>(k≤9223372036854775807)) (fun k=>9223372036854775807 - k) 0 Qx ⟨esn,fun _ h=>h.sub [101,0,1]⟩ ?_
 rintro k hk
 refine VC.seq (VC.rs (VO.mv (VO.mv (VO.mv ?_))))
 obtain ⟨x16,hx16⟩:∃ z_,(l)[p]? =some z_:=⟨_,List.getElem?_eq_getElem Qk⟩
 obtain ⟨gg16,oo16,ec16,ea16,hce16,hre16⟩:=(Ow.rd h_l (Qb _)).elem hx16
 cases ea16
 have hr16:=hre16
 obtain ⟨A16_,c16_,rfl,_⟩:=hre16
 have rr16:=Rd.room hr16
 refine VO.z (.ixI p rfl rfl QbD rfl Qk) ?_
 refine VO.z (.ld1 1 rfl YY rfl hce16) ?_
 refine VO.z (.lenS rfl Ji) (VO.z (.lss rfl rfl) (VO.k10 0 3 4 5 6 7 14 28 49 58 ?_))
 refine VC.cond rfl (fun hc17=>?_) (fun hc17=>?_)
 refine VC.skip (Qj (VC.seq (VC.block (VC.seq ?_))))
 refine VC.regD _ 17 [(0,true),(1,true),(2,true),(3,true),(4,true),(5,true),(6,true),(7,true),(8,true),(9,true),(10,true),(11,true),(12,true),(13,true),(14,true),(15,true),(16,true)] follows (by kernel_rfl) (fun _ h=>h.sub [101,0,1]) ?_
 refine VD.z rfl (.mv rfl) (VD.z rfl (.mv rfl) ?_)
 refine VD.z rfl (.ixI p rfl rfl QbD rfl Qk) ?_
 refine VD.z rfl (.ld1 1 rfl YY rfl hce16) ?_
 refine VD.z rfl (.mv rfl) ?_
 obtain ⟨x19,hx19⟩:∃ z_,(x16)[k]? =some z_:=⟨_,List.getElem?_eq_getElem Qk⟩
 obtain ⟨gg19,oo19,ec19,ea19,hce19,hre19⟩:=hr16.elem hx19
 cases ea19
 obtain ⟨rfl,q19_1,q19_2⟩:=JA (x0:=x19.1) (x1:=x19.2.1) (x2:=x19.2.2) hre19
 simp only [maxLen] at q19_1
 simp only [maxLen] at q19_2
 refine VD.z rfl (.ixI k rfl rfl Ji rfl Qk) ?_
 refine VD.z rfl (.fa rfl JM rfl) ?_
 refine VD.z rfl (.ld1 1 rfl tk9 rfl (hce19.at1 (j:=1) rfl)) ?_
 refine VD.z rfl (.mv rfl) (VD.z rfl (.mv rfl) ?_)
 obtain ⟨x20,hx20⟩:∃ z_,(was)[p]? =some z_:=⟨_,List.getElem?_eq_getElem Qk⟩
 obtain ⟨gg20,oo20,ec20,ea20,hce20,hre20⟩:=(Ow.rd h_was (Qb _)).elem hx20
 cases ea20
 have hr20:=hre20
 obtain ⟨A20_,c20_,rfl,_⟩:=hre20
 have rr20:=Rd.room hr20
 refine VD.z rfl (.ixI p rfl rfl QbD rfl Qk) ?_
 refine VD.z rfl (.ld1 101 rfl YY rfl hce20) ?_
 refine VD.z rfl (.mv rfl) ?_
 obtain ⟨x21,hx21⟩:∃ z_,(x20)[k]? =some z_:=⟨_,List.getElem?_eq_getElem Qk⟩
 obtain ⟨gg21,oo21,ec21,ea21,hce21,hre21⟩:=hr20.elem hx21
 cases ea21
 obtain ⟨rfl,q21_1,q21_2⟩:=JA (x0:=x21.1) (x1:=x21.2.1) (x2:=x21.2.2) hre21
 simp only [maxLen] at q21_1
 simp only [maxLen] at q21_2
 refine VD.z rfl (.ixI k rfl rfl Ji rfl Qk) ?_
 refine VD.z rfl (.fa rfl JM rfl) ?_
 refine VD.z rfl (.ld1 101 rfl tk9 rfl (hce21.at1 (j:=1) rfl)) ?_
 refine VD.z rfl (.scat rfl rfl Qk) ?_
 refine VD.nil rfl ?_ rfl
 refine VO.z (.sneq rfl rfl) (VO.k11 0 3 4 5 6 7 14 28 49 58 78 (Qj ?_))
 refine VC.cond rfl (fun hc22=>?_) (fun hc22=>?_)
 exact absurd (by have h_:=QmL (f:=Qa8) hl4 hw4 ‹l[p]? =some _› ‹was[p]? =some _› Qd Qd;rw [h_];rfl) hc22
 refine VC.skip (JE (Qj ?_))
 refine VC.reg ?_
 refine VO.mv ?_
 refine VO.z (.add (c:=((k+1:Nat):Int)) rfl rfl Qx ⟨by exact Qk,by exact Qk⟩) ?_
 refine VO.as (VO.p3 101 0 1 (VO.k11 0 3 4 5 6 7 14 28 49 58 78 ?_))
 exact Qj ⟨k+1,by omega,by exact Qk,⟨esn,fun _ h=>Inv.sub h [101,0,1]⟩⟩
 refine VC.exit (Zc (Zc (Zd (JE (Qj ?_)))))
 refine VC.reg ?_
 refine VO.mv ?_
 refine VO.z (.add (c:=((p+1:Nat):Int)) rfl rfl Qx ⟨by exact Qk,by exact Qk⟩) ?_
 refine VO.as (VO.k10 0 3 4 5 6 7 14 28 49 58 ?_)
 exact Qj ⟨p+1,⟨by exact hw4,by omega,by exact hl4⟩,by exact Qk,⟨esn,fun _ h=>Inv.sub h [101,0,1]⟩⟩
 · refine VC.exit (Zc (Zc (Zd (Qj (VC.rs (VO.as (VO.p3 101 0 1 (VO.k9 0 2 3 4 5 6 14 28 49 (VC.ret ?_)))))))))
   exact Xz 2 rfl (by first | rfl | (simp [*];done))
theorem QiA (W:World) {g0:Nat} {E0:TypeId} {d0:Xy} {b0_0:Value} (hm:mle (QE g0 (.cells [(b0_0:Value),.int .i64 d0.2.1,.bool d0.2.2].toArray E0 (0,0))) (wm W)) (h0_0:Rd (.sl .byte) (JY (wm W) (QE g0 (.cells [(b0_0:Value),.int .i64 d0.2.1,.bool d0.2.2].toArray E0 (0,0)))) [b0_0] d0.1) (h0_1:inK .i64 d0.2.1):Qg Tryz.prog 109 [.pointer (some ⟨g0,0,none⟩)] W (QE g0 (.cells [(b0_0:Value),.int .i64 d0.2.1,.bool d0.2.2].toArray E0 (0,0))) (fun v m'=>v= .bool (decide (d0.2.2=false∧d0.2.1=d0.1.length))∧m'=QE g0 (.cells [(b0_0:Value),.int .i64 d0.2.1,.bool d0.2.2].toArray E0 (0,0))∧inK .i64 d0.2.1):=by
 obtain ⟨A0_0,c0_0,rfl,l0_0,k0_0⟩:=h0_0.slc
 have h0_1':=h0_1;simp only [inK] at h0_1'
 refine Qg.ofB (n:=20) hm Tryz.func109 rfl rfl rfl ?_
 refine VC.rs (VO.as (VO.k2 0 2 (VC.seq ?_)))
 refine VC.regD _ 15 [(0,true),(1,true),(2,true),(3,true),(4,true),(5,true),(6,true),(7,true),(8,true),(9,true),(10,true),(11,true),(12,true),(13,true),(14,true)] follows (by kernel_rfl) (fun _ h=>h.sub [0,1]) ?_
 refine VD.z rfl (.mv rfl) (VD.z rfl (.nilp rfl) (VD.z rfl (.fa rfl ZJ rfl) (VD.z rfl (.ld1 1 rfl tk4 rfl (Qa rfl rfl)) (VD.z rfl (.not rfl) (VD.z rfl (.mv rfl) ?_)))))
 refine VD.decBN (s:=8) rfl (fun hc1=>?_) (fun hc1=>?_)
 ·refine VD.w rfl (.mv rfl) (VD.w rfl (.nilp rfl) (VD.w rfl (.fa rfl ZJ rfl) (VD.w rfl (.ld1 1 rfl tk3 rfl (Qa rfl rfl)) (VD.w rfl (.mv rfl) (VD.w rfl (.nilp rfl) (VD.w rfl (.fa rfl ZJ rfl) (VD.w rfl (.ld1 1 rfl YT rfl (Qa rfl rfl)) (VD.w rfl (.lenS rfl Q0) ?_))))))))
  refine VD.nil rfl ?_ rfl
  refine VO.w (.eql rfl rfl) (VO.z (.pT rfl rfl) (VO.as (VO.k2 0 2 (Qj (VC.ret ?_)))))
  refine Yz 2 [1] fun hS_=>?_
  dsimp only [Qv]
  refine ⟨?_,?_,?_⟩
  rotate_left
  ·rw [Zp]
  ·exact (show inK .i64 _ by simp only [inK];(first | exact bd))
  all_goals (first | rfl | (simp [*];done))
 ·refine VD.gN rfl (VD.gN rfl (VD.gN rfl (VD.gN rfl (VD.gN rfl (VD.gN rfl (VD.gN rfl (VD.gN rfl (VD.gN rfl ?_))))))))
  refine VD.nil rfl ?_ rfl
  refine VO.gN (VO.z (.pF rfl rfl) (VO.as (VO.k2 0 2 (Qj (VC.ret ?_)))))
  refine Yz 2 [1] fun hS_=>?_
  dsimp only [Qv]
  refine ⟨?_,?_,?_⟩
  rotate_left
  ·rw [Zp]
  ·exact (show inK .i64 _ by simp only [inK];(first | exact bd))
  all_goals (first | rfl | (simp [*];done))
abbrev DHC := Int × Int × Hd
instance decHC : DecidableEq DHC := (@instDecidableEqProd _ _ inferInstance (@instDecidableEqProd _ _ inferInstance inferInstance))
theorem Qoa:JX Tryz.prog 102=true:=by kernel_rfl
theorem Qn9:JX Tryz.prog 103=true:=by kernel_rfl
theorem QhZ:JX Tryz.prog 106=true:=by kernel_rfl
theorem QbP:JX Tryz.prog 107=true:=by kernel_rfl
theorem Qeo:JX Tryz.prog 96=true:=by kernel_rfl
theorem tz133:tz Tryz.prog 133=some [.slice none 0 0,.int .i64 0,.bool false]:=by kernel_rfl
theorem Qlw (W:World) {v0:Value} {d0:List UInt8} (h0:Rd (.sl .byte) (wm W) [v0] d0) (e0:d0.length≤140737488355000):Qg Tryz.prog 103 [v0] W (Qr) (fun v m'=>∃ (s0:Value),v=s0∧Ow (.sl .byte) m' [s0] (d0)):=by
 obtain ⟨A0,c0,rfl,l0,k0⟩:=h0.slc
 refine Qg.ofA (n:=8) Tryz.func103 rfl rfl rfl ?_
 refine VC.rs (VO.as (VO.k2 0 2 (VC.seq (VC.rs (VO.mv ?_)))))
 refine VO.z (.snil rfl rfl Tryz.underlying47) ?_
 refine VO.k3 0 2 4 ?_
 refine VC.cond rfl (fun hc1=>?_) (fun hc1=>?_)
 ·refine VC.rs (VO.as (VO.p1 0 (VO.k3 0 2 4 (VC.ret (QS ?_)))))
  refine Yz 2 [] fun hS_=>?_
  dsimp only [Qv]
  have he0:(d0:Ty.Den (.sl .byte))=[]:=by first | rfl | (exact Qfl h0 ‹_=none›)
  refine ⟨.slice none (0) (0),?_,?_⟩
  rotate_left
  ·rw [he0];exact (Ow.nil _ _)
  all_goals (first | rfl | (simp [*];done))
 ·refine VC.skip (Qj (VC.rs ?_))
  refine VO.bsl (cs:=[]) 103 rfl rfl Q0 tz5 rfl rfl (fun g2=>?_)
  refine VO.mv ?_
  have ho5:Qz .byte (QE g2 (.cells [].toArray 5 (0,0))) Qr (Value.slice (some ⟨g2,0,none⟩) (0) (0)) []:=Qz.lit 0 QV.nil rfl rfl
  obtain ⟨mo4,cs4,hM4,hA4,hC4⟩:=ho5
  obtain ⟨all4,hS4,hR4⟩:=Rd.srcI (P:=Tryz.prog) (h0) Tryz.underlying47
  refine VO.app 103 rfl rfl rfl Q0 tz5 rfl rfl hM4 hA4 (hS4 _ 0 rfl) hR4.nice bdm bd (by decide) (fun v4 m4 hN4=>?_)
  have ho4:Qz .byte m4 Qr v4 (d0):=Qz.more hC4 hN4 (QV.mono hR4 fun _ _ h=>Rd.flat rfl h _)
  obtain ⟨A4,c4,rfl,l4,k4⟩:=ho4.slc
  refine VO.as (VO.p2 103 0 (VO.k3 0 2 4 (VC.ret ?_)))
  refine Yz 2 [103] fun hS_=>?_
  dsimp only [Qv]
  exact ⟨Value.slice A4 ((d0).length) (c4),(by first | rfl | (simp [*];done)),(Ow.cg (Ow.up (Qz.ow ho4 rfl) (hS_.1 _ (.head _))) (by first | rfl | (exact Qfl h0 ‹_=none›)))⟩
theorem QjD (W:World) {v0:Value} {d0:List UInt8} (h0:Rd (.sl .byte) (wm W) [v0] d0) {v1:Value} {d1:List UInt8} (h1:Rd (.sl .byte) (wm W) [v1] d1) (e0:d0.length≤140737488000000):Qg Tryz.prog 54 [v0,v1] W (Qr) (fun v m'=>∃ (s0:Value),v= .tuple #[s0,.int .i64 ((QZ d0 d1).2)]∧Ow (.sl .byte) m' [s0] ((QZ d0 d1).1)):=by
 obtain ⟨A0,c0,rfl,l0,k0⟩:=h0.slc
 obtain ⟨A1,c1,rfl,l1,k1⟩:=h1.slc
 refine Qg.ofA (n:=16) Tryz.func54 rfl rfl rfl ?_
 refine VC.rs (VO.as (VO.as (VO.k4 0 1 4 5 (VC.seq (VC.rs (VO.mv (VO.z (.lenS rfl Q0) (VO.z (.gtr rfl rfl) (VO.k5 0 1 4 5 8 ?_)))))))))
 refine VC.cond rfl (fun hc1=>?_) (fun hc1=>?_)
 ·refine VC.rs (VO.as (VO.as (VO.p1 0 (VO.k5 0 1 4 5 8 (VC.ret (QS ?_))))))
  refine Qby 4 5 [] fun hS_=>?_
  dsimp only [Qv]
  have he0:((QZ d0 d1).1:Ty.Den (.sl .byte))=[]:=by first | rfl | (first | (rw [ZY Qx] <;> rfl) | (rw [ZP Qx] <;> first | rfl | (simp only [Qg8,List.append_assoc,Int.toNat_natCast,List.nil_append];done)))
  refine ⟨.slice none (0) (0),?_,?_⟩
  rotate_left
  ·rw [he0];exact (Ow.nil _ _)
  all_goals (first | rfl | (first | (rw [ZY Qx] <;> rfl) | (rw [ZP Qx] <;> first | rfl | (simp only [Qg8,List.append_assoc,Int.toNat_natCast,List.nil_append];done))))
 ·refine VC.skip (Qj (VC.rs (VO.mv (VO.mv (VO.z (.lenS rfl Q0) ?_)))))
  refine VO.z (.cvI rfl ⟨_,Tryz.underlying3⟩ Tryz.underlying85 (IntWalk.u64_in _ bd)) ?_
  refine VO.callN 102 rfl Qg5 rfl (fun W hW=>Qap W (Rd.mono h0 (hW.t 0)) d1.length bd bd) (fun v2 m2 hv2=>?_)
  obtain ⟨s2_0,rfl,f2_0⟩:=hv2
  have hfa3:=Zw (x:=d1.length) (by first | omega | exact QlL Qd _)
  obtain ⟨A2_0,c2_0,eq2_0,l2_0,k2_0⟩:=f2_0.slc
  subst eq2_0
  refine VO.mv ?_
  obtain ⟨mo4,cs4,hM4,hA4,hC4⟩:=(Ow.ownl f2_0 rfl Qr)
  obtain ⟨all4,hS4,hR4⟩:=Rd.srcI (P:=Tryz.prog) (h1) Tryz.underlying47
  refine VO.app 102 rfl rfl rfl Q0 tz5 rfl rfl hM4 hA4 (hS4 _ 0 rfl) hR4.nice bdm bd (by decide) (fun v4 m4 hN4=>?_)
  have ho4:Qz .byte m4 Qr v4 ((d0++ZK d1.length)++d1):=Qz.more hC4 hN4 (QV.mono hR4 fun _ _ h=>Rd.flat rfl h _)
  obtain ⟨A4,c4,rfl,l4,k4⟩:=ho4.slc
  refine VO.as (VO.as (VO.p2 102 0 (VO.k5 0 1 4 5 8 (VC.ret ?_))))
  refine Qby 4 5 [102] fun hS_=>?_
  dsimp only [Qv]
  exact ⟨Value.slice A4 (((d0++ZK d1.length)++d1).length) (c4),(by first | rfl | (first | (rw [ZY Qx] <;> rfl) | (rw [ZP Qx] <;> first | rfl | (simp only [Qg8,List.append_assoc,Int.toNat_natCast,List.nil_append];done)))),(Ow.cg (Ow.up (Qz.ow ho4 rfl) (hS_.1 _ (.head _))) (by first | rfl | (first | (rw [ZY Qx] <;> rfl) | (rw [ZP Qx] <;> first | rfl | (simp only [Qg8,List.append_assoc,Int.toNat_natCast,List.nil_append];done)))))⟩
theorem Qh0 (W:World) {v0:Value} {d0:List UInt8} (h0:Rd (.sl .byte) (wm W) [v0] d0) {v1:Value} {d1:List UInt8} (h1:Rd (.sl .byte) (wm W) [v1] d1) (e0:d0.length≤140737488000000):Qg Tryz.prog 65 [v0,v1] W (Qr) (fun v m'=>∃ (s0:Value),v= .tuple #[s0,.int .i64 ((QZ d0 d1).2)]∧Ow (.sl .byte) m' [s0] ((QZ d0 d1).1)):=by
 obtain ⟨A0,c0,rfl,l0,k0⟩:=h0.slc
 obtain ⟨A1,c1,rfl,l1,k1⟩:=h1.slc
 refine Qg.ofA (n:=17) Tryz.func65 rfl rfl rfl ?_
 refine VC.rs (VO.as (VO.as (VO.k4 0 1 4 5 (VC.seq (VC.rs (VO.mv (VO.z (.lenS rfl Q0) (VO.z (.gtr rfl rfl) (VO.k5 0 1 4 5 9 ?_)))))))))
 refine VC.cond rfl (fun hc1=>?_) (fun hc1=>?_)
 ·refine VC.rs (VO.as (VO.as (VO.p1 0 (VO.k5 0 1 4 5 9 (VC.ret (QS ?_))))))
  refine Qby 4 5 [] fun hS_=>?_
  dsimp only [Qv]
  have he0:((QZ d0 d1).1:Ty.Den (.sl .byte))=[]:=by first | rfl | (first | (rw [ZY Qx] <;> rfl) | (rw [ZP Qx] <;> first | rfl | (simp only [Qg8,List.append_assoc,Int.toNat_natCast,List.nil_append];done)))
  refine ⟨.slice none (0) (0),?_,?_⟩
  rotate_left
  ·rw [he0];exact (Ow.nil _ _)
  all_goals (first | rfl | (first | (rw [ZY Qx] <;> rfl) | (rw [ZP Qx] <;> first | rfl | (simp only [Qg8,List.append_assoc,Int.toNat_natCast,List.nil_append];done))))
 ·refine VC.skip (Qj (VC.rs (VO.mv (VO.mv (VO.z (.lenS rfl Q0) ?_)))))
  refine VO.callN 102 rfl Qeo rfl (fun W hW=>QbH W (Rd.mono h0 (hW.t 0)) ((d1.length:Nat):Int) bdk bd bd) (fun v2 m2 hv2=>?_)
  obtain ⟨s2_0,rfl,f2_0⟩:=hv2
  have hfa3:=Zw (x:=((d1.length:Nat):Int).toNat) Qx
  obtain ⟨A2_0,c2_0,eq2_0,l2_0,k2_0⟩:=f2_0.slc
  subst eq2_0
  refine VO.as (VO.p2 102 0 (VO.k6 0 1 4 5 6 9 (VC.rs (VO.mv (VO.mv ?_)))))
  obtain ⟨mo4,cs4,hM4,hA4,hC4⟩:=(Ow.ownl f2_0 rfl Qr)
  obtain ⟨all4,hS4,hR4⟩:=Rd.srcI (P:=Tryz.prog) (h1) Tryz.underlying47
  refine VO.app 102 rfl rfl rfl Q0 tz5 rfl rfl hM4 hA4 (hS4 _ 0 rfl) hR4.nice bdm bd (by decide) (fun v4 m4 hN4=>?_)
  have ho4:Qz .byte m4 Qr v4 ((d0++ZK ((d1.length:Nat):Int).toNat)++d1):=Qz.more hC4 hN4 (QV.mono hR4 fun _ _ h=>Rd.flat rfl h _)
  obtain ⟨A4,c4,rfl,l4,k4⟩:=ho4.slc
  refine VO.as (VO.as (VO.k6 0 1 4 5 6 9 (VC.ret ?_)))
  refine Qby 4 5 [102] fun hS_=>?_
  dsimp only [Qv]
  exact ⟨Value.slice A4 (((d0++ZK ((d1.length:Nat):Int).toNat)++d1).length) (c4),(by first | rfl | (first | (rw [ZY Qx] <;> rfl) | (rw [ZP Qx] <;> first | rfl | (simp only [Qg8,List.append_assoc,Int.toNat_natCast,List.nil_append];done)))),(Ow.cg (Ow.up (Qz.ow ho4 rfl) (hS_.1 _ (.head _))) (by first | rfl | (first | (rw [ZY Qx] <;> rfl) | (rw [ZP Qx] <;> first | rfl | (simp only [Qg8,List.append_assoc,Int.toNat_natCast,List.nil_append];done)))))⟩
theorem Qlg (W:World) {v0:Value} {d0:List UInt8} (h0:Rd (.sl .byte) (wm W) [v0] d0):Qg Tryz.prog 102 [v0] W (Qr) (fun v m'=>v= .tuple #[.int .i64 ((ZX d0).1),.int .i64 ((ZX d0).2.1),.bool ((ZX d0).2.2)]):=by
 obtain ⟨A0,c0,rfl,l0,k0⟩:=h0.slc
 refine Qg.ofA (n:=28) Tryz.func102 rfl rfl rfl ?_
 refine VC.rs (VO.as (VO.as (VO.as (VO.k4 0 2 3 4 (VC.rs (VO.mv ?_))))))
 refine VO.callN 101 rfl Qep rfl (fun W hW=>Qa0 W (Rd.mono h0 (hW.t 0)) 131072 bdk) (fun v1 m1 hv1=>?_)
 subst hv1
 have hfa2:=ZZ d0 131072 Qx
 refine VO.mv (VO.z (.ext rfl rfl) (VO.z (.ext rfl rfl) (VO.z (.ext rfl rfl) (VO.as (VO.as (VO.as (VO.k7 0 2 3 4 5 6 7 (VC.seq (VC.rs (VO.mv (VO.z (.neq rfl rfl) ?_)))))))))))
 refine VO.mv ?_
 refine VO.dec (t:=16) rfl (fun hc3=>?_) (fun hc3=>?_)
 ·refine VO.gN (VO.gN (VO.gN (VO.gN (VO.gN (VO.gN (VO.z (.pT rfl rfl) (VO.p1 0 (VO.k8 0 2 3 4 5 6 7 23 (VC.condT rfl (VC.rs (VO.as ?_)))))))))))
  refine VO.as (VO.as (VO.k8 0 2 3 4 5 6 7 23 (VC.ret (QS ?_))))
  refine Qbj 2 3 4 [] fun hS_=>?_
  dsimp only [Qv]
  all_goals (first | rfl | (first | (rw [QdM Qd] <;> rfl) | (rw [QdL Qx] <;> rfl) | (rw [QdK Qd Qx] <;> rfl)))
 refine VO.w (.mv rfl) (VO.w (.lenS rfl Q0) (VO.w (.mv rfl) ?_))
 refine VO.w (.sub rfl rfl rfl ⟨bd,bd⟩) ?_
 refine VO.w (.mv rfl) (VO.w (.lss rfl rfl) (VO.z (.pF rfl rfl) (VO.p1 0 (VO.k8 0 2 3 4 5 6 7 23 ?_))))
 refine VC.cond rfl (fun hc4=>?_) (fun hc4=>?_)
 ·refine VC.rs (VO.as (VO.as (VO.as (VO.k8 0 2 3 4 5 6 7 23 (VC.ret (QS ?_))))))
  refine Qbj 2 3 4 [] fun hS_=>?_
  dsimp only [Qv]
  all_goals (first | rfl | (first | (rw [QdM Qd] <;> rfl) | (rw [QdL Qx] <;> rfl) | (rw [QdK Qd Qx] <;> rfl)))
 ·refine VC.skip (Qj (VC.rs (VO.mv (VO.mv (VO.mv ?_)))))
  refine VO.z (.add (c:=((sN d0 131072+(sX d0 131072):Nat):Int)) rfl rfl Qx ⟨bd,bd⟩) ?_
  refine VO.as (VO.as (VO.as (VO.k8 0 2 3 4 5 6 7 23 (VC.ret ?_))))
  refine Qbj 2 3 4 [] fun hS_=>?_
  dsimp only [Qv]
  all_goals (first | rfl | (first | (rw [QdM Qd] <;> rfl) | (rw [QdL Qx] <;> rfl) | (rw [QdK Qd Qx] <;> rfl)))
theorem Qmu (W:World) {v0:Value} {d0:List UInt8} (h0:Rd (.sl .byte) (wm W) [v0] d0):Qg Tryz.prog 87 [v0] W (Qr) (fun v m'=>∃ (s0:Value),v= .tuple #[s0,.int .i64 ((Jx d0).2.1),.int .i64 ((Jx d0).2.2)]∧Ow (.sl .byte) m' [s0] ((Jx d0).1)):=by
 obtain ⟨A0,c0,rfl,l0,k0⟩:=h0.slc
 refine Qg.ofA (n:=22) Tryz.func87 rfl rfl rfl ?_
 refine VC.rs (VO.as (VO.as (VO.as (VO.k4 0 2 3 4 (VC.rs (VO.mv ?_))))))
 refine VO.callN 101 rfl Qoa rfl (fun W hW=>Qlg W (Rd.mono h0 (hW.t 0))) (fun v1 m1 hv1=>?_)
 subst hv1
 have hfa2:=Qf9 d0
 refine VO.mv (VO.z (.ext rfl rfl) (VO.z (.ext rfl rfl) (VO.z (.ext rfl rfl) (VO.as (VO.as (VO.as (VO.k7 0 2 3 4 5 6 7 (VC.seq (VC.rs (VO.mv (VO.z (.not rfl) ?_)))))))))))
 refine VO.p1 0 (VO.k8 0 2 3 4 5 6 7 15 ?_)
 refine VC.condBN rfl (fun hc3=>?_) (fun hc3=>?_)
 ·refine VC.rs (VO.as (VO.as (VO.as (VO.k8 0 2 3 4 5 6 7 15 (VC.ret (QS ?_))))))
  refine Qbj 2 3 4 [] fun hS_=>?_
  dsimp only [Qv]
  have he0:((Jx d0).1:Ty.Den (.sl .byte))=[]:=by first | rfl | (first | (rw [Qcn (by first | assumption | simpa using ‹_›)] <;> rfl) | (rw [Qbs (by first | assumption | simpa using ‹_›)] <;> rfl))
  refine ⟨.slice none (0) (0),?_,?_⟩
  rotate_left
  ·rw [he0];exact (Ow.nil _ _)
  all_goals (first | rfl | (first | (rw [Qcn (by first | assumption | simpa using ‹_›)] <;> rfl) | (rw [Qbs (by first | assumption | simpa using ‹_›)] <;> rfl)))
 refine VC.skip (Qj (VC.rs (VO.mv (VO.mv (VO.mv ?_)))))
 obtain ⟨A4,hA4,hs4⟩:=h0.sub' 1 (((ZX d0).1).toNat) (((ZX d0).2.1).toNat) rfl bd bd
 refine VO.z (.slI (((ZX d0).1).toNat) (((ZX d0).2.1).toNat) A4 rfl rfl rfl Q0 bd bd hA4 bd bd) ?_
 refine VO.callN 105 rfl Qn9 rfl (fun W hW=>Qlw W (Rd.mono hs4 (hW.t 0)) bd) (fun v5 m5 hv5=>?_)
 obtain ⟨s5_0,rfl,f5_0⟩:=hv5
 obtain ⟨A5_0,c5_0,eq5_0,l5_0,k5_0⟩:=f5_0.slc
 subst eq5_0
 refine VO.mv (VO.as (VO.as (VO.as (VO.k8 0 2 3 4 5 6 7 15 (VC.ret ?_)))))
 refine Qbj 2 3 4 [105] fun hS_=>?_
 dsimp only [Qv]
 exact ⟨Value.slice A5_0 (((d0.take (((ZX d0).2.1).toNat)).drop (((ZX d0).1).toNat)).length) (c5_0),(by first | rfl | (first | (rw [Qcn (by first | assumption | simpa using ‹_›)] <;> rfl) | (rw [Qbs (by first | assumption | simpa using ‹_›)] <;> rfl))),(Ow.cg (Ow.up f5_0 (hS_.1 _ (.head _))) (by first | rfl | (first | (rw [Qcn (by first | assumption | simpa using ‹_›)] <;> rfl) | (rw [Qbs (by first | assumption | simpa using ‹_›)] <;> rfl))))⟩
theorem Qlk (W:World) {v0:Value} {d0:List UInt8} (h0:Rd (.sl .byte) (wm W) [v0] d0):Qg Tryz.prog 91 [v0] W (Qr) (fun v m'=>∃ (s0:Value),v= .tuple #[s0,.int .i64 ((Jx d0).2.1),.int .i64 ((Jx d0).2.2)]∧Ow (.sl .byte) m' [s0] ((Jx d0).1)):=by
 obtain ⟨A0,c0,rfl,l0,k0⟩:=h0.slc
 refine Qg.ofA (n:=23) Tryz.func91 rfl rfl rfl ?_
 refine VC.rs (VO.as (VO.as (VO.as (VO.k4 0 2 3 4 (VC.rs (VO.mv ?_))))))
 refine VO.z (.bst (cs:=[.slice A0 (d0.length) (c0),.int .i64 (0),.bool false]) rfl ZJ tz133 rfl) ?_
 refine VO.box (cs:=[.slice A0 (d0.length) (c0),.int .i64 (0),.bool false]) 102 rfl rfl rfl (fun g1=>?_)
 refine VO.as (VO.k5 0 2 3 4 5 (VC.rs (VO.mv (VO.mv ?_))))
 refine VO.call 102 rfl QbP rfl rfl (fun W hW=>XX W (d0:=(d0,0,false)) (hW.t 102) (Rd.mono h0 (hW.o 102 0)) bdk 131072 bdk Xc) (fun v3 m3 hv3=>?_)
 try dsimp only at hv3
 obtain ⟨rfl,rfl,w3_0_1⟩:=hv3
 have hfa4:=(JW (B:=d0) (m:=131072) (s:=(0,false)) Xc Qx).1
 have hfa5:=(JW (B:=d0) (m:=131072) (s:=(0,false)) Xc Qx).1.1
 have hfa6:=(JW (B:=d0) (m:=131072) (s:=(0,false)) Xc Qx).1.2
 have hfa7:=(JW (B:=d0) (m:=131072) (s:=(0,false)) Xc Qx).2
 simp only [inK] at w3_0_1
 refine VO.call 102 rfl QhZ rfl rfl (fun W hW=>QcW W (d0:=(d0,(Qe d0 131072 (0,false)).2)) (hW.t 102) (Rd.mono h0 (hW.o 102 0)) bdk ((Qe d0 131072 (0,false)).1) bdk Xc bd bd) (fun v8 m8 hv8=>?_)
 try dsimp only at hv8
 obtain ⟨s8_0,p8_0,rfl,hS8,f8_0,w8_0_1⟩:=hv8
 refine VO.inv _ (fun _ h=>h.parts (i:=102) rfl hS8 [109,110]) ?_
 have hfa11:=(ZN (B:=d0) (n:=((Qe d0 131072 (0,false)).1)) (s:=((Qe d0 131072 (0,false)).2)) Xc Qx).1
 have hfa12:=(ZN (B:=d0) (n:=((Qe d0 131072 (0,false)).1)) (s:=((Qe d0 131072 (0,false)).2)) Xc Qx).1.1
 have hfa13:=(ZN (B:=d0) (n:=((Qe d0 131072 (0,false)).1)) (s:=((Qe d0 131072 (0,false)).2)) Xc Qx).1.2
 have hfa14:=(ZN (B:=d0) (n:=((Qe d0 131072 (0,false)).1)) (s:=((Qe d0 131072 (0,false)).2)) Xc Qx).2
 simp only [inK] at w8_0_1
 obtain ⟨A8_0,c8_0,eq8_0,l8_0,k8_0⟩:=f8_0.slc
 subst eq8_0
 refine VO.as (VO.p3 109 110 0 (VO.k6 0 2 3 4 5 6 (VC.seq (VC.rs (VO.mv (VO.z (.nilp rfl) (VO.z (.fa rfl ZJ rfl) (VO.z (.ld1 110 rfl tk4 rfl (Qa rfl rfl)) (VO.k7 0 2 3 4 5 6 17 ?_)))))))))
 refine VC.condB rfl (fun hc15=>?_) (fun hc15=>?_)
 ·refine VC.rs (VO.as (VO.as (VO.as (VO.k7 0 2 3 4 5 6 17 (VC.ret (QS ?_))))))
  refine Qbj 2 3 4 [] fun hS_=>?_
  dsimp only [Qv]
  have he0:((Jx d0).1:Ty.Den (.sl .byte))=[]:=by first | rfl | (rw [Qcm];first | (rw [if_pos Qd] <;> rfl) | (rw [if_neg (by simp [*])] <;> rfl))
  refine ⟨.slice none (0) (0),?_,?_⟩
  rotate_left
  ·rw [he0];exact (Ow.nil _ _)
  all_goals (first | rfl | (rw [Qcm];first | (rw [if_pos Qd] <;> rfl) | (rw [if_neg (by simp [*])] <;> rfl)))
 refine VC.skip (Qj (VC.seq ?_))
 refine VC.regD _ 6 [(0,true),(1,true),(2,true),(3,true),(4,true),(5,true)] follows (by kernel_rfl) (fun _ h=>h.sub [109,110,0]) ?_
 refine VD.z rfl (.mv rfl) (VD.z rfl (.mv rfl) (VD.z rfl (.nilp rfl) (VD.z rfl (.fa rfl ZJ rfl) (VD.z rfl (.ld1 110 rfl tk3 rfl (Qa rfl rfl)) (VD.z rfl (.as rfl) ?_)))))
 refine VD.nil rfl ?_ rfl
 refine VO.as (VO.as (VO.k7 0 2 3 4 5 6 17 (Qj (VC.ret ?_))))
 refine Qbj 2 3 4 [109] fun hS_=>?_
 dsimp only [Qv]
 exact ⟨Value.slice A8_0 (((Qw d0 ((Qe d0 131072 (0,false)).1) ((Qe d0 131072 (0,false)).2)).1).length) (c8_0),(by first | rfl | (rw [Qcm];first | (rw [if_pos Qd] <;> rfl) | (rw [if_neg (by simp [*])] <;> rfl))),(Ow.cg (Ow.up f8_0 (hS_.1 _ (.head _))) (by first | rfl | (rw [Qcm];first | (rw [if_pos Qd] <;> rfl) | (rw [if_neg (by simp [*])] <;> rfl))))⟩
abbrev Z8 : Ty := .pair (.int .i64) (.pair (.int .i64) (.pair (.sl .byte) (.int .i64)))
abbrev Xa := Int × Int × (List UInt8) × Int
instance Qoh : DecidableEq Xa := (@instDecidableEqProd _ _ inferInstance (@instDecidableEqProd _ _ inferInstance (@instDecidableEqProd _ _ inferInstance inferInstance)))
theorem Y1 {m:Mem} {cs:List Value} {x0:Int} {x1:Int} {x2:List UInt8} {x3:Int} (h:Rd Z8 m cs (x0,x1,x2,x3)):∃ (A2:Option Addr),∃ (c2:Nat),cs=[(.int .i64 x0:Value),.int .i64 x1,.slice A2 x2.length c2,.int .i64 x3]∧inK .i64 x0∧inK .i64 x1∧Rd (.sl .byte) m [.slice A2 x2.length c2] x2∧inK .i64 x3:=by
 obtain ⟨p1,q1,rfl,u1,w1⟩:=Rd.pair h
 obtain ⟨rfl,z2⟩:=(show _=_∧_ from u1)
 obtain ⟨p3,q3,rfl,u3,w3⟩:=Rd.pair w1
 obtain ⟨rfl,z4⟩:=(show _=_∧_ from u3)
 obtain ⟨p5,q5,rfl,u5,w5⟩:=Rd.pair w3
 have z6:=u5
 obtain ⟨A6,c6,rfl,_⟩:=Rd.slice1 u5
 obtain ⟨rfl,z7⟩:=(show _=_∧_ from w5)
 exact ⟨A6,c6,rfl,z2,z4,z6,z7⟩
theorem QaQ {m:Mem} (x0:Int) (x1:Int) (x2:List UInt8) (x3:Int) (h0:inK .i64 x0) (h1:inK .i64 x1) {v2:Value} (h2:Rd (.sl .byte) m [v2] x2) (h3:inK .i64 x3):Rd Z8 m [.int .i64 x0,.int .i64 x1,v2,.int .i64 x3] (x0,x1,x2,x3):=(Rd.mkPair (c1:=[_]) (show Rd (.int .i64) m [_] _ from ⟨rfl,h0⟩) (Rd.mkPair (c1:=[_]) (show Rd (.int .i64) m [_] _ from ⟨rfl,h1⟩) (Rd.mkPair (c1:=[_]) h2 (show Rd (.int .i64) m [_] _ from ⟨rfl,h3⟩))))
theorem Qdj {m:Mem} {n2:Mem} (x0:Int) (x1:Int) (x2:List UInt8) (x3:Int) (hS:Qu m [n2]) (h0:inK .i64 x0) (h1:inK .i64 x1) {v2:Value} (h2:Ow (.sl .byte) n2 [v2] x2) (h3:inK .i64 x3):Ow Z8 m [.int .i64 x0,.int .i64 x1,v2,.int .i64 x3] (x0,x1,x2,x3):=by
 obtain ⟨e1,la1,lb1,Sa1,Sb1⟩:=Qu.cut (l:=[]) (r:=[n2]) hS
 obtain ⟨e2,la2,lb2,Sa2,Sb2⟩:=Qu.cut (l:=[]) (r:=[n2]) Sb1
 obtain ⟨e3,la3,lb3,Sa3,Sb3⟩:=Qu.cut (l:=[n2]) (r:=[]) Sb2
 exact (Ow.mkPair (c1:=[_]) e1 la1 lb1 (show Ow (.int .i64) _ [_] _ from ⟨rfl,h0⟩) (Ow.mkPair (c1:=[_]) e2 la2 lb2 (show Ow (.int .i64) _ [_] _ from ⟨rfl,h1⟩) (Ow.mkPair (c1:=[_]) e3 la3 lb3 (h2.up (Sa3.1 _ (.head _))) (show Ow (.int .i64) _ [_] _ from ⟨rfl,h3⟩))))
abbrev Qy : Ty := .pair .bool (.pair .bool (.pair .bool (.pair (.int .i64) (.pair (.int .i64) (.pair (.pair (.sl .byte) (.pair (.sl .byte) (.pair (.sl .byte) (.sl .byte)))) (.sl Z8))))))
abbrev QG := Bool × Bool × Bool × Int × Int × ((List UInt8) × (List UInt8) × (List UInt8) × (List UInt8)) × (List Xa)
instance Qoi : DecidableEq QG := (@instDecidableEqProd _ _ inferInstance (@instDecidableEqProd _ _ inferInstance (@instDecidableEqProd _ _ inferInstance (@instDecidableEqProd _ _ inferInstance (@instDecidableEqProd _ _ inferInstance (@instDecidableEqProd _ _ (@instDecidableEqProd _ _ inferInstance (@instDecidableEqProd _ _ inferInstance (@instDecidableEqProd _ _ inferInstance inferInstance))) inferInstance))))))
theorem QeB {m:Mem} {cs:List Value} {x0:Bool} {x1:Bool} {x2:Bool} {x3:Int} {x4:Int} {x5:List UInt8} {x6:List UInt8} {x7:List UInt8} {x8:List UInt8} {x9:List Xa} (h:Ow Qy m cs (x0,x1,x2,x3,x4,(x5,x6,x7,x8),x9)):∃ (A5:Option Addr),∃ (c5:Nat),∃ (A6:Option Addr),∃ (c6:Nat),∃ (A7:Option Addr),∃ (c7:Nat),∃ (A8:Option Addr),∃ (c8:Nat),∃ (A9:Option Addr),∃ (c9:Nat),∃ (n5:Mem),∃ (n6:Mem),∃ (n7:Mem),∃ (n8:Mem),∃ (n9:Mem),cs=[(.bool x0:Value),.bool x1,.bool x2,.int .i64 x3,.int .i64 x4,.slice A5 x5.length c5,.slice A6 x6.length c6,.slice A7 x7.length c7,.slice A8 x8.length c8,.slice A9 x9.length c9]∧Qu m [n5,n6,n7,n8,n9]∧inK .i64 x3∧inK .i64 x4∧Ow (.sl .byte) n5 [.slice A5 x5.length c5] x5∧Ow (.sl .byte) n6 [.slice A6 x6.length c6] x6∧Ow (.sl .byte) n7 [.slice A7 x7.length c7] x7∧Ow (.sl .byte) n8 [.slice A8 x8.length c8] x8∧Ow (.sl Z8) n9 [.slice A9 x9.length c9] x9:=by
 obtain ⟨p1,q1,ma1,mb1,rfl,dj1,la1,lb1,u1,w1⟩:=Ow.pair h
 obtain rfl:=(show _=_ from u1)
 obtain ⟨p3,q3,ma3,mb3,rfl,dj3,la3,lb3,u3,w3⟩:=Ow.pair w1
 obtain rfl:=(show _=_ from u3)
 obtain ⟨p5,q5,ma5,mb5,rfl,dj5,la5,lb5,u5,w5⟩:=Ow.pair w3
 obtain rfl:=(show _=_ from u5)
 obtain ⟨p7,q7,ma7,mb7,rfl,dj7,la7,lb7,u7,w7⟩:=Ow.pair w5
 obtain ⟨rfl,z8⟩:=(show _=_∧_ from u7)
 obtain ⟨p9,q9,ma9,mb9,rfl,dj9,la9,lb9,u9,w9⟩:=Ow.pair w7
 obtain ⟨rfl,z10⟩:=(show _=_∧_ from u9)
 obtain ⟨p11,q11,ma11,mb11,rfl,dj11,la11,lb11,u11,w11⟩:=Ow.pair w9
 obtain ⟨p12,q12,ma12,mb12,rfl,dj12,la12,lb12,u12,w12⟩:=Ow.pair u11
 have z13:=u12
 obtain ⟨A13,c13,rfl,_⟩:=Ow.slice1 u12
 obtain ⟨p14,q14,ma14,mb14,rfl,dj14,la14,lb14,u14,w14⟩:=Ow.pair w12
 have z15:=u14
 obtain ⟨A15,c15,rfl,_⟩:=Ow.slice1 u14
 obtain ⟨p16,q16,ma16,mb16,rfl,dj16,la16,lb16,u16,w16⟩:=Ow.pair w14
 have z17:=u16
 obtain ⟨A17,c17,rfl,_⟩:=Ow.slice1 u16
 have z18:=w16
 obtain ⟨A18,c18,rfl,_⟩:=Ow.slice1 w16
 have z19:=w11
 obtain ⟨A19,c19,rfl,_⟩:=Ow.slice1 w11
 exact ⟨A13,c13,A15,c15,A17,c17,A18,c18,A19,c19,_,_,_,_,_,rfl,(Qu.app dj1 la1 lb1 (Qu.nil _) (Qu.app dj3 la3 lb3 (Qu.nil _) (Qu.app dj5 la5 lb5 (Qu.nil _) (Qu.app dj7 la7 lb7 (Qu.nil _) (Qu.app dj9 la9 lb9 (Qu.nil _) (Qu.app dj11 la11 lb11 (Qu.app dj12 la12 lb12 (Qu.one (Qb _)) (Qu.app dj14 la14 lb14 (Qu.one (Qb _)) (Qu.app dj16 la16 lb16 (Qu.one (Qb _)) (Qu.one (Qb _))))) (Qu.one (Qb _)))))))),z8,z10,z13,z15,z17,z18,z19⟩
theorem QgQ {m:Mem} {n5 n6 n7 n8 n9:Mem} (x0:Bool) (x1:Bool) (x2:Bool) (x3:Int) (x4:Int) (x5:List UInt8) (x6:List UInt8) (x7:List UInt8) (x8:List UInt8) (x9:List Xa) (hS:Qu m [n5,n6,n7,n8,n9]) (h3:inK .i64 x3) (h4:inK .i64 x4) {v5:Value} (h5:Ow (.sl .byte) n5 [v5] x5) {v6:Value} (h6:Ow (.sl .byte) n6 [v6] x6) {v7:Value} (h7:Ow (.sl .byte) n7 [v7] x7) {v8:Value} (h8:Ow (.sl .byte) n8 [v8] x8) {v9:Value} (h9:Ow (.sl Z8) n9 [v9] x9):Ow Qy m [.bool x0,.bool x1,.bool x2,.int .i64 x3,.int .i64 x4,v5,v6,v7,v8,v9] (x0,x1,x2,x3,x4,(x5,x6,x7,x8),x9):=by
 obtain ⟨e1,la1,lb1,Sa1,Sb1⟩:=Qu.cut (l:=[]) (r:=[n5,n6,n7,n8,n9]) hS
 obtain ⟨e2,la2,lb2,Sa2,Sb2⟩:=Qu.cut (l:=[]) (r:=[n5,n6,n7,n8,n9]) Sb1
 obtain ⟨e3,la3,lb3,Sa3,Sb3⟩:=Qu.cut (l:=[]) (r:=[n5,n6,n7,n8,n9]) Sb2
 obtain ⟨e4,la4,lb4,Sa4,Sb4⟩:=Qu.cut (l:=[]) (r:=[n5,n6,n7,n8,n9]) Sb3
 obtain ⟨e5,la5,lb5,Sa5,Sb5⟩:=Qu.cut (l:=[]) (r:=[n5,n6,n7,n8,n9]) Sb4
 obtain ⟨e6,la6,lb6,Sa6,Sb6⟩:=Qu.cut (l:=[n5,n6,n7,n8]) (r:=[n9]) Sb5
 obtain ⟨e7,la7,lb7,Sa7,Sb7⟩:=Qu.cut (l:=[n5]) (r:=[n6,n7,n8]) Sa6
 obtain ⟨e8,la8,lb8,Sa8,Sb8⟩:=Qu.cut (l:=[n6]) (r:=[n7,n8]) Sb7
 obtain ⟨e9,la9,lb9,Sa9,Sb9⟩:=Qu.cut (l:=[n7]) (r:=[n8]) Sb8
 exact (Ow.mkPair (c1:=[_]) e1 la1 lb1 (show Ow .bool _ [_] _ from rfl) (Ow.mkPair (c1:=[_]) e2 la2 lb2 (show Ow .bool _ [_] _ from rfl) (Ow.mkPair (c1:=[_]) e3 la3 lb3 (show Ow .bool _ [_] _ from rfl) (Ow.mkPair (c1:=[_]) e4 la4 lb4 (show Ow (.int .i64) _ [_] _ from ⟨rfl,h3⟩) (Ow.mkPair (c1:=[_]) e5 la5 lb5 (show Ow (.int .i64) _ [_] _ from ⟨rfl,h4⟩) (Ow.mkPair (c1:=[_,_,_,_]) e6 la6 lb6 (Ow.mkPair (c1:=[_]) e7 la7 lb7 (h5.up (Sa7.1 _ (.head _))) (Ow.mkPair (c1:=[_]) e8 la8 lb8 (h6.up (Sa8.1 _ (.head _))) (Ow.mkPair (c1:=[_]) e9 la9 lb9 (h7.up (Sa9.1 _ (.head _))) (h8.up (Sb9.1 _ (.head _)))))) (h9.up (Sb6.1 _ (.head _)))))))))
theorem Qam {m:Mem} {cs:List Value} {g:Nat} {x0:Bool} {x1:Bool} {x2:Bool} {x3:Int} {x4:Int} {x5:List UInt8} {x6:List UInt8} {x7:List UInt8} {x8:List UInt8} {x9:List Xa} (h:Ow (.ptr Qy) m cs (g,(x0,x1,x2,x3,x4,(x5,x6,x7,x8),x9))):∃ (E:TypeId),∃ (A5:Option Addr),∃ (c5:Nat),∃ (A6:Option Addr),∃ (c6:Nat),∃ (A7:Option Addr),∃ (c7:Nat),∃ (A8:Option Addr),∃ (c8:Nat),∃ (A9:Option Addr),∃ (c9:Nat),∃ (n5:Mem),∃ (n6:Mem),∃ (n7:Mem),∃ (n8:Mem),∃ (n9:Mem),cs=[.pointer (some ⟨g,0,none⟩)]∧Qu m [QE g (.cells [(.bool x0:Value),.bool x1,.bool x2,.int .i64 x3,.int .i64 x4,.slice A5 x5.length c5,.slice A6 x6.length c6,.slice A7 x7.length c7,.slice A8 x8.length c8,.slice A9 x9.length c9].toArray E (0,0)),n5,n6,n7,n8,n9]∧inK .i64 x3∧inK .i64 x4∧Ow (.sl .byte) n5 [.slice A5 x5.length c5] x5∧Ow (.sl .byte) n6 [.slice A6 x6.length c6] x6∧Ow (.sl .byte) n7 [.slice A7 x7.length c7] x7∧Ow (.sl .byte) n8 [.slice A8 x8.length c8] x8∧Ow (.sl Z8) n9 [.slice A9 x9.length c9] x9:=by
 obtain ⟨rfl,rc,E,m1,hd,l0,l1,h1⟩:=Ow.opnP h
 obtain ⟨A5,c5,A6,c6,A7,c7,A8,c8,A9,c9,n5,n6,n7,n8,n9,rfl,hS,f3,f4,f5,f6,f7,f8,f9⟩:=QeB h1
 exact ⟨E,A5,c5,A6,c6,A7,c7,A8,c8,A9,c9,n5,n6,n7,n8,n9,rfl,Qu.app hd l0 l1 (Qu.one (Qb _)) hS,f3,f4,f5,f6,f7,f8,f9⟩
theorem Qt {m:Mem} {cs:List Value} {g:Nat} {x:QG} (h:Ow (.ptr Qy) m cs (g,x)):type_of% (Qam (x0:=x.1) (x1:=x.2.1) (x2:=x.2.2.1) (x3:=x.2.2.2.1) (x4:=x.2.2.2.2.1) (x5:=x.2.2.2.2.2.1.1) (x6:=x.2.2.2.2.2.1.2.1) (x7:=x.2.2.2.2.2.1.2.2.1) (x8:=x.2.2.2.2.2.1.2.2.2) (x9:=x.2.2.2.2.2.2) h):=Qam (x0:=x.1) (x1:=x.2.1) (x2:=x.2.2.1) (x3:=x.2.2.2.1) (x4:=x.2.2.2.2.1) (x5:=x.2.2.2.2.2.1.1) (x6:=x.2.2.2.2.2.1.2.1) (x7:=x.2.2.2.2.2.1.2.2.1) (x8:=x.2.2.2.2.2.1.2.2.2) (x9:=x.2.2.2.2.2.2) h
theorem Ju {m:Mem} {g:Nat} {E:TypeId} {n5 n6 n7 n8 n9:Mem}{v5:Value}{v6:Value}{v7:Value}{v8:Value}{v9:Value} (x0:Bool) (x1:Bool) (x2:Bool) (x3:Int) (x4:Int) (x5:List UInt8) (x6:List UInt8) (x7:List UInt8) (x8:List UInt8) (x9:List Xa) (hS:Qu m [QE g (.cells [.bool x0,.bool x1,.bool x2,.int .i64 x3,.int .i64 x4,v5,v6,v7,v8,v9].toArray E (0,0)),n5,n6,n7,n8,n9]) (h3:inK .i64 x3) (h4:inK .i64 x4) (h5:Ow (.sl .byte) n5 [v5] x5) (h6:Ow (.sl .byte) n6 [v6] x6) (h7:Ow (.sl .byte) n7 [v7] x7) (h8:Ow (.sl .byte) n8 [v8] x8) (h9:Ow (.sl Z8) n9 [v9] x9):Ow (.ptr Qy) m [.pointer (some ⟨g,0,none⟩)] (g,(x0,x1,x2,x3,x4,(x5,x6,x7,x8),x9)):=
 Ow.clsP hS fun hS=>QgQ x0 x1 x2 x3 x4 x5 x6 x7 x8 x9 hS h3 h4 h5 h6 h7 h8 h9
theorem QU {m:Mem} {g:Nat} {E:TypeId} {n5 n6 n7 n8 n9:Mem}{v5:Value}{v6:Value}{v7:Value}{v8:Value}{v9:Value} (x:QG) (hS:Qu m [QE g (.cells [.bool x.1,.bool x.2.1,.bool x.2.2.1,.int .i64 x.2.2.2.1,.int .i64 x.2.2.2.2.1,v5,v6,v7,v8,v9].toArray E (0,0)),n5,n6,n7,n8,n9]) (h3:inK .i64 x.2.2.2.1) (h4:inK .i64 x.2.2.2.2.1) (h5:Ow (.sl .byte) n5 [v5] x.2.2.2.2.2.1.1) (h6:Ow (.sl .byte) n6 [v6] x.2.2.2.2.2.1.2.1) (h7:Ow (.sl .byte) n7 [v7] x.2.2.2.2.2.1.2.2.1) (h8:Ow (.sl .byte) n8 [v8] x.2.2.2.2.2.1.2.2.2) (h9:Ow (.sl Z8) n9 [v9] x.2.2.2.2.2.2):Ow (.ptr Qy) m [.pointer (some ⟨g,0,none⟩)] (g,x):=Ju (x.1) (x.2.1) (x.2.2.1) (x.2.2.2.1) (x.2.2.2.2.1) (x.2.2.2.2.2.1.1) (x.2.2.2.2.2.1.2.1) (x.2.2.2.2.2.1.2.2.1) (x.2.2.2.2.2.1.2.2.2) (x.2.2.2.2.2.2) hS h3 h4 h5 h6 h7 h8 h9
abbrev Z7 : Ty := .pair (.int .i64) (.pair .bool (.pair (.int .i64) (.sl .byte)))
abbrev Y9 := Int × Bool × Int × (List UInt8)
instance Qoe : DecidableEq Y9 := (@instDecidableEqProd _ _ inferInstance (@instDecidableEqProd _ _ inferInstance (@instDecidableEqProd _ _ inferInstance inferInstance)))
theorem XH {m:Mem} {cs:List Value} {x0:Int} {x1:Bool} {x2:Int} {x3:List UInt8} (h:Rd Z7 m cs (x0,x1,x2,x3)):∃ (A3:Option Addr),∃ (c3:Nat),cs=[(.int .i64 x0:Value),.bool x1,.int .i64 x2,.slice A3 x3.length c3]∧inK .i64 x0∧inK .i64 x2∧Rd (.sl .byte) m [.slice A3 x3.length c3] x3:=by
 obtain ⟨p1,q1,rfl,u1,w1⟩:=Rd.pair h
 obtain ⟨rfl,z2⟩:=(show _=_∧_ from u1)
 obtain ⟨p3,q3,rfl,u3,w3⟩:=Rd.pair w1
 obtain rfl:=(show _=_ from u3)
 obtain ⟨p5,q5,rfl,u5,w5⟩:=Rd.pair w3
 obtain ⟨rfl,z6⟩:=(show _=_∧_ from u5)
 have z7:=w5
 obtain ⟨A7,c7,rfl,_⟩:=Rd.slice1 w5
 exact ⟨A7,c7,rfl,z2,z6,z7⟩
theorem QaP {m:Mem} (x0:Int) (x1:Bool) (x2:Int) (x3:List UInt8) (h0:inK .i64 x0) (h2:inK .i64 x2) {v3:Value} (h3:Rd (.sl .byte) m [v3] x3):Rd Z7 m [.int .i64 x0,.bool x1,.int .i64 x2,v3] (x0,x1,x2,x3):=(Rd.mkPair (c1:=[_]) (show Rd (.int .i64) m [_] _ from ⟨rfl,h0⟩) (Rd.mkPair (c1:=[_]) (show Rd .bool m [_] _ from rfl) (Rd.mkPair (c1:=[_]) (show Rd (.int .i64) m [_] _ from ⟨rfl,h2⟩) h3)))
theorem Qdi {m:Mem} {n3:Mem} (x0:Int) (x1:Bool) (x2:Int) (x3:List UInt8) (hS:Qu m [n3]) (h0:inK .i64 x0) (h2:inK .i64 x2) {v3:Value} (h3:Ow (.sl .byte) n3 [v3] x3):Ow Z7 m [.int .i64 x0,.bool x1,.int .i64 x2,v3] (x0,x1,x2,x3):=by
 obtain ⟨e1,la1,lb1,Sa1,Sb1⟩:=Qu.cut (l:=[]) (r:=[n3]) hS
 obtain ⟨e2,la2,lb2,Sa2,Sb2⟩:=Qu.cut (l:=[]) (r:=[n3]) Sb1
 obtain ⟨e3,la3,lb3,Sa3,Sb3⟩:=Qu.cut (l:=[]) (r:=[n3]) Sb2
 exact (Ow.mkPair (c1:=[_]) e1 la1 lb1 (show Ow (.int .i64) _ [_] _ from ⟨rfl,h0⟩) (Ow.mkPair (c1:=[_]) e2 la2 lb2 (show Ow .bool _ [_] _ from rfl) (Ow.mkPair (c1:=[_]) e3 la3 lb3 (show Ow (.int .i64) _ [_] _ from ⟨rfl,h2⟩) (h3.up (Sb3.1 _ (.head _))))))
abbrev Qn : Ty := .pair .bool (.pair (.pair (.sl .byte) (.pair (.sl .byte) (.pair (.sl .byte) (.sl .byte)))) (.pair (.sl Z7) (.pair .bool (.pair .bool (.pair (.int .i64) (.int .i64))))))
abbrev Qo := Bool × ((List UInt8) × (List UInt8) × (List UInt8) × (List UInt8)) × (List Y9) × Bool × Bool × Int × Int
instance Qnt : DecidableEq Qo := (@instDecidableEqProd _ _ inferInstance (@instDecidableEqProd _ _ (@instDecidableEqProd _ _ inferInstance (@instDecidableEqProd _ _ inferInstance (@instDecidableEqProd _ _ inferInstance inferInstance))) (@instDecidableEqProd _ _ inferInstance (@instDecidableEqProd _ _ inferInstance (@instDecidableEqProd _ _ inferInstance (@instDecidableEqProd _ _ inferInstance inferInstance))))))
theorem Qec {m:Mem} {cs:List Value} {x0:Bool} {x1:List UInt8} {x2:List UInt8} {x3:List UInt8} {x4:List UInt8} {x5:List Y9} {x6:Bool} {x7:Bool} {x8:Int} {x9:Int} (h:Ow Qn m cs (x0,(x1,x2,x3,x4),x5,x6,x7,x8,x9)):∃ (A1:Option Addr),∃ (c1:Nat),∃ (A2:Option Addr),∃ (c2:Nat),∃ (A3:Option Addr),∃ (c3:Nat),∃ (A4:Option Addr),∃ (c4:Nat),∃ (A5:Option Addr),∃ (c5:Nat),∃ (n1:Mem),∃ (n2:Mem),∃ (n3:Mem),∃ (n4:Mem),∃ (n5:Mem),cs=[(.bool x0:Value),.slice A1 x1.length c1,.slice A2 x2.length c2,.slice A3 x3.length c3,.slice A4 x4.length c4,.slice A5 x5.length c5,.bool x6,.bool x7,.int .i64 x8,.int .i64 x9]∧Qu m [n1,n2,n3,n4,n5]∧Ow (.sl .byte) n1 [.slice A1 x1.length c1] x1∧Ow (.sl .byte) n2 [.slice A2 x2.length c2] x2∧Ow (.sl .byte) n3 [.slice A3 x3.length c3] x3∧Ow (.sl .byte) n4 [.slice A4 x4.length c4] x4∧Ow (.sl Z7) n5 [.slice A5 x5.length c5] x5∧inK .i64 x8∧inK .i64 x9:=by
 obtain ⟨p1,q1,ma1,mb1,rfl,dj1,la1,lb1,u1,w1⟩:=Ow.pair h
 obtain rfl:=(show _=_ from u1)
 obtain ⟨p3,q3,ma3,mb3,rfl,dj3,la3,lb3,u3,w3⟩:=Ow.pair w1
 obtain ⟨p4,q4,ma4,mb4,rfl,dj4,la4,lb4,u4,w4⟩:=Ow.pair u3
 have z5:=u4
 obtain ⟨A5,c5,rfl,_⟩:=Ow.slice1 u4
 obtain ⟨p6,q6,ma6,mb6,rfl,dj6,la6,lb6,u6,w6⟩:=Ow.pair w4
 have z7:=u6
 obtain ⟨A7,c7,rfl,_⟩:=Ow.slice1 u6
 obtain ⟨p8,q8,ma8,mb8,rfl,dj8,la8,lb8,u8,w8⟩:=Ow.pair w6
 have z9:=u8
 obtain ⟨A9,c9,rfl,_⟩:=Ow.slice1 u8
 have z10:=w8
 obtain ⟨A10,c10,rfl,_⟩:=Ow.slice1 w8
 obtain ⟨p11,q11,ma11,mb11,rfl,dj11,la11,lb11,u11,w11⟩:=Ow.pair w3
 have z12:=u11
 obtain ⟨A12,c12,rfl,_⟩:=Ow.slice1 u11
 obtain ⟨p13,q13,ma13,mb13,rfl,dj13,la13,lb13,u13,w13⟩:=Ow.pair w11
 obtain rfl:=(show _=_ from u13)
 obtain ⟨p15,q15,ma15,mb15,rfl,dj15,la15,lb15,u15,w15⟩:=Ow.pair w13
 obtain rfl:=(show _=_ from u15)
 obtain ⟨p17,q17,ma17,mb17,rfl,dj17,la17,lb17,u17,w17⟩:=Ow.pair w15
 obtain ⟨rfl,z18⟩:=(show _=_∧_ from u17)
 obtain ⟨rfl,z19⟩:=(show _=_∧_ from w17)
 exact ⟨A5,c5,A7,c7,A9,c9,A10,c10,A12,c12,_,_,_,_,_,rfl,(Qu.app dj1 la1 lb1 (Qu.nil _) (Qu.app dj3 la3 lb3 (Qu.app dj4 la4 lb4 (Qu.one (Qb _)) (Qu.app dj6 la6 lb6 (Qu.one (Qb _)) (Qu.app dj8 la8 lb8 (Qu.one (Qb _)) (Qu.one (Qb _))))) (Qu.app dj11 la11 lb11 (Qu.one (Qb _)) (Qu.app dj13 la13 lb13 (Qu.nil _) (Qu.app dj15 la15 lb15 (Qu.nil _) (Qu.app dj17 la17 lb17 (Qu.nil _) (Qu.nil _))))))),z5,z7,z9,z10,z12,z18,z19⟩
theorem Qf3 {m:Mem} {n1 n2 n3 n4 n5:Mem} (x0:Bool) (x1:List UInt8) (x2:List UInt8) (x3:List UInt8) (x4:List UInt8) (x5:List Y9) (x6:Bool) (x7:Bool) (x8:Int) (x9:Int) (hS:Qu m [n1,n2,n3,n4,n5]) {v1:Value} (h1:Ow (.sl .byte) n1 [v1] x1) {v2:Value} (h2:Ow (.sl .byte) n2 [v2] x2) {v3:Value} (h3:Ow (.sl .byte) n3 [v3] x3) {v4:Value} (h4:Ow (.sl .byte) n4 [v4] x4) {v5:Value} (h5:Ow (.sl Z7) n5 [v5] x5) (h8:inK .i64 x8) (h9:inK .i64 x9):Ow Qn m [.bool x0,v1,v2,v3,v4,v5,.bool x6,.bool x7,.int .i64 x8,.int .i64 x9] (x0,(x1,x2,x3,x4),x5,x6,x7,x8,x9):=by
 obtain ⟨e1,la1,lb1,Sa1,Sb1⟩:=Qu.cut (l:=[]) (r:=[n1,n2,n3,n4,n5]) hS
 obtain ⟨e2,la2,lb2,Sa2,Sb2⟩:=Qu.cut (l:=[n1,n2,n3,n4]) (r:=[n5]) Sb1
 obtain ⟨e3,la3,lb3,Sa3,Sb3⟩:=Qu.cut (l:=[n1]) (r:=[n2,n3,n4]) Sa2
 obtain ⟨e4,la4,lb4,Sa4,Sb4⟩:=Qu.cut (l:=[n2]) (r:=[n3,n4]) Sb3
 obtain ⟨e5,la5,lb5,Sa5,Sb5⟩:=Qu.cut (l:=[n3]) (r:=[n4]) Sb4
 obtain ⟨e6,la6,lb6,Sa6,Sb6⟩:=Qu.cut (l:=[n5]) (r:=[]) Sb2
 obtain ⟨e7,la7,lb7,Sa7,Sb7⟩:=Qu.cut (l:=[]) (r:=[]) Sb6
 obtain ⟨e8,la8,lb8,Sa8,Sb8⟩:=Qu.cut (l:=[]) (r:=[]) Sb7
 obtain ⟨e9,la9,lb9,Sa9,Sb9⟩:=Qu.cut (l:=[]) (r:=[]) Sb8
 exact (Ow.mkPair (c1:=[_]) e1 la1 lb1 (show Ow .bool _ [_] _ from rfl) (Ow.mkPair (c1:=[_,_,_,_]) e2 la2 lb2 (Ow.mkPair (c1:=[_]) e3 la3 lb3 (h1.up (Sa3.1 _ (.head _))) (Ow.mkPair (c1:=[_]) e4 la4 lb4 (h2.up (Sa4.1 _ (.head _))) (Ow.mkPair (c1:=[_]) e5 la5 lb5 (h3.up (Sa5.1 _ (.head _))) (h4.up (Sb5.1 _ (.head _)))))) (Ow.mkPair (c1:=[_]) e6 la6 lb6 (h5.up (Sa6.1 _ (.head _))) (Ow.mkPair (c1:=[_]) e7 la7 lb7 (show Ow .bool _ [_] _ from rfl) (Ow.mkPair (c1:=[_]) e8 la8 lb8 (show Ow .bool _ [_] _ from rfl) (Ow.mkPair (c1:=[_]) e9 la9 lb9 (show Ow (.int .i64) _ [_] _ from ⟨rfl,h8⟩) (show Ow (.int .i64) _ [_] _ from ⟨rfl,h9⟩)))))))
theorem XY {m:Mem} {cs:List Value} {g:Nat} {x0:Bool} {x1:List UInt8} {x2:List UInt8} {x3:List UInt8} {x4:List UInt8} {x5:List Y9} {x6:Bool} {x7:Bool} {x8:Int} {x9:Int} (h:Ow (.ptr Qn) m cs (g,(x0,(x1,x2,x3,x4),x5,x6,x7,x8,x9))):∃ (E:TypeId),∃ (A1:Option Addr),∃ (c1:Nat),∃ (A2:Option Addr),∃ (c2:Nat),∃ (A3:Option Addr),∃ (c3:Nat),∃ (A4:Option Addr),∃ (c4:Nat),∃ (A5:Option Addr),∃ (c5:Nat),∃ (n1:Mem),∃ (n2:Mem),∃ (n3:Mem),∃ (n4:Mem),∃ (n5:Mem),cs=[.pointer (some ⟨g,0,none⟩)]∧Qu m [QE g (.cells [(.bool x0:Value),.slice A1 x1.length c1,.slice A2 x2.length c2,.slice A3 x3.length c3,.slice A4 x4.length c4,.slice A5 x5.length c5,.bool x6,.bool x7,.int .i64 x8,.int .i64 x9].toArray E (0,0)),n1,n2,n3,n4,n5]∧Ow (.sl .byte) n1 [.slice A1 x1.length c1] x1∧Ow (.sl .byte) n2 [.slice A2 x2.length c2] x2∧Ow (.sl .byte) n3 [.slice A3 x3.length c3] x3∧Ow (.sl .byte) n4 [.slice A4 x4.length c4] x4∧Ow (.sl Z7) n5 [.slice A5 x5.length c5] x5∧inK .i64 x8∧inK .i64 x9:=by
 obtain ⟨rfl,rc,E,m1,hd,l0,l1,h1⟩:=Ow.opnP h
 obtain ⟨A1,c1,A2,c2,A3,c3,A4,c4,A5,c5,n1,n2,n3,n4,n5,rfl,hS,f1,f2,f3,f4,f5,f8,f9⟩:=Qec h1
 exact ⟨E,A1,c1,A2,c2,A3,c3,A4,c4,A5,c5,n1,n2,n3,n4,n5,rfl,Qu.app hd l0 l1 (Qu.one (Qb _)) hS,f1,f2,f3,f4,f5,f8,f9⟩
theorem Ql {m:Mem} {cs:List Value} {g:Nat} {x:Qo} (h:Ow (.ptr Qn) m cs (g,x)):type_of% (XY (x0:=x.1) (x1:=x.2.1.1) (x2:=x.2.1.2.1) (x3:=x.2.1.2.2.1) (x4:=x.2.1.2.2.2) (x5:=x.2.2.1) (x6:=x.2.2.2.1) (x7:=x.2.2.2.2.1) (x8:=x.2.2.2.2.2.1) (x9:=x.2.2.2.2.2.2) h):=XY (x0:=x.1) (x1:=x.2.1.1) (x2:=x.2.1.2.1) (x3:=x.2.1.2.2.1) (x4:=x.2.1.2.2.2) (x5:=x.2.2.1) (x6:=x.2.2.2.1) (x7:=x.2.2.2.2.1) (x8:=x.2.2.2.2.2.1) (x9:=x.2.2.2.2.2.2) h
theorem Q5 {m:Mem} {g:Nat} {E:TypeId} {n1 n2 n3 n4 n5:Mem}{v1:Value}{v2:Value}{v3:Value}{v4:Value}{v5:Value} (x0:Bool) (x1:List UInt8) (x2:List UInt8) (x3:List UInt8) (x4:List UInt8) (x5:List Y9) (x6:Bool) (x7:Bool) (x8:Int) (x9:Int) (hS:Qu m [QE g (.cells [.bool x0,v1,v2,v3,v4,v5,.bool x6,.bool x7,.int .i64 x8,.int .i64 x9].toArray E (0,0)),n1,n2,n3,n4,n5]) (h1:Ow (.sl .byte) n1 [v1] x1) (h2:Ow (.sl .byte) n2 [v2] x2) (h3:Ow (.sl .byte) n3 [v3] x3) (h4:Ow (.sl .byte) n4 [v4] x4) (h5:Ow (.sl Z7) n5 [v5] x5) (h8:inK .i64 x8) (h9:inK .i64 x9):Ow (.ptr Qn) m [.pointer (some ⟨g,0,none⟩)] (g,(x0,(x1,x2,x3,x4),x5,x6,x7,x8,x9)):=
 Ow.clsP hS fun hS=>Qf3 x0 x1 x2 x3 x4 x5 x6 x7 x8 x9 hS h1 h2 h3 h4 h5 h8 h9
theorem QB {m:Mem} {g:Nat} {E:TypeId} {n1 n2 n3 n4 n5:Mem}{v1:Value}{v2:Value}{v3:Value}{v4:Value}{v5:Value} (x:Qo) (hS:Qu m [QE g (.cells [.bool x.1,v1,v2,v3,v4,v5,.bool x.2.2.2.1,.bool x.2.2.2.2.1,.int .i64 x.2.2.2.2.2.1,.int .i64 x.2.2.2.2.2.2].toArray E (0,0)),n1,n2,n3,n4,n5]) (h1:Ow (.sl .byte) n1 [v1] x.2.1.1) (h2:Ow (.sl .byte) n2 [v2] x.2.1.2.1) (h3:Ow (.sl .byte) n3 [v3] x.2.1.2.2.1) (h4:Ow (.sl .byte) n4 [v4] x.2.1.2.2.2) (h5:Ow (.sl Z7) n5 [v5] x.2.2.1) (h8:inK .i64 x.2.2.2.2.2.1) (h9:inK .i64 x.2.2.2.2.2.2):Ow (.ptr Qn) m [.pointer (some ⟨g,0,none⟩)] (g,x):=Q5 (x.1) (x.2.1.1) (x.2.1.2.1) (x.2.1.2.2.1) (x.2.1.2.2.2) (x.2.2.1) (x.2.2.2.1) (x.2.2.2.2.1) (x.2.2.2.2.2.1) (x.2.2.2.2.2.2) hS h1 h2 h3 h4 h5 h8 h9
abbrev Qhi := Int × Int × Int × Int × (List UInt8)
instance Qog : DecidableEq Qhi := (@instDecidableEqProd _ _ inferInstance (@instDecidableEqProd _ _ inferInstance (@instDecidableEqProd _ _ inferInstance (@instDecidableEqProd _ _ inferInstance inferInstance))))
abbrev Dur := Qm × Qm × Qm × Qm
abbrev YK := Xa
abbrev QK := QG
def QbO (q : Dur) (f : Int) : Qm := if f = 0 then q.1 else if f = 1 then q.2.1 else if f = 2 then q.2.2.1 else q.2.2.2
def Ql4 (q : Dur) (f : Int) (b : Qm) : Dur := if f = 0 then (b, q.2) else if f = 1 then (q.1, b, q.2.2) else if f = 2 then (q.1, q.2.1, b, q.2.2.2) else (q.1, q.2.1, q.2.2.1, b)
def Qbw (b : Qm) (s : YK) : Qm := if s.1 = 0 then b ++ s.2.2.1 else if s.1 = 1 then b.take s.2.2.2.toNat else b
def Zs (q : Dur) (s : YK) : Dur := Ql4 q s.2.1 (Qbw (QbO q s.2.1) s)
def Qbz (q : Dur) (l : List YK) : Dur := l.foldl Zs q
def YM (f : Int) (b : Qm) (s : YK) : Qm := if s.2.1 = f then Qbw b s else b
def JK (q : Dur) (l : List YK) (f : Int) : Qm := l.foldl (YM f) (QbO q f)
def inF (f : Int) : Prop := 0 ≤ f ∧ f < 4
instance (f : Int) : Decidable (inF f) := by unfold inF; infer_instance
theorem Qn0 {q:Dur} {f g:Int} {b:Qm} (hf:inF f) (hg:inF g):QbO (Ql4 q f b) g=if f=g then b else QbO q g:=by
 obtain ⟨h0,h1⟩:=hf;obtain ⟨h2,h3⟩:=hg
 obtain rfl | rfl | rfl | rfl:f=0∨f=1∨f=2∨f=3:=by omega
 all_goals obtain rfl | rfl | rfl | rfl:g=0∨g=1∨g=2∨g=3:=by omega
 all_goals rfl
def QgV (q : Dur) (s : YK) : Prop := (s.1 = 0 ∨ s.1 = 1) ∧ inF s.2.1 ∧ (s.1 = 0 → 1 ≤ s.2.2.1.length ∧ s.2.2.1.length ≤ 64) ∧ (s.1 = 1 → 0 ≤ s.2.2.2 ∧ s.2.2.2 ≤ (QbO q s.2.1).length)
def QbN : Dur → List YK → Prop
  | _, [] => True
  | q, s :: r => QgV q s ∧ QbN (Zs q s) r
theorem Qcg : ∀ {l r : List YK} {q : Dur}, QbN q (l ++ r) ↔ QbN q l ∧ QbN (Qbz q l) r
  | [], r, q => by simp [QbN, Qbz]
  | s :: l, r, q => by
    show QgV q s ∧ QbN (Zs q s) (l ++ r) ↔ (QgV q s ∧ QbN (Zs q s) l) ∧ QbN (Qbz (Zs q s) l) r
    rw [Qcg (l := l), and_assoc]
theorem Qcb : ∀ {l : List YK} {q : Dur} {f : Int}, QbN q l → inF f → QbO (Qbz q l) f = JK q l f
  | [], q, f, _, _ => rfl
  | s :: l, q, f, h, hf => by
    show QbO (Qbz (Zs q s) l) f = _
    rw [Qcb h.2 hf]
    show l.foldl (YM f) (QbO (Zs q s) f) = l.foldl (YM f) (YM f (QbO q f) s)
    rw [Zs, Qn0 h.1.2.1 hf]
    unfold YM
    split
    · rename_i he; rw [he]
    · rfl
def Ye (q : Dur) : Nat := q.1.length + q.2.1.length + q.2.2.1.length + q.2.2.2.length
def Xu (l : List YK) : Nat := (l.map fun s => s.2.2.1.length).sum
theorem Qau (s:YK) (l:List YK):Xu (s::l)=s.2.2.1.length+Xu l:=by simp [Xu]
theorem Qd0 (l r:List YK):Xu (l++r)=Xu l+Xu r:=by simp [Xu]
theorem Qch (q:Dur) (f:Int):(QbO q f).length≤Ye q:=by unfold QbO Ye;split <;> (try split) <;> (try split) <;> omega
theorem Qkb {q:Dur} {f:Int} {b:Qm}:Ye (Ql4 q f b)+(QbO q f).length=Ye q+b.length:=by
 unfold Ql4 QbO Ye
 split
 ·dsimp only;omega
 ·split
  ·dsimp only;omega
  ·split <;> (dsimp only;omega)
theorem Qfi (b:Qm) (s:YK):(Qbw b s).length≤b.length+s.2.2.1.length:=by
 unfold Qbw
 split
 ·simp
 ·split
  ·simp only [List.length_take];omega
  ·omega
theorem QeS (q:Dur) (s:YK):Ye (Zs q s)≤Ye q+s.2.2.1.length:=by
 have:=Qkb (q:=q) (f:=s.2.1) (b:=Qbw (QbO q s.2.1) s)
 have:=Qfi (QbO q s.2.1) s
 unfold Zs
 omega
theorem Qca : ∀ (l : List YK) (q : Dur), Ye (Qbz q l) ≤ Ye q + Xu l
  | [], q => by simp [Qbz, Xu]
  | s :: l, q => by
    have h1 := Qca l (Zs q s)
    have h2 := QeS q s
    rw [Qau]
    show Ye (Qbz (Zs q s) l) ≤ _
    omega
theorem X2 (f : Int) : ∀ (l : List YK) (b : Qm), (l.foldl (YM f) b).length ≤ b.length + Xu l
  | [], b => by simp [Xu]
  | s :: l, b => by
    have h1 := X2 f l (YM f b s)
    have h2 : (YM f b s).length ≤ b.length + s.2.2.1.length := by
      unfold YM
      split
      · exact Qfi b s
      · omega
    rw [Qau, List.foldl_cons]; omega
theorem YW (q:Dur) (l:List YK) (f:Int):(JK q l f).length≤Ye q+Xu l:=by
 have:=X2 f l (QbO q f)
 have:=Qch q f
 unfold JK;omega
def okD (d : QK) : Prop := QbN d.2.2.2.2.2.1 d.2.2.2.2.2.2 ∧ 0 ≤ d.2.2.2.1 ∧ 0 ≤ d.2.2.2.2.1
def wD (d : QK) : Nat := Ye d.2.2.2.2.2.1 + Xu d.2.2.2.2.2.2 + d.2.2.2.2.2.2.length + d.2.2.2.2.1.toNat
def X7 : QK := (true, false, false, 0, 0, ([], [], [], []), [])
theorem QcY:okD X7:=⟨trivial,Int.le_refl _,Int.le_refl _⟩
def Q1 (d : QK) : Int := if d.1 = false then 1 else if d.2.1 = true then 6 else 0
def QN (d : QK) : QK × Bool := if d.2.2.1 = true then (if d.2.2.2.1 = 0 then ((d.1, true, d.2.2), false) else ((d.1, d.2.1, d.2.2.1, d.2.2.2.1 - 1, d.2.2.2.2.1 + 1, d.2.2.2.2.2), true)) else ((d.1, d.2.1, d.2.2.1, d.2.2.2.1, d.2.2.2.2.1 + 1, d.2.2.2.2.2), true)
def QeF (d : QK) (s : YK) : QK := (d.1, d.2.1, d.2.2.1, d.2.2.2.1, d.2.2.2.2.1, d.2.2.2.2.2.1, d.2.2.2.2.2.2 ++ [s])
theorem YH {q:Dur} {f:Int} (h:f=0):QbO q f=q.1:=by subst h;rfl
theorem YG {q:Dur} {f:Int} (h:f=1):QbO q f=q.2.1:=by subst h;rfl
theorem YF {q:Dur} {f:Int} (h:f=2):QbO q f=q.2.2.1:=by subst h;rfl
theorem YE {q:Dur} {f:Int} (h:f=3):QbO q f=q.2.2.2:=by subst h;rfl
theorem QeA {q:Dur} {f:Int} {b:Qm} (h:f=0):Ql4 q f b=(b,q.2):=by subst h;rfl
theorem Qez {q:Dur} {f:Int} {b:Qm} (h:f=1):Ql4 q f b=(q.1,b,q.2.2):=by subst h;rfl
theorem Qey {q:Dur} {f:Int} {b:Qm} (h:f=2):Ql4 q f b=(q.1,q.2.1,b,q.2.2.2):=by subst h;rfl
theorem Qex {q:Dur} {f:Int} {b:Qm} (h:f=3):Ql4 q f b=(q.1,q.2.1,q.2.2.1,b):=by subst h;rfl
def Zj (d : QK) (k : Nat) : QK := (d.1, d.2.1, d.2.2.1, d.2.2.2.1, d.2.2.2.2.1, Qbz d.2.2.2.2.2.1 (d.2.2.2.2.2.2.take k), d.2.2.2.2.2.2.drop k)
theorem JT {α:Type} {l:List α} {n k:Nat} {x:α} (h:(l.take n)[k]? =some x):l[k]? =some x:=by
 rw [List.getElem?_take] at h
 split at h
 ·exact h
 ·cases h
theorem Qfh {α:Type} {l:List α} {k:Nat} {x:α} (h:l[k]? =some x):l=l.take k++x::l.drop (k+1):=by
 obtain ⟨h1,h2⟩:=List.getElem?_eq_some_iff.1 h
 rw [← h2,← List.drop_eq_getElem_cons h1,List.take_append_drop]
section
variable {q : Dur} {l : List YK} {f : Int} {b : Qm} {k : Nat} {s : YK}
theorem QgU (hb:b=JK q (l.take k) f) (hs:l[k]? =some s):YM f b s=JK q (l.take (k+1)) f:=by
 rw [hb,JK,JK,List.take_add_one,hs,List.foldl_append];rfl
theorem QdC (hb:b=JK q (l.take k) f) (hs:l[k]? =some s) (h:s.2.1=f):Qbw b s=JK q (l.take (k+1)) f:=by
 rw [← QgU hb hs,YM,if_pos h]
theorem Qf7 (hb:b=JK q (l.take k) f) (hs:l[k]? =some s) (h:¬ s.2.1=f):b=JK q (l.take (k+1)) f:=by
 rw [← QgU hb hs,YM,if_neg h]
theorem Qf8 (hg:QbN q l) (hs:l[k]? =some s):QgV (Qbz q (l.take k)) s∧QbN q (l.take k):=by
 rw [Qfh hs,Qcg] at hg
 exact ⟨hg.2.1,hg.1⟩
theorem QiK (hg:QbN q l) (hb:b=JK q (l.take k) f) (hs:l[k]? =some s) (hf:inF f) (h:s.2.1=f):s.1=1→0≤s.2.2.2∧s.2.2.2≤b.length:=by
 obtain ⟨h1,h2⟩:=Qf8 hg hs
 intro h3
 have:=h1.2.2.2 h3
 rw [h,Qcb h2 hf,← hb] at this
 exact this
theorem QeX (hs:l[k]? =some s):Xu (l.take k)+s.2.2.1.length≤Xu l:=by
 conv=>rhs;rw [Qfh hs]
 rw [Qd0,Qau];omega
theorem QgT (hb:b=JK q (l.take k) f) (hs:l[k]? =some s):b.length+s.2.2.1.length≤Ye q+Xu l:=by
 have h1:=YW q (l.take k) f
 have h2:=QeX hs
 rw [hb];omega
theorem Q6 {q0:Dur} (hb:q=Qbz q0 (l.take k)) (hs:l[k]? =some s):Zs q s=Qbz q0 (l.take (k+1)):=by
 rw [hb,Qbz,Qbz,List.take_add_one,hs,List.foldl_append];rfl
theorem Xp {q0:Dur} (hg:QbN q0 l) (hb:q=Qbz q0 (l.take k)) (hs:l[k]? =some s):inF s.2.1∧(s.1=1→0≤s.2.2.2∧s.2.2.2≤(QbO q s.2.1).length):=by
 obtain ⟨h1,h2⟩:=Qf8 hg hs
 subst hb
 exact ⟨h1.2.1,h1.2.2.2⟩
theorem YD {q0:Dur} (hb:q=Qbz q0 (l.take k)) (hs:l[k]? =some s):(QbO q s.2.1).length+s.2.2.1.length≤Ye q0+Xu l:=by
 have h1:=Qca (l.take k) q0
 have h2:=QeX hs
 have h3:=Qch q s.2.1
 subst hb;omega
end
theorem YB {d:QK} (h:okD d):okD (QN d).1:=by
 obtain ⟨h1,h2,h3⟩:=h
 unfold QN
 split
 ·split
  ·exact ⟨h1,h2,h3⟩
  ·exact ⟨h1,by dsimp only;omega,by dsimp only;omega⟩
 ·exact ⟨h1,h2,by dsimp only;omega⟩
theorem Qcs {d:QK} (h:okD d):wD (QN d).1≤wD d+1:=by
 have h3:=h.2.2
 unfold QN
 split
 ·split
  ·show wD d≤_;omega
  ·simp only [wD];omega
 ·simp only [wD];omega
theorem Qbg (d:QK):(QN d).1.1=d.1∧(QN d).1.2.2.2.2.2=d.2.2.2.2.2:=by
 unfold QN
 split
 ·split <;> exact ⟨rfl,rfl⟩
 ·exact ⟨rfl,rfl⟩
theorem Qny {d:QK} {s:YK} (h:okD d) (hs:QgV (Qbz d.2.2.2.2.2.1 d.2.2.2.2.2.2) s):okD (QeF d s):=
 ⟨Qcg.2 ⟨h.1,hs,trivial⟩,h.2⟩
theorem add_w (d:QK) (s:YK):wD (QeF d s)=wD d+s.2.2.1.length+1:=by
 simp only [wD,QeF,Qd0,Qau,List.length_append,List.length_cons,List.length_nil]
 show Ye _+(Xu _+(s.2.2.1.length+Xu []))+_+_=_
 simp only [Xu,List.map_nil,List.sum_nil]
 omega
theorem Qd1 {d:QK} (k:Nat) (h:okD d):okD (Zj d k):=by
 obtain ⟨h1,h2⟩:=h
 rw [← List.take_append_drop k d.2.2.2.2.2.2,Qcg] at h1
 exact ⟨h1.2,h2⟩
theorem Qdx (d:QK) (k:Nat):wD (Zj d k)≤wD d:=by
 have h1:=Qca (d.2.2.2.2.2.2.take k) d.2.2.2.2.2.1
 have h2:Xu d.2.2.2.2.2.2=Xu (d.2.2.2.2.2.2.take k)+Xu (d.2.2.2.2.2.2.drop k):=by rw [← Qd0,List.take_append_drop]
 simp only [wD,Zj,List.length_drop]
 omega
def JR : Nat → QK → Int → Qm → QK × Int
  | 0, d, _, _ => (d, 0)
  | n + 1, d, f, b => if b.length = 0 then (d, 0) else if (QN d).2 = true then JR n (QeF (QN d).1 (0, f, b.take 64, 0)) f (b.drop 64) else ((QN d).1, 6)
def Q7 (d : QK) (f : Int) (b : Qm) : QK × Int := if ¬ Q1 d = 0 then (d, Q1 d) else if ¬ inF f then (d, 2) else JR b.length d f b
section
variable {d d' : QK} {f : Int} {b : Qm} {n m : Nat} {p : QK × Int}
theorem QdI (hp:p=JR n d f b) (hb:b.length=0):p=(d,0):=by
 rw [hp];cases n with
 | zero=>rfl
 | succ n=>exact if_pos hb
theorem QaW (hp:p=JR n d f b) (hn:b.length≤n) (hb:0 < b.length) (h:¬ (QN d).2=true):p=((QN d).1,6):=by
 rw [hp];cases n with
 | zero=>omega
 | succ n=>rw [JR,if_neg (by omega),if_neg h]
theorem QeG (hp : p = JR n d f b) (hn : b.length ≤ n) (hb : 0 < b.length) (h : (QN d).2 = true) (hm : m = min b.length 64) : p = JR (n - 1) (QeF (QN d).1 (0, f, b.take m, 0)) f (b.drop m) := by
  rw [hp]; cases n with
  | zero => omega
  | succ n =>
    rw [JR, if_neg (by omega), if_pos h]
    have h1 : b.take m = b.take 64 := by
      by_cases h0 : b.length ≤ 64
      · rw [hm, List.take_of_length_le (by omega), List.take_of_length_le h0]
      · rw [hm, Nat.min_eq_right (by omega)]
    have h2 : b.drop m = b.drop 64 := by
      by_cases h0 : b.length ≤ 64
      · rw [hm, List.drop_of_length_le (by omega), List.drop_of_length_le h0]
      · rw [hm, Nat.min_eq_right (by omega)]
    rw [h1, h2]; rfl
theorem Qhv (h:okD d) (hf:inF f) (hb:0 < b.length) (hm:m=min b.length 64):okD (QeF (QN d).1 (0,f,b.take m,0)):=
 Qny (YB h) ⟨.inl rfl,hf,fun _=>by simp only [List.length_take];omega,fun h=>by cases h⟩
theorem Qka (h:okD d) (hb:0 < b.length) (hm:m=min b.length 64):wD (QeF (QN d).1 (0,f,b.take m,0))+3*(b.drop m).length≤wD d+3*b.length:=by
 have h1:=Qcs h
 rw [add_w]
 simp only [List.length_take,List.length_drop]
 omega
theorem QcF : ∀ (n : Nat) {d : QK} {b : Qm}, okD d → inF f → okD (JR n d f b).1 ∧ wD (JR n d f b).1 ≤ wD d + 3 * b.length + 1
  | 0, d, b, h, _ => ⟨h, by show wD d ≤ _; omega⟩
  | n + 1, d, b, h, hf => by
    unfold JR
    split
    · exact ⟨h, by show wD d ≤ _; omega⟩
    · rename_i h0
      split
      · have e1 : b.take 64 = b.take (min b.length 64) := by
          by_cases h0 : b.length ≤ 64
          · rw [Nat.min_eq_left h0, List.take_of_length_le h0, List.take_of_length_le (Nat.le_refl _)]
          · rw [Nat.min_eq_right (by omega)]
        have h1 := Qhv (m := min b.length 64) h hf (by omega) rfl
        have h2 := Qka (f := f) (m := min b.length 64) h (by omega) rfl
        rw [← e1] at h1 h2
        obtain ⟨k1, k2⟩ := QcF n (b := b.drop 64) h1 hf
        simp only [List.length_drop] at h2 k2
        exact ⟨k1, by omega⟩
      · have := Qcs h
        exact ⟨YB h, by dsimp only; omega⟩
end
theorem X8 {d:QK} {f:Int} {b:Qm} (h:okD d):okD (Q7 d f b).1:=by
 unfold Q7;split
 ·exact h
 ·split
  ·exact h
  ·rename_i hf;exact (QcF _ h (Decidable.not_not.1 hf)).1
theorem Qhn {d:QK} {f:Int} {b:Qm} (h:okD d):wD (Q7 d f b).1≤wD d+3*b.length+1:=by
 unfold Q7;split
 ·show wD d≤_;omega
 ·split
  ·show wD d≤_;omega
  ·rename_i hf;exact (QcF _ h (Decidable.not_not.1 hf)).2
def Xe (d : QK) (f n : Int) : QK × Int := if ¬ Q1 d = 0 then (d, Q1 d) else if ¬ inF f ∨ n < 0 ∨ ((JK d.2.2.2.2.2.1 d.2.2.2.2.2.2 f).length : Int) < n then (d, 2) else
  if (QN d).2 = true then (QeF (QN d).1 (1, f, [], n), 0) else ((QN d).1, 6)
theorem Qbe {d:QK} {f n:Int} (h:okD d):okD (Xe d f n).1:=by
 unfold Xe;split
 ·exact h
 ·split
  ·exact h
  ·rename_i h1
   have hf:inF f:=Decidable.byContradiction fun q=>h1 (.inl q)
   have hn:¬ n < 0:=fun q=>h1 (.inr (.inl q))
   have hl:¬ ((JK d.2.2.2.2.2.1 d.2.2.2.2.2.2 f).length:Int) < n:=fun q=>h1 (.inr (.inr q))
   split
   ·refine Qny (YB h) ⟨.inr rfl,hf,fun h=>(by cases h),fun _=>?_⟩
    rw [(Qbg d).2]
    rw [Qcb h.1 hf]
    dsimp only;omega
   ·exact YB h
theorem QmD {d:QK} {f n:Int} (h:okD d):wD (Xe d f n).1≤wD d+2:=by
 have:=Qcs h
 unfold Xe;split
 ·show wD d≤_;omega
 ·split
  ·show wD d≤_;omega
  ·split
   ·rw [add_w];simp only [List.length_nil];omega
   ·dsimp only;omega
def Zx (d : QK) : QK × Int := if ¬ Q1 d = 0 then (d, Q1 d) else if (QN d).2 = true then (Zj (QN d).1 (QN d).1.2.2.2.2.2.2.length, 0) else ((QN d).1, 6)
theorem QbF {d:QK} (h:okD d):okD (Zx d).1:=by
 unfold Zx;split
 ·exact h
 ·split
  ·exact Qd1 _ (YB h)
  ·exact YB h
theorem QeQ {d:QK} (h:okD d):wD (Zx d).1≤wD d+1:=by
 have h1:=Qcs h
 unfold Zx;split
 ·show wD d≤_;omega
 ·split
  ·have:=Qdx (QN d).1 (QN d).1.2.2.2.2.2.2.length
   dsimp only;omega
  ·dsimp only;omega
def Je (d : QK) (f : Int) : Qm × Int := if ¬ Q1 d = 0 then ([], Q1 d) else if ¬ inF f then ([], 2) else (JK d.2.2.2.2.2.1 d.2.2.2.2.2.2 f, 0)
theorem QgG (d:QK) (f:Int):(Je d f).1.length≤wD d:=by
 have:=YW d.2.2.2.2.2.1 d.2.2.2.2.2.2 f
 unfold Je;split
 ·exact Nat.zero_le _
 ·split
  ·exact Nat.zero_le _
  ·dsimp only [wD];omega
def Zm (d : QK) (n : Int) : QK × Int := if ¬ Q1 d = 0 then (d, Q1 d) else if n < 0 then (d, 2) else ((d.1, d.2.1, true, n, d.2.2.2.2), 0)
theorem Qen {d:QK} {n:Int} (h:okD d):okD (Zm d n).1:=by
 unfold Zm;split
 ·exact h
 ·split
  ·exact h
  ·exact ⟨h.1,by dsimp only;omega,h.2.2⟩
theorem QkX (d:QK) (n:Int):wD (Zm d n).1=wD d:=by
 unfold Zm;split
 ·rfl
 ·split <;> rfl
def Yv (d : QK) : QK × Int := if ¬ Q1 d = 0 then (d, Q1 d) else ((d.1, true, d.2.2), 0)
theorem Qea {d:QK} (h:okD d):okD (Yv d).1:=by unfold Yv;split <;> exact h
theorem Qkv (d:QK):wD (Yv d).1=wD d:=by unfold Yv;split <;> rfl
def QbX (d : QK) (t : Int) : Dur := match d.2.2.2.2.2.2 with
  | [] => d.2.2.2.2.2.1
  | s :: _ => if s.1 = 0 then Zs d.2.2.2.2.2.1 (s.1, s.2.1, s.2.2.1.take (min t ((s.2.2.1.length : Int) - 1)).toNat, s.2.2.2) else d.2.2.2.2.2.1
def Zr (d : QK) (k t : Int) : QK × Int := if d.1 = false then (d, 1) else if d.2.1 = false ∨ k < 0 ∨ t < 0 then (d, 2) else
  ((d.1, false, false, 0, d.2.2.2.2.1, QbX (Zj d (min k d.2.2.2.2.2.2.length).toNat) t, []), 0)
theorem Qj1 (d:QK) (t:Int):Ye (QbX d t)≤Ye d.2.2.2.2.2.1+Xu d.2.2.2.2.2.2:=by
 unfold QbX
 split
 ·omega
 ·rename_i s r hl
  rw [hl,Qau]
  split
  ·have:=QeS d.2.2.2.2.2.1 (s.1,s.2.1,s.2.2.1.take (min t ((s.2.2.1.length:Int) - 1)).toNat,s.2.2.2)
   simp only [List.length_take] at this
   omega
  ·omega
theorem Qb0 {d:QK} {k t:Int} (h:okD d):okD (Zr d k t).1:=by
 unfold Zr;split
 ·exact h
 ·split
  ·exact h
  ·exact ⟨trivial,Int.le_refl _,h.2.2⟩
theorem Qhw (d:QK) (k t:Int):wD (Zr d k t).1≤wD d:=by
 unfold Zr;split
 ·show wD d≤_;omega
 ·split
  ·show wD d≤_;omega
  ·have h1:=Qj1 (Zj d (min k d.2.2.2.2.2.2.length).toNat) t
   have h2:=Qdx d (min k d.2.2.2.2.2.2.length).toNat
   simp only [wD] at h2 ⊢
   show Ye _+0+0+_≤_
   have:(Zj d (min k d.2.2.2.2.2.2.length).toNat).2.2.2.2.1=d.2.2.2.2.1:=rfl
   omega
def Qfj (d : QK) : Int := if d.1 = false then 0 else d.2.2.2.2.1
def ZQ (d : QK) (f : Int) : Qm := if d.1 = false ∨ ¬ inF f then [] else QbO d.2.2.2.2.2.1 f
theorem Qdl (d:QK) (f:Int):(ZQ d f).length≤wD d:=by
 have:=Qch d.2.2.2.2.2.1 f
 unfold ZQ;split
 ·exact Nat.zero_le _
 ·simp only [wD];omega
theorem YX {d:QK} {f:Int} (h:¬ d.1=false) (h2:¬ ¬ inF f):ZQ d f=QbO d.2.2.2.2.2.1 f:=if_neg fun q=>q.elim h h2
theorem Qmo (d:QK):d.2.2.2.2.2.2.length≤wD d:=by unfold wD;omega
theorem QcE {d:QK} {f:Int} {b:Qm} (h:¬ Q1 d=0):Q7 d f b=(d,Q1 d):=if_pos h
theorem QcD {d:QK} {f:Int} {b:Qm} (h:¬ ¬ Q1 d=0) (h2:¬ inF f):Q7 d f b=(d,2):=by unfold Q7;rw [if_neg h,if_pos h2]
theorem Xn {d:QK} {f:Int} {b:Qm} (h:¬ ¬ Q1 d=0) (h2:¬ ¬ inF f):Q7 d f b=JR b.length d f b:=by unfold Q7;rw [if_neg h,if_neg h2]
theorem Qgf {d:QK} {f n:Int} (h:¬ Q1 d=0):Xe d f n=(d,Q1 d):=if_pos h
theorem XN {d:QK} {f n:Int} (h:¬ ¬ Q1 d=0) (h2:¬ inF f∨n < 0∨((JK d.2.2.2.2.2.1 d.2.2.2.2.2.2 f).length:Int) < n):Xe d f n=(d,2):=by unfold Xe;rw [if_neg h,if_pos h2]
theorem Qhc {d:QK} {f n:Int} (h:¬ ¬ Q1 d=0) (h1:¬ ¬ inF f) (h2:¬ n < 0) (h3:¬ ((JK d.2.2.2.2.2.1 d.2.2.2.2.2.2 f).length:Int) < n) (h4:¬ ¬ (QN d).2=true):Xe d f n=(QeF (QN d).1 (1,f,[],n),0):=by
 unfold Xe;rw [if_neg h,if_neg (fun q=>q.elim h1 fun q=>q.elim h2 h3),if_pos (Decidable.not_not.1 h4)]
theorem QbR {d:QK} {f n:Int} (h:¬ ¬ Q1 d=0) (h1:¬ ¬ inF f) (h2:¬ n < 0) (h3:¬ ((JK d.2.2.2.2.2.1 d.2.2.2.2.2.2 f).length:Int) < n) (h4:¬ (QN d).2=true):Xe d f n=((QN d).1,6):=by
 unfold Xe;rw [if_neg h,if_neg (fun q=>q.elim h1 fun q=>q.elim h2 h3),if_neg h4]
theorem YL {d:QK} (h:¬ Q1 d=0):Zx d=(d,Q1 d):=if_pos h
theorem ZS {d:QK} (h:¬ ¬ Q1 d=0) (h4:¬ (QN d).2=true):Zx d=((QN d).1,6):=by unfold Zx;rw [if_neg h,if_neg h4]
theorem Xj {d:QK} (h:¬ ¬ Q1 d=0) (h4:¬ ¬ (QN d).2=true):Zx d=(Zj (QN d).1 (QN d).1.2.2.2.2.2.2.length,0):=by unfold Zx;rw [if_neg h,if_pos (Decidable.not_not.1 h4)]
theorem QcL {d:QK} {k t:Int} (h:d.1=false):Zr d k t=(d,1):=if_pos h
theorem Yr {d:QK} {k t:Int} (h:¬ d.1=false) (h2:d.2.1=false∨k < 0∨t < 0):Zr d k t=(d,2):=by unfold Zr;rw [if_neg h,if_pos h2]
theorem QaK {d:QK} {k t:Int} (h:¬ d.1=false) (h2:d.2.1=true) (h3:¬ k < 0) (h4:¬ t < 0):Zr d k t=((d.1,false,false,0,d.2.2.2.2.1,QbX (Zj d (min k d.2.2.2.2.2.2.length).toNat) t,[]),0):=by
 unfold Zr;rw [if_neg h,if_neg (fun q=>q.elim (fun q=>absurd (h2.symm.trans q) (by decide)) fun q=>q.elim h3 h4)]
theorem Qij {d:QK} {t:Int} (h:d.2.2.2.2.2.2.length≤0):QbX d t=d.2.2.2.2.2.1:=by unfold QbX;rw [List.eq_nil_of_length_eq_zero (Nat.le_zero.1 h)]
theorem Qj3 {d:QK} {t:Int} {s:YK} (hs:d.2.2.2.2.2.2[0]? =some s) (h:¬ s.1=0):QbX d t=d.2.2.2.2.2.1:=by
 unfold QbX
 cases hl:d.2.2.2.2.2.2 with
 | nil=>rfl
 | cons x r=>rw [hl] at hs;cases hs;exact if_neg h
theorem QbW {d:QK} {t:Int} {s:YK} (hs:d.2.2.2.2.2.2[0]? =some s) (h:s.1=0):QbX d t=Zs d.2.2.2.2.2.1 (s.1,s.2.1,s.2.2.1.take (min t ((s.2.2.1.length:Int) - 1)).toNat,s.2.2.2):=by
 unfold QbX
 cases hl:d.2.2.2.2.2.2 with
 | nil=>rw [hl] at hs;cases hs
 | cons x r=>rw [hl] at hs;cases hs;exact if_pos h
theorem Qat {d:QK} {s:YK} (h:okD d) (hs:d.2.2.2.2.2.2[0]? =some s):inF s.2.1∧(s.1=0→1≤s.2.2.1.length)∧(QbO d.2.2.2.2.2.1 s.2.1).length+s.2.2.1.length≤wD d:=by
 obtain ⟨h1,_⟩:=Qf8 h.1 hs
 have h2:=YD (q:=d.2.2.2.2.2.1) (q0:=d.2.2.2.2.2.1) (by rfl) hs
 exact ⟨h1.2.1,fun h=>(h1.2.2.1 h).1,by unfold wD;omega⟩
abbrev DAct := Qhi
def QmT (l : List DAct) : Prop := (∀ a ∈ l, a.2.2.2.2.length ≤ 400) ∧ l.length ≤ 100
instance (l : List DAct) : Decidable (QmT l) := by unfold QmT; infer_instance
structure Fz (n : Int) (d : QK) : Prop where
  ok : okD d
  made : d.1 = true
  has : d.2.2.1 = true
  sum : d.2.2.2.2.1 + d.2.2.2.1 = n
  off : d.2.1 = true → d.2.2.2.1 = 0
theorem Fz.burn {n:Int} {d:QK} (h:Fz n d) (ho:d.2.1=false):Fz n (QN d).1∧((QN d).2=true↔(QN d).1.2.1=false)∧((QN d).2=true→(QN d).1.2.1=false):=by
 have hk:=YB h.ok
 obtain ⟨h1,h2,h3,h4,h5⟩:=h
 unfold QN at hk ⊢
 rw [if_pos h3] at hk ⊢
 split
 ·rename_i h0
  rw [if_pos h0] at hk
  exact ⟨⟨hk,h2,h3,h4,fun _=>h0⟩,by simp,by simp⟩
 ·rename_i h0
  rw [if_neg h0] at hk
  exact ⟨⟨hk,h2,h3,by dsimp only;omega,fun q=>absurd (ho.symm.trans q) (by decide)⟩,by simp [ho],fun _=>ho⟩
theorem Fz.add {n:Int} {d:QK} {s:YK} (h:Fz n d) (hk:okD (QeF d s)):Fz n (QeF d s):=⟨hk,h.made,h.has,h.sum,h.off⟩
structure Fs (n : Int) (d d' : QK) (e : Int) : Prop where
  fz : Fz n d'
  off : e = 6 ↔ d'.2.1 = true
  arg : e = 2 → d' = d
theorem Fs.wrong {n:Int} {d:QK} (h:Fz n d) (hw:¬ Q1 d=0):Fs n d d (Q1 d):=by
 have hm:¬ d.1=false:=by rw [h.made];decide
 unfold Q1 at hw ⊢
 rw [if_neg hm] at hw ⊢
 by_cases ho:d.2.1=true
 ·rw [if_pos ho];exact ⟨h,by simp [ho],fun q=>by cases q⟩
 ·rw [if_neg ho] at hw;exact absurd rfl hw
theorem on_of {n:Int} {d:QK} (h:Fz n d) (hw:Q1 d=0):d.2.1=false:=by
 have hm:¬ d.1=false:=by rw [h.made];decide
 unfold Q1 at hw
 rw [if_neg hm] at hw
 by_cases ho:d.2.1=true
 ·rw [if_pos ho] at hw;cases hw
 ·simpa using ho
theorem Fs.cut {n:Int} {d:QK} {f k:Int} (h:Fz n d):Fs n d (Xe d f k).1 (Xe d f k).2:=by
 have hk:=Qbe (f:=f) (n:=k) h.ok
 unfold Xe at hk ⊢
 split
 ·rename_i hw;exact Fs.wrong h hw
 ·rename_i hw
  have ho:=on_of h (Decidable.not_not.1 hw)
  obtain ⟨k1,k2,k3⟩:=h.burn ho
  split
  ·exact ⟨h,by simp [ho],fun _=>rfl⟩
  ·rename_i hf
   rw [if_neg hw,if_neg hf] at hk
   split
   ·rename_i hb
    rw [if_pos hb] at hk
    exact ⟨k1.add hk,by show (0:Int)=6↔(QN d).1.2.1=true;simp [k3 hb],fun q=>by cases q⟩
   ·rename_i hb
    refine ⟨k1,?_,fun q=>by cases q⟩
    have:(QN d).1.2.1=true:=by
     cases hc:(QN d).1.2.1 with
     | true=>rfl
     | false=>exact absurd (k2.2 hc) hb
    simp [this]
def leQ (p q : Dur) : Prop := ∀ f : Int, inF f → QbO p f <+: QbO q f
theorem leQ.trans {p q r:Dur} (h:leQ p q) (h':leQ q r):leQ p r:=fun f hf=>(h f hf).trans (h' f hf)
def begB (b a : Qm) : Prop := a.length ≤ b.length ∧ b.take a.length = a
instance (b a : Qm) : Decidable (begB b a) := by unfold begB; infer_instance
abbrev Qgj := Int × Int × (List Yn)
instance Qov : DecidableEq Qgj := (@instDecidableEqProd _ _ inferInstance (@instDecidableEqProd _ _ inferInstance inferInstance))
def hB1 (B : Qm) : Qm := B.drop (sN B 1048576)
def hB2 (B : Qm) : Qm := (hB1 B).drop (sN (hB1 B) 1048576)
abbrev hR1 (B : Qm) : Int × RS := Qe B 1048576 (0, false)
abbrev hR2 (B : Qm) : Int × RS := Qe B 1048576 (hR1 B).2
abbrev hR3 (B : Qm) : Int × RS := Qe B 1048576 (hR2 B).2
abbrev QlJ := Y9
abbrev JN := Qo
def QP (r : QlJ) : YK := (if r.2.1 = true then 1 else 0, r.1, r.2.2.2, r.2.2.1)
def QhN (s : YK) : QlJ := (s.2.1, decide (s.1 = 1), s.2.2.2, s.2.2.1)
@[simp] theorem Qix (r : QlJ) : QhN (QP r) = r := by obtain ⟨f, c, t, b⟩ := r; cases c <;> rfl
theorem Ql2 {s:YK} (h:s.1=0∨s.1=1):QP (QhN s)=s:=by
 obtain ⟨k,f,b,t⟩:=s
 rcases h with h | h <;> (dsimp only at h;subst h;rfl)
@[simp] theorem QcV (l : List QlJ) : (l.map QP).map QhN = l := by
  rw [List.map_map]
  conv => rhs; rw [← List.map_id l]
  congr 1; funext r; exact Qix r
@[simp] theorem comp_rs : QhN ∘ QP = id := funext Qix
theorem QeR:∀ {l:List YK} {q:Dur},QbN q l→(l.map QhN).map QP=l
 | [],_,_=>rfl
 | s::l,q,h=>by rw [List.map_cons,List.map_cons,Ql2 h.1.1,QeR h.2]
def Qc (r : JN) : QK := (r.1, !r.2.2.2.1, r.2.2.2.2.1, if r.2.2.2.2.1 = true then r.2.2.2.2.2.1 else 0, r.2.2.2.2.2.2, r.2.1, r.2.2.1.map QP)
def toR (d : QK) (x : Int) : JN := (d.1, d.2.2.2.2.2.1, d.2.2.2.2.2.2.map QhN, !d.2.1, d.2.2.1, if d.2.2.1 = true then d.2.2.2.1 else x, d.2.2.2.2.1)
def nf (d : QK) : Prop := d.2.2.1 = false → d.2.2.2.1 = 0
theorem ZU {d:QK} {x:Int} (h:okD d) (hn:nf d):Qc (toR d x)=d:=by
 obtain ⟨m,o,f,n,c,q,l⟩:=d
 have h1:=QeR h.1
 unfold nf at hn
 dsimp only at h1 hn
 unfold Qc toR
 dsimp only
 rw [h1]
 cases f
 ·simp [hn rfl]
 ·simp
theorem JF (r:JN):toR (Qc r) r.2.2.2.2.2.1=r:=by
 obtain ⟨m,q,l,o,h,n,c⟩:=r
 unfold Qc toR
 dsimp only
 rw [QcV]
 cases h <;> simp
theorem J1 (r:JN):nf (Qc r):=by
 unfold nf Qc
 dsimp only
 intro h;rw [h];rfl
def okR (r : JN) : Prop := okD (Qc r)
theorem Qdh {d:QK} {x:Int} (h:okD d) (hn:nf d):okR (toR d x):=by unfold okR;rw [ZU h hn];exact h
section
variable {d : QK}
theorem XA (h:nf d):nf (QN d).1:=by
 unfold QN
 split
 ·split
  ·exact h
  ·rename_i h1 _;intro q;exact absurd (h1.symm.trans q) (by decide)
 ·exact h
theorem QmX {s:YK} (h:nf d):nf (QeF d s):=h
theorem QkL {k:Nat} (h:nf d):nf (Zj d k):=h
theorem nf_go {f : Int} : ∀ (n : Nat) {d : QK} {b : Qm}, nf d → nf (JR n d f b).1
  | 0, d, b, h => h
  | n + 1, d, b, h => by
    unfold JR
    split
    · exact h
    · split
      · exact nf_go n (QmX (XA h))
      · exact XA h
theorem Qbp {f:Int} {b:Qm} (h:nf d):nf (Q7 d f b).1:=by
 unfold Q7;split
 ·exact h
 ·split
  ·exact h
  ·exact nf_go _ h
theorem Qeg {f n:Int} (h:nf d):nf (Xe d f n).1:=by
 unfold Xe;split
 ·exact h
 ·split
  ·exact h
  ·split
   ·exact QmX (XA h)
   ·exact XA h
theorem QfZ (h:nf d):nf (Zx d).1:=by
 unfold Zx;split
 ·exact h
 ·split
  ·exact QkL (XA h)
  ·exact XA h
theorem QhW {n:Int} (h:nf d):nf (Zm d n).1:=by
 unfold Zm;split
 ·exact h
 ·split
  ·exact h
  ·intro q;cases q
theorem QhV (h:nf d):nf (Yv d).1:=by unfold Yv;split <;> exact h
theorem Qf0 {k t:Int} (h:nf d):nf (Zr d k t).1:=by
 unfold Zr;split
 ·exact h
 ·split
  ·exact h
  ·intro _;rfl
end
def QaU (b : Qm) (r : QlJ) : Qm := if r.2.1 = true then b.take r.2.2.1.toNat else b ++ r.2.2.2
theorem ZH (b:Qm) (r:QlJ):QaU b r=Qbw b (QP r):=by
 obtain ⟨f,c,t,y⟩:=r
 cases c <;> rfl
theorem Jk {l:List QlJ} {k:Nat} {r:QlJ} (h:l[k]? =some r):(l.map QP)[k]? =some (QP r):=by rw [List.getElem?_map,h];rfl
def Jm (d : QK) (n : Nat) : QK := (d.1, d.2.1, d.2.2.1, d.2.2.2.1, d.2.2.2.2.1, Qbz d.2.2.2.2.2.1 (d.2.2.2.2.2.2.take n), d.2.2.2.2.2.2)
def QdA : JN := (true, ([], [], [], []), [], true, false, 0, 0)
theorem Qaz:Qc QdA=X7:=rfl
theorem ZW {r:QlJ} {i:Int} (h:r.1=i):(QP r).2.1=i:=h
theorem Qjk {r:QlJ} (h:r.2.1=true):(QP r).1=1:=if_pos h
theorem Qav {r:JN} (h:r.2.2.2.2.1=true) (h0:r.2.2.2.2.2.1=0):toR (QN (Qc r)).1 r.2.2.2.2.2.1=(r.1,r.2.1,r.2.2.1,false,r.2.2.2.2.1,r.2.2.2.2.2.1,r.2.2.2.2.2.2)∧(QN (Qc r)).2=false:=by
 obtain ⟨m,q,l,o,f,n,c⟩:=r
 dsimp only at h h0
 subst h;subst h0
 simp [QN,Qc,toR]
theorem Qaw {r:JN} (h:r.2.2.2.2.1=true) (h0:¬ r.2.2.2.2.2.1=0):toR (QN (Qc r)).1 r.2.2.2.2.2.1=(r.1,r.2.1,r.2.2.1,r.2.2.2.1,r.2.2.2.2.1,r.2.2.2.2.2.1 - 1,r.2.2.2.2.2.2+1)∧(QN (Qc r)).2=true:=by
 obtain ⟨m,q,l,o,f,n,c⟩:=r
 dsimp only at h h0
 subst h
 simp [QN,Qc,toR,h0]
theorem XP {r:JN} (h:r.2.2.2.2.1=false):toR (QN (Qc r)).1 r.2.2.2.2.2.1=(r.1,r.2.1,r.2.2.1,r.2.2.2.1,r.2.2.2.2.1,r.2.2.2.2.2.1,r.2.2.2.2.2.2+1)∧(QN (Qc r)).2=true:=by
 obtain ⟨m,q,l,o,f,n,c⟩:=r
 dsimp only at h
 subst h
 simp [QN,Qc,toR]
theorem QbY {X D:QK} {x:Int} (h:X.2.2.1=D.2.2.1):toR X (toR D x).2.2.2.2.2.1=toR X x:=by
 unfold toR
 dsimp only
 rw [h]
 cases D.2.2.1 <;> simp
theorem Qfo (d:QK):(QN d).1.2.2.1=d.2.2.1:=by
 unfold QN
 split
 ·split <;> rfl
 ·rfl
theorem Qev {D:QK} {x:Int}:toR (QN D).1 (toR D x).2.2.2.2.2.1=toR (QN D).1 x:=QbY (Qfo D)
theorem XO {b:Bool} (h:¬ ¬ (if b=true then (0:Int) else 6)=0):b=true:=by cases b <;> simp_all
theorem J4 {b:Bool} (h:¬ (if b=true then (0:Int) else 6)=0):¬ b=true:=by cases b <;> simp_all
theorem Qme {l:Qm} {a M:Nat} (h:M=min l.length (a+64)):(l.take M).drop a=(l.drop a).take 64:=by
 rw [List.drop_take,h]
 by_cases h0:l.length≤a+64
 ·rw [Nat.min_eq_left h0,List.take_of_length_le (by simp),List.take_of_length_le (by simp;omega)]
 ·rw [Nat.min_eq_right (by omega)];congr 1;omega
theorem QfM (b:Qm):b.take 64=b.take (min b.length 64):=by
 by_cases h0:b.length≤64
 ·rw [Nat.min_eq_left h0,List.take_of_length_le h0,List.take_of_length_le (Nat.le_refl _)]
 ·rw [Nat.min_eq_right (by omega)]
theorem Qi3 (b:Qm):b.drop 64=b.drop (min b.length 64):=by
 by_cases h0:b.length≤64
 ·rw [Nat.min_eq_left h0,List.drop_of_length_le h0,List.drop_of_length_le (Nat.le_refl _)]
 ·rw [Nat.min_eq_right (by omega)]
section
variable {r : JN} {D : QK} {x f : Int} {p q : Qm}
theorem QhC (hr:r=toR D x) (hfr:Qc r=D) (hp:p=q):
  (((toR (QN (Qc r)).1 r.2.2.2.2.2.1).1,(toR (QN (Qc r)).1 r.2.2.2.2.2.1).2.1,(toR (QN (Qc r)).1 r.2.2.2.2.2.1).2.2.1++[(f,false,0,p)],(toR (QN (Qc r)).1 r.2.2.2.2.2.1).2.2.2):JN)=toR (QeF (QN D).1 (0,f,q,0)) x:=by
 rw [hfr,hr,Qev,hp]
 unfold toR QeF
 dsimp only
 rw [List.map_append]
 rfl
theorem Qkp {n:Int} (hr:r=toR D x) (hfr:Qc r=D):
  (((toR (QN (Qc r)).1 r.2.2.2.2.2.1).1,(toR (QN (Qc r)).1 r.2.2.2.2.2.1).2.1,(toR (QN (Qc r)).1 r.2.2.2.2.2.1).2.2.1++[(f,true,n,[])],(toR (QN (Qc r)).1 r.2.2.2.2.2.1).2.2.2):JN)=toR (QeF (QN D).1 (1,f,[],n)) x:=by
 rw [hfr,hr,Qev]
 unfold toR QeF
 dsimp only
 rw [List.map_append]
 rfl
theorem Qjm (hr:r=toR D x) (hfr:Qc r=D):toR (QN D).1 x=toR (QN (Qc r)).1 r.2.2.2.2.2.1:=by rw [hfr,hr,Qev]
end
section
variable {D : QK} {f : Int} {l : Qm} {a n : Nat} {P : QK × Int}
theorem Qkf (h:okD D) (hn:nf D) (hf:inF f) (hb:0 < (l.drop a).length):okD (QeF (QN D).1 (0,f,(l.drop a).take 64,0))∧nf (QeF (QN D).1 (0,f,(l.drop a).take 64,0)):=by
 refine ⟨?_,XA hn⟩
 rw [QfM];exact Qhv h hf hb rfl
theorem QhB (hp:P=JR n D f (l.drop a)) (hn:(l.drop a).length≤n) (hb:0 < (l.drop a).length) (h:(QN D).2=true):P=JR (n - 1) (QeF (QN D).1 (0,f,(l.drop a).take 64,0)) f (l.drop (a+64)):=by
 rw [QeG hp hn hb h rfl,← QfM,← Qi3,List.drop_drop]
theorem Ql5 (h:okD D) (hb:0 < (l.drop a).length):wD (QeF (QN D).1 (0,f,(l.drop a).take 64,0))+3*(l.drop (a+64)).length≤wD D+3*(l.drop a).length:=by
 rw [← List.drop_drop,QfM,Qi3];exact Qka h hb rfl
end
theorem Qfz {r:JN} (h:okD (Qc r)):(toR (QN (Qc r)).1 r.2.2.2.2.2.1).2.2.1.length≤wD (Qc r)+1:=by
 have h1:=Qcs h
 have h2:=Qmo (QN (Qc r)).1
 show (((QN (Qc r)).1.2.2.2.2.2.2).map QhN).length≤_
 rw [List.length_map];omega
theorem QcS {X:QK} {x:Int} (h:okD X) (hn:nf X) {n:Nat} (hl:n=(toR X x).2.2.1.length):
  (((toR (Jm (Qc (toR X x)) n) (toR X x).2.2.2.2.2.1).1,(toR (Jm (Qc (toR X x)) n) (toR X x).2.2.2.2.2.1).2.1,[],(toR (Jm (Qc (toR X x)) n) (toR X x).2.2.2.2.2.1).2.2.2):JN)=toR (Zj X X.2.2.2.2.2.2.length) x:=by
 have hl2:n=X.2.2.2.2.2.2.length:=by rw [hl];exact List.length_map ..
 rw [ZU h hn,QbY (X:=Jm X n) (D:=X) rfl,hl2]
 unfold toR Jm Zj
 dsimp only
 rw [List.drop_length,List.map_nil]
section
variable {r : JN} {k t : Int} {x : QlJ}
theorem Qd6 (hk:0≤k):(Zj (Qc r) (min k (Qc r).2.2.2.2.2.2.length).toNat).2.2.2.2.2.2=(r.2.2.1.map QP).drop k.toNat:=by
 show (r.2.2.1.map QP).drop (min k ((r.2.2.1.map QP).length:Int)).toNat=_
 by_cases h:k≤((r.2.2.1.map QP).length:Int)
 ·rw [show min k ((r.2.2.1.map QP).length:Int)=k by omega]
 ·rw [List.drop_of_length_le (by omega),List.drop_of_length_le (by omega)]
theorem QcT (hk:0≤k):(Zj (Qc r) (min k (Qc r).2.2.2.2.2.2.length).toNat).2.2.2.2.2.1=Qbz r.2.1 ((r.2.2.1.map QP).take k.toNat):=by
 show Qbz r.2.1 ((r.2.2.1.map QP).take (min k ((r.2.2.1.map QP).length:Int)).toNat)=_
 by_cases h:k≤((r.2.2.1.map QP).length:Int)
 ·rw [show min k ((r.2.2.1.map QP).length:Int)=k by omega]
 ·rw [List.take_of_length_le (by omega),List.take_of_length_le (by omega)]
theorem ZT (n:Nat) (y:Int):(toR (Jm (Qc r) n) y).2.2.1=r.2.2.1:=QcV _
theorem XW (h:¬ r.1=false) (h2:r.2.2.2.1=false) (h3:¬ k < 0) (h4:¬ t < 0):
  toR (Zr (Qc r) k t).1 r.2.2.2.2.2.1=(r.1,QbX (Zj (Qc r) (min k (Qc r).2.2.2.2.2.2.length).toNat) t,[],true,false,r.2.2.2.2.2.1,r.2.2.2.2.2.2)∧(Zr (Qc r) k t).2=0:=by
 rw [QaK (d:=Qc r) h (by show (!r.2.2.2.1)=true;rw [h2];rfl) h3 h4]
 exact ⟨rfl,rfl⟩
theorem Qkj (hk:0≤k) (h:¬ k < ((r.2.2.1).length:Int)):QbX (Zj (Qc r) (min k (Qc r).2.2.2.2.2.2.length).toNat) t=Qbz r.2.1 ((r.2.2.1.map QP).take k.toNat):=by
 rw [Qij (by rw [Qd6 hk];simp only [List.length_drop,List.length_map];omega),QcT hk]
theorem Qit (hk:0≤k) (hx:r.2.2.1[k.toNat]? =some x):(Zj (Qc r) (min k (Qc r).2.2.2.2.2.2.length).toNat).2.2.2.2.2.2[0]? =some (QP x):=by
 rw [Qd6 hk,List.getElem?_drop,Nat.add_zero];exact Jk hx
theorem Ql8 (hk:0≤k) (hx:r.2.2.1[k.toNat]? =some x) (h:x.2.1=true):QbX (Zj (Qc r) (min k (Qc r).2.2.2.2.2.2.length).toNat) t=Qbz r.2.1 ((r.2.2.1.map QP).take k.toNat):=by
 rw [Qj3 (Qit hk hx) (by rw [Qjk h];decide),QcT hk]
theorem Qb6 (hk:0≤k) (hx:r.2.2.1[k.toNat]? =some x) (h:x.2.1=false):QbX (Zj (Qc r) (min k (Qc r).2.2.2.2.2.2.length).toNat) t=
  Ql4 (Qbz r.2.1 ((r.2.2.1.map QP).take k.toNat)) x.1 (QaU (QbO (Qbz r.2.1 ((r.2.2.1.map QP).take k.toNat)) x.1) (x.1,false,0,x.2.2.2.take (min t ((x.2.2.2.length:Int) - 1)).toNat)):=by
 rw [QbW (Qit hk hx) (by unfold QP;rw [if_neg (by rw [h];decide)]),QcT hk]
 obtain ⟨f,c,y,b⟩:=x
 dsimp only at h
 subst h
 rfl
theorem XV (h:okD (Qc r)) (hx:r.2.2.1[k.toNat]? =some x):inF x.1∧(x.2.1=false→1≤x.2.2.2.length)∧(QbO (Qbz r.2.1 ((r.2.2.1.map QP).take k.toNat)) x.1).length+x.2.2.2.length≤wD (Qc r):=by
 obtain ⟨h1,h2⟩:=Qf8 h.1 (Jk hx)
 have h3:=YD (q0:=r.2.1) rfl (Jk hx)
 refine ⟨h1.2.1,fun hc=>(h1.2.2.1 (by unfold QP;rw [if_neg (by rw [hc];decide)])).1,?_⟩
 have h4:Ye r.2.1+Xu (r.2.2.1.map QP)≤wD (Qc r):=by unfold wD;show _≤Ye r.2.1+Xu (r.2.2.1.map QP)+_+_;omega
 exact Nat.le_trans h3 h4
end
theorem Qiu {r:JN} (h:¬ ¬ Q1 (Qc r)=0):toR (Yv (Qc r)).1 r.2.2.2.2.2.1=(r.1,r.2.1,r.2.2.1,false,r.2.2.2.2.1,r.2.2.2.2.2.1,r.2.2.2.2.2.2):=by
 unfold Yv
 rw [if_neg h]
 obtain ⟨m,q,l,o,f,n,c⟩:=r
 cases f <;> simp [toR,Qc]
theorem on_T {r:JN} (h:¬ r.1=false):r.2.2.2.1=decide ((Qc r).1=true∧(Qc r).2.1=false):=by
 obtain ⟨m,q,l,o,f,n,c⟩:=r
 dsimp only at h
 cases m
 ·exact absurd rfl h
 ·cases o <;> rfl
theorem on_F {r:JN} (h:¬ ¬ r.1=false):false=decide ((Qc r).1=true∧(Qc r).2.1=false):=by
 obtain ⟨m,q,l,o,f,n,c⟩:=r
 dsimp only at h
 cases m
 ·rfl
 ·exact absurd (by decide) h
theorem Yy {α:Type} {A B:List α} {w N m:Nat} (h:A.length+B.length≤w) (hw:w≤N):A.length+(B.take m).length≤N:=by rw [List.length_take];omega
theorem is_on {r:JN} (h:r.2.2.2.1=true):(Qc r).2.1=false:=by show (!r.2.2.2.1)=false;rw [h];rfl
theorem QkS {r:JN} {n:Nat}:(toR (Jm (Qc r) n) r.2.2.2.2.2.1).2.2.2.2.2.1=r.2.2.2.2.2.1:=by
 obtain ⟨m,q,l,o,f,x,c⟩:=r
 cases f <;> rfl
theorem Xk {r:JN} {n:Nat} {Q Q':Dur} (hQ:Q=Q'):((r.1,Q,[],true,false,r.2.2.2.2.2.1,r.2.2.2.2.2.2):JN)=((toR (Jm (Qc r) n) r.2.2.2.2.2.1).1,Q',[],true,false,(toR (Jm (Qc r) n) r.2.2.2.2.2.1).2.2.2.2.2.1,(toR (Jm (Qc r) n) r.2.2.2.2.2.1).2.2.2.2.2.2):=by
 rw [QkS,hQ];rfl
theorem QkT {r:JN} {n k:Nat} {b0 b1 b2 b3:Qm} (hb:(b0,b1,b2,b3)=Qbz r.2.1 ((r.2.2.1.map QP).take k)) (hk:k=n∨(k≤n∧r.2.2.1.length≤k)):
  toR (Jm (Qc r) n) r.2.2.2.2.2.1=(r.1,(b0,b1,b2,b3),r.2.2.1,r.2.2.2.1,r.2.2.2.2.1,r.2.2.2.2.2.1,r.2.2.2.2.2.2):=by
 have h:Qbz r.2.1 ((r.2.2.1.map QP).take n)=(b0,b1,b2,b3):=by
  rw [hb]
  rcases hk with rfl | ⟨h1,h2⟩
  ·rfl
  ·rw [List.take_of_length_le (by rw [List.length_map];omega),List.take_of_length_le (by rw [List.length_map];omega)]
 obtain ⟨m,q,l,o,f,x,c⟩:=r
 dsimp only at h
 unfold toR Jm Qc
 dsimp only
 rw [h,QcV]
 cases f <;> simp
theorem Ql9 {r:JN} {f:Int} {b:Qm} (h:okR r):okR (toR (Q7 (Qc r) f b).1 r.2.2.2.2.2.1):=Qdh (X8 h) (Qbp (J1 r))
theorem Ql6 {r:JN} {f:Int} {b:Qm} (h:okR r):wD (Qc (toR (Q7 (Qc r) f b).1 r.2.2.2.2.2.1))≤wD (Qc r)+3*b.length+1:=by rw [ZU (X8 h) (Qbp (J1 r))];exact Qhn h
theorem ro_cut {r:JN} {f n:Int} (h:okR r):okR (toR (Xe (Qc r) f n).1 r.2.2.2.2.2.1):=Qdh (Qbe h) (Qeg (J1 r))
theorem rw_cut {r:JN} {f n:Int} (h:okR r):wD (Qc (toR (Xe (Qc r) f n).1 r.2.2.2.2.2.1))≤wD (Qc r)+2:=by rw [ZU (Qbe h) (Qeg (J1 r))];exact QmD h
theorem Qkl {r:JN}  (h:okR r):okR (toR (Zx (Qc r)).1 r.2.2.2.2.2.1):=Qdh (QbF h) (QfZ (J1 r))
theorem Qkg {r:JN}  (h:okR r):wD (Qc (toR (Zx (Qc r)).1 r.2.2.2.2.2.1))≤wD (Qc r)+1:=by rw [ZU (QbF h) (QfZ (J1 r))];exact QeQ h
theorem QnK {r:JN} {n:Int} (h:okR r):okR (toR (Zm (Qc r) n).1 r.2.2.2.2.2.1):=Qdh (Qen h) (QhW (J1 r))
theorem QnG {r:JN} {n:Int} (h:okR r):wD (Qc (toR (Zm (Qc r) n).1 r.2.2.2.2.2.1))≤wD (Qc r):=by rw [ZU (Qen h) (QhW (J1 r))];exact Nat.le_of_eq (QkX _ _)
theorem QnI {r:JN}  (h:okR r):okR (toR (Yv (Qc r)).1 r.2.2.2.2.2.1):=Qdh (Qea h) (QhV (J1 r))
theorem QnF {r:JN}  (h:okR r):wD (Qc (toR (Yv (Qc r)).1 r.2.2.2.2.2.1))≤wD (Qc r):=by rw [ZU (Qea h) (QhV (J1 r))];exact Nat.le_of_eq (Qkv _)
theorem Qma {r:JN} {k t:Int} (h:okR r):okR (toR (Zr (Qc r) k t).1 r.2.2.2.2.2.1):=Qdh (Qb0 h) (Qf0 (J1 r))
theorem Ql7 {r:JN} {k t:Int} (h:okR r):wD (Qc (toR (Zr (Qc r) k t).1 r.2.2.2.2.2.1))≤wD (Qc r):=by rw [ZU (Qb0 h) (Qf0 (J1 r))];exact Qhw _ _ _
theorem QhH {r:JN}  (h:okR r):okR (toR (QN (Qc r)).1 r.2.2.2.2.2.1):=Qdh (YB h) (XA (J1 r))
theorem QhD {r:JN}  (h:okR r):wD (Qc (toR (QN (Qc r)).1 r.2.2.2.2.2.1))≤wD (Qc r)+1:=by rw [ZU (YB h) (XA (J1 r))];exact Qcs h
section
variable {d : QK} {f n : Int} {b : Qm}
theorem Qd7 {f:Int} (h:Q1 d=0) (hf:inF f):Je d f=(JK d.2.2.2.2.2.1 d.2.2.2.2.2.2 f,0):=by
 unfold Je;rw [if_neg (by rw [h];decide),if_neg (Decidable.not_not.2 hf)]
theorem QcK:(Zx d).1.2.2.1=d.2.2.1:=by
 unfold Zx;split
 ·rfl
 ·split <;> exact Qfo d
theorem Qm0 : ∀ (n : Nat) {d : QK} {b : Qm}, (JR n d f b).2 = 0 ∨ (JR n d f b).2 = 6
  | 0, d, b => .inl rfl
  | n + 1, d, b => by
    unfold JR
    split
    · exact .inl rfl
    · split
      · exact Qm0 n
      · exact .inr rfl
end
def Qnv (d : QK) : Dur := Qbz d.2.2.2.2.2.1 d.2.2.2.2.2.2
theorem QmF {d:QK} {f:Int} (h:okD d) (hf:inF f):JK d.2.2.2.2.2.1 d.2.2.2.2.2.2 f=QbO (Qnv d) f:=(Qcb h.1 hf).symm
theorem QmG (d:QK):Qnv (QN d).1=Qnv d:=by unfold Qnv;rw [(Qbg d).2]
theorem Qmw (d:QK):(QN d).1.2.2.2.2.2.1=d.2.2.2.2.2.1:=by rw [(Qbg d).2]
theorem Y4 (d:QK):(QN d).1.1=d.1:=(Qbg d).1
theorem QmE {d:QK} (f:Int):(QbO (Qnv d) f).length≤wD d:=by
 have h1:=Qca d.2.2.2.2.2.2 d.2.2.2.2.2.1
 have h2:=Qch (Qnv d) f
 unfold Qnv at h2 ⊢;unfold wD;omega
structure Pg (d : QK) (A S : Dur) : Prop where
  ok : okD d
  made : d.1 = true
  all : ∀ s ∈ d.2.2.2.2.2.2, s.1 = 0 ∧ inF s.2.1
  dur : d.2.2.2.2.2.1 = S
  ends : Qnv d = A
section
variable {d : QK} {A S : Dur} {f n k t : Int} {b : Qm}
theorem Qfp (d:QK):((QN d).2=true∧(QN d).1.2.1=d.2.1)∨((QN d).2=false∧(QN d).1.2.1=true):=by
 unfold QN
 split
 ·split
  ·exact .inr ⟨rfl,rfl⟩
  ·exact .inl ⟨rfl,rfl⟩
 ·exact .inl ⟨rfl,rfl⟩
theorem Pg.burn (h:Pg d A S):Pg (QN d).1 A S:=⟨YB h.ok,by rw [Y4];exact h.made,by rw [(Qbg d).2];exact h.all,by rw [Qmw];exact h.dur,by rw [QmG];exact h.ends⟩
end
def Tw (d : QK) (r : JN) : Prop := okD d ∧ Qc r = d
theorem Tw.keep {d d':QK} {r:JN} {x:Int} (h:Tw d r) (hk:okD d') (hn:nf d'):Tw d' (toR d' x):=⟨hk,ZU hk hn⟩
def QmS (s : Qgj) : Prop := (∀ c ∈ s.2.2, c.2.2.length ≤ 40) ∧ s.2.2.length ≤ 40
instance (s : Qgj) : Decidable (QmS s) := by unfold QmS; infer_instance
def logOk (ep n : Int) (B : Qm) : Prop := (Jx B).2.2 = 0 ∧ (Qlx (Jx B).1).2 = 0 ∧ (Qi8 ep n [(Qlx (Jx B).1).1]).1 = 0
instance (ep n : Int) (B : Qm) : Decidable (logOk ep n B) := by unfold logOk; infer_instance
def onD (d : QK) : Prop := d.1 = true ∧ d.2.1 = false
instance (d : QK) : Decidable (onD d) := by unfold onD; infer_instance
def YC (d : QK) (f n : Int) : QK × Int := if ((JK d.2.2.2.2.2.1 d.2.2.2.2.2.2 f).length : Int) = n then (d, 0) else if ¬ (Xe d f n).2 = 0 then Xe d f n else Zx (Xe d f n).1
section
variable {d : QK} {br : Bool} {l l' : List Yn} {c : Yn} {q : QK × Int} {to n most : Int}
theorem QgH {f:Int} (d:QK) (hf:inF f):(Je d f).2=Q1 d:=by
 by_cases h:Q1 d=0
 ·rw [Qd7 h hf,h]
 ·unfold Je;rw [if_pos h]
theorem Qbo (h:onD d):Q1 d=0:=by unfold Q1;rw [if_neg (by rw [h.1];decide),if_neg (by rw [h.2];decide)]
theorem Qik {f:Int} (h:okD d):okD (YC d f n).1:=by
 unfold YC;split
 ·exact h
 ·split
  ·exact Qbe h
  ·exact QbF (Qbe h)
theorem Qhs {f:Int} (h:okD d):wD (YC d f n).1≤wD d+3:=by
 have h1:=QmD (f:=f) (n:=n) h
 have h2:=QeQ (Qbe (f:=f) (n:=n) h)
 unfold YC;split
 ·dsimp only;omega
 ·split
  ·omega
  ·omega
end
def QX (l : List Zn) : Int := match l.getLast? with
  | some r => r.2.1
  | none => 0
def Qcq : Int → List Zn → Prop
  | _, [] => True
  | e, r :: l => QF r = 0 ∧ r.1 = e + 1 ∧ Qcq r.2.1 l
def okU (l : List Zn) : Prop := Qcq 0 l
def Xv (r : Zn) : Qm := Qg8 (YQ r)
section
variable {l : List Zn} {r x : Zn} {e : Int} {k : Nat}
theorem Qaf (h:¬ ¬ (l.length:Int)=0):QX l=0:=by rw [List.eq_nil_of_length_eq_zero (show l.length=0 by omega)];rfl
theorem Qgc (hx:l[k]? =some x) (h:k+1=l.length):QX l=x.2.1:=by
 unfold QX;rw [List.getLast?_eq_getElem?,show l.length - 1=k by omega,hx]
theorem Qha:QX (l++[r])=r.2.1:=by unfold QX;rw [List.getLast?_append];rfl
theorem Qhg : ∀ {l : List Zn} {e : Int}, Qcq e (l ++ [r]) ↔ Qcq e l ∧ QF r = 0 ∧ r.1 = (match l.getLast? with | some x => x.2.1 | none => e) + 1
  | [], e => by simp [Qcq]
  | x :: l, e => by
    have h : (match (x :: l).getLast? with | some x => x.2.1 | none => e) = (match l.getLast? with | some y => y.2.1 | none => x.2.1) := by
      cases l with
      | nil => rfl
      | cons y l => rw [List.getLast?_cons_cons]; cases h : (y :: l).getLast? <;> simp_all
    rw [h, List.cons_append, Qcq, Qhg, Qcq]; exact ⟨fun h => ⟨⟨h.1, h.2.1, h.2.2.1⟩, h.2.2.2⟩, fun h => ⟨h.1.1, h.1.2.1, h.1.2.2, h.2⟩⟩
theorem QhU:okU []:=trivial
theorem QfY (h:okU l) (hc:QF r=0) (he:r.1=QX l+1):okU (l++[r]):=Qhg.2 ⟨h,hc,he⟩
theorem Qa9 : ∀ {l : List Zn} {e : Int}, Qcq e l → ∀ r ∈ l, QF r = 0
  | [], _, _, _, h => by cases h
  | x :: l, e, h, r, hr => by
    rcases List.mem_cons.1 hr with rfl | hr
    · exact h.1
    · exact Qa9 h.2.2 r hr
theorem Qhf : ∀ {l : List Zn} {e : Int}, Qcq e l → e + l.length ≤ (match l.getLast? with | some x => x.2.1 | none => e)
  | [], e, _ => by simp
  | x :: l, e, h => by
    have h0 := JV h.1
    have h1 := Qhf h.2.2
    have h2 : (match (x :: l).getLast? with | some x => x.2.1 | none => e) = (match l.getLast? with | some y => y.2.1 | none => x.2.1) := by
      cases l with
      | nil => rfl
      | cons y l => rw [List.getLast?_cons_cons]; cases h : (y :: l).getLast? <;> simp_all
    rw [h2]; have h3 := h.2.1; rw [List.length_cons]; omega
theorem Y3 (h:okU l):(l.length:Int)≤QX l∧0≤QX l∧QX l≤1048576:=by
 have h1:=Qhf h
 have h2:QX l≤1048576:=by
  unfold QX
  cases he:l.getLast? with
  | none=>decide
  | some x=>exact (JV (Qa9 h x (List.mem_of_getLast? he))).2.2.2.1
 have h3:(l.length:Int)≤QX l:=by have:=h1;rw [Int.zero_add] at this;exact this
 exact ⟨h3,by omega,h2⟩
theorem QaN (h:okU l) (hx:l[k]? =some x):x.2.2.length≤1024:=(JV (Qa9 h x (List.mem_of_getElem? hx))).1
theorem QiF (h:okU l):∀ c∈l,c.2.2.length≤1024:=fun c hc=>(JV (Qa9 h c hc)).1
end
def Qal (e : Int) (B : Qm) : Prop := (Jx B).2.2 = 0 ∧ (Qi (Jx B).1).2 = 0 ∧ (Qi (Jx B).1).1.1 = e + 1
instance (e : Int) (B : Qm) : Decidable (Qal e B) := by unfold Qal; infer_instance
def QhE : Nat → Qm → List Zn → Int → List Zn × Int
  | 0, _, l, a => (l, a)
  | k + 1, B, l, a => if Qal (QX l) (B.drop a.toNat) then QhE k B (l ++ [(Qi (Jx (B.drop a.toNat)).1).1]) (a + (Jx (B.drop a.toNat)).2.1) else (l, a)
def Yg (B : Qm) : List Zn × Int := QhE B.length B [] 0
def QgD (B : Qm) (l : List Zn) (a : Int) : Prop := 0 ≤ a ∧ a ≤ B.length ∧ okU l ∧ ∃ n : Nat, (B.length : Int) - a ≤ n ∧ Yg B = QhE n B l a
section
variable {B : Qm} {l : List Zn} {a e : Int}
theorem Qki (B:Qm):QgD B [] 0:=⟨Int.le_refl _,Int.natCast_nonneg _,QhU,B.length,by omega,rfl⟩
theorem Qb1 (h:Qal e B):1≤(Jx B).2.1∧(Jx B).2.1≤B.length:=by
 have:=Xx B
 exact ⟨this.2.2.2.2.1 h.1,this.2.1⟩
theorem Zb (h:QgD B l a) (hn:¬ Qal (QX l) (B.drop a.toNat)):Yg B=(l,a):=by
 obtain ⟨_,_,_,n,_,h2⟩:=h
 rw [h2];cases n with
 | zero=>rfl
 | succ n=>exact if_neg hn
theorem QeZ (h:QgD B l a) (ho:Qal (QX l) (B.drop a.toNat)):QgD B (l++[(Qi (Jx (B.drop a.toNat)).1).1]) (a+(Jx (B.drop a.toNat)).2.1):=by
 obtain ⟨h0,h1,h3,n,hn,h2⟩:=h
 have hp:=Qb1 ho
 rw [List.length_drop] at hp
 refine ⟨by omega,by omega,QfY h3 (Qd4 ho.2.1) ho.2.2,n - 1,by omega,?_⟩
 rw [h2];cases n with
 | zero=>omega
 | succ n=>exact if_pos ho
theorem Qdy (he:e=QX l) (h1:¬ ¬ (Jx B).2.2=0) (h2:¬ ¬ (Qi (Jx B).1).2=0) (h3:¬ ¬ (Qi (Jx B).1).1.1=e+1):Qal (QX l) B:=⟨Decidable.not_not.1 h1,Decidable.not_not.1 h2,by rw [← he];exact Decidable.not_not.1 h3⟩
theorem QcR (h:¬ (Jx B).2.2=0):¬ Qal (QX l) B:=fun q=>h q.1
theorem QcQ (h:¬ (Qi (Jx B).1).2=0):¬ Qal (QX l) B:=fun q=>h q.2.1
theorem QcP (he:e=QX l) (h:¬ (Qi (Jx B).1).1.1=e+1):¬ Qal (QX l) B:=fun q=>h (by rw [he];exact q.2.2)
theorem QeY : ∀ {k : Nat} {l : List Zn} {a : Int}, okU l → 0 ≤ a → a ≤ B.length → okU (QhE k B l a).1 ∧ 0 ≤ (QhE k B l a).2 ∧ (QhE k B l a).2 ≤ B.length
  | 0, l, a, h, h0, h1 => ⟨h, h0, h1⟩
  | k + 1, l, a, h, h0, h1 => by
    unfold QhE; split
    · rename_i ho
      have hp := Qb1 ho
      rw [List.length_drop] at hp
      exact QeY (QfY h (Qd4 ho.2.1) ho.2.2) (by omega) (by omega)
    · exact ⟨h, h0, h1⟩
theorem Qa3 (B:Qm):okU (Yg B).1∧0≤(Yg B).2∧(Yg B).2≤B.length:=QeY QhU (Int.le_refl _) (by omega)
theorem YP (B:Qm):0≤(Yg B).2∧(Yg B).2≤B.length∧(Yg B).1.length≤1048576:=by
 have h:=Qa3 B;have h2:=Y3 h.1
 exact ⟨h.2.1,h.2.2,by omega⟩
end
def JL (d : QK) : QK × Int := if ¬ Q1 d = 0 then (d, Q1 d) else YC d 2 (Yg (Je d 2).1).2
abbrev USt := QK × Bool × List Zn
def QJ (d : QK) (br : Bool) (l : List Zn) (x : Zn) : USt × Int :=
  if br = true ∨ ¬ onD d then ((d, true, l), 6) else if ¬ QF x = 0 then ((d, br, l), QF x) else if ¬ x.1 = QX l + 1 then ((d, br, l), 15)
  else if ¬ (Q7 d 2 (Xv x)).2 = 0 then (((Q7 d 2 (Xv x)).1, true, l), (Q7 d 2 (Xv x)).2)
  else if ¬ (Zx (Q7 d 2 (Xv x)).1).2 = 0 then (((Zx (Q7 d 2 (Xv x)).1).1, true, l), (Zx (Q7 d 2 (Xv x)).1).2)
  else (((Zx (Q7 d 2 (Xv x)).1).1, br, l ++ [x]), 0)
section
variable {d : QK} {br : Bool} {l : List Zn} {x : Zn}
theorem Qcl (h:br=true∨¬ onD d):QJ d br l x=((d,true,l),6):=if_pos h
theorem Qg6 (h:¬ (br=true∨¬ onD d)) (h2:¬ (Qh x).2=0):QJ d br l x=((d,br,l),(Qh x).2):=by
 have e:(Qh x).2=QF x:=by unfold Qh;split <;> (rename_i q;first | exact q.symm | rfl)
 rw [e] at h2 ⊢;unfold QJ;rw [if_neg h,if_pos h2]
theorem Qag (h2:¬ ¬ (Qh x).2=0):QF x=0∧Qh x=(YQ x,0):=by
 have e:(Qh x).2=QF x:=by unfold Qh;split <;> (rename_i q;first | exact q.symm | rfl)
 rw [e] at h2
 exact ⟨Decidable.not_not.1 h2,Z0 h2⟩
theorem Qes (h:¬ (br=true∨¬ onD d)) (h2:¬ ¬ (Qh x).2=0) (h3:¬ x.1=QX l+1):QJ d br l x=((d,br,l),15):=by
 unfold QJ;rw [if_neg h,if_neg (Decidable.not_not.2 (Qag h2).1),if_pos h3]
theorem Qbc (h2:¬ ¬ (Qh x).2=0):QZ [] (Qh x).1=(Xv x,0):=by
 have h:=Qag h2
 have:=QbG h.1
 rw [h.2,ZP (by dsimp only;omega)];rfl
theorem Qe3 (h:QF x=0):(Xv x).length≤61510∧1≤(Xv x).length:=by
 have:=QbG h
 have h2:=QiZ (r:=YQ x) (by omega)
 exact ⟨by unfold Xv;omega,Qmv _⟩
theorem Qi2 (h2:¬ ¬ (Qh x).2=0):(QZ [] (Qh x).1).1.length≤61510:=by rw [Qbc h2];exact (Qe3 (Qag h2).1).1
theorem Qer (h:¬ (br=true∨¬ onD d)) (h2:¬ ¬ (Qh x).2=0) (h3:¬ ¬ x.1=QX l+1) (h4:¬ (Q7 d 2 (QZ [] (Qh x).1).1).2=0):
  QJ d br l x=(((Q7 d 2 (QZ [] (Qh x).1).1).1,true,l),(Q7 d 2 (QZ [] (Qh x).1).1).2):=by
 rw [Qbc h2] at h4 ⊢;unfold QJ;rw [if_neg h,if_neg (Decidable.not_not.2 (Qag h2).1),if_neg h3,if_pos h4]
theorem Qfe (h:¬ (br=true∨¬ onD d)) (h2:¬ ¬ (Qh x).2=0) (h3:¬ ¬ x.1=QX l+1) (h4:(Q7 d 2 (QZ [] (Qh x).1).1).2=0) (h5:¬ (Zx (Q7 d 2 (QZ [] (Qh x).1).1).1).2=0):
  QJ d br l x=(((Zx (Q7 d 2 (QZ [] (Qh x).1).1).1).1,true,l),(Zx (Q7 d 2 (QZ [] (Qh x).1).1).1).2):=by
 rw [Qbc h2] at h4 h5 ⊢;unfold QJ;rw [if_neg h,if_neg (Decidable.not_not.2 (Qag h2).1),if_neg h3,if_neg (Decidable.not_not.2 h4),if_pos h5]
theorem Qff (h:¬ (br=true∨¬ onD d)) (h2:¬ ¬ (Qh x).2=0) (h3:¬ ¬ x.1=QX l+1) (h4:(Q7 d 2 (QZ [] (Qh x).1).1).2=0) (h5:¬ ¬ (Zx (Q7 d 2 (QZ [] (Qh x).1).1).1).2=0):
  QJ d br l x=(((Zx (Q7 d 2 (QZ [] (Qh x).1).1).1).1,br,l++[x]),0):=by
 rw [Qbc h2] at h4 h5 ⊢;unfold QJ;rw [if_neg h,if_neg (Decidable.not_not.2 (Qag h2).1),if_neg h3,if_neg (Decidable.not_not.2 h4),if_neg h5]
theorem QaA (h:okU l):okU (QJ d br l x).1.2.2:=by
 unfold QJ;split
 ·exact h
 ·split
  ·exact h
  ·split
   ·exact h
   ·split
    ·exact h
    ·split
     ·exact h
     ·rename_i h2 h3 _ _;exact QfY h (Decidable.not_not.1 h2) (Decidable.not_not.1 h3)
theorem Qck (h:okD d):okD (QJ d br l x).1.1:=by
 unfold QJ;split
 ·exact h
 ·split
  ·exact h
  ·split
   ·exact h
   ·split
    ·exact X8 h
    ·split <;> exact QbF (X8 h)
theorem Qc1 (h:okD d):wD (QJ d br l x).1.1≤wD d+184600:=by
 unfold QJ;split
 ·dsimp only;omega
 ·split
  ·dsimp only;omega
  ·rename_i h0;split
   ·dsimp only;omega
   ·have h1:=Qhn (f:=2) (b:=Xv x) h
    have h2:=(Qe3 (Decidable.not_not.1 h0)).1
    have h3:=QeQ (X8 (f:=2) (b:=Xv x) h)
    split
    ·dsimp only;omega
    ·split <;> (dsimp only;omega)
theorem QaH (h:okD d):okD (JL d).1:=by unfold JL;split;exact h;exact Qik h
theorem QaG (h:okD d):wD (JL d).1≤wD d+3:=by unfold JL;split;(dsimp only;omega);exact Qhs h
theorem Qaq (h:¬ (Je d 2).2=0):JL d=(d,(Je d 2).2):=by rw [QgH d (by decide)] at h ⊢;exact if_pos h
theorem QeL (h:¬ ¬ (Je d 2).2=0):Q1 d=0∧Je d 2=(JK d.2.2.2.2.2.1 d.2.2.2.2.2.2 2,0):=by
 rw [QgH d (by decide)] at h
 have h0:=Decidable.not_not.1 h
 exact ⟨h0,Qd7 h0 (by decide)⟩
theorem QfC (h:¬ ¬ (Je d 2).2=0):JL d=YC d 2 (Yg (Je d 2).1).2:=by unfold JL;rw [if_neg (Decidable.not_not.2 (QeL h).1)]
theorem QfB (h:¬ ¬ (Je d 2).2=0):JK d.2.2.2.2.2.1 d.2.2.2.2.2.2 2=(Je d 2).1:=by rw [(QeL h).2]
theorem Xg (h:¬ ¬ (Je d 2).2=0) (h2:¬ (Yg (Je d 2).1).2 < ((Je d 2).1.length:Int)):JL d=(d,0):=by
 have h3:=(YP (Je d 2).1).2.1
 rw [QfC h];unfold YC;rw [QfB h,if_pos (by omega)]
theorem YR (h:¬ ¬ (Je d 2).2=0) (h2:(Yg (Je d 2).1).2 < ((Je d 2).1.length:Int)) (h3:¬ (Xe d 2 (Yg (Je d 2).1).2).2=0):JL d=Xe d 2 (Yg (Je d 2).1).2:=by
 rw [QfC h];unfold YC;rw [QfB h,if_neg (by omega),if_pos h3]
theorem Xh (h:¬ ¬ (Je d 2).2=0) (h2:(Yg (Je d 2).1).2 < ((Je d 2).1.length:Int)) (h3:¬ ¬ (Xe d 2 (Yg (Je d 2).1).2).2=0):JL d=Zx (Xe d 2 (Yg (Je d 2).1).2).1:=by
 rw [QfC h];unfold YC;rw [QfB h,if_neg (by omega),if_neg h3]
end
theorem fnOk87:JX Tryz.prog 87=true:=by kernel_rfl
theorem fnOk88:JX Tryz.prog 88=true:=by kernel_rfl
theorem Z3:tsl Tryz.prog 43=some (38,3,40):=by kernel_rfl
theorem Yu {P:Prop} (h:P:=by first | exact congrArg Prod.fst (Zb hl (QcR (by assumption))) | exact (congrArg Prod.fst (Zb hl (QcR (by assumption)))).symm | (rw [Zb hl (QcR (by assumption))];done) | exact congrArg Prod.fst (Zb hl (QcQ (by assumption))) | exact (congrArg Prod.fst (Zb hl (QcQ (by assumption)))).symm | (rw [Zb hl (QcQ (by assumption))];done) | exact congrArg Prod.fst (Zb hl (QcP hen (by assumption))) | exact (congrArg Prod.fst (Zb hl (QcP hen (by assumption)))).symm | (rw [Zb hl (QcP hen (by assumption))];done)):P:=h
set_option maxHeartbeats 4000000 in
theorem Qii (W:World) {v0:Value} {d0:List UInt8} (h0:Rd (.sl .byte) (wm W) [v0] d0) (e0:d0.length≤140737488355000):Qg Tryz.prog 51 [v0] W (Qr) (fun v m'=>∃ (s0:Value),v= .tuple #[s0,.int .i64 ((Yg d0).2)]∧Ow (.sl ZL) m' [s0] ((Yg d0).1)):=by
 obtain ⟨A0,c0,rfl,l0,k0⟩:=h0.slc
 refine Qg.ofA (n:=46) Tryz.func51 rfl rfl rfl ?_
 refine VC.rs (VO.as (VO.as (VO.k3 0 2 3 (VC.rs (VO.as (VO.k4 0 2 3 4 (VC.rs (VO.as (VO.as (VO.p1 0 (VO.k6 0 2 3 4 5 6 ?_)))))))))))
 refine VC.seq (VC.block ?_)
 refine VC.inv ((101,Qr)::_) (fun _ h=>h.nilc 101) ?_
 refine VC.loop (G:=(List Zn) × (Option Addr) × Nat × Mem × Int × Int) (fun g=>[(4,.slice (g.2.1) ((g.1).length) ((g.2.2.1))),(5,.int .i64 ((g.2.2.2.2.2))),(6,.int .i64 ((g.2.2.2.2.1))),(0,.slice A0 (d0.length) (c0)),(2,.slice none (0) (0)),(3,.int .i64 (0))]) (fun g=>[(101,(g.2.2.2.1)),(0,wm W)]) (fun g=>(QgD d0 (g.1) (g.2.2.2.2.1))∧((g.2.2.2.2.2)=QX (g.1))∧(Ow (.sl ZL) (g.2.2.2.1) [.slice (g.2.1) (g.1).length (g.2.2.1)] (g.1))) (fun g=>((d0.length:Int) - (g.2.2.2.2.1)).toNat) ([],none,0,Qr,0,0) (⟨by exact Qki d0,by rfl,(Ow.nil ZL Qr)⟩) ⟨esn,fun _ h=>h.sub [101,0]⟩ ?_
 rintro ⟨l,l_A,l_c,l_m,at_,en⟩ ⟨hl,hen,h_l⟩
 replace hl:QgD d0 l at_:=hl
 replace hen:en=QX l:=hen
 replace h_l:Ow (.sl ZL) l_m [.slice l_A l.length l_c] l:=h_l
 show VC _ _ _ _ _ [(4,.slice l_A (l.length) (l_c)),(5,.int .i64 (en)),(6,.int .i64 (at_)),(0,.slice A0 (d0.length) (c0)),(2,.slice none (0) (0)),(3,.int .i64 (0))] [(101,l_m),(0,wm W)]
 have l_l:l.length≤l_c:=by obtain ⟨_,_,he,hl,_⟩:=h_l.slice;simp only [Value.slice.injEq] at he;omega
 have k_l:l_c≤9223372036854775807:=by obtain ⟨_,_,he,_,hl⟩:=h_l.slice;simp only [Value.slice.injEq,maxLen] at he hl;omega
 have hat0:=hl.1;have hat1:=hl.2.1
 have hrb:=Xx (d0.drop at_.toNat)
 have hll:=Y3 hl.2.2.1
 have hen2:=hen
 refine VC.block (VC.rs (VO.mv (VO.mv ?_)))
 obtain ⟨A2,hA2,hs2⟩:=h0.drop 1 ((at_).toNat) rfl bd
 refine VO.z (.slLI ((at_).toNat) A2 rfl rfl Q0 bd hA2 bd) ?_
 refine VO.callN 103 rfl fnOk87 rfl (fun W hW=>Qmu W (Rd.mono hs2 (hW.t 0))) (fun v3 m3 hv3=>?_)
 obtain ⟨s3_0,rfl,f3_0⟩:=hv3
 have hfa4:=Xx (d0.drop ((at_).toNat))
 obtain ⟨A3_0,c3_0,eq3_0,l3_0,k3_0⟩:=f3_0.slc
 subst eq3_0
 refine VO.mv (VO.z (.ext rfl rfl) (VO.z (.ext rfl rfl) (VO.z (.ext rfl rfl) (VO.as (VO.as (VO.as (VO.k9 0 2 3 4 5 6 7 8 9 (VC.seq (VC.rs (VO.mv (VO.z (.neq rfl rfl) ?_)))))))))))
 refine VO.k10 0 2 3 4 5 6 7 8 9 20 ?_
 refine VC.cond rfl (fun hc5=>?_) (fun hc5=>?_)
 refine VC.exit (Zc ?_)
 refine QhR rfl ?_
 refine Zc (Zd (Qj (VC.rs (VO.mv (VO.mv (VO.as (VO.as (VO.p3 103 101 0 (VO.k10 0 2 3 4 5 6 7 8 9 20 (VC.ret ?_))))))))))
 refine Qby 2 3 [101] fun hS_=>?_
 dsimp only [Qv]
 exact ⟨Value.slice l_A (l.length) (l_c),(by first | rfl | exact Yu),(Ow.cg (Ow.up h_l (hS_.1 _ (.head _))) (by first | rfl | exact Yu))⟩
 refine VC.skip (Qj (VC.rs (VO.mv ?_)))
 refine VO.callN 106 rfl fnOk88 rfl (fun W hW=>QgC W (Ow.rd f3_0 (hW.t 103))) (fun v6 m6 hv6=>?_)
 obtain ⟨s6_0,rfl,f6_0⟩:=hv6
 have hfa7:=Qbx ((Jx (d0.drop ((at_).toNat))).1)
 obtain ⟨q6_0_A2,q6_0_c2,q6_0_n2,rfl,q6_0_S,q6_0_0,q6_0_1,q6_0_2⟩:=Y2 (x0:=((Qi ((Jx (d0.drop ((at_).toNat))).1)).1).1) (x1:=((Qi ((Jx (d0.drop ((at_).toNat))).1)).1).2.1) (x2:=((Qi ((Jx (d0.drop ((at_).toNat))).1)).1).2.2) f6_0
 simp only [inK] at q6_0_0 q6_0_1
 have q6_0_r2:=q6_0_2.rm
 refine VO.inv _ (fun _ h=>h.parts (i:=106) rfl q6_0_S [108]) ?_
 refine VO.mv (VO.z (.ext rfl rfl) (VO.z (.ext rfl rfl) ?_))
 refine VO.alloc 110 rfl X6 (fun g9=>?_)
 refine VO.store (k:=3) (c':=[.int .i64 (((Qi ((Jx (d0.drop ((at_).toNat))).1)).1).1),.int .i64 (((Qi ((Jx (d0.drop ((at_).toNat))).1)).1).2.1),.slice q6_0_A2 ((((Qi ((Jx (d0.drop ((at_).toNat))).1)).1).2.2).length) (q6_0_c2)]) 110 rfl rfl (.inl Yx) rfl rfl rfl rfl rfl ?_
 refine VO.as (VO.p5 110 108 103 101 0 (VO.k11 0 2 3 4 5 6 7 8 9 10 20 (VC.seq (VC.rs (VO.mv (VO.z (.neq rfl rfl) (VO.mv ?_)))))))
 refine VO.dec (t:=28) rfl (fun hc11=>?_) (fun hc11=>?_)
 refine VO.gN (VO.gN (VO.gN (VO.gN (VO.gN (VO.z (.pT rfl rfl) (VO.k12 0 2 3 4 5 6 7 8 9 10 20 34 (VC.condT rfl (VC.exit (Zc ?_)))))))))
 refine QhR rfl ?_
 refine Zc (Zd (Qj (VC.rs (VO.mv (VO.mv (VO.as (VO.as (VO.k12 0 2 3 4 5 6 7 8 9 10 20 34 (VC.ret ?_)))))))))
 refine Qby 2 3 [101] fun hS_=>?_
 dsimp only [Qv]
 exact ⟨Value.slice l_A (l.length) (l_c),(by first | rfl | exact Yu),(Ow.cg (Ow.up h_l (hS_.1 _ (.head _))) (by first | rfl | exact Yu))⟩
 refine VO.w (.fa rfl Jl rfl) (VO.w (.ld1 110 rfl tk3 rfl (Qa rfl rfl)) (VO.w (.mv rfl) ?_))
 refine VO.w (.add rfl rfl rfl ⟨bd,bd⟩) ?_
 refine VO.w (.neq rfl rfl) (VO.z (.pF rfl rfl) (VO.k12 0 2 3 4 5 6 7 8 9 10 20 34 ?_))
 refine VC.cond rfl (fun hc12=>?_) (fun hc12=>?_)
 refine VC.exit (Zc ?_)
 refine QhR rfl ?_
 refine Zc (Zd (Qj (VC.rs (VO.mv (VO.mv (VO.as (VO.as (VO.k12 0 2 3 4 5 6 7 8 9 10 20 34 (VC.ret ?_)))))))))
 refine Qby 2 3 [101] fun hS_=>?_
 dsimp only [Qv]
 exact ⟨Value.slice l_A (l.length) (l_c),(by first | rfl | exact Yu),(Ow.cg (Ow.up h_l (hS_.1 _ (.head _))) (by first | rfl | exact Yu))⟩
 refine VC.skip (Qj ?_)
 refine VC.regD _ 11 [(0,true),(1,true),(4,true),(5,true),(6,true),(7,true),(8,true),(2,false),(3,false),(9,true),(10,true)] follows (by kernel_rfl) (fun _ h=>h.sub [110,103,0]) ?_
 refine VD.z rfl (.mv rfl) (VD.z rfl (.ldA 110 rfl Yx rfl (Qa rfl rfl)) (VD.z rfl (.fa rfl Jl rfl) (VD.z rfl (.ld1 110 rfl tk3 rfl (Qa rfl rfl)) (VD.z rfl (.mv rfl) (VD.z rfl (.mv rfl) ?_)))))
 refine VD.z rfl (.add rfl rfl rfl ⟨bd,bd⟩) ?_
 refine VD.bsl (cs:=[.int .i64 (((Qi ((Jx (d0.drop ((at_).toNat))).1)).1).1),.int .i64 (((Qi ((Jx (d0.drop ((at_).toNat))).1)).1).2.1),.slice q6_0_A2 ((((Qi ((Jx (d0.drop ((at_).toNat))).1)).1).2.2).length) (q6_0_c2)]) 114 rfl rfl rfl Z3 X6 rfl rfl (fun _ h=>h.sub [110,103,0]) (fun g13=>?_)
 refine VD.appO (e:=ZL) 101 108 114 rfl rfl rfl rfl Z3 X6 rfl rfl rfl rfl h_l (show Ow ZL _ _ ((Qi ((Jx (d0.drop ((at_).toNat))).1)).1) from (ZC (((Qi ((Jx (d0.drop ((at_).toNat))).1)).1).1) (((Qi ((Jx (d0.drop ((at_).toNat))).1)).1).2.1) (((Qi ((Jx (d0.drop ((at_).toNat))).1)).1).2.2) (Qu.one (Qb _)) bdk bdk q6_0_2)) Tryz.underlying43 (Qa rfl rfl) bdm bd (by decide) (fun _ _ h=>h.sub [110,103,0]) (fun v15 m15 ho15=>?_)
 obtain ⟨A15,c15,rfl,l15,k15⟩:=ho15.slc
 refine VD.z rfl (.as rfl) (VD.z rfl (.as rfl) ?_)
 refine VD.nil rfl ?_ rfl
 refine VO.as (VO.k12 0 2 3 4 5 6 7 8 9 10 20 34 (JE ?_))
 exact Qj ⟨⟨l++[((Qi ((Jx (d0.drop ((at_).toNat))).1)).1)],A15,c15,m15,at_+((Jx (d0.drop ((at_).toNat))).2.1),((Qi ((Jx (d0.drop ((at_).toNat))).1)).1).2.1⟩,⟨by exact QeZ hl (Qdy hen Qd Qd Qd),by exact Qha.symm,ho15⟩,by (have h_:=Qb1 (Qdy hen Qd Qd Qd);simp only [List.length_drop] at*;omega),⟨esn,fun _ h=>Inv.sub h [101,0]⟩⟩
theorem Qg3:JX Tryz.prog 71=true:=by kernel_rfl
theorem Qaa:tst Tryz.prog 102=some [(0,1),(1,1),(2,1),(3,1)]:=by kernel_rfl
theorem JO:tst Tryz.prog 62=some [(0,1),(1,1),(2,1),(3,1),(4,1),(5,4),(9,1)]:=by kernel_rfl
theorem tz62:tz Tryz.prog 62=some [.bool false,.bool false,.bool false,.int .i64 0,.int .i64 0,.slice none 0 0,.slice none 0 0,.slice none 0 0,.slice none 0 0,.slice none 0 0]:=by kernel_rfl
theorem Qlt (W:World):Qg Tryz.prog 6 [] W (Qr) (fun v m'=>∃ (s0:Nat),v= .pointer (some ⟨s0,0,none⟩)∧Ow (.ptr Qy) m' [.pointer (some ⟨s0,0,none⟩)] (s0,X7)):=by
 refine Qg.ofA (n:=3) Tryz.func6 rfl rfl rfl ?_
 refine VC.rs (VO.as (VO.k1 0 (VC.rs ?_)))
 refine VO.z (.bst (cs:=[.bool true,.bool false,.bool false,.int .i64 (0),.int .i64 (0),.slice none (0) (0),.slice none (0) (0),.slice none (0) (0),.slice none (0) (0),.slice none (0) (0)]) rfl JO tz62 rfl) ?_
 refine VO.box (cs:=[.bool true,.bool false,.bool false,.int .i64 (0),.int .i64 (0),.slice none (0) (0),.slice none (0) (0),.slice none (0) (0),.slice none (0) (0),.slice none (0) (0)]) 102 rfl rfl rfl (fun g1=>?_)
 refine VO.as (VO.k1 0 (VC.ret ?_))
 refine Yz 0 [102] fun hS_=>?_
 dsimp only [Qv]
 have he0:(X7:QG)=(true,false,false,0,0,([],[],[],[]),[]):=by first | rfl | (simp [*];done)
 refine ⟨g1,?_,?_⟩
 rotate_left
 ·rw [he0];exact (Ju _ _ _ _ _ _ _ _ _ _ (Qu.nilAt 5 (Qu.nilAt 4 (Qu.nilAt 3 (Qu.nilAt 2 (Qu.nilAt 1 hS_))))) bdk bdk (Ow.nil _ _) (Ow.nil _ _) (Ow.nil _ _) (Ow.nil _ _) (Ow.nil _ _))
 all_goals (first | rfl | (simp [*];done))
theorem Qi5 (W:World) (d0:Int) (h0:inK .i64 d0):Qg Tryz.prog 77 [.int .i64 d0] W (Qr) (fun v m'=>v= .bool (decide (inF d0))):=by
 have h0':=h0;simp only [inK] at h0'
 refine Qg.ofA (n:=9) Tryz.func77 rfl rfl rfl ?_
 refine VC.rs (VO.as (VO.k2 0 2 (VC.rs (VO.mv (VO.z (.geq rfl rfl) (VO.mv ?_))))))
 refine VO.dec (t:=5) rfl (fun hc1=>?_) (fun hc1=>?_)
 refine VO.w (.mv rfl) (VO.w (.lss rfl rfl) (VO.z (.pT rfl rfl) (VO.as (VO.k2 0 2 (VC.ret ?_)))))
 exact Xz 2 rfl (by first | rfl | (simp [inF, *]))
 refine VO.gN (VO.gN (VO.z (.pF rfl rfl) (VO.as (VO.k2 0 2 (VC.ret ?_)))))
 exact Xz 2 rfl (by first | rfl | (simp [inF, *]))
theorem Qcp (W:World) {m0:Mem} (hm:mle (m0) (wm W)) {g0:Nat} {d0:QG} (h0:Ow (.ptr Qy) m0 [.pointer (some ⟨g0,0,none⟩)] (g0,d0)):Qg Tryz.prog 71 [.pointer (some ⟨g0,0,none⟩)] W (m0) (fun v m'=>v= .bool (decide (d0.1=false))∧Ow (.ptr Qy) m' [.pointer (some ⟨g0,0,none⟩)] (g0,d0)):=by
 refine Qg.ofB (n:=12) hm Tryz.func71 rfl rfl rfl ?_
 refine VC.rs (VO.as (VO.k2 0 2 (VC.rs (VO.mv ?_))))
 refine VO.z (.pnil rfl rfl Tryz.underlying27 rfl) ?_
 refine VO.mv (VO.w (.mv rfl) (VO.w (.nilp rfl) (VO.w (.fa rfl JO rfl) ?_)))
 obtain ⟨q1_E,q1_A5,q1_c5,q1_A6,q1_c6,q1_A7,q1_c7,q1_A8,q1_c8,q1_A9,q1_c9,q1_n5,q1_n6,q1_n7,q1_n8,q1_n9,_,q1_S,q1_3,q1_4,q1_5,q1_6,q1_7,q1_8,q1_9⟩:=Qt h0
 simp only [inK] at q1_3 q1_4
 have q1_r5:=q1_5.rm
 have q1_r6:=q1_6.rm
 have q1_r7:=q1_7.rm
 have q1_r8:=q1_8.rm
 have q1_r9:=q1_9.rm
 refine VO.inv _ (fun _ h=>h.parts (i:=1) rfl q1_S [107,102,103,104,105,106]) ?_
 refine VO.w (.ld1 107 rfl tk4 rfl (Qa rfl rfl)) (VO.w (.not rfl) (VO.z (.pF rfl rfl) (VO.as ?_)))
 refine VO.clsP 108 [107,102,103,104,105,106] rfl (fun hg8=>(QU d0 hg8 bdk bdk q1_5 q1_6 q1_7 q1_8 q1_9)) (fun mc8 ho8=>?_)
 refine VO.k2 0 2 (VC.ret ?_)
 exact ZA 2 108 rfl ho8 (by first | rfl | (simp [*];done)) (by first | rfl | (cases d0.1 <;> rfl))
theorem QaC (W:World) {m0:Mem} (hm:mle (m0) (wm W)) {g0:Nat} {d0:QG} (h0:Ow (.ptr Qy) m0 [.pointer (some ⟨g0,0,none⟩)] (g0,d0)):Qg Tryz.prog 69 [.pointer (some ⟨g0,0,none⟩)] W (m0) (fun v m'=>v= .int .i64 (Q1 d0)∧Ow (.ptr Qy) m' [.pointer (some ⟨g0,0,none⟩)] (g0,d0)):=by
 refine Qg.ofB (n:=11) hm Tryz.func69 rfl rfl rfl ?_
 refine VC.rs (VO.as (VO.k2 0 2 (VC.seq (VC.block (VC.rs (VO.mv ?_))))))
 refine VO.call 1 rfl Qg3 rfl rfl (fun W hW=>Qcp W (hW.t 1) h0) (fun v1 m1 hv1=>?_)
 obtain ⟨rfl,w1_0⟩:=hv1
 refine VO.as (VO.k3 0 2 3 ?_)
 refine VC.cond rfl (fun hc2=>?_) (fun hc2=>?_)
 ·refine VC.rs (VO.as (VO.p2 1 0 (VO.k3 0 2 3 (VC.ret (JD (QS ?_))))))
  exact ZA 2 1 rfl w1_0 (by first | rfl | (simp [*];done)) (by first | rfl | (simp [Q1, *]))
 refine VC.rs (VO.mv (VO.z (.nilp rfl) (VO.z (.fa rfl JO rfl) ?_)))
 obtain ⟨q3_E,q3_A5,q3_c5,q3_A6,q3_c6,q3_A7,q3_c7,q3_A8,q3_c8,q3_A9,q3_c9,q3_n5,q3_n6,q3_n7,q3_n8,q3_n9,_,q3_S,q3_3,q3_4,q3_5,q3_6,q3_7,q3_8,q3_9⟩:=Qt w1_0
 simp only [inK] at q3_3 q3_4
 have q3_r5:=q3_5.rm
 have q3_r6:=q3_6.rm
 have q3_r7:=q3_7.rm
 have q3_r8:=q3_8.rm
 have q3_r9:=q3_9.rm
 refine VO.inv _ (fun _ h=>h.parts (i:=1) rfl q3_S [109,104,105,106,107,108]) ?_
 refine VO.z (.ld1 109 rfl tk4 rfl (Qa rfl rfl)) (VO.as ?_)
 refine VO.clsP 110 [109,104,105,106,107,108] rfl (fun hg10=>(QU d0 hg10 bdk bdk q3_5 q3_6 q3_7 q3_8 q3_9)) (fun mc10 ho10=>?_)
 refine VO.p2 110 0 (VO.k4 0 2 3 6 ?_)
 refine VC.condB rfl (fun hc11=>?_) (fun hc11=>?_)
 ·refine VC.rs (VO.as (VO.k4 0 2 3 6 (VC.ret (JD (QS ?_)))))
  exact ZA 2 110 rfl ho10 (by first | rfl | (simp [*];done)) (by first | rfl | (simp [Q1, *]))
 ·refine VC.skip (JE (Qj (VC.rs (VO.as (VO.k4 0 2 3 6 (VC.ret ?_))))))
  exact ZA 2 110 rfl ho10 (by first | rfl | (simp [*];done)) (by first | rfl | (simp [Q1, *]))
theorem Qge (W:World) {m0:Mem} (hm:mle (m0) (wm W)) {g0:Nat} {d0:QG} (h0:Ow (.ptr Qy) m0 [.pointer (some ⟨g0,0,none⟩)] (g0,d0)) (e0:okD d0) (e1:wD d0≤2*1000000000000):Qg Tryz.prog 89 [.pointer (some ⟨g0,0,none⟩)] W (m0) (fun v m'=>v= .bool (decide ((QN d0).2=true))∧Ow (.ptr Qy) m' [.pointer (some ⟨g0,0,none⟩)] (g0,(QN d0).1)):=by
 obtain ⟨hg,hfu,hst⟩:=e0;simp only [wD] at e1
 refine Qg.ofB (n:=29) hm Tryz.func89 rfl rfl rfl ?_
 refine VC.rs (VO.as (VO.k2 0 2 (VC.seq (VC.rs (VO.mv (VO.z (.nilp rfl) (VO.z (.fa rfl JO rfl) ?_)))))))
 obtain ⟨q1_E,q1_A5,q1_c5,q1_A6,q1_c6,q1_A7,q1_c7,q1_A8,q1_c8,q1_A9,q1_c9,q1_n5,q1_n6,q1_n7,q1_n8,q1_n9,_,q1_S,q1_3,q1_4,q1_5,q1_6,q1_7,q1_8,q1_9⟩:=Qt h0
 simp only [inK] at q1_3 q1_4
 have q1_r5:=q1_5.rm
 have q1_r6:=q1_6.rm
 have q1_r7:=q1_7.rm
 have q1_r8:=q1_8.rm
 have q1_r9:=q1_9.rm
 refine VO.inv _ (fun _ h=>h.parts (i:=1) rfl q1_S [107,102,103,104,105,106]) ?_
 refine VO.z (.ld1 107 rfl tk4 rfl (Qa rfl rfl)) ?_
 refine VO.clsP 108 [107,102,103,104,105,106] rfl (fun hg8=>(QU d0 hg8 bdk bdk q1_5 q1_6 q1_7 q1_8 q1_9)) (fun mc8 ho8=>?_)
 refine VO.k3 0 2 6 ?_
 refine VC.condB rfl (fun hc9=>?_) (fun hc9=>?_)
 refine VC.seq (VC.rs (VO.mv (VO.z (.nilp rfl) (VO.z (.fa rfl JO rfl) ?_))))
 obtain ⟨q10_E,q10_A5,q10_c5,q10_A6,q10_c6,q10_A7,q10_c7,q10_A8,q10_c8,q10_A9,q10_c9,q10_n5,q10_n6,q10_n7,q10_n8,q10_n9,_,q10_S,q10_3,q10_4,q10_5,q10_6,q10_7,q10_8,q10_9⟩:=Qt ho8
 simp only [inK] at q10_3 q10_4
 have q10_r5:=q10_5.rm
 have q10_r6:=q10_6.rm
 have q10_r7:=q10_7.rm
 have q10_r8:=q10_8.rm
 have q10_r9:=q10_9.rm
 refine VO.inv _ (fun _ h=>h.parts (i:=108) rfl q10_S [116,111,112,113,114,115]) ?_
 refine VO.z (.ld1 116 rfl tk3 rfl (Qa rfl rfl)) (VO.z (.eql rfl rfl) ?_)
 refine VO.clsP 117 [116,111,112,113,114,115] rfl (fun hg17=>(QU d0 hg17 bdk bdk q10_5 q10_6 q10_7 q10_8 q10_9)) (fun mc17 ho17=>?_)
 refine VO.p2 117 0 (VO.k4 0 2 6 11 ?_)
 refine VC.cond rfl (fun hc18=>?_) (fun hc18=>?_)
 ·refine VC.rs (VO.mv (VO.z (.nilp rfl) (VO.z (.fa rfl JO rfl) ?_)))
  obtain ⟨q19_E,q19_A5,q19_c5,q19_A6,q19_c6,q19_A7,q19_c7,q19_A8,q19_c8,q19_A9,q19_c9,q19_n5,q19_n6,q19_n7,q19_n8,q19_n9,_,q19_S,q19_3,q19_4,q19_5,q19_6,q19_7,q19_8,q19_9⟩:=Qt ho17
  simp only [inK] at q19_3 q19_4
  have q19_r5:=q19_5.rm
  have q19_r6:=q19_6.rm
  have q19_r7:=q19_7.rm
  have q19_r8:=q19_8.rm
  have q19_r9:=q19_9.rm
  refine VO.inv _ (fun _ h=>h.parts (i:=117) rfl q19_S [125,120,121,122,123,124]) ?_
  refine VO.s1 125 tk4 ?_
  refine VO.clsP 126 [125,120,121,122,123,124] rfl (fun hg26=>(Ju _ _ _ _ _ _ _ _ _ _ hg26 bdk bdk q19_5 q19_6 q19_7 q19_8 q19_9)) (fun mc26 ho26=>?_)
  refine VO.k4 0 2 6 11 (VC.rs (VO.as (VO.k4 0 2 6 11 (VC.ret (QS (QS ?_))))))
  refine Yz 2 [126] fun hS_=>?_
  dsimp only [Qv]
  have hm0_:((QN d0).1:QG)=(d0.1,true,d0.2.2):=by first | rfl | (simp [QN, *];done)
  refine ⟨?_,?_⟩
  rotate_left
  ·rw [hm0_];exact (Ow.up ho26 (hS_.1 _ (.head _)))
  all_goals (first | rfl | (simp [QN, *];done))
 ·refine VC.skip (Qj ?_)
  refine VC.reg ?_
  refine VO.mv (VO.z (.nilp rfl) (VO.z (.fa rfl JO rfl) ?_))
  obtain ⟨q27_E,q27_A5,q27_c5,q27_A6,q27_c6,q27_A7,q27_c7,q27_A8,q27_c8,q27_A9,q27_c9,q27_n5,q27_n6,q27_n7,q27_n8,q27_n9,_,q27_S,q27_3,q27_4,q27_5,q27_6,q27_7,q27_8,q27_9⟩:=Qt ho17
  simp only [inK] at q27_3 q27_4
  have q27_r5:=q27_5.rm
  have q27_r6:=q27_6.rm
  have q27_r7:=q27_7.rm
  have q27_r8:=q27_8.rm
  have q27_r9:=q27_9.rm
  refine VO.inv _ (fun _ h=>h.parts (i:=117) rfl q27_S [133,128,129,130,131,132]) ?_
  refine VO.z (.ld1 133 rfl tk3 rfl (Qa rfl rfl)) ?_
  refine VO.z (.sub rfl rfl rfl ⟨bd,bd⟩) ?_
  refine VO.z (.nilp rfl) (VO.z (.fa rfl JO rfl) ?_)
  refine VO.s1 133 tk3 ?_
  refine VO.clsP 134 [133,128,129,130,131,132] rfl (fun hg34=>(Ju _ _ _ _ _ _ _ _ _ _ hg34 bdk bdk q27_5 q27_6 q27_7 q27_8 q27_9)) (fun mc34 ho34=>?_)
  refine VO.k4 0 2 6 11 (Qj (VC.rs (VO.mv (VO.z (.nilp rfl) (VO.z (.fa rfl JO rfl) ?_)))))
  obtain ⟨q35_E,q35_A5,q35_c5,q35_A6,q35_c6,q35_A7,q35_c7,q35_A8,q35_c8,q35_A9,q35_c9,q35_n5,q35_n6,q35_n7,q35_n8,q35_n9,_,q35_S,q35_3,q35_4,q35_5,q35_6,q35_7,q35_8,q35_9⟩:=Qam (x0:=d0.1) (x1:=d0.2.1) (x2:=d0.2.2.1) (x3:=d0.2.2.2.1 - 1) (x4:=d0.2.2.2.2.1) (x5:=d0.2.2.2.2.2.1.1) (x6:=d0.2.2.2.2.2.1.2.1) (x7:=d0.2.2.2.2.2.1.2.2.1) (x8:=d0.2.2.2.2.2.1.2.2.2) (x9:=d0.2.2.2.2.2.2) ho34
  simp only [inK] at q35_3 q35_4
  have q35_r5:=q35_5.rm
  have q35_r6:=q35_6.rm
  have q35_r7:=q35_7.rm
  have q35_r8:=q35_8.rm
  have q35_r9:=q35_9.rm
  refine VO.inv _ (fun _ h=>h.parts (i:=134) rfl q35_S [141,136,137,138,139,140]) ?_
  refine VO.z (.ld1 141 rfl tk3 rfl (Qa rfl rfl)) ?_
  refine VO.z (.add rfl rfl rfl ⟨bd,bd⟩) ?_
  refine VO.z (.nilp rfl) (VO.z (.fa rfl JO rfl) ?_)
  refine VO.s1 141 tk3 ?_
  refine VO.clsP 142 [141,136,137,138,139,140] rfl (fun hg42=>(Ju _ _ _ _ _ _ _ _ _ _ hg42 bdk bdk q35_5 q35_6 q35_7 q35_8 q35_9)) (fun mc42 ho42=>?_)
  refine VO.k4 0 2 6 11 (VC.rs (VO.as (VO.p2 142 0 (VO.k4 0 2 6 11 (VC.ret ?_)))))
  refine Yz 2 [142] fun hS_=>?_
  dsimp only [Qv]
  have hm0_:((QN d0).1:QG)=(d0.1,d0.2.1,d0.2.2.1,d0.2.2.2.1 - 1,d0.2.2.2.2.1+1,d0.2.2.2.2.2):=by first | rfl | (simp [QN, *];done)
  refine ⟨?_,?_⟩
  rotate_left
  ·rw [hm0_];exact (Ow.up ho42 (hS_.1 _ (.head _)))
  all_goals (first | rfl | (simp [QN, *];done))
 ·refine VC.skip (Qj (VC.rs (VO.mv (VO.z (.nilp rfl) (VO.z (.fa rfl JO rfl) ?_)))))
  obtain ⟨q43_E,q43_A5,q43_c5,q43_A6,q43_c6,q43_A7,q43_c7,q43_A8,q43_c8,q43_A9,q43_c9,q43_n5,q43_n6,q43_n7,q43_n8,q43_n9,_,q43_S,q43_3,q43_4,q43_5,q43_6,q43_7,q43_8,q43_9⟩:=Qt ho8
  simp only [inK] at q43_3 q43_4
  have q43_r5:=q43_5.rm
  have q43_r6:=q43_6.rm
  have q43_r7:=q43_7.rm
  have q43_r8:=q43_8.rm
  have q43_r9:=q43_9.rm
  refine VO.inv _ (fun _ h=>h.parts (i:=108) rfl q43_S [149,144,145,146,147,148]) ?_
  refine VO.z (.ld1 149 rfl tk3 rfl (Qa rfl rfl)) ?_
  refine VO.z (.add rfl rfl rfl ⟨bd,bd⟩) ?_
  refine VO.z (.nilp rfl) (VO.z (.fa rfl JO rfl) ?_)
  refine VO.s1 149 tk3 ?_
  refine VO.clsP 150 [149,144,145,146,147,148] rfl (fun hg50=>(Ju _ _ _ _ _ _ _ _ _ _ hg50 bdk bdk q43_5 q43_6 q43_7 q43_8 q43_9)) (fun mc50 ho50=>?_)
  refine VO.p2 150 0 (VO.k3 0 2 6 (VC.rs (VO.as (VO.k3 0 2 6 (VC.ret ?_)))))
  refine Yz 2 [150] fun hS_=>?_
  dsimp only [Qv]
  have hm0_:((QN d0).1:QG)=(d0.1,d0.2.1,d0.2.2.1,d0.2.2.2.1,d0.2.2.2.2.1+1,d0.2.2.2.2.2):=by first | rfl | (simp [QN, *];done)
  refine ⟨?_,?_⟩
  rotate_left
  ·rw [hm0_];exact (Ow.up ho50 (hS_.1 _ (.head _)))
  all_goals (first | rfl | (simp [QN, *];done))
theorem XM (W:World) {m0:Mem} (hm:mle (m0) (wm W)) {v0:Value} {d0:List UInt8} (h0:Ow (.sl .byte) m0 [v0] d0) {v1:List Value} {d1:Xa} (h1:Rd Z8 (JY (wm W) (m0)) v1 d1) (e0:d1.1=1→0≤d1.2.2.2∧d1.2.2.2≤d0.length) (e1:d0.length+d1.2.2.1.length≤140737488355000):Qg Tryz.prog 73 [v0,.agg v1.toArray] W (m0) (fun v m'=>∃ (s0:Value),v=s0∧Ow (.sl .byte) m' [s0] (Qbw d0 d1)):=by
 obtain ⟨A0,c0,e0_,l0,k0⟩:=h0.slc
 subst e0_
 obtain ⟨p1_A2,p1_c2,rfl,p1_0,p1_1,p1_2,p1_3⟩:=Y1 (x0:=d1.1) (x1:=d1.2.1) (x2:=d1.2.2.1) (x3:=d1.2.2.2) h1
 simp only [inK] at p1_0 p1_1
 have p1_r2:=Rd.room p1_2
 simp only [inK] at p1_3
 refine Qg.ofB (n:=20) hm Tryz.func73 rfl rfl rfl ?_
 refine VC.rs ?_
 refine VO.box (cs:=[.int .i64 (d1.1),.int .i64 (d1.2.1),.slice p1_A2 (d1.2.2.1.length) (p1_c2),.int .i64 (d1.2.2.2)]) 102 rfl rfl rfl (fun g1=>?_)
 refine VO.as (VO.k4 0 1 3 4 (VC.seq (VC.rs (VO.z (.fa rfl Qaa rfl) (VO.z (.ld1 102 rfl tk3 rfl (Qa rfl rfl)) (VO.k5 0 1 3 4 6 (VC.block (VC.rs (VO.z (.eql rfl rfl) (VO.as (VO.p3 102 0 1 ?_)))))))))))
 refine VO.k6 0 1 3 4 6 7 ?_
 refine VC.cond rfl (fun hc3=>?_) (fun hc3=>?_)
 ·refine VC.rs (VO.mv (VO.z (.fa rfl Qaa rfl) (VO.z (.ld1 102 rfl YT rfl (Qa rfl rfl)) ?_)))
  obtain ⟨mo4,cs4,hM4,hA4,hC4⟩:=(Ow.ownl h0 rfl Qr)
  obtain ⟨all4,hS4,hR4⟩:=Rd.srcI (P:=Tryz.prog) (p1_2) Tryz.underlying47
  refine VO.app 1 rfl rfl rfl Q0 tz5 rfl rfl hM4 hA4 (hS4 _ 0 rfl) hR4.nice bdm bd (by decide) (fun v4 m4 hN4=>?_)
  have ho4:Qz .byte m4 Qr v4 (d0++d1.2.2.1):=Qz.more hC4 hN4 (QV.mono hR4 fun _ _ h=>Rd.flat rfl h _)
  obtain ⟨A4,c4,rfl,l4,k4⟩:=ho4.slc
  refine VO.as (VO.k6 0 1 3 4 6 7 (VC.ret (JD (QS ?_))))
  refine Yz 4 [1] fun hS_=>?_
  dsimp only [Qv]
  exact ⟨Value.slice A4 ((d0++d1.2.2.1).length) (c4),(by first | rfl | (simp [*];done)),(Ow.cg (Ow.up (Qz.ow ho4 rfl) (hS_.1 _ (.head _))) (by first | rfl | (simp [Qbw, *];done)))⟩
 refine VC.rs (VO.z (.eql rfl rfl) (VO.as (VO.k7 0 1 3 4 6 7 13 ?_)))
 refine VC.cond rfl (fun hc5=>?_) (fun hc5=>?_)
 ·refine VC.rs (VO.mv (VO.z (.fa rfl Qaa rfl) (VO.z (.ld1 102 rfl tk3 rfl (Qa rfl rfl)) ?_)))
  have hs6:=(Ow.rd h0 (Qb _)).pre (j:=((d1.2.2.2).toNat)) bd
  refine VO.z (.slHI ((d1.2.2.2).toNat) rfl rfl Q0 bd bd) ?_
  refine VO.as (VO.k7 0 1 3 4 6 7 13 (VC.ret (JD (QS ?_))))
  refine Yz 4 [1] fun hS_=>?_
  dsimp only [Qv]
  exact ⟨Value.slice A0 ((d1.2.2.2).toNat) (c0),(by first | rfl | (simp [*];done)),(Ow.cg (Ow.up (Qz.ow ((Ow.ownl h0 rfl Qr).pre (j:=((d1.2.2.2).toNat)) bd) rfl) (hS_.1 _ (.head _))) (by first | rfl | (simp [Qbw, *];done)))⟩
 ·refine VC.skip (JE (Qj (VC.rs (VO.mv (VO.as (VO.k7 0 1 3 4 6 7 13 (VC.ret ?_)))))))
  refine Yz 4 [1] fun hS_=>?_
  dsimp only [Qv]
  exact ⟨Value.slice A0 (d0.length) (c0),(by first | rfl | (simp [*];done)),(Ow.cg (Ow.up h0 (hS_.1 _ (.head _))) (by first | rfl | (simp [Qbw, *];done)))⟩
theorem Qcj:JX Tryz.prog 73=true:=by kernel_rfl
theorem Zz:tar Tryz.prog 59=some (4,1):=by kernel_rfl
theorem QbE:tk Tryz.prog 102=some (some 4):=by kernel_rfl
theorem QfJ:tk Tryz.prog 60=some none:=by kernel_rfl
theorem QbC:tsl Tryz.prog 60=some (102,4,48):=by kernel_rfl
theorem QfF:tz Tryz.prog 102=some [.int .i64 0,.int .i64 0,.slice none 0 0,.int .i64 0]:=by kernel_rfl
set_option maxHeartbeats 1000000 in
theorem Qi6 (W:World) {m0:Mem} (hm:mle (m0) (wm W)) {g0:Nat} {d0:QG} (h0:Ow (.ptr Qy) m0 [.pointer (some ⟨g0,0,none⟩)] (g0,d0)) (d1:Int) (h1:inK .i64 d1) (e0:okD d0) (e1:wD d0≤2*1000000000000) (e2:inF d1):Qg Tryz.prog 86 [.pointer (some ⟨g0,0,none⟩),.int .i64 d1] W (m0) (fun v m'=>∃ (s0:Value),∃ (p0:Mem),∃ (p1:Mem),v=s0∧Qu m' [p0,p1]∧Ow (.sl .byte) p0 [s0] (JK d0.2.2.2.2.2.1 d0.2.2.2.2.2.2 d1)∧Ow (.ptr Qy) p1 [.pointer (some ⟨g0,0,none⟩)] (g0,d0)):=by
 obtain ⟨hg,hfu,hst⟩:=e0;simp only [wD,Ye] at e1;have hin:=e2;simp only [inF] at hin
 have h1':=h1;simp only [inK] at h1'
 refine Qg.ofB (n:=33) hm Tryz.func86 rfl rfl rfl ?_
 refine VC.rs (VO.as (VO.k3 0 1 4 ?_))
 refine VC.seqJ (G:=(List UInt8) × (Option Addr) × Nat × Mem × Mem) (fun g=>[(5,.slice (g.2.1) ((g.1).length) ((g.2.2.1))),(0,.pointer (some ⟨g0,0,none⟩)),(1,.int .i64 (d1)),(4,.slice none (0) (0))]) (fun g=>[(111,(g.2.2.2.2)),(110,(g.2.2.2.1)),(0,JY (wm W) (m0))]) (fun g=>((g.1)=JK d0.2.2.2.2.2.1 (d0.2.2.2.2.2.2.take 0) d1)∧(Qz .byte (g.2.2.2.1) Qr (.slice (g.2.1) (g.1).length (g.2.2.1)) (g.1))∧(Ow (.ptr Qy) (g.2.2.2.2) [.pointer (some ⟨g0,0,none⟩)] (g0,d0))) ?_ ?_
 rintro ⟨bj,bj_A,bj_c,bj_m,dd_m⟩ ⟨hbj,h_bj,h_dd⟩
 replace hbj:bj=JK d0.2.2.2.2.2.1 (d0.2.2.2.2.2.2.take 0) d1:=hbj
 replace h_bj:Qz .byte bj_m Qr (.slice bj_A bj.length bj_c) bj:=h_bj
 replace h_dd:Ow (.ptr Qy) dd_m [.pointer (some ⟨g0,0,none⟩)] (g0,d0):=h_dd
 show VC _ _ _ _ _ [(5,.slice bj_A (bj.length) (bj_c)),(0,.pointer (some ⟨g0,0,none⟩)),(1,.int .i64 (d1)),(4,.slice none (0) (0))] [(111,dd_m),(110,bj_m),(0,JY (wm W) (m0))]
 have l_bj:bj.length≤bj_c:=by obtain ⟨_,_,he,hl,_⟩:=h_bj.slice;simp only [Value.slice.injEq] at he;omega
 have k_bj:bj_c≤9223372036854775807:=by obtain ⟨_,_,he,_,hl⟩:=h_bj.slice;simp only [Value.slice.injEq,maxLen] at he hl;omega
 refine VC.seq (VC.rs (VO.mv (VO.z (.nilp rfl) (VO.z (.fa rfl JO rfl) ?_))))
 obtain ⟨q12_E,q12_A5,q12_c5,q12_A6,q12_c6,q12_A7,q12_c7,q12_A8,q12_c8,q12_A9,q12_c9,q12_n5,q12_n6,q12_n7,q12_n8,q12_n9,_,q12_S,q12_3,q12_4,q12_5,q12_6,q12_7,q12_8,q12_9⟩:=Qt h_dd
 simp only [inK] at q12_3 q12_4
 have q12_r5:=q12_5.rm
 have q12_r6:=q12_6.rm
 have q12_r7:=q12_7.rm
 have q12_r8:=q12_8.rm
 have q12_r9:=q12_9.rm
 refine VO.inv _ (fun _ h=>h.parts (i:=111) rfl q12_S [118,113,114,115,116,117]) ?_
 refine VO.z (.ld1 118 rfl QfJ rfl (Qa rfl rfl)) (VO.z (.lenS rfl QbC) (VO.mv (VO.p8 118 113 114 115 116 117 110 0 (VO.k7 0 1 4 5 18 19 20 (VC.block ?_)))))
 refine VC.loop (G:=Nat × (List UInt8) × (Option Addr) × Nat × Mem) (fun g=>[(5,.slice (g.2.2.1) ((g.2.1).length) ((g.2.2.2.1))),(20,.int .i64 ((((g.1):Nat):Int))),(0,.pointer (some ⟨g0,0,none⟩)),(1,.int .i64 (d1)),(4,.slice none (0) (0)),(18,.slice q12_A9 (d0.2.2.2.2.2.2.length) (q12_c9)),(19,.int .i64 (((d0.2.2.2.2.2.2.length:Nat):Int)))]) (fun g=>[(118,QE g0 (.cells #[.bool d0.1,.bool d0.2.1,.bool d0.2.2.1,.int .i64 (d0.2.2.2.1),.int .i64 (d0.2.2.2.2.1),.slice q12_A5 (d0.2.2.2.2.2.1.1.length) (q12_c5),.slice q12_A6 (d0.2.2.2.2.2.1.2.1.length) (q12_c6),.slice q12_A7 (d0.2.2.2.2.2.1.2.2.1.length) (q12_c7),.slice q12_A8 (d0.2.2.2.2.2.1.2.2.2.length) (q12_c8),.slice q12_A9 (d0.2.2.2.2.2.2.length) (q12_c9)] q12_E (0,0))),(113,q12_n5),(114,q12_n6),(115,q12_n7),(116,q12_n8),(117,q12_n9),(110,(g.2.2.2.2)),(0,JY (wm W) (m0))]) (fun g=>((g.1)≤d0.2.2.2.2.2.2.length)∧((g.2.1)=JK d0.2.2.2.2.2.1 (d0.2.2.2.2.2.2.take (g.1)) d1)∧(Qz .byte (g.2.2.2.2) Qr (.slice (g.2.2.1) (g.2.1).length (g.2.2.2.1)) (g.2.1))) (fun g=>d0.2.2.2.2.2.2.length - (g.1)) (0,bj,bj_A,bj_c,bj_m) (⟨by omega,by exact hbj,h_bj⟩) ⟨esn,fun _ h=>h.sub [118,113,114,115,116,117,110,0]⟩ ?_
 rintro ⟨k,b,b_A,b_c,b_m⟩ ⟨hk,hb,h_b⟩
 replace hk:k≤d0.2.2.2.2.2.2.length:=hk
 replace hb:b=JK d0.2.2.2.2.2.1 (d0.2.2.2.2.2.2.take k) d1:=hb
 replace h_b:Qz .byte b_m Qr (.slice b_A b.length b_c) b:=h_b
 show VC _ _ _ _ _ [(5,.slice b_A (b.length) (b_c)),(20,.int .i64 (((k:Nat):Int))),(0,.pointer (some ⟨g0,0,none⟩)),(1,.int .i64 (d1)),(4,.slice none (0) (0)),(18,.slice q12_A9 (d0.2.2.2.2.2.2.length) (q12_c9)),(19,.int .i64 (((d0.2.2.2.2.2.2.length:Nat):Int)))] [(118,QE g0 (.cells #[.bool d0.1,.bool d0.2.1,.bool d0.2.2.1,.int .i64 (d0.2.2.2.1),.int .i64 (d0.2.2.2.2.1),.slice q12_A5 (d0.2.2.2.2.2.1.1.length) (q12_c5),.slice q12_A6 (d0.2.2.2.2.2.1.2.1.length) (q12_c6),.slice q12_A7 (d0.2.2.2.2.2.1.2.2.1.length) (q12_c7),.slice q12_A8 (d0.2.2.2.2.2.1.2.2.2.length) (q12_c8),.slice q12_A9 (d0.2.2.2.2.2.2.length) (q12_c9)] q12_E (0,0))),(113,q12_n5),(114,q12_n6),(115,q12_n7),(116,q12_n8),(117,q12_n9),(110,b_m),(0,JY (wm W) (m0))]
 have l_b:b.length≤b_c:=by obtain ⟨_,_,he,hl,_⟩:=h_b.slice;simp only [Value.slice.injEq] at he;omega
 have k_b:b_c≤9223372036854775807:=by obtain ⟨_,_,he,_,hl⟩:=h_b.slice;simp only [Value.slice.injEq,maxLen] at he hl;omega
 refine VC.rs (VO.z (.lss rfl rfl) (VO.k8 0 1 4 5 18 19 20 21 (VC.seq ?_)))
 refine VC.cond rfl (fun hc19=>?_) (fun hc19=>?_)
 refine VC.skip (Qj (VC.seq (VC.block (VC.rs ?_))))
 obtain ⟨x20,hx20⟩:∃ z_,(d0.2.2.2.2.2.2)[k]? =some z_:=⟨_,List.getElem?_eq_getElem bd⟩
 obtain ⟨gg20,oo20,ec20,ea20,hce20,hre20⟩:=(Ow.rd q12_9 (Qb _)).elem hx20
 cases ea20
 obtain ⟨q20_A2,q20_c2,rfl,q20_0,q20_1,q20_2,q20_3⟩:=Y1 (x0:=x20.1) (x1:=x20.2.1) (x2:=x20.2.2.1) (x3:=x20.2.2.2) hre20
 simp only [inK] at q20_0 q20_1
 have q20_r2:=Rd.room q20_2
 simp only [inK] at q20_3
 refine VO.z (.ixI k rfl rfl QbC rfl bd) ?_
 refine VO.z (.ldA 117 rfl QbE rfl hce20) ?_
 refine VO.alloc 122 rfl QfF (fun g21=>?_)
 refine VO.store (k:=4) (c':=[.int .i64 (x20.1),.int .i64 (x20.2.1),.slice q20_A2 (x20.2.2.1.length) (q20_c2),.int .i64 (x20.2.2.2)]) 122 rfl rfl (.inl QbE) rfl rfl rfl rfl rfl ?_
 refine VO.k9 0 1 4 5 7 18 19 20 21 (VC.rs (VO.z (.fa rfl Qaa rfl) (VO.z (.ld1 122 rfl tk3 rfl (Qa rfl rfl)) (VO.mv (VO.z (.eql rfl rfl) (VO.p9 122 118 113 114 115 116 117 110 0 (VO.k10 0 1 4 5 7 18 19 20 21 27 ?_)))))))
 refine VC.cond rfl (fun hc23=>?_) (fun hc23=>?_)
 refine VC.reg ?_
 refine VO.mv (VO.z (.ldA 122 rfl QbE rfl (Qa rfl rfl)) ?_)
 refine VO.call 110 rfl Qcj rfl rfl (fun W hW=>XM W (hW.t 110) (Qz.ow h_b rfl) (Rd.mono hre20 (hW.o 110 117)) (by exact QiK hg hb ‹d0.2.2.2.2.2.2[k]? =some _› e2 ‹_=d1›) (by (have h_:=QgT hb ‹d0.2.2.2.2.2.2[k]? =some _›;simp only [Ye] at h_;omega))) (fun v24 m24 hv24=>?_)
 obtain ⟨s24_0,rfl,f24_0⟩:=hv24
 obtain ⟨A24_0,c24_0,eq24_0,l24_0,k24_0⟩:=f24_0.slc
 subst eq24_0
 refine VO.as (VO.k10 0 1 4 5 7 18 19 20 21 27 (JE (Qj ?_)))
 refine VC.reg ?_
 refine VO.z (.add (c:=((k+1:Nat):Int)) rfl rfl Qx ⟨bd,bd⟩) ?_
 refine VO.mv (VO.k10 0 1 4 5 7 18 19 20 21 27 ?_)
 exact Qj ⟨⟨k+1,Qbw b x20,A24_0,c24_0,m24⟩,⟨by omega,by first | exact QdC hb ‹d0.2.2.2.2.2.2[k]? =some _› ‹_=d1› | exact Qf7 hb ‹d0.2.2.2.2.2.2[k]? =some _› ‹¬ _=d1›,(Ow.ownl f24_0 rfl Qr)⟩,bd,⟨esn,fun _ h=>Inv.sub h [118,113,114,115,116,117,110,0]⟩⟩
 refine VC.skip (JE (Qj ?_))
 refine VC.reg ?_
 refine VO.z (.add (c:=((k+1:Nat):Int)) rfl rfl Qx ⟨bd,bd⟩) ?_
 refine VO.mv (VO.k10 0 1 4 5 7 18 19 20 21 27 ?_)
 exact Qj ⟨⟨k+1,b,b_A,b_c,b_m⟩,⟨by omega,by first | exact QdC hb ‹d0.2.2.2.2.2.2[k]? =some _› ‹_=d1› | exact Qf7 hb ‹d0.2.2.2.2.2.2[k]? =some _› ‹¬ _=d1›,h_b⟩,bd,⟨esn,fun _ h=>Inv.sub h [118,113,114,115,116,117,110,0]⟩⟩
 · refine VC.exit (Zc (Zc (Zd (Qj (VC.rs (VO.mv (VO.as (VO.k8 0 1 4 5 18 19 20 21 (VC.ret ?_)))))))))
   refine Yz 4 [110,118,113,114,115,116,117] fun hS_=>?_
   dsimp only [Qv]
   have hm0_:(d0:QG)=d0:=by first | rfl | (rw [hb,List.take_of_length_le Qx])
   refine ⟨.slice b_A (b.length) (b_c),Zv [b_m],Zv [QE g0 (.cells #[.bool d0.1,.bool d0.2.1,.bool d0.2.2.1,.int .i64 (d0.2.2.2.1),.int .i64 (d0.2.2.2.2.1),.slice q12_A5 (d0.2.2.2.2.2.1.1.length) (q12_c5),.slice q12_A6 (d0.2.2.2.2.2.1.2.1.length) (q12_c6),.slice q12_A7 (d0.2.2.2.2.2.1.2.2.1.length) (q12_c7),.slice q12_A8 (d0.2.2.2.2.2.1.2.2.2.length) (q12_c8),.slice q12_A9 (d0.2.2.2.2.2.2.length) (q12_c9)] q12_E (0,0)),q12_n5,q12_n6,q12_n7,q12_n8,q12_n9],?_,?_,?_,?_⟩
   rotate_left
   · exact Qu.grp (ls:=[[b_m],[QE g0 (.cells [Value.bool d0.1,Value.bool d0.2.1,Value.bool d0.2.2.1,Value.int .i64 (d0.2.2.2.1),Value.int .i64 (d0.2.2.2.2.1),Value.slice q12_A5 (d0.2.2.2.2.2.1.1.length) (q12_c5),Value.slice q12_A6 (d0.2.2.2.2.2.1.2.1.length) (q12_c6),Value.slice q12_A7 (d0.2.2.2.2.2.1.2.2.1.length) (q12_c7),Value.slice q12_A8 (d0.2.2.2.2.2.1.2.2.2.length) (q12_c8),Value.slice q12_A9 (d0.2.2.2.2.2.2.length) (q12_c9)].toArray q12_E (0,0)),q12_n5,q12_n6,q12_n7,q12_n8,q12_n9]]) hS_
   · exact Ow.cg (Ow.up (Qz.ow h_b rfl) ((Qu.self hS_ (List.Sublist.cons_cons _ (List.Sublist.cons _ (List.Sublist.cons _ (List.Sublist.cons _ (List.Sublist.cons _ (List.Sublist.cons _ (List.Sublist.cons _ List.Sublist.slnil)))))))).1 _ (.head _))) (by first | rfl | (rw [hb,List.take_of_length_le Qx]))
   · rw [hm0_];exact (QU d0 (Qu.self hS_ (List.Sublist.cons _ (List.Sublist.cons_cons _ (List.Sublist.cons_cons _ (List.Sublist.cons_cons _ (List.Sublist.cons_cons _ (List.Sublist.cons_cons _ (List.Sublist.cons_cons _ List.Sublist.slnil)))))))) bdk bdk q12_5 q12_6 q12_7 q12_8 q12_9)
   all_goals (first | rfl | (simp [*];done))
 intro hJ1
 refine VC.reg ?_
 refine VO.mv (VO.mv (VO.z (.nilp rfl) (VO.z (.fa rfl JO rfl) ?_)))
 rcases (show d1=(0:Int)∨d1=(1:Int)∨d1=(2:Int)∨d1=(3:Int) from by first | exact bd) with hi25 | hi25 | hi25 | hi25
 refine VO.z (.ixa (i:=0) (o:=5) rfl rfl Zz hi25 rfl rfl) ?_
 obtain ⟨q26_E,q26_A5,q26_c5,q26_A6,q26_c6,q26_A7,q26_c7,q26_A8,q26_c8,q26_A9,q26_c9,q26_n5,q26_n6,q26_n7,q26_n8,q26_n9,_,q26_S,q26_3,q26_4,q26_5,q26_6,q26_7,q26_8,q26_9⟩:=Qt h0
 simp only [inK] at q26_3 q26_4
 have q26_r5:=q26_5.rm
 have q26_r6:=q26_6.rm
 have q26_r7:=q26_7.rm
 have q26_r8:=q26_8.rm
 have q26_r9:=q26_9.rm
 refine VO.inv _ (fun _ h=>h.parts (i:=1) rfl q26_S [132,127,128,129,130,131]) ?_
 refine VO.z (.ld1 132 rfl YT rfl (Qa rfl rfl)) ?_
 refine VO.inv _ (fun _ h=>h.nilc 134) ?_
 obtain ⟨mo33,cs33,hM33,hA33,hC33⟩:=(Qz.nil .byte Qr Qr)
 obtain ⟨all33,hS33,hR33⟩:=Rd.srcI (P:=Tryz.prog) ((Ow.rd q26_5 (Qb _))) Tryz.underlying47
 refine VO.app 134 rfl rfl rfl Q0 tz5 rfl rfl hM33 hA33 (hS33 _ 127 rfl) hR33.nice bdm bd (by decide) (fun v33 m33 hN33=>?_)
 have ho33:Qz .byte m33 Qr v33 (d0.2.2.2.2.2.1.1):=Qz.more hC33 hN33 (QV.mono hR33 fun _ _ h=>Rd.flat rfl h _)
 obtain ⟨A33,c33,rfl,l33,k33⟩:=ho33.slc
 refine VO.as ?_
 refine VO.clsP 135 [132,127,128,129,130,131] rfl (fun hg35=>(QU d0 hg35 bdk bdk q26_5 q26_6 q26_7 q26_8 q26_9)) (fun mc35 ho35=>?_)
 refine VO.k4 0 1 4 5 ?_
 exact Qj (hJ1 ⟨d0.2.2.2.2.2.1.1,A33,c33,m33,mc35⟩ _ _ ⟨by first | exact (YH ‹d1=(0:Int)›).symm | exact (YG ‹d1=(1:Int)›).symm | exact (YF ‹d1=(2:Int)›).symm | exact (YE ‹d1=(3:Int)›).symm,ho33,ho35⟩ ⟨esn,fun _ h=>Inv.sub (Inv.num (Inv.num h 134 110 rfl) 135 111 rfl) [111,110,0]⟩)
 refine VO.z (.ixa (i:=1) (o:=6) rfl rfl Zz hi25 rfl rfl) ?_
 obtain ⟨q36_E,q36_A5,q36_c5,q36_A6,q36_c6,q36_A7,q36_c7,q36_A8,q36_c8,q36_A9,q36_c9,q36_n5,q36_n6,q36_n7,q36_n8,q36_n9,_,q36_S,q36_3,q36_4,q36_5,q36_6,q36_7,q36_8,q36_9⟩:=Qt h0
 simp only [inK] at q36_3 q36_4
 have q36_r5:=q36_5.rm
 have q36_r6:=q36_6.rm
 have q36_r7:=q36_7.rm
 have q36_r8:=q36_8.rm
 have q36_r9:=q36_9.rm
 refine VO.inv _ (fun _ h=>h.parts (i:=1) rfl q36_S [142,137,138,139,140,141]) ?_
 refine VO.z (.ld1 142 rfl YT rfl (Qa rfl rfl)) ?_
 refine VO.inv _ (fun _ h=>h.nilc 144) ?_
 obtain ⟨mo43,cs43,hM43,hA43,hC43⟩:=(Qz.nil .byte Qr Qr)
 obtain ⟨all43,hS43,hR43⟩:=Rd.srcI (P:=Tryz.prog) ((Ow.rd q36_6 (Qb _))) Tryz.underlying47
 refine VO.app 144 rfl rfl rfl Q0 tz5 rfl rfl hM43 hA43 (hS43 _ 138 rfl) hR43.nice bdm bd (by decide) (fun v43 m43 hN43=>?_)
 have ho43:Qz .byte m43 Qr v43 (d0.2.2.2.2.2.1.2.1):=Qz.more hC43 hN43 (QV.mono hR43 fun _ _ h=>Rd.flat rfl h _)
 obtain ⟨A43,c43,rfl,l43,k43⟩:=ho43.slc
 refine VO.as ?_
 refine VO.clsP 145 [142,137,138,139,140,141] rfl (fun hg45=>(QU d0 hg45 bdk bdk q36_5 q36_6 q36_7 q36_8 q36_9)) (fun mc45 ho45=>?_)
 refine VO.k4 0 1 4 5 ?_
 exact Qj (hJ1 ⟨d0.2.2.2.2.2.1.2.1,A43,c43,m43,mc45⟩ _ _ ⟨by first | exact (YH ‹d1=(0:Int)›).symm | exact (YG ‹d1=(1:Int)›).symm | exact (YF ‹d1=(2:Int)›).symm | exact (YE ‹d1=(3:Int)›).symm,ho43,ho45⟩ ⟨esn,fun _ h=>Inv.sub (Inv.num (Inv.num h 144 110 rfl) 145 111 rfl) [111,110,0]⟩)
 refine VO.z (.ixa (i:=2) (o:=7) rfl rfl Zz hi25 rfl rfl) ?_
 obtain ⟨q46_E,q46_A5,q46_c5,q46_A6,q46_c6,q46_A7,q46_c7,q46_A8,q46_c8,q46_A9,q46_c9,q46_n5,q46_n6,q46_n7,q46_n8,q46_n9,_,q46_S,q46_3,q46_4,q46_5,q46_6,q46_7,q46_8,q46_9⟩:=Qt h0
 simp only [inK] at q46_3 q46_4
 have q46_r5:=q46_5.rm
 have q46_r6:=q46_6.rm
 have q46_r7:=q46_7.rm
 have q46_r8:=q46_8.rm
 have q46_r9:=q46_9.rm
 refine VO.inv _ (fun _ h=>h.parts (i:=1) rfl q46_S [152,147,148,149,150,151]) ?_
 refine VO.z (.ld1 152 rfl YT rfl (Qa rfl rfl)) ?_
 refine VO.inv _ (fun _ h=>h.nilc 154) ?_
 obtain ⟨mo53,cs53,hM53,hA53,hC53⟩:=(Qz.nil .byte Qr Qr)
 obtain ⟨all53,hS53,hR53⟩:=Rd.srcI (P:=Tryz.prog) ((Ow.rd q46_7 (Qb _))) Tryz.underlying47
 refine VO.app 154 rfl rfl rfl Q0 tz5 rfl rfl hM53 hA53 (hS53 _ 149 rfl) hR53.nice bdm bd (by decide) (fun v53 m53 hN53=>?_)
 have ho53:Qz .byte m53 Qr v53 (d0.2.2.2.2.2.1.2.2.1):=Qz.more hC53 hN53 (QV.mono hR53 fun _ _ h=>Rd.flat rfl h _)
 obtain ⟨A53,c53,rfl,l53,k53⟩:=ho53.slc
 refine VO.as ?_
 refine VO.clsP 155 [152,147,148,149,150,151] rfl (fun hg55=>(QU d0 hg55 bdk bdk q46_5 q46_6 q46_7 q46_8 q46_9)) (fun mc55 ho55=>?_)
 refine VO.k4 0 1 4 5 ?_
 exact Qj (hJ1 ⟨d0.2.2.2.2.2.1.2.2.1,A53,c53,m53,mc55⟩ _ _ ⟨by first | exact (YH ‹d1=(0:Int)›).symm | exact (YG ‹d1=(1:Int)›).symm | exact (YF ‹d1=(2:Int)›).symm | exact (YE ‹d1=(3:Int)›).symm,ho53,ho55⟩ ⟨esn,fun _ h=>Inv.sub (Inv.num (Inv.num h 154 110 rfl) 155 111 rfl) [111,110,0]⟩)
 refine VO.z (.ixa (i:=3) (o:=8) rfl rfl Zz hi25 rfl rfl) ?_
 obtain ⟨q56_E,q56_A5,q56_c5,q56_A6,q56_c6,q56_A7,q56_c7,q56_A8,q56_c8,q56_A9,q56_c9,q56_n5,q56_n6,q56_n7,q56_n8,q56_n9,_,q56_S,q56_3,q56_4,q56_5,q56_6,q56_7,q56_8,q56_9⟩:=Qt h0
 simp only [inK] at q56_3 q56_4
 have q56_r5:=q56_5.rm
 have q56_r6:=q56_6.rm
 have q56_r7:=q56_7.rm
 have q56_r8:=q56_8.rm
 have q56_r9:=q56_9.rm
 refine VO.inv _ (fun _ h=>h.parts (i:=1) rfl q56_S [162,157,158,159,160,161]) ?_
 refine VO.z (.ld1 162 rfl YT rfl (Qa rfl rfl)) ?_
 refine VO.inv _ (fun _ h=>h.nilc 164) ?_
 obtain ⟨mo63,cs63,hM63,hA63,hC63⟩:=(Qz.nil .byte Qr Qr)
 obtain ⟨all63,hS63,hR63⟩:=Rd.srcI (P:=Tryz.prog) ((Ow.rd q56_8 (Qb _))) Tryz.underlying47
 refine VO.app 164 rfl rfl rfl Q0 tz5 rfl rfl hM63 hA63 (hS63 _ 160 rfl) hR63.nice bdm bd (by decide) (fun v63 m63 hN63=>?_)
 have ho63:Qz .byte m63 Qr v63 (d0.2.2.2.2.2.1.2.2.2):=Qz.more hC63 hN63 (QV.mono hR63 fun _ _ h=>Rd.flat rfl h _)
 obtain ⟨A63,c63,rfl,l63,k63⟩:=ho63.slc
 refine VO.as ?_
 refine VO.clsP 165 [162,157,158,159,160,161] rfl (fun hg65=>(QU d0 hg65 bdk bdk q56_5 q56_6 q56_7 q56_8 q56_9)) (fun mc65 ho65=>?_)
 refine VO.k4 0 1 4 5 ?_
 exact Qj (hJ1 ⟨d0.2.2.2.2.2.1.2.2.2,A63,c63,m63,mc65⟩ _ _ ⟨by first | exact (YH ‹d1=(0:Int)›).symm | exact (YG ‹d1=(1:Int)›).symm | exact (YF ‹d1=(2:Int)›).symm | exact (YE ‹d1=(3:Int)›).symm,ho63,ho65⟩ ⟨esn,fun _ h=>Inv.sub (Inv.num (Inv.num h 164 110 rfl) 165 111 rfl) [111,110,0]⟩)
theorem Y8 {P:Prop} (h:P:=by first | (have h_:=YD hb (JT ‹(d0.2.2.2.2.2.2.take d1.toNat)[k]? =some _›);rw [YH ‹_=(0:Int)›] at h_;simp only [Ye] at h_;omega) | (have h_:=YD hb (JT ‹(d0.2.2.2.2.2.2.take d1.toNat)[k]? =some _›);rw [YG ‹_=(1:Int)›] at h_;simp only [Ye] at h_;omega) | (have h_:=YD hb (JT ‹(d0.2.2.2.2.2.2.take d1.toNat)[k]? =some _›);rw [YF ‹_=(2:Int)›] at h_;simp only [Ye] at h_;omega) | (have h_:=YD hb (JT ‹(d0.2.2.2.2.2.2.take d1.toNat)[k]? =some _›);rw [YE ‹_=(3:Int)›] at h_;simp only [Ye] at h_;omega)):P:=h
theorem Y7 {P:Prop} (h:P:=by first | (have h_:=(Xp hg hb (JT ‹(d0.2.2.2.2.2.2.take d1.toNat)[k]? =some _›)).2;rw [YH ‹_=(0:Int)›] at h_;exact h_) | (have h_:=(Xp hg hb (JT ‹(d0.2.2.2.2.2.2.take d1.toNat)[k]? =some _›)).2;rw [YG ‹_=(1:Int)›] at h_;exact h_) | (have h_:=(Xp hg hb (JT ‹(d0.2.2.2.2.2.2.take d1.toNat)[k]? =some _›)).2;rw [YF ‹_=(2:Int)›] at h_;exact h_) | (have h_:=(Xp hg hb (JT ‹(d0.2.2.2.2.2.2.take d1.toNat)[k]? =some _›)).2;rw [YE ‹_=(3:Int)›] at h_;exact h_)):P:=h
theorem QD {P:Prop} (h:P:=by first | exact bd | (have h_:=(Xp hg hb (JT ‹(d0.2.2.2.2.2.2.take d1.toNat)[k]? =some _›)).1;simp only [inF] at h_;omega)):P:=h
set_option maxHeartbeats 1000000 in
theorem Qfk (W:World) {m0:Mem} (hm:mle (m0) (wm W)) {g0:Nat} {d0:QG} (h0:Ow (.ptr Qy) m0 [.pointer (some ⟨g0,0,none⟩)] (g0,d0)) (d1:Int) (h1:inK .i64 d1) (e0:okD d0) (e1:wD d0≤2*1000000000000) (e2:0≤d1∧d1≤d0.2.2.2.2.2.2.length):Qg Tryz.prog 72 [.pointer (some ⟨g0,0,none⟩),.int .i64 d1] W (m0) (fun v m'=>v= .tuple #[]∧Ow (.ptr Qy) m' [.pointer (some ⟨g0,0,none⟩)] (g0,Zj d0 d1.toNat)):=by
 obtain ⟨hg,hfu,hst⟩:=e0;simp only [wD,Ye] at e1
 have h1':=h1;simp only [inK] at h1'
 refine Qg.ofB (n:=42) hm Tryz.func72 rfl rfl rfl ?_
 refine VC.seq (VC.rs (VO.mv (VO.z (.nilp rfl) (VO.z (.fa rfl JO rfl) ?_))))
 obtain ⟨q1_E,q1_A5,q1_c5,q1_A6,q1_c6,q1_A7,q1_c7,q1_A8,q1_c8,q1_A9,q1_c9,q1_n5,q1_n6,q1_n7,q1_n8,q1_n9,_,q1_S,q1_3,q1_4,q1_5,q1_6,q1_7,q1_8,q1_9⟩:=Qt h0
 simp only [inK] at q1_3 q1_4
 have q1_r5:=q1_5.rm
 have q1_r6:=q1_6.rm
 have q1_r7:=q1_7.rm
 have q1_r8:=q1_8.rm
 have q1_r9:=q1_9.rm
 refine VO.inv _ (fun _ h=>h.parts (i:=1) rfl q1_S [107,102,103,104,105,106]) ?_
 refine VO.z (.ld1 107 rfl QfJ rfl (Qa rfl rfl)) (VO.mv ?_)
 have hs8:=(Ow.rd q1_9 (Qb _)).pre (j:=((d1).toNat)) QD
 refine VO.z (.slHI ((d1).toNat) rfl rfl QbC QD QD) ?_
 refine VO.z (.lenS rfl QbC) (VO.mv (VO.k5 0 1 11 12 13 (VC.block ?_)))
 refine VC.loop (G:=Nat × (List UInt8) × (Option Addr) × Nat × Mem × (List UInt8) × (Option Addr) × Nat × Mem × (List UInt8) × (Option Addr) × Nat × Mem × (List UInt8) × (Option Addr) × Nat × Mem) (fun g=>[(13,.int .i64 ((((g.1):Nat):Int))),(0,.pointer (some ⟨g0,0,none⟩)),(1,.int .i64 (d1)),(11,.slice q1_A9 ((d1).toNat) (q1_c9)),(12,.int .i64 ((((d1).toNat:Nat):Int)))]) (fun g=>[(107,QE g0 (.cells #[.bool d0.1,.bool d0.2.1,.bool d0.2.2.1,.int .i64 (d0.2.2.2.1),.int .i64 (d0.2.2.2.2.1),.slice (g.2.2.1) ((g.2.1).length) ((g.2.2.2.1)),.slice (g.2.2.2.2.2.2.1) ((g.2.2.2.2.2.1).length) ((g.2.2.2.2.2.2.2.1)),.slice (g.2.2.2.2.2.2.2.2.2.2.1) ((g.2.2.2.2.2.2.2.2.2.1).length) ((g.2.2.2.2.2.2.2.2.2.2.2.1)),.slice (g.2.2.2.2.2.2.2.2.2.2.2.2.2.2.1) ((g.2.2.2.2.2.2.2.2.2.2.2.2.2.1).length) ((g.2.2.2.2.2.2.2.2.2.2.2.2.2.2.2.1)),.slice q1_A9 (d0.2.2.2.2.2.2.length) (q1_c9)] q1_E (0,0))),(102,(g.2.2.2.2.1)),(103,(g.2.2.2.2.2.2.2.2.1)),(104,(g.2.2.2.2.2.2.2.2.2.2.2.2.1)),(105,(g.2.2.2.2.2.2.2.2.2.2.2.2.2.2.2.2)),(106,q1_n9),(0,JY (wm W) (m0))]) (fun g=>((g.1)≤d1.toNat)∧(((g.2.1),(g.2.2.2.2.2.1),(g.2.2.2.2.2.2.2.2.2.1),(g.2.2.2.2.2.2.2.2.2.2.2.2.2.1))=Qbz d0.2.2.2.2.2.1 (d0.2.2.2.2.2.2.take (g.1)))∧(Qz .byte (g.2.2.2.2.1) Qr (.slice (g.2.2.1) (g.2.1).length (g.2.2.2.1)) (g.2.1))∧(Qz .byte (g.2.2.2.2.2.2.2.2.1) Qr (.slice (g.2.2.2.2.2.2.1) (g.2.2.2.2.2.1).length (g.2.2.2.2.2.2.2.1)) (g.2.2.2.2.2.1))∧(Qz .byte (g.2.2.2.2.2.2.2.2.2.2.2.2.1) Qr (.slice (g.2.2.2.2.2.2.2.2.2.2.1) (g.2.2.2.2.2.2.2.2.2.1).length (g.2.2.2.2.2.2.2.2.2.2.2.1)) (g.2.2.2.2.2.2.2.2.2.1))∧(Qz .byte (g.2.2.2.2.2.2.2.2.2.2.2.2.2.2.2.2) Qr (.slice (g.2.2.2.2.2.2.2.2.2.2.2.2.2.2.1) (g.2.2.2.2.2.2.2.2.2.2.2.2.2.1).length (g.2.2.2.2.2.2.2.2.2.2.2.2.2.2.2.1)) (g.2.2.2.2.2.2.2.2.2.2.2.2.2.1))) (fun g=>d1.toNat - (g.1)) (0,d0.2.2.2.2.2.1.1,q1_A5,q1_c5,q1_n5,d0.2.2.2.2.2.1.2.1,q1_A6,q1_c6,q1_n6,d0.2.2.2.2.2.1.2.2.1,q1_A7,q1_c7,q1_n7,d0.2.2.2.2.2.1.2.2.2,q1_A8,q1_c8,q1_n8) (⟨by omega,by rfl,(Ow.ownl q1_5 rfl Qr),(Ow.ownl q1_6 rfl Qr),(Ow.ownl q1_7 rfl Qr),(Ow.ownl q1_8 rfl Qr)⟩) ⟨esn,fun _ h=>h.sub [107,102,103,104,105,106,0]⟩ ?_
 rintro ⟨k,b0,b0_A,b0_c,b0_m,b1,b1_A,b1_c,b1_m,b2,b2_A,b2_c,b2_m,b3,b3_A,b3_c,b3_m⟩ ⟨hk,hb,h_b0,h_b1,h_b2,h_b3⟩
 replace hk:k≤d1.toNat:=hk
 replace hb:(b0,b1,b2,b3)=Qbz d0.2.2.2.2.2.1 (d0.2.2.2.2.2.2.take k):=hb
 replace h_b0:Qz .byte b0_m Qr (.slice b0_A b0.length b0_c) b0:=h_b0
 replace h_b1:Qz .byte b1_m Qr (.slice b1_A b1.length b1_c) b1:=h_b1
 replace h_b2:Qz .byte b2_m Qr (.slice b2_A b2.length b2_c) b2:=h_b2
 replace h_b3:Qz .byte b3_m Qr (.slice b3_A b3.length b3_c) b3:=h_b3
 show VC _ _ _ _ _ [(13,.int .i64 (((k:Nat):Int))),(0,.pointer (some ⟨g0,0,none⟩)),(1,.int .i64 (d1)),(11,.slice q1_A9 ((d1).toNat) (q1_c9)),(12,.int .i64 ((((d1).toNat:Nat):Int)))] [(107,QE g0 (.cells #[.bool d0.1,.bool d0.2.1,.bool d0.2.2.1,.int .i64 (d0.2.2.2.1),.int .i64 (d0.2.2.2.2.1),.slice b0_A (b0.length) (b0_c),.slice b1_A (b1.length) (b1_c),.slice b2_A (b2.length) (b2_c),.slice b3_A (b3.length) (b3_c),.slice q1_A9 (d0.2.2.2.2.2.2.length) (q1_c9)] q1_E (0,0))),(102,b0_m),(103,b1_m),(104,b2_m),(105,b3_m),(106,q1_n9),(0,JY (wm W) (m0))]
 have l_b0:b0.length≤b0_c:=by obtain ⟨_,_,he,hl,_⟩:=h_b0.slice;simp only [Value.slice.injEq] at he;omega
 have k_b0:b0_c≤9223372036854775807:=by obtain ⟨_,_,he,_,hl⟩:=h_b0.slice;simp only [Value.slice.injEq,maxLen] at he hl;omega
 have l_b1:b1.length≤b1_c:=by obtain ⟨_,_,he,hl,_⟩:=h_b1.slice;simp only [Value.slice.injEq] at he;omega
 have k_b1:b1_c≤9223372036854775807:=by obtain ⟨_,_,he,_,hl⟩:=h_b1.slice;simp only [Value.slice.injEq,maxLen] at he hl;omega
 have l_b2:b2.length≤b2_c:=by obtain ⟨_,_,he,hl,_⟩:=h_b2.slice;simp only [Value.slice.injEq] at he;omega
 have k_b2:b2_c≤9223372036854775807:=by obtain ⟨_,_,he,_,hl⟩:=h_b2.slice;simp only [Value.slice.injEq,maxLen] at he hl;omega
 have l_b3:b3.length≤b3_c:=by obtain ⟨_,_,he,hl,_⟩:=h_b3.slice;simp only [Value.slice.injEq] at he;omega
 have k_b3:b3_c≤9223372036854775807:=by obtain ⟨_,_,he,_,hl⟩:=h_b3.slice;simp only [Value.slice.injEq,maxLen] at he hl;omega
 refine VC.rs (VO.z (.lss rfl rfl) (VO.k6 0 1 11 12 13 14 (VC.seq ?_)))
 refine VC.cond rfl (fun hc9=>?_) (fun hc9=>?_)
 refine VC.skip (Qj (VC.seq (VC.block (VC.rs ?_))))
 obtain ⟨x10,hx10⟩:∃ z_,((d0.2.2.2.2.2.2).take ((d1).toNat))[k]? =some z_:=⟨_,List.getElem?_eq_getElem QD⟩
 obtain ⟨gg10,oo10,ec10,ea10,hce10,hre10⟩:=(Ow.rd (q1_9.pre (j:=((d1).toNat)) QD) (Qb _)).elem hx10
 cases ea10
 obtain ⟨q10_A2,q10_c2,rfl,q10_0,q10_1,q10_2,q10_3⟩:=Y1 (x0:=x10.1) (x1:=x10.2.1) (x2:=x10.2.2.1) (x3:=x10.2.2.2) hre10
 simp only [inK] at q10_0 q10_1
 have q10_r2:=Rd.room q10_2
 simp only [inK] at q10_3
 refine VO.z (.ixI k rfl rfl QbC rfl QD) ?_
 refine VO.z (.ldA 106 rfl QbE rfl hce10) ?_
 refine VO.alloc 112 rfl QfF (fun g11=>?_)
 refine VO.store (k:=4) (c':=[.int .i64 (x10.1),.int .i64 (x10.2.1),.slice q10_A2 (x10.2.2.1.length) (q10_c2),.int .i64 (x10.2.2.2)]) 112 rfl rfl (.inl QbE) rfl rfl rfl rfl rfl ?_
 refine VO.p8 112 107 102 103 104 105 106 0 (VO.k7 0 1 5 11 12 13 14 ?_)
 refine VC.regD _ 14 [(0,true),(1,true),(2,true),(3,true),(4,true),(5,true),(6,true),(7,true),(8,true),(9,true),(10,true),(12,true),(13,true),(11,false)] follows (by kernel_rfl) (fun _ h=>h.sub [112,107,106,0]) ?_
 refine VD.z rfl (.mv rfl) (VD.z rfl (.fa rfl Qaa rfl) (VD.z rfl (.ld1 112 rfl tk3 rfl (Qa rfl rfl)) (VD.z rfl (.mv rfl) (VD.z rfl (.fa rfl Qaa rfl) (VD.z rfl (.ld1 112 rfl tk3 rfl (Qa rfl rfl)) (VD.z rfl (.nilp rfl) (VD.z rfl (.fa rfl JO rfl) ?_)))))))
 rcases (show x10.2.1=(0:Int)∨x10.2.1=(1:Int)∨x10.2.1=(2:Int)∨x10.2.1=(3:Int) from by exact QD) with hi13 | hi13 | hi13 | hi13
 refine VD.z rfl (.ixa (i:=0) (o:=5) rfl rfl Zz hi13 rfl rfl) ?_
 refine VD.z rfl (.ld1 107 rfl YT rfl (Qa rfl rfl)) (VD.z rfl (.ldA 112 rfl QbE rfl (Qa rfl rfl)) (VD.z rfl (.nilp rfl) (VD.z rfl (.fa rfl JO rfl) ?_)))
 refine VD.call 102 rfl rfl (.inl rfl) Qcj rfl rfl (fun _ _ h=>h.sub [112,107,106,0]) (fun W hW=>XM W (hW.t 102) (Qz.ow h_b0 rfl) (Rd.mono hre10 (hW.o 102 106)) Y7 Y8) (fun v14 m14 hv14=>?_)
 obtain ⟨s14_0,rfl,f14_0⟩:=hv14
 obtain ⟨A14_0,c14_0,eq14_0,l14_0,k14_0⟩:=f14_0.slc
 subst eq14_0
 refine VD.nil rfl ?_ rfl
 refine VO.z (.ixa (i:=0) (o:=5) rfl rfl Zz hi13 rfl rfl) ?_
 refine VO.s1 107 YT ?_
 refine VO.k7 0 1 5 11 12 13 14 (JE (Qj ?_))
 refine VC.reg ?_
 refine VO.z (.add (c:=((k+1:Nat):Int)) rfl rfl Qx ⟨by exact QD,by exact QD⟩) ?_
 refine VO.mv (VO.k7 0 1 5 11 12 13 14 ?_)
 exact Qj ⟨⟨k+1,Qbw b0 x10,A14_0,c14_0,m14,b1,b1_A,b1_c,b1_m,b2,b2_A,b2_c,b2_m,b3,b3_A,b3_c,b3_m⟩,⟨by omega,by first | (have h_:=Q6 hb (JT ‹(d0.2.2.2.2.2.2.take d1.toNat)[k]? =some _›);rw [Zs,QeA ‹_=(0:Int)›,YH ‹_=(0:Int)›] at h_;exact h_) | (have h_:=Q6 hb (JT ‹(d0.2.2.2.2.2.2.take d1.toNat)[k]? =some _›);rw [Zs,Qez ‹_=(1:Int)›,YG ‹_=(1:Int)›] at h_;exact h_) | (have h_:=Q6 hb (JT ‹(d0.2.2.2.2.2.2.take d1.toNat)[k]? =some _›);rw [Zs,Qey ‹_=(2:Int)›,YF ‹_=(2:Int)›] at h_;exact h_) | (have h_:=Q6 hb (JT ‹(d0.2.2.2.2.2.2.take d1.toNat)[k]? =some _›);rw [Zs,Qex ‹_=(3:Int)›,YE ‹_=(3:Int)›] at h_;exact h_),(Ow.ownl f14_0 rfl Qr),h_b1,h_b2,h_b3⟩,by exact QD,⟨esn,fun _ h=>Inv.sub h [107,102,103,104,105,106,0]⟩⟩
 refine VD.z rfl (.ixa (i:=1) (o:=6) rfl rfl Zz hi13 rfl rfl) ?_
 refine VD.z rfl (.ld1 107 rfl YT rfl (Qa rfl rfl)) (VD.z rfl (.ldA 112 rfl QbE rfl (Qa rfl rfl)) (VD.z rfl (.nilp rfl) (VD.z rfl (.fa rfl JO rfl) ?_)))
 refine VD.call 103 rfl rfl (.inl rfl) Qcj rfl rfl (fun _ _ h=>h.sub [112,107,106,0]) (fun W hW=>XM W (hW.t 103) (Qz.ow h_b1 rfl) (Rd.mono hre10 (hW.o 103 106)) Y7 Y8) (fun v15 m15 hv15=>?_)
 obtain ⟨s15_0,rfl,f15_0⟩:=hv15
 obtain ⟨A15_0,c15_0,eq15_0,l15_0,k15_0⟩:=f15_0.slc
 subst eq15_0
 refine VD.nil rfl ?_ rfl
 refine VO.z (.ixa (i:=1) (o:=6) rfl rfl Zz hi13 rfl rfl) ?_
 refine VO.s1 107 YT ?_
 refine VO.k7 0 1 5 11 12 13 14 (JE (Qj ?_))
 refine VC.reg ?_
 refine VO.z (.add (c:=((k+1:Nat):Int)) rfl rfl Qx ⟨by exact QD,by exact QD⟩) ?_
 refine VO.mv (VO.k7 0 1 5 11 12 13 14 ?_)
 exact Qj ⟨⟨k+1,b0,b0_A,b0_c,b0_m,Qbw b1 x10,A15_0,c15_0,m15,b2,b2_A,b2_c,b2_m,b3,b3_A,b3_c,b3_m⟩,⟨by omega,by first | (have h_:=Q6 hb (JT ‹(d0.2.2.2.2.2.2.take d1.toNat)[k]? =some _›);rw [Zs,QeA ‹_=(0:Int)›,YH ‹_=(0:Int)›] at h_;exact h_) | (have h_:=Q6 hb (JT ‹(d0.2.2.2.2.2.2.take d1.toNat)[k]? =some _›);rw [Zs,Qez ‹_=(1:Int)›,YG ‹_=(1:Int)›] at h_;exact h_) | (have h_:=Q6 hb (JT ‹(d0.2.2.2.2.2.2.take d1.toNat)[k]? =some _›);rw [Zs,Qey ‹_=(2:Int)›,YF ‹_=(2:Int)›] at h_;exact h_) | (have h_:=Q6 hb (JT ‹(d0.2.2.2.2.2.2.take d1.toNat)[k]? =some _›);rw [Zs,Qex ‹_=(3:Int)›,YE ‹_=(3:Int)›] at h_;exact h_),h_b0,(Ow.ownl f15_0 rfl Qr),h_b2,h_b3⟩,by exact QD,⟨esn,fun _ h=>Inv.sub h [107,102,103,104,105,106,0]⟩⟩
 refine VD.z rfl (.ixa (i:=2) (o:=7) rfl rfl Zz hi13 rfl rfl) ?_
 refine VD.z rfl (.ld1 107 rfl YT rfl (Qa rfl rfl)) (VD.z rfl (.ldA 112 rfl QbE rfl (Qa rfl rfl)) (VD.z rfl (.nilp rfl) (VD.z rfl (.fa rfl JO rfl) ?_)))
 refine VD.call 104 rfl rfl (.inl rfl) Qcj rfl rfl (fun _ _ h=>h.sub [112,107,106,0]) (fun W hW=>XM W (hW.t 104) (Qz.ow h_b2 rfl) (Rd.mono hre10 (hW.o 104 106)) Y7 Y8) (fun v16 m16 hv16=>?_)
 obtain ⟨s16_0,rfl,f16_0⟩:=hv16
 obtain ⟨A16_0,c16_0,eq16_0,l16_0,k16_0⟩:=f16_0.slc
 subst eq16_0
 refine VD.nil rfl ?_ rfl
 refine VO.z (.ixa (i:=2) (o:=7) rfl rfl Zz hi13 rfl rfl) ?_
 refine VO.s1 107 YT ?_
 refine VO.k7 0 1 5 11 12 13 14 (JE (Qj ?_))
 refine VC.reg ?_
 refine VO.z (.add (c:=((k+1:Nat):Int)) rfl rfl Qx ⟨by exact QD,by exact QD⟩) ?_
 refine VO.mv (VO.k7 0 1 5 11 12 13 14 ?_)
 exact Qj ⟨⟨k+1,b0,b0_A,b0_c,b0_m,b1,b1_A,b1_c,b1_m,Qbw b2 x10,A16_0,c16_0,m16,b3,b3_A,b3_c,b3_m⟩,⟨by omega,by first | (have h_:=Q6 hb (JT ‹(d0.2.2.2.2.2.2.take d1.toNat)[k]? =some _›);rw [Zs,QeA ‹_=(0:Int)›,YH ‹_=(0:Int)›] at h_;exact h_) | (have h_:=Q6 hb (JT ‹(d0.2.2.2.2.2.2.take d1.toNat)[k]? =some _›);rw [Zs,Qez ‹_=(1:Int)›,YG ‹_=(1:Int)›] at h_;exact h_) | (have h_:=Q6 hb (JT ‹(d0.2.2.2.2.2.2.take d1.toNat)[k]? =some _›);rw [Zs,Qey ‹_=(2:Int)›,YF ‹_=(2:Int)›] at h_;exact h_) | (have h_:=Q6 hb (JT ‹(d0.2.2.2.2.2.2.take d1.toNat)[k]? =some _›);rw [Zs,Qex ‹_=(3:Int)›,YE ‹_=(3:Int)›] at h_;exact h_),h_b0,h_b1,(Ow.ownl f16_0 rfl Qr),h_b3⟩,by exact QD,⟨esn,fun _ h=>Inv.sub h [107,102,103,104,105,106,0]⟩⟩
 refine VD.z rfl (.ixa (i:=3) (o:=8) rfl rfl Zz hi13 rfl rfl) ?_
 refine VD.z rfl (.ld1 107 rfl YT rfl (Qa rfl rfl)) (VD.z rfl (.ldA 112 rfl QbE rfl (Qa rfl rfl)) (VD.z rfl (.nilp rfl) (VD.z rfl (.fa rfl JO rfl) ?_)))
 refine VD.call 105 rfl rfl (.inl rfl) Qcj rfl rfl (fun _ _ h=>h.sub [112,107,106,0]) (fun W hW=>XM W (hW.t 105) (Qz.ow h_b3 rfl) (Rd.mono hre10 (hW.o 105 106)) Y7 Y8) (fun v17 m17 hv17=>?_)
 obtain ⟨s17_0,rfl,f17_0⟩:=hv17
 obtain ⟨A17_0,c17_0,eq17_0,l17_0,k17_0⟩:=f17_0.slc
 subst eq17_0
 refine VD.nil rfl ?_ rfl
 refine VO.z (.ixa (i:=3) (o:=8) rfl rfl Zz hi13 rfl rfl) ?_
 refine VO.s1 107 YT ?_
 refine VO.k7 0 1 5 11 12 13 14 (JE (Qj ?_))
 refine VC.reg ?_
 refine VO.z (.add (c:=((k+1:Nat):Int)) rfl rfl Qx ⟨by exact QD,by exact QD⟩) ?_
 refine VO.mv (VO.k7 0 1 5 11 12 13 14 ?_)
 exact Qj ⟨⟨k+1,b0,b0_A,b0_c,b0_m,b1,b1_A,b1_c,b1_m,b2,b2_A,b2_c,b2_m,Qbw b3 x10,A17_0,c17_0,m17⟩,⟨by omega,by first | (have h_:=Q6 hb (JT ‹(d0.2.2.2.2.2.2.take d1.toNat)[k]? =some _›);rw [Zs,QeA ‹_=(0:Int)›,YH ‹_=(0:Int)›] at h_;exact h_) | (have h_:=Q6 hb (JT ‹(d0.2.2.2.2.2.2.take d1.toNat)[k]? =some _›);rw [Zs,Qez ‹_=(1:Int)›,YG ‹_=(1:Int)›] at h_;exact h_) | (have h_:=Q6 hb (JT ‹(d0.2.2.2.2.2.2.take d1.toNat)[k]? =some _›);rw [Zs,Qey ‹_=(2:Int)›,YF ‹_=(2:Int)›] at h_;exact h_) | (have h_:=Q6 hb (JT ‹(d0.2.2.2.2.2.2.take d1.toNat)[k]? =some _›);rw [Zs,Qex ‹_=(3:Int)›,YE ‹_=(3:Int)›] at h_;exact h_),h_b0,h_b1,h_b2,(Ow.ownl f17_0 rfl Qr)⟩,by exact QD,⟨esn,fun _ h=>Inv.sub h [107,102,103,104,105,106,0]⟩⟩
 · refine VC.exit (Zc (Zc (Zd (Qj ?_))))
   refine VC.reg ?_
   refine VO.mv (VO.mv (VO.z (.nilp rfl) (VO.z (.fa rfl JO rfl) (VO.z (.ld1 107 rfl QfJ rfl (Qa rfl rfl)) (VO.mv ?_)))))
   obtain ⟨A18,hA18,ho18⟩:=q1_9.drop' 4 ((d1).toNat) rfl QD
   refine VO.z (.slLI ((d1).toNat) A18 rfl rfl QbC QD hA18 QD) ?_
   refine VO.z (.nilp rfl) (VO.z (.fa rfl JO rfl) ?_)
   refine VO.s1 107 QfJ ?_
   refine VO.p7 107 102 103 104 105 106 0 (VO.k6 0 1 11 12 13 14 ?_)
   refine ⟨_,_,Q8 (rs:=[]) rfl .nil,fun W_ hI=>JC (l:=[QE g0 (.cells #[.bool d0.1,.bool d0.2.1,.bool d0.2.2.1,.int .i64 (d0.2.2.2.1),.int .i64 (d0.2.2.2.2.1),.slice b0_A (b0.length) (b0_c),.slice b1_A (b1.length) (b1_c),.slice b2_A (b2.length) (b2_c),.slice b3_A (b3.length) (b3_c),.slice A18 (d0.2.2.2.2.2.2.length - ((d1).toNat)) (q1_c9 - ((d1).toNat))] q1_E (0,0)),b0_m,b1_m,b2_m,b3_m,q1_n9]) hI [107,102,103,104,105,106] rfl rfl (Qb _) (fun hS_=>?_)⟩
   dsimp only [Qv]
   have hm0_:(Zj d0 d1.toNat:QG)=(d0.1,d0.2.1,d0.2.2.1,d0.2.2.2.1,d0.2.2.2.2.1,(b0,b1,b2,b3),d0.2.2.2.2.2.2.drop ((d1).toNat)):=by first | rfl | ((have hk2:k=d1.toNat:=Qx;subst hk2;unfold Zj;rw [← hb]))
   refine ⟨?_,?_⟩
   rotate_left
   · rw [hm0_];exact (Ju _ _ _ _ _ _ _ _ _ _ hS_ (by simp only [inK];(exact QD)) (by simp only [inK];(exact QD)) (Qz.ow h_b0 rfl) (Qz.ow h_b1 rfl) (Qz.ow h_b2 rfl) (Qz.ow h_b3 rfl) ho18)
   all_goals (first | rfl | (simp [*];done))
theorem Qfd:JX Tryz.prog 69=true:=by kernel_rfl
theorem Qm6:JX Tryz.prog 72=true:=by kernel_rfl
theorem QiS:JX Tryz.prog 77=true:=by kernel_rfl
theorem Qm1:JX Tryz.prog 86=true:=by kernel_rfl
theorem Qk2:JX Tryz.prog 89=true:=by kernel_rfl
theorem Zy {P:Prop} (h:P:=by first | (rw [QcE (by assumption)] <;> rfl) | (rw [QcD (by assumption) (by assumption)] <;> rfl) | (rw [Xn (by assumption) (by assumption),QaW hp hn (by omega) (by assumption)] <;> rfl) | (rw [Xn (by assumption) (by assumption),QdI hp (by omega)] <;> rfl)):P:=h
set_option maxHeartbeats 1000000 in
theorem Qlq (W:World) {m0:Mem} (hm:mle (m0) (wm W)) {g0:Nat} {d0:QG} (h0:Ow (.ptr Qy) m0 [.pointer (some ⟨g0,0,none⟩)] (g0,d0)) (d1:Int) (h1:inK .i64 d1) {v2:Value} {d2:List UInt8} (h2:Rd (.sl .byte) (JY (wm W) (m0)) [v2] d2) (e0:okD d0) (e1:wD d0+3*d2.length≤1000000000000):Qg Tryz.prog 55 [.pointer (some ⟨g0,0,none⟩),.int .i64 d1,v2] W (m0) (fun v m'=>v= .int .i64 ((Q7 d0 d1 d2).2)∧Ow (.ptr Qy) m' [.pointer (some ⟨g0,0,none⟩)] (g0,(Q7 d0 d1 d2).1)):=by
 have hok0:=e0;obtain ⟨hg,hfu,hst⟩:=e0
 have h1':=h1;simp only [inK] at h1'
 obtain ⟨A2,c2,rfl,l2,k2⟩:=h2.slc
 refine Qg.ofB (n:=44) hm Tryz.func55 rfl rfl rfl ?_
 refine VC.rs (VO.as (VO.k4 0 1 2 6 (VC.seq (VC.rs (VO.mv ?_)))))
 refine VO.call 1 rfl Qfd rfl rfl (fun W hW=>QaC W (hW.t 1) h0) (fun v1 m1 hv1=>?_)
 obtain ⟨rfl,w1_0⟩:=hv1
 refine VO.as (VO.k5 0 1 2 6 7 (VC.rs (VO.mv (VO.z (.neq rfl rfl) (VO.p2 1 0 (VO.k6 0 1 2 6 7 12 ?_))))))
 refine VC.cond rfl (fun hc2=>?_) (fun hc2=>?_)
 refine VC.rs (VO.mv (VO.as (VO.k6 0 1 2 6 7 12 (VC.ret (QS ?_)))))
 exact ZA 6 1 rfl w1_0 (by first | rfl | exact Zy) (by first | rfl | exact Zy)
 refine VC.skip (Qj (VC.seq (VC.rs (VO.mv ?_))))
 refine VO.callN 103 rfl QiS rfl (fun W hW=>Qi5 W d1 bdk) (fun v3 m3 hv3=>?_)
 subst hv3
 refine VO.z (.notD rfl) (VO.k7 0 1 2 6 7 12 16 ?_)
 refine VC.cond rfl (fun hc4=>?_) (fun hc4=>?_)
 refine VC.rs (VO.as (VO.k7 0 1 2 6 7 12 16 (VC.ret (QS ?_))))
 exact ZA 6 1 rfl w1_0 (by first | rfl | exact Zy) (by first | rfl | exact Zy)
 refine VC.skip (Qj (VC.seq (VC.block ?_)))
 refine VC.loop (G:=QG × Mem × (List UInt8) × (Option Addr) × Nat × Nat) (fun g=>[(2,.slice (g.2.2.2.1) ((g.2.2.1).length) ((g.2.2.2.2.1))),(0,.pointer (some ⟨g0,0,none⟩)),(1,.int .i64 (d1)),(7,.int .i64 (Q1 d0)),(12,.bool (decide (¬ (Q1 d0)=0))),(16,.bool (decide (¬ (inF d1))))]) (fun g=>[(1,(g.2.1)),(0,JY (wm W) (m0))]) (fun g=>(JR d2.length d0 d1 d2=JR (g.2.2.2.2.2) (g.1) d1 (g.2.2.1))∧((g.2.2.1).length≤(g.2.2.2.2.2))∧(okD (g.1))∧(wD (g.1)+3*(g.2.2.1).length≤1000000000000)∧(Rd (.sl .byte) (JY (wm W) (m0)) [.slice (g.2.2.2.1) (g.2.2.1).length (g.2.2.2.2.1)] (g.2.2.1))∧(Ow (.ptr Qy) (g.2.1) [.pointer (some ⟨g0,0,none⟩)] (g0,(g.1)))) (fun g=>(g.2.2.1).length) (d0,m1,d2,A2,c2,d2.length) (⟨by rfl,by (dsimp only;omega),by exact hok0,by (dsimp only;omega),h2,w1_0⟩) ⟨esn,fun _ h=>h.sub [1,0]⟩ ?_
 rintro ⟨d,d_m,b,b_A,b_c,n⟩ ⟨hp,hn,hok,hw,h_b,h_d⟩
 replace hp:JR d2.length d0 d1 d2=JR n d d1 b:=hp
 replace hn:b.length≤n:=hn
 replace hok:okD d:=hok
 replace hw:wD d+3*b.length≤1000000000000:=hw
 replace h_b:Rd (.sl .byte) (JY (wm W) (m0)) [.slice b_A b.length b_c] b:=h_b
 replace h_d:Ow (.ptr Qy) d_m [.pointer (some ⟨g0,0,none⟩)] (g0,d):=h_d
 show VC _ _ _ _ _ [(2,.slice b_A (b.length) (b_c)),(0,.pointer (some ⟨g0,0,none⟩)),(1,.int .i64 (d1)),(7,.int .i64 (Q1 d0)),(12,.bool (decide (¬ (Q1 d0)=0))),(16,.bool (decide (¬ (inF d1))))] [(1,d_m),(0,JY (wm W) (m0))]
 have l_b:b.length≤b_c:=by obtain ⟨_,_,he,hl,_⟩:=h_b.slice;simp only [Value.slice.injEq] at he;omega
 have k_b:b_c≤9223372036854775807:=by obtain ⟨_,_,he,_,hl⟩:=h_b.slice;simp only [Value.slice.injEq,maxLen] at he hl;omega
 refine VC.seq (VC.rs (VO.mv (VO.z (.lenS rfl Q0) (VO.z (.gtr rfl rfl) (VO.k7 0 1 2 7 12 16 19 ?_)))))
 refine VC.cond rfl (fun hc5=>?_) (fun hc5=>?_)
 refine VC.skip (Qj (VC.block (VC.seq (VC.rs (VO.mv ?_)))))
 refine VO.call 1 rfl Qk2 rfl rfl (fun W hW=>Qge W (hW.t 1) h_d Qd bd) (fun v6 m6 hv6=>?_)
 obtain ⟨rfl,w6_0⟩:=hv6
 have hfa7:=(YB (show okD d by assumption))
 have hfa8:=(Qcs (show okD d by assumption))
 have hfa9:=(Qmo (QN d).1)
 refine VO.z (.notD rfl) (VO.p2 1 0 (VO.k8 0 1 2 7 12 16 19 22 ?_))
 refine VC.cond rfl (fun hc10=>?_) (fun hc10=>?_)
 refine VC.rs (VO.as (VO.k9 0 1 2 6 7 12 16 19 22 (VC.ret (QS (JD (QS (JD (QS ?_))))))))
 exact ZA 6 1 rfl w6_0 (by first | rfl | exact Zy) (by first | rfl | exact Zy)
 refine VC.skip (Qj (VC.rs (VO.mv (VO.z (.lenS rfl Q0) (VO.z (.minM rfl rfl) (VO.as (VO.k9 0 1 2 7 8 12 16 19 22 (VC.seq ?_))))))))
 obtain ⟨q11_E,q11_A5,q11_c5,q11_A6,q11_c6,q11_A7,q11_c7,q11_A8,q11_c8,q11_A9,q11_c9,q11_n5,q11_n6,q11_n7,q11_n8,q11_n9,_,q11_S,q11_3,q11_4,q11_5,q11_6,q11_7,q11_8,q11_9⟩:=Qt w6_0
 simp only [inK] at q11_3 q11_4
 have q11_r5:=q11_5.rm
 have q11_r6:=q11_6.rm
 have q11_r7:=q11_7.rm
 have q11_r8:=q11_8.rm
 have q11_r9:=q11_9.rm
 refine VC.inv _ (fun _ h=>h.parts (i:=1) rfl q11_S [117,112,113,114,115,116]) ?_
 refine VC.regD _ 13 [(0,true),(1,true),(2,true),(3,true),(4,true),(5,true),(6,true),(7,true),(8,true),(9,false),(10,true),(11,false),(12,false)] follows (by kernel_rfl) (fun _ h=>h.sub [117,112,113,114,115,0]) ?_
 refine VD.z rfl (.mv rfl) (VD.z rfl (.mv rfl) (VD.z rfl (.nilp rfl) (VD.z rfl (.fa rfl JO rfl) (VD.z rfl (.ld1 117 rfl QfJ rfl (Qa rfl rfl)) (VD.z rfl (.mv rfl) (VD.z rfl (.mv rfl) (VD.z rfl (.mv rfl) ?_)))))))
 have hs18:=h_b.pre (j:=((min ((b.length:Nat):Int) 64).toNat)) bd
 refine VD.z rfl (.slHI ((min ((b.length:Nat):Int) 64).toNat) rfl rfl Q0 bd bd) ?_
 refine VD.inv _ (fun _ h=>h.nilc 120) ?_
 obtain ⟨mo19,cs19,hM19,hA19,hC19⟩:=(Qz.nil .byte Qr Qr)
 obtain ⟨all19,hS19,hR19⟩:=Rd.srcI (P:=Tryz.prog) (hs18) Tryz.underlying47
 refine VD.app 120 rfl rfl rfl rfl Q0 tz5 rfl rfl hM19 hA19 (hS19 _ 0 rfl) hR19.nice bdm bd (by decide) (fun _ _ h=>h.sub [117,112,113,114,115,0]) (fun v19 m19 hN19=>?_)
 have ho19:Qz .byte m19 Qr v19 ((b).take ((min ((b.length:Nat):Int) 64).toNat)):=Qz.more hC19 hN19 (QV.mono hR19 fun _ _ h=>Rd.flat rfl h _)
 obtain ⟨A19,c19,rfl,l19,k19⟩:=ho19.slc
 refine VD.z rfl (.bst (cs:=[.int .i64 (0),.int .i64 (d1),.slice A19 (((b).take ((min ((b.length:Nat):Int) 64).toNat)).length) (c19),.int .i64 (0)]) rfl Qaa QfF rfl) ?_
 refine VD.bsl (cs:=[.int .i64 (0),.int .i64 (d1),.slice A19 (((b).take ((min ((b.length:Nat):Int) 64).toNat)).length) (c19),.int .i64 (0)]) 122 rfl rfl rfl QbC QfF rfl rfl (fun _ h=>h.sub [117,112,113,114,115,0]) (fun g21=>?_)
 refine VD.appO (e:=Z8) 116 120 122 rfl rfl rfl rfl QbC QfF rfl rfl rfl rfl q11_9 (Qdj _ _ _ _ (Qu.one (Qb _)) bdk bdk (Qz.ow ho19 rfl) bdk) Tryz.underlying60 (Qa rfl rfl) bdm bd (by decide) (fun _ _ h=>h.sub [117,112,113,114,115,0]) (fun v23 m23 ho23=>?_)
 obtain ⟨A23,c23,rfl,l23,k23⟩:=ho23.slc
 refine VD.nil rfl ?_ rfl
 refine VO.z (.nilp rfl) (VO.z (.fa rfl JO rfl) ?_)
 refine VO.s1 117 QfJ ?_
 refine VO.clsP 124 [117,112,113,114,115,116] rfl (fun hg24=>(Ju _ _ _ _ _ _ _ _ _ _ hg24 bdk bdk q11_5 q11_6 q11_7 q11_8 ho23)) (fun mc24 ho24=>?_)
 refine VO.k9 0 1 2 7 8 12 16 19 22 (Qj ?_)
 refine VC.reg ?_
 refine VO.mv (VO.mv ?_)
 obtain ⟨A25,hA25,hs25⟩:=h_b.drop 1 ((min ((b.length:Nat):Int) 64).toNat) rfl bd
 refine VO.z (.slLI ((min ((b.length:Nat):Int) 64).toNat) A25 rfl rfl Q0 bd hA25 bd) ?_
 refine VO.as (VO.p2 124 0 (VO.k9 0 1 2 7 8 12 16 19 22 (JE ?_)))
 have hrl26:b.length - ((min ((b.length:Nat):Int) 64).toNat)=(b.drop ((min ((b.length:Nat):Int) 64).toNat)).length:=by simp only [List.length_drop,List.length_take];try omega
 rw [hrl26]
 exact Qj ⟨⟨(((QN d).1).1,((QN d).1).2.1,((QN d).1).2.2.1,((QN d).1).2.2.2.1,((QN d).1).2.2.2.2.1,(((QN d).1).2.2.2.2.2.1),(((QN d).1).2.2.2.2.2.2)++[((0,d1,(b).take ((min ((b.length:Nat):Int) 64).toNat),0):Xa)]),mc24,b.drop ((min ((b.length:Nat):Int) 64).toNat),A25,b_c - ((min ((b.length:Nat):Int) 64).toNat),n - 1⟩,⟨by exact QeG hp hn Qx (Decidable.not_not.1 ‹¬ ¬ (QN d).2=true›) Qx,by (simp only [List.length_drop];omega),by exact Qhv hok (Decidable.not_not.1 ‹¬ ¬ inF d1›) Qx Qx,by exact Nat.le_trans (Qka (f:=d1) (b:=b) (m:=(min ((b.length:Nat):Int) 64).toNat) hok Qx Qx) hw,(Rd.relen hs25 rfl),ho24⟩,by (simp only [List.length_drop];omega),⟨esn,fun _ h=>Inv.sub (Inv.num h 124 1 rfl) [1,0]⟩⟩
 refine VC.exit (Zc (Zc (Zd (Qj (VC.rs (VO.as (VO.p2 1 0 (VO.k8 0 1 2 6 7 12 16 19 (VC.ret ?_)))))))))
 exact ZA 6 1 rfl h_d (by first | rfl | exact Zy) (by first | rfl | exact Zy)
theorem Za {P:Prop} (h:P:=by first | (rw [Qgf (by assumption)] <;> rfl) | (rw [XN (by assumption) (.inl (by assumption))] <;> rfl) | (rw [XN (by assumption) (.inr (.inl (by assumption)))] <;> rfl) | (rw [XN (by assumption) (.inr (.inr (by assumption)))] <;> rfl) | (rw [Qhc (by assumption) (by assumption) (by assumption) (by assumption) (by assumption)] <;> rfl) | (rw [QbR (by assumption) (by assumption) (by assumption) (by assumption) (by assumption)] <;> rfl)):P:=h
theorem Qlu (W:World) {m0:Mem} (hm:mle (m0) (wm W)) {g0:Nat} {d0:QG} (h0:Ow (.ptr Qy) m0 [.pointer (some ⟨g0,0,none⟩)] (g0,d0)) (d1:Int) (h1:inK .i64 d1) (d2:Int) (h2:inK .i64 d2) (e0:okD d0) (e1:wD d0≤1000000000000):Qg Tryz.prog 52 [.pointer (some ⟨g0,0,none⟩),.int .i64 d1,.int .i64 d2] W (m0) (fun v m'=>v= .int .i64 ((Xe d0 d1 d2).2)∧Ow (.ptr Qy) m' [.pointer (some ⟨g0,0,none⟩)] (g0,(Xe d0 d1 d2).1)):=by
 have h1':=h1;simp only [inK] at h1'
 have h2':=h2;simp only [inK] at h2'
 refine Qg.ofB (n:=43) hm Tryz.func52 rfl rfl rfl ?_
 refine VC.rs (VO.as (VO.k4 0 1 2 6 (VC.seq (VC.rs (VO.mv ?_)))))
 refine VO.call 1 rfl Qfd rfl rfl (fun W hW=>QaC W (hW.t 1) h0) (fun v1 m1 hv1=>?_)
 obtain ⟨rfl,w1_0⟩:=hv1
 refine VO.as (VO.k5 0 1 2 6 7 (VC.rs (VO.mv (VO.z (.neq rfl rfl) (VO.p2 1 0 (VO.k6 0 1 2 6 7 11 ?_))))))
 refine VC.cond rfl (fun hc2=>?_) (fun hc2=>?_)
 refine VC.rs (VO.mv (VO.as (VO.k6 0 1 2 6 7 11 (VC.ret (QS ?_)))))
 exact ZA 6 1 rfl w1_0 (by first | rfl | exact Za) (by first | rfl | exact Za)
 refine VC.skip (Qj (VC.seq (VC.rs (VO.mv ?_))))
 refine VO.callN 103 rfl QiS rfl (fun W hW=>Qi5 W d1 bdk) (fun v3 m3 hv3=>?_)
 subst hv3
 refine VO.z (.notD rfl) (VO.mv ?_)
 refine VO.dec (t:=16) rfl (fun hc4=>?_) (fun hc4=>?_)
 refine VO.gN (VO.gN (VO.z (.pT rfl rfl) (VO.mv (VO.gN (VO.gN (VO.gN (VO.gN (VO.gN (VO.gN (VO.z (.pT rfl rfl) (VO.k7 0 1 2 6 7 11 27 ?_)))))))))))
 refine VC.condT rfl (VC.rs (VO.as (VO.k7 0 1 2 6 7 11 27 (VC.ret (QS ?_)))))
 exact ZA 6 1 rfl w1_0 (by first | rfl | exact Za) (by first | rfl | exact Za)
 refine VO.w (.mv rfl) (VO.w (.lss rfl rfl) (VO.z (.pF rfl rfl) (VO.mv ?_)))
 refine VO.dec (t:=20) rfl (fun hc5=>?_) (fun hc5=>?_)
 refine VO.gN (VO.gN (VO.gN (VO.gN (VO.gN (VO.gN (VO.z (.pT rfl rfl) (VO.k7 0 1 2 6 7 11 27 (VC.condT rfl (VC.rs (VO.as (VO.k7 0 1 2 6 7 11 27 ?_)))))))))))
 refine VC.ret (QS ?_)
 exact ZA 6 1 rfl w1_0 (by first | rfl | exact Za) (by first | rfl | exact Za)
 refine VO.w (.mv rfl) (VO.w (.mv rfl) (VO.w (.mv rfl) ?_))
 refine VO.gcall 1 rfl ⟨_,rfl,rfl⟩ Qm1 rfl rfl (fun W hW=>Qi6 W (hW.t 1) w1_0 d1 bdk Qd bd (by first | assumption | (apply Decidable.not_not.1;assumption))) (fun v6 m6 hv6=>?_)
 obtain ⟨s6_0,p6_0,p6_1,rfl,hS6,f6_0,w6_0⟩:=hv6
 refine VO.inv _ (fun _ h=>h.parts (i:=1) rfl hS6 [107,108]) ?_
 have hfa9:=YW d0.2.2.2.2.2.1 d0.2.2.2.2.2.2 d1
 obtain ⟨A6_0,c6_0,eq6_0,l6_0,k6_0⟩:=f6_0.slc
 subst eq6_0
 refine VO.w (.lenS rfl Q0) (VO.w (.gtr rfl rfl) (VO.z (.pF rfl rfl) (VO.k7 0 1 2 6 7 11 27 ?_)))
 refine VC.cond rfl (fun hc10=>?_) (fun hc10=>?_)
 refine VC.rs (VO.as (VO.k7 0 1 2 6 7 11 27 (VC.ret (QS ?_))))
 exact ZA 6 108 rfl w6_0 (by first | rfl | exact Za) (by first | rfl | exact Za)
 refine VC.skip (Qj (VC.seq (VC.rs (VO.mv ?_))))
 refine VO.call 108 rfl Qk2 rfl rfl (fun W hW=>Qge W (hW.t 108) w6_0 Qd bd) (fun v11 m11 hv11=>?_)
 obtain ⟨rfl,w11_0⟩:=hv11
 have hfa12:=(YB (show okD d0 by assumption))
 have hfa13:=(Qcs (show okD d0 by assumption))
 have hfa14:=(Qmo (QN d0).1)
 refine VO.z (.notD rfl) (VO.k8 0 1 2 6 7 11 27 30 ?_)
 refine VC.cond rfl (fun hc15=>?_) (fun hc15=>?_)
 refine VC.rs (VO.as (VO.p2 108 0 (VO.k8 0 1 2 6 7 11 27 30 (VC.ret (QS ?_)))))
 exact ZA 6 108 rfl w11_0 (by first | rfl | exact Za) (by first | rfl | exact Za)
 refine VC.skip (Qj (VC.rs (VO.mv (VO.mv (VO.z (.nilp rfl) (VO.z (.fa rfl JO rfl) ?_))))))
 obtain ⟨q16_E,q16_A5,q16_c5,q16_A6,q16_c6,q16_A7,q16_c7,q16_A8,q16_c8,q16_A9,q16_c9,q16_n5,q16_n6,q16_n7,q16_n8,q16_n9,_,q16_S,q16_3,q16_4,q16_5,q16_6,q16_7,q16_8,q16_9⟩:=Qt w11_0
 simp only [inK] at q16_3 q16_4
 have q16_r5:=q16_5.rm
 have q16_r6:=q16_6.rm
 have q16_r7:=q16_7.rm
 have q16_r8:=q16_8.rm
 have q16_r9:=q16_9.rm
 refine VO.inv _ (fun _ h=>h.parts (i:=108) rfl q16_S [122,117,118,119,120,121]) ?_
 refine VO.z (.ld1 122 rfl QfJ rfl (Qa rfl rfl)) (VO.mv (VO.mv ?_))
 refine VO.z (.bst (cs:=[.int .i64 (1),.int .i64 (d1),.slice none (0) (0),.int .i64 (d2)]) rfl Qaa QfF rfl) ?_
 refine VO.bsl (cs:=[.int .i64 (1),.int .i64 (d1),.slice none (0) (0),.int .i64 (d2)]) 124 rfl rfl QbC QfF rfl rfl (fun g23=>?_)
 refine VO.inv ((126,Qr)::_) (fun _ h=>h.nilc 126) ?_
 refine VO.appO (e:=Z8) 121 126 124 rfl rfl rfl QbC QfF rfl rfl rfl rfl q16_9 (Qdj _ _ _ _ (Qu.nilAt 0 (Qu.nil _)) bdk bdk (Ow.nil _ _) bdk) Tryz.underlying60 (Qa rfl rfl) bdm bd (by decide) (fun v25 m25 ho25=>?_)
 obtain ⟨A25,c25,rfl,l25,k25⟩:=ho25.slc
 refine VO.z (.nilp rfl) (VO.z (.fa rfl JO rfl) ?_)
 refine VO.s1 122 QfJ ?_
 refine VO.clsP 127 [122,117,118,119,120,121] rfl (fun hg27=>(Ju _ _ _ _ _ _ _ _ _ _ hg27 bdk bdk q16_5 q16_6 q16_7 q16_8 ho25)) (fun mc27 ho27=>?_)
 refine VO.p2 127 0 (VO.k8 0 1 2 6 7 11 27 30 (VC.rs (VO.as (VO.k8 0 1 2 6 7 11 27 30 (VC.ret ?_)))))
 exact ZA 6 127 rfl ho27 (by first | rfl | exact Za) (by first | rfl | exact Za)
theorem Qgd (W:World) {m0:Mem} (hm:mle (m0) (wm W)) {g0:Nat} {d0:QG} (h0:Ow (.ptr Qy) m0 [.pointer (some ⟨g0,0,none⟩)] (g0,d0)) (e0:okD d0) (e1:wD d0≤1000000000000):Qg Tryz.prog 53 [.pointer (some ⟨g0,0,none⟩)] W (m0) (fun v m'=>v= .int .i64 ((Zx d0).2)∧Ow (.ptr Qy) m' [.pointer (some ⟨g0,0,none⟩)] (g0,(Zx d0).1)):=by
 refine Qg.ofB (n:=19) hm Tryz.func53 rfl rfl rfl ?_
 refine VC.rs (VO.as (VO.k2 0 2 (VC.seq (VC.rs (VO.mv ?_)))))
 refine VO.call 1 rfl Qfd rfl rfl (fun W hW=>QaC W (hW.t 1) h0) (fun v1 m1 hv1=>?_)
 obtain ⟨rfl,w1_0⟩:=hv1
 refine VO.as (VO.k3 0 2 3 (VC.rs (VO.mv (VO.z (.neq rfl rfl) (VO.p2 1 0 (VO.k4 0 2 3 7 ?_))))))
 refine VC.cond rfl (fun hc2=>?_) (fun hc2=>?_)
 refine VC.rs (VO.mv (VO.as (VO.k4 0 2 3 7 (VC.ret (QS ?_)))))
 exact ZA 2 1 rfl w1_0 (by first | rfl | (first | (rw [YL Qd] <;> rfl) | (rw [ZS Qd Qd] <;> rfl) | (rw [Xj Qd Qd] <;> rfl))) (by first | rfl | (first | (rw [YL Qd] <;> rfl) | (rw [ZS Qd Qd] <;> rfl) | (rw [Xj Qd Qd] <;> rfl)))
 refine VC.skip (Qj (VC.seq (VC.rs (VO.mv ?_))))
 refine VO.call 1 rfl Qk2 rfl rfl (fun W hW=>Qge W (hW.t 1) w1_0 Qd bd) (fun v3 m3 hv3=>?_)
 obtain ⟨rfl,w3_0⟩:=hv3
 have hfa4:=(YB (show okD d0 by assumption))
 have hfa5:=(Qcs (show okD d0 by assumption))
 have hfa6:=(Qmo (QN d0).1)
 refine VO.z (.notD rfl) (VO.k5 0 2 3 7 11 ?_)
 refine VC.cond rfl (fun hc7=>?_) (fun hc7=>?_)
 refine VC.rs (VO.as (VO.k5 0 2 3 7 11 (VC.ret (QS ?_))))
 exact ZA 2 1 rfl w3_0 (by first | rfl | (first | (rw [YL Qd] <;> rfl) | (rw [ZS Qd Qd] <;> rfl) | (rw [Xj Qd Qd] <;> rfl))) (by first | rfl | (first | (rw [YL Qd] <;> rfl) | (rw [ZS Qd Qd] <;> rfl) | (rw [Xj Qd Qd] <;> rfl)))
 refine VC.skip (Qj (VC.rs (VO.mv (VO.mv (VO.z (.nilp rfl) (VO.z (.fa rfl JO rfl) ?_))))))
 obtain ⟨q8_E,q8_A5,q8_c5,q8_A6,q8_c6,q8_A7,q8_c7,q8_A8,q8_c8,q8_A9,q8_c9,q8_n5,q8_n6,q8_n7,q8_n8,q8_n9,_,q8_S,q8_3,q8_4,q8_5,q8_6,q8_7,q8_8,q8_9⟩:=Qt w3_0
 simp only [inK] at q8_3 q8_4
 have q8_r5:=q8_5.rm
 have q8_r6:=q8_6.rm
 have q8_r7:=q8_7.rm
 have q8_r8:=q8_8.rm
 have q8_r9:=q8_9.rm
 refine VO.inv _ (fun _ h=>h.parts (i:=1) rfl q8_S [114,109,110,111,112,113]) ?_
 refine VO.z (.ld1 114 rfl QfJ rfl (Qa rfl rfl)) (VO.z (.lenS rfl QbC) ?_)
 refine VO.clsP 116 [114,109,110,111,112,113] rfl (fun hg16=>(QU ((QN d0).1) hg16 bdk bdk q8_5 q8_6 q8_7 q8_8 q8_9)) (fun mc16 ho16=>?_)
 refine VO.call 116 rfl Qm6 rfl rfl (fun W hW=>Qfk W (hW.t 116) ho16 (((((QN d0).1).2.2.2.2.2.2).length:Nat):Int) bdk Qd bd bd) (fun v15 m15 hv15=>?_)
 obtain ⟨rfl,w15_0⟩:=hv15
 have hfa17:=(Qd1 (((((QN d0).1).2.2.2.2.2.2).length:Nat):Int).toNat (show okD ((QN d0).1) by assumption))
 have hfa18:=(Qdx ((QN d0).1) (((((QN d0).1).2.2.2.2.2.2).length:Nat):Int).toNat)
 refine VO.k5 0 2 3 7 11 (VC.rs (VO.as (VO.p2 116 0 (VO.k5 0 2 3 7 11 (VC.ret ?_)))))
 exact ZA 2 116 rfl w15_0 (by first | rfl | (first | (rw [YL Qd] <;> rfl) | (rw [ZS Qd Qd] <;> rfl) | (rw [Xj Qd Qd] <;> rfl))) (by first | rfl | (first | (rw [YL Qd] <;> rfl) | (rw [ZS Qd Qd] <;> rfl) | (rw [Xj Qd Qd] <;> rfl)))
theorem Qi4 (W:World) {m0:Mem} (hm:mle (m0) (wm W)) {g0:Nat} {d0:QG} (h0:Ow (.ptr Qy) m0 [.pointer (some ⟨g0,0,none⟩)] (g0,d0)) (d1:Int) (h1:inK .i64 d1) (e0:okD d0) (e1:wD d0≤1000000000000):Qg Tryz.prog 50 [.pointer (some ⟨g0,0,none⟩),.int .i64 d1] W (m0) (fun v m'=>∃ (s0:Value),∃ (p0:Mem),∃ (p1:Mem),v= .tuple #[s0,.int .i64 ((Je d0 d1).2)]∧Qu m' [p0,p1]∧Ow (.sl .byte) p0 [s0] ((Je d0 d1).1)∧Ow (.ptr Qy) p1 [.pointer (some ⟨g0,0,none⟩)] (g0,d0)):=by
 have h1':=h1;simp only [inK] at h1'
 refine Qg.ofB (n:=18) hm Tryz.func50 rfl rfl rfl ?_
 refine VC.rs (VO.as (VO.as (VO.k4 0 1 4 5 (VC.seq (VC.rs (VO.mv ?_))))))
 refine VO.call 1 rfl Qfd rfl rfl (fun W hW=>QaC W (hW.t 1) h0) (fun v1 m1 hv1=>?_)
 obtain ⟨rfl,w1_0⟩:=hv1
 refine VO.as (VO.k5 0 1 4 5 6 (VC.rs (VO.mv (VO.z (.neq rfl rfl) (VO.p2 1 0 (VO.k6 0 1 4 5 6 10 ?_))))))
 refine VC.cond rfl (fun hc2=>?_) (fun hc2=>?_)
 ·refine VC.rs (VO.mv (VO.as (VO.as (VO.k6 0 1 4 5 6 10 (VC.ret (QS ?_))))))
  refine Qby 4 5 [1] fun hS_=>?_
  dsimp only [Qv]
  have he0:((Je d0 d1).1:Ty.Den (.sl .byte))=[]:=by first | rfl | (first | rfl | (simp [Je, *];done))
  refine ⟨.slice none (0) (0),Zv [],Zv [m1],?_,?_,?_,?_⟩
  rotate_left
  ·exact Qu.grp (ls:=[[],[m1]]) hS_
  ·rw [he0];exact (Ow.nil _ _)
  ·exact Ow.cgP (Ow.up w1_0 ((Qu.self hS_ (List.Sublist.cons_cons _ List.Sublist.slnil)).1 _ (.head _))) (by first | rfl | (first | rfl | (simp [Je, *];done)))
  all_goals (first | rfl | (first | rfl | (simp [Je, *];done)))
 refine VC.skip (Qj (VC.seq (VC.rs (VO.mv ?_))))
 refine VO.callN 103 rfl QiS rfl (fun W hW=>Qi5 W d1 bdk) (fun v3 m3 hv3=>?_)
 subst hv3
 refine VO.z (.notD rfl) (VO.k7 0 1 4 5 6 10 14 ?_)
 refine VC.cond rfl (fun hc4=>?_) (fun hc4=>?_)
 ·refine VC.rs (VO.as (VO.as (VO.k7 0 1 4 5 6 10 14 (VC.ret (QS ?_)))))
  refine Qby 4 5 [1] fun hS_=>?_
  dsimp only [Qv]
  have he0:((Je d0 d1).1:Ty.Den (.sl .byte))=[]:=by first | rfl | (first | rfl | (simp [Je, *];done))
  refine ⟨.slice none (0) (0),Zv [],Zv [m1],?_,?_,?_,?_⟩
  rotate_left
  ·exact Qu.grp (ls:=[[],[m1]]) hS_
  ·rw [he0];exact (Ow.nil _ _)
  ·exact Ow.cgP (Ow.up w1_0 ((Qu.self hS_ (List.Sublist.cons_cons _ List.Sublist.slnil)).1 _ (.head _))) (by first | rfl | (first | rfl | (simp [Je, *];done)))
  all_goals (first | rfl | (first | rfl | (simp [Je, *];done)))
 ·refine VC.skip (Qj (VC.rs (VO.mv (VO.mv ?_))))
  refine VO.call 1 rfl Qm1 rfl rfl (fun W hW=>Qi6 W (hW.t 1) w1_0 d1 bdk Qd bd (by first | assumption | (apply Decidable.not_not.1;assumption))) (fun v5 m5 hv5=>?_)
  obtain ⟨s5_0,p5_0,p5_1,rfl,hS5,f5_0,w5_0⟩:=hv5
  refine VO.inv _ (fun _ h=>h.parts (i:=1) rfl hS5 [106,107]) ?_
  have hfa8:=YW d0.2.2.2.2.2.1 d0.2.2.2.2.2.2 d1
  obtain ⟨A5_0,c5_0,eq5_0,l5_0,k5_0⟩:=f5_0.slc
  subst eq5_0
  refine VO.as (VO.as (VO.k7 0 1 4 5 6 10 14 (VC.ret ?_)))
  refine Qby 4 5 [106,107] fun hS_=>?_
  dsimp only [Qv]
  refine ⟨.slice A5_0 ((JK d0.2.2.2.2.2.1 d0.2.2.2.2.2.2 d1).length) (c5_0),Zv [p5_0],Zv [p5_1],?_,?_,?_,?_⟩
  rotate_left
  ·exact Qu.grp (ls:=[[p5_0],[p5_1]]) hS_
  ·exact Ow.cg (Ow.up f5_0 ((Qu.self hS_ (List.Sublist.cons_cons _ (List.Sublist.cons _ List.Sublist.slnil))).1 _ (.head _))) (by first | rfl | (first | rfl | (simp [Je, *];done)))
  ·exact Ow.cgP (Ow.up w5_0 ((Qu.self hS_ (List.Sublist.cons _ (List.Sublist.cons_cons _ List.Sublist.slnil))).1 _ (.head _))) (by first | rfl | (first | rfl | (simp [Je, *];done)))
  all_goals (first | rfl | (first | rfl | (simp [Je, *];done)))
theorem QmC (W:World) {m0:Mem} (hm:mle (m0) (wm W)) {g0:Nat} {d0:QG} (h0:Ow (.ptr Qy) m0 [.pointer (some ⟨g0,0,none⟩)] (g0,d0)) (d1:Int) (h1:inK .i64 d1) (e0:okD d0):Qg Tryz.prog 31 [.pointer (some ⟨g0,0,none⟩),.int .i64 d1] W (m0) (fun v m'=>v= .int .i64 ((Zm d0 d1).2)∧Ow (.ptr Qy) m' [.pointer (some ⟨g0,0,none⟩)] (g0,(Zm d0 d1).1)):=by
 have h1':=h1;simp only [inK] at h1'
 refine Qg.ofB (n:=20) hm Tryz.func31 rfl rfl rfl ?_
 refine VC.rs (VO.as (VO.k3 0 1 4 (VC.seq (VC.rs (VO.mv ?_)))))
 refine VO.call 1 rfl Qfd rfl rfl (fun W hW=>QaC W (hW.t 1) h0) (fun v1 m1 hv1=>?_)
 obtain ⟨rfl,w1_0⟩:=hv1
 refine VO.as (VO.k4 0 1 4 5 (VC.rs (VO.mv (VO.z (.neq rfl rfl) (VO.p2 1 0 (VO.k5 0 1 4 5 9 ?_))))))
 refine VC.cond rfl (fun hc2=>?_) (fun hc2=>?_)
 ·refine VC.rs (VO.mv (VO.as (VO.k5 0 1 4 5 9 (VC.ret (QS ?_)))))
  exact ZA 4 1 rfl w1_0 (by first | rfl | (first | rfl | (simp [Zm, *];done))) (by first | rfl | (first | rfl | (simp [Zm, *];done)))
 refine VC.skip (Qj (VC.seq (VC.rs (VO.mv (VO.z (.lss rfl rfl) (VO.k6 0 1 4 5 9 12 ?_))))))
 refine VC.cond rfl (fun hc3=>?_) (fun hc3=>?_)
 ·refine VC.rs (VO.as (VO.k6 0 1 4 5 9 12 (VC.ret (QS ?_))))
  exact ZA 4 1 rfl w1_0 (by first | rfl | (first | rfl | (simp [Zm, *];done))) (by first | rfl | (first | rfl | (simp [Zm, *];done)))
 ·refine VC.skip (Qj (VC.rs (VO.mv (VO.mv (VO.mv (VO.z (.nilp rfl) (VO.z (.fa rfl JO rfl) ?_)))))))
  obtain ⟨q4_E,q4_A5,q4_c5,q4_A6,q4_c6,q4_A7,q4_c7,q4_A8,q4_c8,q4_A9,q4_c9,q4_n5,q4_n6,q4_n7,q4_n8,q4_n9,_,q4_S,q4_3,q4_4,q4_5,q4_6,q4_7,q4_8,q4_9⟩:=Qt w1_0
  simp only [inK] at q4_3 q4_4
  have q4_r5:=q4_5.rm
  have q4_r6:=q4_6.rm
  have q4_r7:=q4_7.rm
  have q4_r8:=q4_8.rm
  have q4_r9:=q4_9.rm
  refine VO.inv _ (fun _ h=>h.parts (i:=1) rfl q4_S [110,105,106,107,108,109]) ?_
  refine VO.s1 110 tk4 ?_
  refine VO.z (.nilp rfl) (VO.z (.fa rfl JO rfl) ?_)
  refine VO.s1 110 tk3 ?_
  refine VO.clsP 111 [110,105,106,107,108,109] rfl (fun hg11=>(Ju _ _ _ _ _ _ _ _ _ _ hg11 bdk bdk q4_5 q4_6 q4_7 q4_8 q4_9)) (fun mc11 ho11=>?_)
  refine VO.k6 0 1 4 5 9 12 (VC.rs (VO.as (VO.p2 111 0 (VO.k6 0 1 4 5 9 12 (VC.ret ?_)))))
  exact ZA 4 111 rfl ho11 (by first | rfl | (first | rfl | (simp [Zm, *];done))) (by first | rfl | (first | rfl | (simp [Zm, *];done)))
theorem QmB (W:World) {m0:Mem} (hm:mle (m0) (wm W)) {g0:Nat} {d0:QG} (h0:Ow (.ptr Qy) m0 [.pointer (some ⟨g0,0,none⟩)] (g0,d0)) (e0:okD d0):Qg Tryz.prog 27 [.pointer (some ⟨g0,0,none⟩)] W (m0) (fun v m'=>v= .int .i64 ((Yv d0).2)∧Ow (.ptr Qy) m' [.pointer (some ⟨g0,0,none⟩)] (g0,(Yv d0).1)):=by
 refine Qg.ofB (n:=12) hm Tryz.func27 rfl rfl rfl ?_
 refine VC.rs (VO.as (VO.k2 0 2 (VC.seq (VC.rs (VO.mv ?_)))))
 refine VO.call 1 rfl Qfd rfl rfl (fun W hW=>QaC W (hW.t 1) h0) (fun v1 m1 hv1=>?_)
 obtain ⟨rfl,w1_0⟩:=hv1
 refine VO.as (VO.k3 0 2 3 (VC.rs (VO.mv (VO.z (.neq rfl rfl) (VO.p2 1 0 (VO.k4 0 2 3 7 ?_))))))
 refine VC.cond rfl (fun hc2=>?_) (fun hc2=>?_)
 ·refine VC.rs (VO.mv (VO.as (VO.k4 0 2 3 7 (VC.ret (QS ?_)))))
  exact ZA 2 1 rfl w1_0 (by first | rfl | (first | rfl | (simp [Yv, *];done))) (by first | rfl | (first | rfl | (simp [Yv, *];done)))
 ·refine VC.skip (Qj (VC.rs (VO.mv (VO.z (.nilp rfl) (VO.z (.fa rfl JO rfl) ?_)))))
  obtain ⟨q3_E,q3_A5,q3_c5,q3_A6,q3_c6,q3_A7,q3_c7,q3_A8,q3_c8,q3_A9,q3_c9,q3_n5,q3_n6,q3_n7,q3_n8,q3_n9,_,q3_S,q3_3,q3_4,q3_5,q3_6,q3_7,q3_8,q3_9⟩:=Qt w1_0
  simp only [inK] at q3_3 q3_4
  have q3_r5:=q3_5.rm
  have q3_r6:=q3_6.rm
  have q3_r7:=q3_7.rm
  have q3_r8:=q3_8.rm
  have q3_r9:=q3_9.rm
  refine VO.inv _ (fun _ h=>h.parts (i:=1) rfl q3_S [109,104,105,106,107,108]) ?_
  refine VO.s1 109 tk4 ?_
  refine VO.clsP 110 [109,104,105,106,107,108] rfl (fun hg10=>(Ju _ _ _ _ _ _ _ _ _ _ hg10 bdk bdk q3_5 q3_6 q3_7 q3_8 q3_9)) (fun mc10 ho10=>?_)
  refine VO.k4 0 2 3 7 (VC.rs (VO.as (VO.k4 0 2 3 7 (VC.ret ?_))))
  exact ZA 2 110 rfl ho10 (by first | rfl | (first | rfl | (simp [Yv, *];done))) (by first | rfl | (first | rfl | (simp [Yv, *];done)))
theorem Qnu (W:World) {m0:Mem} (hm:mle (m0) (wm W)) {g0:Nat} {d0:QG} (h0:Ow (.ptr Qy) m0 [.pointer (some ⟨g0,0,none⟩)] (g0,d0)):Qg Tryz.prog 39 [.pointer (some ⟨g0,0,none⟩)] W (m0) (fun v m'=>v= .bool (decide (d0.1=true∧d0.2.1=false))∧Ow (.ptr Qy) m' [.pointer (some ⟨g0,0,none⟩)] (g0,d0)):=by
 refine Qg.ofB (n:=13) hm Tryz.func39 rfl rfl rfl ?_
 refine VC.rs (VO.as (VO.k2 0 2 (VC.rs (VO.mv ?_))))
 refine VO.call 1 rfl Qg3 rfl rfl (fun W hW=>Qcp W (hW.t 1) h0) (fun v1 m1 hv1=>?_)
 obtain ⟨rfl,w1_0⟩:=hv1
 refine VO.z (.notD rfl) (VO.mv ?_)
 refine VO.dec (t:=6) rfl (fun hc2=>?_) (fun hc2=>?_)
 ·refine VO.w (.mv rfl) (VO.w (.nilp rfl) (VO.w (.fa rfl JO rfl) ?_))
  obtain ⟨q3_E,q3_A5,q3_c5,q3_A6,q3_c6,q3_A7,q3_c7,q3_A8,q3_c8,q3_A9,q3_c9,q3_n5,q3_n6,q3_n7,q3_n8,q3_n9,_,q3_S,q3_3,q3_4,q3_5,q3_6,q3_7,q3_8,q3_9⟩:=Qt w1_0
  simp only [inK] at q3_3 q3_4
  have q3_r5:=q3_5.rm
  have q3_r6:=q3_6.rm
  have q3_r7:=q3_7.rm
  have q3_r8:=q3_8.rm
  have q3_r9:=q3_9.rm
  refine VO.inv _ (fun _ h=>h.parts (i:=1) rfl q3_S [109,104,105,106,107,108]) ?_
  refine VO.w (.ld1 109 rfl tk4 rfl (Qa rfl rfl)) (VO.w (.not rfl) (VO.z (.pT rfl rfl) (VO.as ?_)))
  refine VO.clsP 110 [109,104,105,106,107,108] rfl (fun hg10=>(QU d0 hg10 bdk bdk q3_5 q3_6 q3_7 q3_8 q3_9)) (fun mc10 ho10=>?_)
  refine VO.k2 0 2 (VC.ret ?_)
  exact ZA 2 110 rfl ho10 (by first | rfl | (simp [*];done)) (by first | rfl | (cases h1_:d0.1 <;> cases h2_:d0.2.1 <;> simp_all))
 ·refine VO.gN (VO.gN (VO.gN (VO.gN (VO.gN (VO.z (.pF rfl rfl) (VO.as (VO.k2 0 2 (VC.ret ?_))))))))
  exact ZA 2 1 rfl w1_0 (by first | rfl | (simp [*];done)) (by first | rfl | (cases h1_:d0.1 <;> cases h2_:d0.2.1 <;> simp_all))
theorem Qlr (W:World) {m0:Mem} (hm:mle (m0) (wm W)) {g0:Nat} {d0:QG} (h0:Ow (.ptr Qy) m0 [.pointer (some ⟨g0,0,none⟩)] (g0,d0)):Qg Tryz.prog 37 [.pointer (some ⟨g0,0,none⟩)] W (m0) (fun v m'=>v= .int .i64 (Qfj d0)∧Ow (.ptr Qy) m' [.pointer (some ⟨g0,0,none⟩)] (g0,d0)):=by
 refine Qg.ofB (n:=9) hm Tryz.func37 rfl rfl rfl ?_
 refine VC.rs (VO.as (VO.k2 0 2 (VC.seq (VC.rs (VO.mv ?_)))))
 refine VO.call 1 rfl Qg3 rfl rfl (fun W hW=>Qcp W (hW.t 1) h0) (fun v1 m1 hv1=>?_)
 obtain ⟨rfl,w1_0⟩:=hv1
 refine VO.k3 0 2 4 ?_
 refine VC.cond rfl (fun hc2=>?_) (fun hc2=>?_)
 ·refine VC.rs (VO.as (VO.p2 1 0 (VO.k3 0 2 4 (VC.ret (QS ?_)))))
  exact ZA 2 1 rfl w1_0 (by first | rfl | (simp [*];done)) (by first | rfl | (first | rfl | (simp [Qfj, *];done)))
 ·refine VC.skip (Qj (VC.rs (VO.mv (VO.z (.nilp rfl) (VO.z (.fa rfl JO rfl) ?_)))))
  obtain ⟨q3_E,q3_A5,q3_c5,q3_A6,q3_c6,q3_A7,q3_c7,q3_A8,q3_c8,q3_A9,q3_c9,q3_n5,q3_n6,q3_n7,q3_n8,q3_n9,_,q3_S,q3_3,q3_4,q3_5,q3_6,q3_7,q3_8,q3_9⟩:=Qt w1_0
  simp only [inK] at q3_3 q3_4
  have q3_r5:=q3_5.rm
  have q3_r6:=q3_6.rm
  have q3_r7:=q3_7.rm
  have q3_r8:=q3_8.rm
  have q3_r9:=q3_9.rm
  refine VO.inv _ (fun _ h=>h.parts (i:=1) rfl q3_S [109,104,105,106,107,108]) ?_
  refine VO.z (.ld1 109 rfl tk3 rfl (Qa rfl rfl)) (VO.as ?_)
  refine VO.clsP 110 [109,104,105,106,107,108] rfl (fun hg10=>(QU d0 hg10 bdk bdk q3_5 q3_6 q3_7 q3_8 q3_9)) (fun mc10 ho10=>?_)
  refine VO.p2 110 0 (VO.k3 0 2 4 (VC.ret ?_))
  exact ZA 2 110 rfl ho10 (by first | rfl | (simp [*];done)) (by first | rfl | (first | rfl | (simp [Qfj, *];done)))
theorem Jq {P:Prop} (h:P:=by first | rfl | (simp [ZQ, *];done) | (rw [YX (by assumption) (by assumption),YH ‹d1=(0:Int)›] <;> rfl) | (rw [YX (by assumption) (by assumption),YG ‹d1=(1:Int)›] <;> rfl) | (rw [YX (by assumption) (by assumption),YF ‹d1=(2:Int)›] <;> rfl) | (rw [YX (by assumption) (by assumption),YE ‹d1=(3:Int)›] <;> rfl)):P:=h
theorem JI {P:Prop} (h:P:=by first | exact bd | (have h_:=Decidable.not_not.1 ‹¬ ¬ inF d1›;simp only [inF] at h_;omega) | (simp only [wD,Ye,List.length_nil] at*;omega)):P:=h
theorem J2 {k:IntKind} {x:Int} (h:inK k x:=by simp only [inK];exact JI):inK k x:=h
set_option maxHeartbeats 1000000 in
theorem Qh2 (W:World) {m0:Mem} (hm:mle (m0) (wm W)) {g0:Nat} {d0:QG} (h0:Ow (.ptr Qy) m0 [.pointer (some ⟨g0,0,none⟩)] (g0,d0)) (d1:Int) (h1:inK .i64 d1) (e0:wD d0≤1000000000000):Qg Tryz.prog 35 [.pointer (some ⟨g0,0,none⟩),.int .i64 d1] W (m0) (fun v m'=>∃ (s0:Value),∃ (p0:Mem),∃ (p1:Mem),v=s0∧Qu m' [p0,p1]∧Ow (.sl .byte) p0 [s0] (ZQ d0 d1)∧Ow (.ptr Qy) p1 [.pointer (some ⟨g0,0,none⟩)] (g0,d0)):=by
 have h1':=h1;simp only [inK] at h1'
 refine Qg.ofB (n:=19) hm Tryz.func35 rfl rfl rfl ?_
 refine VC.rs (VO.as (VO.k3 0 1 4 (VC.seq (VC.rs (VO.mv ?_)))))
 refine VO.call 1 rfl Qg3 rfl rfl (fun W hW=>Qcp W (hW.t 1) h0) (fun v1 m1 hv1=>?_)
 obtain ⟨rfl,w1_0⟩:=hv1
 refine VO.mv ?_
 refine VO.dec (t:=7) rfl (fun hc2=>?_) (fun hc2=>?_)
 · refine VO.gN (VO.gN (VO.gN (VO.z (.pT rfl rfl) (VO.k4 0 1 4 11 (VC.condT rfl (VC.rs (VO.as (VO.p2 1 0 (VO.k4 0 1 4 11 (VC.ret (QS ?_)))))))))))
   refine Yz 4 [1] fun hS_=>?_
   dsimp only [Qv]
   have he0:(ZQ d0 d1:Ty.Den (.sl .byte))=[]:=by first | rfl | (exact Jq)
   refine ⟨.slice none (0) (0),Zv [],Zv [m1],?_,?_,?_,?_⟩
   rotate_left
   · exact Qu.grp (ls:=[[],[m1]]) hS_
   · rw [he0];exact (Ow.nil _ _)
   · exact Ow.cgP (Ow.up w1_0 ((Qu.self hS_ (List.Sublist.cons_cons _ List.Sublist.slnil)).1 _ (.head _))) (by first | rfl | exact Jq)
   all_goals (first | rfl | (first | rfl | (simp [ZQ, *];done)))
 refine VO.w (.mv rfl) ?_
 refine VO.gcallN 103 rfl ⟨_,rfl,rfl⟩ QiS rfl (fun W hW=>Qi5 W d1 J2) (fun v3 m3 hv3=>?_)
 subst hv3
 refine VO.w (.notD rfl) (VO.z (.pF rfl rfl) (VO.k4 0 1 4 11 ?_))
 refine VC.cond rfl (fun hc4=>?_) (fun hc4=>?_)
 · refine VC.rs (VO.as (VO.p2 1 0 (VO.k4 0 1 4 11 (VC.ret (QS ?_)))))
   refine Yz 4 [1] fun hS_=>?_
   dsimp only [Qv]
   have he0:(ZQ d0 d1:Ty.Den (.sl .byte))=[]:=by first | rfl | (exact Jq)
   refine ⟨.slice none (0) (0),Zv [],Zv [m1],?_,?_,?_,?_⟩
   rotate_left
   · exact Qu.grp (ls:=[[],[m1]]) hS_
   · rw [he0];exact (Ow.nil _ _)
   · exact Ow.cgP (Ow.up w1_0 ((Qu.self hS_ (List.Sublist.cons_cons _ List.Sublist.slnil)).1 _ (.head _))) (by first | rfl | exact Jq)
   all_goals (first | rfl | (first | rfl | (simp [ZQ, *];done)))
 refine VC.skip (Qj (VC.rs (VO.mv (VO.mv (VO.z (.nilp rfl) (VO.z (.fa rfl JO rfl) ?_))))))
 rcases (show d1=(0:Int)∨d1=(1:Int)∨d1=(2:Int)∨d1=(3:Int) from by exact JI) with hi5 | hi5 | hi5 | hi5
 · refine VO.z (.ixa (i:=0) (o:=5) rfl rfl Zz hi5 rfl rfl) ?_
   obtain ⟨q6_E,q6_A5,q6_c5,q6_A6,q6_c6,q6_A7,q6_c7,q6_A8,q6_c8,q6_A9,q6_c9,q6_n5,q6_n6,q6_n7,q6_n8,q6_n9,_,q6_S,q6_3,q6_4,q6_5,q6_6,q6_7,q6_8,q6_9⟩:=Qt w1_0
   simp only [inK] at q6_3 q6_4
   have q6_r5:=q6_5.rm
   have q6_r6:=q6_6.rm
   have q6_r7:=q6_7.rm
   have q6_r8:=q6_8.rm
   have q6_r9:=q6_9.rm
   refine VO.inv _ (fun _ h=>h.parts (i:=1) rfl q6_S [112,107,108,109,110,111]) ?_
   refine VO.z (.ld1 112 rfl YT rfl (Qa rfl rfl)) ?_
   refine VO.inv _ (fun _ h=>h.nilc 114) ?_
   obtain ⟨mo13,cs13,hM13,hA13,hC13⟩:=(Qz.nil .byte Qr Qr)
   obtain ⟨all13,hS13,hR13⟩:=Rd.srcI (P:=Tryz.prog) ((Ow.rd q6_5 (Qb _))) Tryz.underlying47
   refine VO.app 114 rfl rfl rfl Q0 tz5 rfl rfl hM13 hA13 (hS13 _ 107 rfl) hR13.nice (by simp only [maxLen];(exact JI)) JI (by decide) (fun v13 m13 hN13=>?_)
   have ho13:Qz .byte m13 Qr v13 (d0.2.2.2.2.2.1.1):=Qz.more hC13 hN13 (QV.mono hR13 fun _ _ h=>Rd.flat rfl h _)
   obtain ⟨A13,c13,rfl,l13,k13⟩:=ho13.slc
   refine VO.as ?_
   refine VO.clsP 115 [112,107,108,109,110,111] rfl (fun hg15=>(QU d0 hg15 J2 J2 q6_5 q6_6 q6_7 q6_8 q6_9)) (fun mc15 ho15=>?_)
   refine VO.p3 115 114 0 (VO.k4 0 1 4 11 (VC.ret ?_))
   refine Yz 4 [114,115] fun hS_=>?_
   dsimp only [Qv]
   refine ⟨.slice A13 ((d0.2.2.2.2.2.1.1).length) (c13),Zv [m13],Zv [mc15],?_,?_,?_,?_⟩
   rotate_left
   · exact Qu.grp (ls:=[[m13],[mc15]]) hS_
   · exact Ow.cg (Ow.up (Qz.ow ho13 rfl) ((Qu.self hS_ (List.Sublist.cons_cons _ (List.Sublist.cons _ List.Sublist.slnil))).1 _ (.head _))) (by first | rfl | exact Jq)
   · exact Ow.cgP (Ow.up ho15 ((Qu.self hS_ (List.Sublist.cons _ (List.Sublist.cons_cons _ List.Sublist.slnil))).1 _ (.head _))) (by first | rfl | exact Jq)
   all_goals (first | rfl | (first | rfl | (simp [ZQ, *];done)))
 · refine VO.z (.ixa (i:=1) (o:=6) rfl rfl Zz hi5 rfl rfl) ?_
   obtain ⟨q16_E,q16_A5,q16_c5,q16_A6,q16_c6,q16_A7,q16_c7,q16_A8,q16_c8,q16_A9,q16_c9,q16_n5,q16_n6,q16_n7,q16_n8,q16_n9,_,q16_S,q16_3,q16_4,q16_5,q16_6,q16_7,q16_8,q16_9⟩:=Qt w1_0
   simp only [inK] at q16_3 q16_4
   have q16_r5:=q16_5.rm
   have q16_r6:=q16_6.rm
   have q16_r7:=q16_7.rm
   have q16_r8:=q16_8.rm
   have q16_r9:=q16_9.rm
   refine VO.inv _ (fun _ h=>h.parts (i:=1) rfl q16_S [122,117,118,119,120,121]) ?_
   refine VO.z (.ld1 122 rfl YT rfl (Qa rfl rfl)) ?_
   refine VO.inv _ (fun _ h=>h.nilc 124) ?_
   obtain ⟨mo23,cs23,hM23,hA23,hC23⟩:=(Qz.nil .byte Qr Qr)
   obtain ⟨all23,hS23,hR23⟩:=Rd.srcI (P:=Tryz.prog) ((Ow.rd q16_6 (Qb _))) Tryz.underlying47
   refine VO.app 124 rfl rfl rfl Q0 tz5 rfl rfl hM23 hA23 (hS23 _ 118 rfl) hR23.nice (by simp only [maxLen];(exact JI)) JI (by decide) (fun v23 m23 hN23=>?_)
   have ho23:Qz .byte m23 Qr v23 (d0.2.2.2.2.2.1.2.1):=Qz.more hC23 hN23 (QV.mono hR23 fun _ _ h=>Rd.flat rfl h _)
   obtain ⟨A23,c23,rfl,l23,k23⟩:=ho23.slc
   refine VO.as ?_
   refine VO.clsP 125 [122,117,118,119,120,121] rfl (fun hg25=>(QU d0 hg25 J2 J2 q16_5 q16_6 q16_7 q16_8 q16_9)) (fun mc25 ho25=>?_)
   refine VO.p3 125 124 0 (VO.k4 0 1 4 11 (VC.ret ?_))
   refine Yz 4 [124,125] fun hS_=>?_
   dsimp only [Qv]
   refine ⟨.slice A23 ((d0.2.2.2.2.2.1.2.1).length) (c23),Zv [m23],Zv [mc25],?_,?_,?_,?_⟩
   rotate_left
   · exact Qu.grp (ls:=[[m23],[mc25]]) hS_
   · exact Ow.cg (Ow.up (Qz.ow ho23 rfl) ((Qu.self hS_ (List.Sublist.cons_cons _ (List.Sublist.cons _ List.Sublist.slnil))).1 _ (.head _))) (by first | rfl | exact Jq)
   · exact Ow.cgP (Ow.up ho25 ((Qu.self hS_ (List.Sublist.cons _ (List.Sublist.cons_cons _ List.Sublist.slnil))).1 _ (.head _))) (by first | rfl | exact Jq)
   all_goals (first | rfl | (first | rfl | (simp [ZQ, *];done)))
 · refine VO.z (.ixa (i:=2) (o:=7) rfl rfl Zz hi5 rfl rfl) ?_
   obtain ⟨q26_E,q26_A5,q26_c5,q26_A6,q26_c6,q26_A7,q26_c7,q26_A8,q26_c8,q26_A9,q26_c9,q26_n5,q26_n6,q26_n7,q26_n8,q26_n9,_,q26_S,q26_3,q26_4,q26_5,q26_6,q26_7,q26_8,q26_9⟩:=Qt w1_0
   simp only [inK] at q26_3 q26_4
   have q26_r5:=q26_5.rm
   have q26_r6:=q26_6.rm
   have q26_r7:=q26_7.rm
   have q26_r8:=q26_8.rm
   have q26_r9:=q26_9.rm
   refine VO.inv _ (fun _ h=>h.parts (i:=1) rfl q26_S [132,127,128,129,130,131]) ?_
   refine VO.z (.ld1 132 rfl YT rfl (Qa rfl rfl)) ?_
   refine VO.inv _ (fun _ h=>h.nilc 134) ?_
   obtain ⟨mo33,cs33,hM33,hA33,hC33⟩:=(Qz.nil .byte Qr Qr)
   obtain ⟨all33,hS33,hR33⟩:=Rd.srcI (P:=Tryz.prog) ((Ow.rd q26_7 (Qb _))) Tryz.underlying47
   refine VO.app 134 rfl rfl rfl Q0 tz5 rfl rfl hM33 hA33 (hS33 _ 129 rfl) hR33.nice (by simp only [maxLen];(exact JI)) JI (by decide) (fun v33 m33 hN33=>?_)
   have ho33:Qz .byte m33 Qr v33 (d0.2.2.2.2.2.1.2.2.1):=Qz.more hC33 hN33 (QV.mono hR33 fun _ _ h=>Rd.flat rfl h _)
   obtain ⟨A33,c33,rfl,l33,k33⟩:=ho33.slc
   refine VO.as ?_
   refine VO.clsP 135 [132,127,128,129,130,131] rfl (fun hg35=>(QU d0 hg35 J2 J2 q26_5 q26_6 q26_7 q26_8 q26_9)) (fun mc35 ho35=>?_)
   refine VO.p3 135 134 0 (VO.k4 0 1 4 11 (VC.ret ?_))
   refine Yz 4 [134,135] fun hS_=>?_
   dsimp only [Qv]
   refine ⟨.slice A33 ((d0.2.2.2.2.2.1.2.2.1).length) (c33),Zv [m33],Zv [mc35],?_,?_,?_,?_⟩
   rotate_left
   · exact Qu.grp (ls:=[[m33],[mc35]]) hS_
   · exact Ow.cg (Ow.up (Qz.ow ho33 rfl) ((Qu.self hS_ (List.Sublist.cons_cons _ (List.Sublist.cons _ List.Sublist.slnil))).1 _ (.head _))) (by first | rfl | exact Jq)
   · exact Ow.cgP (Ow.up ho35 ((Qu.self hS_ (List.Sublist.cons _ (List.Sublist.cons_cons _ List.Sublist.slnil))).1 _ (.head _))) (by first | rfl | exact Jq)
   all_goals (first | rfl | (first | rfl | (simp [ZQ, *];done)))
 · refine VO.z (.ixa (i:=3) (o:=8) rfl rfl Zz hi5 rfl rfl) ?_
   obtain ⟨q36_E,q36_A5,q36_c5,q36_A6,q36_c6,q36_A7,q36_c7,q36_A8,q36_c8,q36_A9,q36_c9,q36_n5,q36_n6,q36_n7,q36_n8,q36_n9,_,q36_S,q36_3,q36_4,q36_5,q36_6,q36_7,q36_8,q36_9⟩:=Qt w1_0
   simp only [inK] at q36_3 q36_4
   have q36_r5:=q36_5.rm
   have q36_r6:=q36_6.rm
   have q36_r7:=q36_7.rm
   have q36_r8:=q36_8.rm
   have q36_r9:=q36_9.rm
   refine VO.inv _ (fun _ h=>h.parts (i:=1) rfl q36_S [142,137,138,139,140,141]) ?_
   refine VO.z (.ld1 142 rfl YT rfl (Qa rfl rfl)) ?_
   refine VO.inv _ (fun _ h=>h.nilc 144) ?_
   obtain ⟨mo43,cs43,hM43,hA43,hC43⟩:=(Qz.nil .byte Qr Qr)
   obtain ⟨all43,hS43,hR43⟩:=Rd.srcI (P:=Tryz.prog) ((Ow.rd q36_8 (Qb _))) Tryz.underlying47
   refine VO.app 144 rfl rfl rfl Q0 tz5 rfl rfl hM43 hA43 (hS43 _ 140 rfl) hR43.nice (by simp only [maxLen];(exact JI)) JI (by decide) (fun v43 m43 hN43=>?_)
   have ho43:Qz .byte m43 Qr v43 (d0.2.2.2.2.2.1.2.2.2):=Qz.more hC43 hN43 (QV.mono hR43 fun _ _ h=>Rd.flat rfl h _)
   obtain ⟨A43,c43,rfl,l43,k43⟩:=ho43.slc
   refine VO.as ?_
   refine VO.clsP 145 [142,137,138,139,140,141] rfl (fun hg45=>(QU d0 hg45 J2 J2 q36_5 q36_6 q36_7 q36_8 q36_9)) (fun mc45 ho45=>?_)
   refine VO.p3 145 144 0 (VO.k4 0 1 4 11 (VC.ret ?_))
   refine Yz 4 [144,145] fun hS_=>?_
   dsimp only [Qv]
   refine ⟨.slice A43 ((d0.2.2.2.2.2.1.2.2.2).length) (c43),Zv [m43],Zv [mc45],?_,?_,?_,?_⟩
   rotate_left
   · exact Qu.grp (ls:=[[m43],[mc45]]) hS_
   · exact Ow.cg (Ow.up (Qz.ow ho43 rfl) ((Qu.self hS_ (List.Sublist.cons_cons _ (List.Sublist.cons _ List.Sublist.slnil))).1 _ (.head _))) (by first | rfl | exact Jq)
   · exact Ow.cgP (Ow.up ho45 ((Qu.self hS_ (List.Sublist.cons _ (List.Sublist.cons_cons _ List.Sublist.slnil))).1 _ (.head _))) (by first | rfl | exact Jq)
   all_goals (first | rfl | (first | rfl | (simp [ZQ, *];done)))
theorem QT {P:Prop} (h:P:=by first | (rw [QcL (by assumption)] <;> rfl) | (rw [Yr (by assumption) (.inl (by simpa using ‹_›))] <;> rfl) | (rw [Yr (by assumption) (.inr (.inl (by assumption)))] <;> rfl) | (rw [Yr (by assumption) (.inr (.inr (by assumption)))] <;> rfl) | (rw [QaK (by assumption) (by simpa using ‹_›) (by assumption) (by assumption),Qij (by omega)] <;> rfl) | (rw [QaK (by assumption) (by simpa using ‹_›) (by assumption) (by assumption),Qj3 (by assumption) (by assumption)] <;> rfl) | (rw [QaK (by assumption) (by simpa using ‹_›) (by assumption) (by assumption),QbW (by assumption) (by assumption),Zs,QeA ‹_=(0:Int)›,YH ‹_=(0:Int)›] <;> rfl) | (rw [QaK (by assumption) (by simpa using ‹_›) (by assumption) (by assumption),QbW (by assumption) (by assumption),Zs,Qez ‹_=(1:Int)›,YG ‹_=(1:Int)›] <;> rfl) | (rw [QaK (by assumption) (by simpa using ‹_›) (by assumption) (by assumption),QbW (by assumption) (by assumption),Zs,Qey ‹_=(2:Int)›,YF ‹_=(2:Int)›] <;> rfl) | (rw [QaK (by assumption) (by simpa using ‹_›) (by assumption) (by assumption),QbW (by assumption) (by assumption),Zs,Qex ‹_=(3:Int)›,YE ‹_=(3:Int)›] <;> rfl)):P:=h
theorem Jy {P:Prop} (h:P:=by first | exact bd | (have h_:=Qat (by assumption) ‹_[0]? =some _›;simp only [inF] at h_;omega)):P:=h
theorem Qp {k:IntKind} {x:Int} (h:inK k x:=by simp only [inK];exact Jy):inK k x:=h
set_option maxHeartbeats 4000000 in
theorem Qls (W:World) {m0:Mem} (hm:mle (m0) (wm W)) {g0:Nat} {d0:QG} (h0:Ow (.ptr Qy) m0 [.pointer (some ⟨g0,0,none⟩)] (g0,d0)) (d1:Int) (h1:inK .i64 d1) (d2:Int) (h2:inK .i64 d2) (e0:okD d0) (e1:wD d0≤1000000000000):Qg Tryz.prog 29 [.pointer (some ⟨g0,0,none⟩),.int .i64 d1,.int .i64 d2] W (m0) (fun v m'=>v= .int .i64 ((Zr d0 d1 d2).2)∧Ow (.ptr Qy) m' [.pointer (some ⟨g0,0,none⟩)] (g0,(Zr d0 d1 d2).1)):=by
 have h1':=h1;simp only [inK] at h1'
 have h2':=h2;simp only [inK] at h2'
 refine Qg.ofB (n:=93) hm Tryz.func29 rfl rfl rfl ?_
 refine VC.rs (VO.as (VO.k4 0 1 2 6 (VC.seq (VC.block (VC.rs (VO.mv ?_))))))
 refine VO.call 1 rfl Qg3 rfl rfl (fun W hW=>Qcp W (hW.t 1) h0) (fun v1 m1 hv1=>?_)
 obtain ⟨rfl,w1_0⟩:=hv1
 refine VO.as (VO.k5 0 1 2 6 8 ?_)
 refine VC.cond rfl (fun hc2=>?_) (fun hc2=>?_)
 refine VC.rs (VO.as (VO.p2 1 0 (VO.k5 0 1 2 6 8 (VC.ret (JD (QS ?_))))))
 exact ZA 6 1 rfl w1_0 (by first | rfl | exact QT) (by first | rfl | exact QT)
 refine VC.rs (VO.mv (VO.z (.nilp rfl) (VO.z (.fa rfl JO rfl) ?_)))
 obtain ⟨q3_E,q3_A5,q3_c5,q3_A6,q3_c6,q3_A7,q3_c7,q3_A8,q3_c8,q3_A9,q3_c9,q3_n5,q3_n6,q3_n7,q3_n8,q3_n9,_,q3_S,q3_3,q3_4,q3_5,q3_6,q3_7,q3_8,q3_9⟩:=Qt w1_0
 simp only [inK] at q3_3 q3_4
 have q3_r5:=q3_5.rm
 have q3_r6:=q3_6.rm
 have q3_r7:=q3_7.rm
 have q3_r8:=q3_8.rm
 have q3_r9:=q3_9.rm
 refine VO.inv _ (fun _ h=>h.parts (i:=1) rfl q3_S [109,104,105,106,107,108]) ?_
 refine VO.z (.ld1 109 rfl tk4 rfl (Qa rfl rfl)) (VO.z (.not rfl) (VO.mv ?_))
 refine VO.decBN (t:=17) rfl (fun hc10=>?_) (fun hc10=>?_)
 refine VO.gN (VO.gN (VO.z (.pT rfl rfl) (VO.mv (VO.gN (VO.gN (VO.z (.pT rfl rfl) (VO.as ?_)))))))
 refine VO.clsP 111 [109,104,105,106,107,108] rfl (fun hg11=>(QU d0 hg11 Qp Qp q3_5 q3_6 q3_7 q3_8 q3_9)) (fun mc11 ho11=>?_)
 refine VO.p2 111 0 (VO.k6 0 1 2 6 8 11 (VC.condT rfl (VC.rs (VO.as (VO.k6 0 1 2 6 8 11 (VC.ret (JD (QS ?_))))))))
 exact ZA 6 111 rfl ho11 (by first | rfl | exact QT) (by first | rfl | exact QT)
 refine VO.w (.mv rfl) (VO.w (.lss rfl rfl) (VO.z (.pF rfl rfl) (VO.mv ?_)))
 refine VO.dec (t:=21) rfl (fun hc12=>?_) (fun hc12=>?_)
 refine VO.gN (VO.gN (VO.z (.pT rfl rfl) (VO.as ?_)))
 refine VO.clsP 113 [109,104,105,106,107,108] rfl (fun hg13=>(QU d0 hg13 Qp Qp q3_5 q3_6 q3_7 q3_8 q3_9)) (fun mc13 ho13=>?_)
 refine VO.p2 113 0 (VO.k6 0 1 2 6 8 11 (VC.condT rfl (VC.rs (VO.as (VO.k6 0 1 2 6 8 11 (VC.ret (JD (QS ?_))))))))
 exact ZA 6 113 rfl ho13 (by first | rfl | exact QT) (by first | rfl | exact QT)
 refine VO.w (.mv rfl) (VO.w (.lss rfl rfl) (VO.z (.pF rfl rfl) (VO.as ?_)))
 refine VO.clsP 114 [109,104,105,106,107,108] rfl (fun hg14=>(QU d0 hg14 Qp Qp q3_5 q3_6 q3_7 q3_8 q3_9)) (fun mc14 ho14=>?_)
 refine VO.p2 114 0 (VO.k6 0 1 2 6 8 11 ?_)
 refine VC.cond rfl (fun hc15=>?_) (fun hc15=>?_)
 refine VC.rs (VO.as (VO.k6 0 1 2 6 8 11 (VC.ret (JD (QS ?_)))))
 exact ZA 6 114 rfl ho14 (by first | rfl | exact QT) (by first | rfl | exact QT)
 refine VC.skip (JE (Qj (VC.rs (VO.mv (VO.mv (VO.mv (VO.z (.nilp rfl) (VO.z (.fa rfl JO rfl) ?_))))))))
 obtain ⟨q16_E,q16_A5,q16_c5,q16_A6,q16_c6,q16_A7,q16_c7,q16_A8,q16_c8,q16_A9,q16_c9,q16_n5,q16_n6,q16_n7,q16_n8,q16_n9,_,q16_S,q16_3,q16_4,q16_5,q16_6,q16_7,q16_8,q16_9⟩:=Qt ho14
 simp only [inK] at q16_3 q16_4
 have q16_r5:=q16_5.rm
 have q16_r6:=q16_6.rm
 have q16_r7:=q16_7.rm
 have q16_r8:=q16_8.rm
 have q16_r9:=q16_9.rm
 refine VO.inv _ (fun _ h=>h.parts (i:=114) rfl q16_S [122,117,118,119,120,121]) ?_
 refine VO.z (.ld1 122 rfl QfJ rfl (Qa rfl rfl)) (VO.z (.lenS rfl QbC) (VO.z (.minM rfl rfl) ?_))
 refine VO.clsP 124 [122,117,118,119,120,121] rfl (fun hg24=>(QU d0 hg24 Qp Qp q16_5 q16_6 q16_7 q16_8 q16_9)) (fun mc24 ho24=>?_)
 refine VO.call 124 rfl Qm6 rfl rfl (fun W hW=>Qfk W (hW.t 124) ho24 (min d1 ((d0.2.2.2.2.2.2.length:Nat):Int)) Qp Qd Jy Jy) (fun v23 m23 hv23=>?_)
 obtain ⟨rfl,w23_0⟩:=hv23
 have hfa25:=(Qd1 (min d1 ((d0.2.2.2.2.2.2.length:Nat):Int)).toNat (show okD d0 by assumption))
 have hfa26:=(Qdx d0 (min d1 ((d0.2.2.2.2.2.2.length:Nat):Int)).toNat)
 refine VO.k6 0 1 2 6 8 11 (VC.seq (VC.rs (VO.mv (VO.z (.nilp rfl) (VO.z (.fa rfl JO rfl) ?_)))))
 obtain ⟨q27_E,q27_A5,q27_c5,q27_A6,q27_c6,q27_A7,q27_c7,q27_A8,q27_c8,q27_A9,q27_c9,q27_n5,q27_n6,q27_n7,q27_n8,q27_n9,_,q27_S,q27_3,q27_4,q27_5,q27_6,q27_7,q27_8,q27_9⟩:=Qt w23_0
 simp only [inK] at q27_3 q27_4
 have q27_r5:=q27_5.rm
 have q27_r6:=q27_6.rm
 have q27_r7:=q27_7.rm
 have q27_r8:=q27_8.rm
 have q27_r9:=q27_9.rm
 refine VO.inv _ (fun _ h=>h.parts (i:=124) rfl q27_S [133,128,129,130,131,132]) ?_
 refine VO.z (.ld1 133 rfl QfJ rfl (Qa rfl rfl)) (VO.z (.lenS rfl QbC) (VO.z (.gtr rfl rfl) (VO.mv ?_)))
 refine VO.dec (t:=40) rfl (fun hc34=>?_) (fun hc34=>?_)
 refine VO.w (.mv rfl) (VO.w (.nilp rfl) (VO.w (.fa rfl JO rfl) (VO.w (.ld1 133 rfl QfJ rfl (Qa rfl rfl)) ?_)))
 obtain ⟨x35,hx35⟩:∃ z_,((Zj d0 (min d1 ((d0.2.2.2.2.2.2.length:Nat):Int)).toNat).2.2.2.2.2.2)[0]? =some z_:=⟨_,List.getElem?_eq_getElem Jy⟩
 obtain ⟨gg35,oo35,ec35,ea35,hce35,hre35⟩:=(Ow.rd q27_9 (Qb _)).elem hx35
 cases ea35
 obtain ⟨q35_A2,q35_c2,rfl,q35_0,q35_1,q35_2,q35_3⟩:=Y1 (x0:=x35.1) (x1:=x35.2.1) (x2:=x35.2.2.1) (x3:=x35.2.2.2) hre35
 simp only [inK] at q35_0 q35_1
 have q35_r2:=Rd.room q35_2
 simp only [inK] at q35_3
 refine VO.w (.ixI 0 rfl rfl QbC rfl Jy) ?_
 refine VO.w (.fa rfl Qaa rfl) ?_
 refine VO.w (.ld1 132 rfl tk3 rfl (hce35.at1 (j:=0) rfl)) ?_
 refine VO.w (.eql rfl rfl) (VO.z (.pT rfl rfl) ?_)
 refine VO.clsP 136 [133,128,129,130,131,132] rfl (fun hg36=>(QU (Zj d0 (min d1 ((d0.2.2.2.2.2.2.length:Nat):Int)).toNat) hg36 Qp Qp q27_5 q27_6 q27_7 q27_8 q27_9)) (fun mc36 ho36=>?_)
 refine VO.k7 0 1 2 6 8 11 49 ?_
 refine VC.cond rfl (fun hc37=>?_) (fun hc37=>?_)
 refine VC.rs (VO.mv (VO.z (.nilp rfl) (VO.z (.fa rfl JO rfl) ?_)))
 obtain ⟨q38_E,q38_A5,q38_c5,q38_A6,q38_c6,q38_A7,q38_c7,q38_A8,q38_c8,q38_A9,q38_c9,q38_n5,q38_n6,q38_n7,q38_n8,q38_n9,_,q38_S,q38_3,q38_4,q38_5,q38_6,q38_7,q38_8,q38_9⟩:=Qt ho36
 simp only [inK] at q38_3 q38_4
 have q38_r5:=q38_5.rm
 have q38_r6:=q38_6.rm
 have q38_r7:=q38_7.rm
 have q38_r8:=q38_8.rm
 have q38_r9:=q38_9.rm
 refine VO.inv _ (fun _ h=>h.parts (i:=136) rfl q38_S [144,139,140,141,142,143]) ?_
 refine VO.z (.ld1 144 rfl QfJ rfl (Qa rfl rfl)) ?_
 obtain ⟨x45,hx45⟩:∃ z_,((Zj d0 (min d1 ((d0.2.2.2.2.2.2.length:Nat):Int)).toNat).2.2.2.2.2.2)[0]? =some z_:=⟨_,List.getElem?_eq_getElem Jy⟩
 obtain ⟨gg45,oo45,ec45,ea45,hce45,hre45⟩:=(Ow.rd q38_9 (Qb _)).elem hx45
 cases ea45
 obtain ⟨q45_A2,q45_c2,rfl,q45_0,q45_1,q45_2,q45_3⟩:=Y1 (x0:=x45.1) (x1:=x45.2.1) (x2:=x45.2.2.1) (x3:=x45.2.2.2) hre45
 simp only [inK] at q45_0 q45_1
 have q45_r2:=Rd.room q45_2
 simp only [inK] at q45_3
 refine VO.z (.ixI 0 rfl rfl QbC rfl Jy) ?_
 refine VO.z (.ldA 143 rfl QbE rfl hce45) ?_
 refine VO.alloc 147 rfl QfF (fun g46=>?_)
 refine VO.store (k:=4) (c':=[.int .i64 (x45.1),.int .i64 (x45.2.1),.slice q45_A2 (x45.2.2.1.length) (q45_c2),.int .i64 (x45.2.2.2)]) 147 rfl rfl (.inl QbE) rfl rfl rfl rfl rfl ?_
 refine VO.p8 147 144 139 140 141 142 143 0 (VO.k8 0 1 2 6 7 8 11 49 (VC.rs ?_))
 have hxe:x45=x35:=Option.some.inj (hx45.symm.trans hx35)
 subst hxe
 refine VO.z (.fa rfl Qaa rfl) (VO.z (.ld1 147 rfl YT rfl (Qa rfl rfl)) (VO.mv (VO.z (.fa rfl Qaa rfl) (VO.z (.ld1 147 rfl YT rfl (Qa rfl rfl)) (VO.z (.lenS rfl Q0) ?_)))))
 refine VO.z (.sub rfl rfl rfl ⟨by exact Jy,by exact Jy⟩) ?_
 refine VO.z (.minM rfl rfl) ?_
 have hs48:=q45_2.pre (j:=((min d2 (((x45.2.2.1.length:Nat):Int) - 1)).toNat)) Jy
 refine VO.z (.slHI ((min d2 (((x45.2.2.1.length:Nat):Int) - 1)).toNat) rfl rfl Q0 Jy Jy) ?_
 refine VO.z (.fa rfl Qaa rfl) ?_
 refine VO.store (k:=1) (c':=[.int .i64 (x45.1),.int .i64 (x45.2.1),.slice q45_A2 ((min d2 (((x45.2.2.1.length:Nat):Int) - 1)).toNat) (q45_c2),.int .i64 (x45.2.2.2)]) 147 rfl rfl (.inr ⟨YT,rfl⟩) rfl rfl rfl rfl rfl ?_
 refine VO.k8 0 1 2 6 7 8 11 49 ?_
 refine VC.regD _ 14 [(0,true),(1,true),(2,true),(3,true),(4,true),(5,true),(6,true),(7,true),(8,true),(9,true),(10,true),(12,true),(13,true),(11,false)] follows (by kernel_rfl) (fun _ h=>h.sub [147,144,143,0]) ?_
 refine VD.z rfl (.mv rfl) (VD.z rfl (.fa rfl Qaa rfl) (VD.z rfl (.ld1 147 rfl tk3 rfl (Qa rfl rfl)) (VD.z rfl (.mv rfl) (VD.z rfl (.fa rfl Qaa rfl) (VD.z rfl (.ld1 147 rfl tk3 rfl (Qa rfl rfl)) (VD.z rfl (.nilp rfl) (VD.z rfl (.fa rfl JO rfl) ?_)))))))
 rcases (show x45.2.1=(0:Int)∨x45.2.1=(1:Int)∨x45.2.1=(2:Int)∨x45.2.1=(3:Int) from by exact Jy) with hi49 | hi49 | hi49 | hi49
 refine VD.z rfl (.ixa (i:=0) (o:=5) rfl rfl Zz hi49 rfl rfl) ?_
 refine VD.z rfl (.ld1 144 rfl YT rfl (Qa rfl rfl)) (VD.z rfl (.ldA 147 rfl QbE rfl (Qa rfl rfl)) (VD.z rfl (.nilp rfl) (VD.z rfl (.fa rfl JO rfl) ?_)))
 refine VD.call 139 rfl rfl (.inl rfl) Qcj rfl rfl (fun _ _ h=>h.sub [147,144,143,0]) (fun W hW=>XM W (hW.t 139) q38_5 (QaQ (m:=JY (wm W) (q38_n5)) x45.1 x45.2.1 ((x45.2.2.1).take ((min d2 (((x45.2.2.1.length:Nat):Int) - 1)).toNat)) x45.2.2.2 Qp Qp (Rd.mono hs48 (hW.o 139 143)) Qp) (by intro h_;omega) (by (have h_:=(Qat Qd ‹_[0]? =some _›).2.2;first | (rw [YH ‹_=(0:Int)›] at h_;simp only [List.length_take];omega) | (rw [YG ‹_=(1:Int)›] at h_;simp only [List.length_take];omega) | (rw [YF ‹_=(2:Int)›] at h_;simp only [List.length_take];omega) | (rw [YE ‹_=(3:Int)›] at h_;simp only [List.length_take];omega)))) (fun v50 m50 hv50=>?_)
 try dsimp only at hv50
 obtain ⟨s50_0,rfl,f50_0⟩:=hv50
 obtain ⟨A50_0,c50_0,eq50_0,l50_0,k50_0⟩:=f50_0.slc
 subst eq50_0
 refine VD.nil rfl ?_ rfl
 refine VO.z (.ixa (i:=0) (o:=5) rfl rfl Zz hi49 rfl rfl) ?_
 refine VO.s1 144 YT ?_
 refine VO.k8 0 1 2 6 7 8 11 49 (Qj (VC.rs (VO.mv (VO.mv (VO.mv (VO.mv (VO.z (.nilp rfl) (VO.z (.fa rfl JO rfl) ?_))))))))
 refine VO.s1 144 QfJ ?_
 refine VO.z (.nilp rfl) (VO.z (.fa rfl JO rfl) ?_)
 refine VO.s1 144 tk4 ?_
 refine VO.z (.nilp rfl) (VO.z (.fa rfl JO rfl) ?_)
 refine VO.s1 144 tk4 ?_
 refine VO.z (.nilp rfl) (VO.z (.fa rfl JO rfl) ?_)
 refine VO.s1 144 tk3 ?_
 refine VO.clsP 151 [144,139,140,141,142] rfl (fun hg51=>(Ju _ _ _ _ _ _ _ _ _ _ (Qu.nilAt 5 hg51) Qp Qp f50_0 q38_6 q38_7 q38_8 (Ow.nil _ _))) (fun mc51 ho51=>?_)
 refine VO.p4 151 147 143 0 (VO.k8 0 1 2 6 7 8 11 49 (VC.rs (VO.as (VO.k8 0 1 2 6 7 8 11 49 (VC.ret ?_)))))
 exact ZA 6 151 rfl ho51 (by first | rfl | exact QT) (by first | rfl | exact QT)
 refine VD.z rfl (.ixa (i:=1) (o:=6) rfl rfl Zz hi49 rfl rfl) ?_
 refine VD.z rfl (.ld1 144 rfl YT rfl (Qa rfl rfl)) (VD.z rfl (.ldA 147 rfl QbE rfl (Qa rfl rfl)) (VD.z rfl (.nilp rfl) (VD.z rfl (.fa rfl JO rfl) ?_)))
 refine VD.call 140 rfl rfl (.inl rfl) Qcj rfl rfl (fun _ _ h=>h.sub [147,144,143,0]) (fun W hW=>XM W (hW.t 140) q38_6 (QaQ (m:=JY (wm W) (q38_n6)) x45.1 x45.2.1 ((x45.2.2.1).take ((min d2 (((x45.2.2.1.length:Nat):Int) - 1)).toNat)) x45.2.2.2 Qp Qp (Rd.mono hs48 (hW.o 140 143)) Qp) (by intro h_;omega) (by (have h_:=(Qat Qd ‹_[0]? =some _›).2.2;first | (rw [YH ‹_=(0:Int)›] at h_;simp only [List.length_take];omega) | (rw [YG ‹_=(1:Int)›] at h_;simp only [List.length_take];omega) | (rw [YF ‹_=(2:Int)›] at h_;simp only [List.length_take];omega) | (rw [YE ‹_=(3:Int)›] at h_;simp only [List.length_take];omega)))) (fun v52 m52 hv52=>?_)
 try dsimp only at hv52
 obtain ⟨s52_0,rfl,f52_0⟩:=hv52
 obtain ⟨A52_0,c52_0,eq52_0,l52_0,k52_0⟩:=f52_0.slc
 subst eq52_0
 refine VD.nil rfl ?_ rfl
 refine VO.z (.ixa (i:=1) (o:=6) rfl rfl Zz hi49 rfl rfl) ?_
 refine VO.s1 144 YT ?_
 refine VO.k8 0 1 2 6 7 8 11 49 (Qj (VC.rs (VO.mv (VO.mv (VO.mv (VO.mv (VO.z (.nilp rfl) (VO.z (.fa rfl JO rfl) ?_))))))))
 refine VO.s1 144 QfJ ?_
 refine VO.z (.nilp rfl) (VO.z (.fa rfl JO rfl) ?_)
 refine VO.s1 144 tk4 ?_
 refine VO.z (.nilp rfl) (VO.z (.fa rfl JO rfl) ?_)
 refine VO.s1 144 tk4 ?_
 refine VO.z (.nilp rfl) (VO.z (.fa rfl JO rfl) ?_)
 refine VO.s1 144 tk3 ?_
 refine VO.clsP 153 [144,139,140,141,142] rfl (fun hg53=>(Ju _ _ _ _ _ _ _ _ _ _ (Qu.nilAt 5 hg53) Qp Qp q38_5 f52_0 q38_7 q38_8 (Ow.nil _ _))) (fun mc53 ho53=>?_)
 refine VO.p4 153 147 143 0 (VO.k8 0 1 2 6 7 8 11 49 (VC.rs (VO.as (VO.k8 0 1 2 6 7 8 11 49 (VC.ret ?_)))))
 exact ZA 6 153 rfl ho53 (by first | rfl | exact QT) (by first | rfl | exact QT)
 refine VD.z rfl (.ixa (i:=2) (o:=7) rfl rfl Zz hi49 rfl rfl) ?_
 refine VD.z rfl (.ld1 144 rfl YT rfl (Qa rfl rfl)) (VD.z rfl (.ldA 147 rfl QbE rfl (Qa rfl rfl)) (VD.z rfl (.nilp rfl) (VD.z rfl (.fa rfl JO rfl) ?_)))
 refine VD.call 141 rfl rfl (.inl rfl) Qcj rfl rfl (fun _ _ h=>h.sub [147,144,143,0]) (fun W hW=>XM W (hW.t 141) q38_7 (QaQ (m:=JY (wm W) (q38_n7)) x45.1 x45.2.1 ((x45.2.2.1).take ((min d2 (((x45.2.2.1.length:Nat):Int) - 1)).toNat)) x45.2.2.2 Qp Qp (Rd.mono hs48 (hW.o 141 143)) Qp) (by intro h_;omega) (by (have h_:=(Qat Qd ‹_[0]? =some _›).2.2;first | (rw [YH ‹_=(0:Int)›] at h_;simp only [List.length_take];omega) | (rw [YG ‹_=(1:Int)›] at h_;simp only [List.length_take];omega) | (rw [YF ‹_=(2:Int)›] at h_;simp only [List.length_take];omega) | (rw [YE ‹_=(3:Int)›] at h_;simp only [List.length_take];omega)))) (fun v54 m54 hv54=>?_)
 try dsimp only at hv54
 obtain ⟨s54_0,rfl,f54_0⟩:=hv54
 obtain ⟨A54_0,c54_0,eq54_0,l54_0,k54_0⟩:=f54_0.slc
 subst eq54_0
 refine VD.nil rfl ?_ rfl
 refine VO.z (.ixa (i:=2) (o:=7) rfl rfl Zz hi49 rfl rfl) ?_
 refine VO.s1 144 YT ?_
 refine VO.k8 0 1 2 6 7 8 11 49 (Qj (VC.rs (VO.mv (VO.mv (VO.mv (VO.mv (VO.z (.nilp rfl) (VO.z (.fa rfl JO rfl) ?_))))))))
 refine VO.s1 144 QfJ ?_
 refine VO.z (.nilp rfl) (VO.z (.fa rfl JO rfl) ?_)
 refine VO.s1 144 tk4 ?_
 refine VO.z (.nilp rfl) (VO.z (.fa rfl JO rfl) ?_)
 refine VO.s1 144 tk4 ?_
 refine VO.z (.nilp rfl) (VO.z (.fa rfl JO rfl) ?_)
 refine VO.s1 144 tk3 ?_
 refine VO.clsP 155 [144,139,140,141,142] rfl (fun hg55=>(Ju _ _ _ _ _ _ _ _ _ _ (Qu.nilAt 5 hg55) Qp Qp q38_5 q38_6 f54_0 q38_8 (Ow.nil _ _))) (fun mc55 ho55=>?_)
 refine VO.p4 155 147 143 0 (VO.k8 0 1 2 6 7 8 11 49 (VC.rs (VO.as (VO.k8 0 1 2 6 7 8 11 49 (VC.ret ?_)))))
 exact ZA 6 155 rfl ho55 (by first | rfl | exact QT) (by first | rfl | exact QT)
 refine VD.z rfl (.ixa (i:=3) (o:=8) rfl rfl Zz hi49 rfl rfl) ?_
 refine VD.z rfl (.ld1 144 rfl YT rfl (Qa rfl rfl)) (VD.z rfl (.ldA 147 rfl QbE rfl (Qa rfl rfl)) (VD.z rfl (.nilp rfl) (VD.z rfl (.fa rfl JO rfl) ?_)))
 refine VD.call 142 rfl rfl (.inl rfl) Qcj rfl rfl (fun _ _ h=>h.sub [147,144,143,0]) (fun W hW=>XM W (hW.t 142) q38_8 (QaQ (m:=JY (wm W) (q38_n8)) x45.1 x45.2.1 ((x45.2.2.1).take ((min d2 (((x45.2.2.1.length:Nat):Int) - 1)).toNat)) x45.2.2.2 Qp Qp (Rd.mono hs48 (hW.o 142 143)) Qp) (by intro h_;omega) (by (have h_:=(Qat Qd ‹_[0]? =some _›).2.2;first | (rw [YH ‹_=(0:Int)›] at h_;simp only [List.length_take];omega) | (rw [YG ‹_=(1:Int)›] at h_;simp only [List.length_take];omega) | (rw [YF ‹_=(2:Int)›] at h_;simp only [List.length_take];omega) | (rw [YE ‹_=(3:Int)›] at h_;simp only [List.length_take];omega)))) (fun v56 m56 hv56=>?_)
 try dsimp only at hv56
 obtain ⟨s56_0,rfl,f56_0⟩:=hv56
 obtain ⟨A56_0,c56_0,eq56_0,l56_0,k56_0⟩:=f56_0.slc
 subst eq56_0
 refine VD.nil rfl ?_ rfl
 refine VO.z (.ixa (i:=3) (o:=8) rfl rfl Zz hi49 rfl rfl) ?_
 refine VO.s1 144 YT ?_
 refine VO.k8 0 1 2 6 7 8 11 49 (Qj (VC.rs (VO.mv (VO.mv (VO.mv (VO.mv (VO.z (.nilp rfl) (VO.z (.fa rfl JO rfl) ?_))))))))
 refine VO.s1 144 QfJ ?_
 refine VO.z (.nilp rfl) (VO.z (.fa rfl JO rfl) ?_)
 refine VO.s1 144 tk4 ?_
 refine VO.z (.nilp rfl) (VO.z (.fa rfl JO rfl) ?_)
 refine VO.s1 144 tk4 ?_
 refine VO.z (.nilp rfl) (VO.z (.fa rfl JO rfl) ?_)
 refine VO.s1 144 tk3 ?_
 refine VO.clsP 157 [144,139,140,141,142] rfl (fun hg57=>(Ju _ _ _ _ _ _ _ _ _ _ (Qu.nilAt 5 hg57) Qp Qp q38_5 q38_6 q38_7 f56_0 (Ow.nil _ _))) (fun mc57 ho57=>?_)
 refine VO.p4 157 147 143 0 (VO.k8 0 1 2 6 7 8 11 49 (VC.rs (VO.as (VO.k8 0 1 2 6 7 8 11 49 (VC.ret ?_)))))
 exact ZA 6 157 rfl ho57 (by first | rfl | exact QT) (by first | rfl | exact QT)
 refine VC.skip (Qj (VC.rs (VO.mv (VO.mv (VO.mv (VO.mv (VO.z (.nilp rfl) (VO.z (.fa rfl JO rfl) ?_))))))))
 obtain ⟨q58_E,q58_A5,q58_c5,q58_A6,q58_c6,q58_A7,q58_c7,q58_A8,q58_c8,q58_A9,q58_c9,q58_n5,q58_n6,q58_n7,q58_n8,q58_n9,_,q58_S,q58_3,q58_4,q58_5,q58_6,q58_7,q58_8,q58_9⟩:=Qt ho36
 simp only [inK] at q58_3 q58_4
 have q58_r5:=q58_5.rm
 have q58_r6:=q58_6.rm
 have q58_r7:=q58_7.rm
 have q58_r8:=q58_8.rm
 have q58_r9:=q58_9.rm
 refine VO.inv _ (fun _ h=>h.parts (i:=136) rfl q58_S [164,159,160,161,162,163]) ?_
 refine VO.s1 164 QfJ ?_
 refine VO.z (.nilp rfl) (VO.z (.fa rfl JO rfl) ?_)
 refine VO.s1 164 tk4 ?_
 refine VO.z (.nilp rfl) (VO.z (.fa rfl JO rfl) ?_)
 refine VO.s1 164 tk4 ?_
 refine VO.z (.nilp rfl) (VO.z (.fa rfl JO rfl) ?_)
 refine VO.s1 164 tk3 ?_
 refine VO.clsP 165 [164,159,160,161,162] rfl (fun hg65=>(Ju _ _ _ _ _ _ _ _ _ _ (Qu.nilAt 5 hg65) Qp Qp q58_5 q58_6 q58_7 q58_8 (Ow.nil _ _))) (fun mc65 ho65=>?_)
 refine VO.p2 165 0 (VO.k7 0 1 2 6 8 11 49 (VC.rs (VO.as (VO.k7 0 1 2 6 8 11 49 (VC.ret ?_)))))
 exact ZA 6 165 rfl ho65 (by first | rfl | exact QT) (by first | rfl | exact QT)
 refine VO.gN (VO.gN (VO.gN (VO.gN (VO.gN (VO.gN (VO.gN (VO.gN (VO.z (.pF rfl rfl) ?_))))))))
 refine VO.clsP 166 [133,128,129,130,131,132] rfl (fun hg66=>(QU (Zj d0 (min d1 ((d0.2.2.2.2.2.2.length:Nat):Int)).toNat) hg66 Qp Qp q27_5 q27_6 q27_7 q27_8 q27_9)) (fun mc66 ho66=>?_)
 refine VO.k7 0 1 2 6 8 11 49 (VC.condF rfl (VC.skip (Qj (VC.rs (VO.mv (VO.mv (VO.mv (VO.mv (VO.z (.nilp rfl) (VO.z (.fa rfl JO rfl) ?_))))))))))
 obtain ⟨q67_E,q67_A5,q67_c5,q67_A6,q67_c6,q67_A7,q67_c7,q67_A8,q67_c8,q67_A9,q67_c9,q67_n5,q67_n6,q67_n7,q67_n8,q67_n9,_,q67_S,q67_3,q67_4,q67_5,q67_6,q67_7,q67_8,q67_9⟩:=Qt ho66
 simp only [inK] at q67_3 q67_4
 have q67_r5:=q67_5.rm
 have q67_r6:=q67_6.rm
 have q67_r7:=q67_7.rm
 have q67_r8:=q67_8.rm
 have q67_r9:=q67_9.rm
 refine VO.inv _ (fun _ h=>h.parts (i:=166) rfl q67_S [173,168,169,170,171,172]) ?_
 refine VO.s1 173 QfJ ?_
 refine VO.z (.nilp rfl) (VO.z (.fa rfl JO rfl) ?_)
 refine VO.s1 173 tk4 ?_
 refine VO.z (.nilp rfl) (VO.z (.fa rfl JO rfl) ?_)
 refine VO.s1 173 tk4 ?_
 refine VO.z (.nilp rfl) (VO.z (.fa rfl JO rfl) ?_)
 refine VO.s1 173 tk3 ?_
 refine VO.clsP 174 [173,168,169,170,171] rfl (fun hg74=>(Ju _ _ _ _ _ _ _ _ _ _ (Qu.nilAt 5 hg74) Qp Qp q67_5 q67_6 q67_7 q67_8 (Ow.nil _ _))) (fun mc74 ho74=>?_)
 refine VO.p2 174 0 (VO.k7 0 1 2 6 8 11 49 (VC.rs (VO.as (VO.k7 0 1 2 6 8 11 49 (VC.ret ?_)))))
 exact ZA 6 174 rfl ho74 (by first | rfl | exact QT) (by first | rfl | exact QT)
abbrev ZI : Ty := .pair (.ptr Qy) (.pair .bool (.sl ZL))
abbrev Qaj := (Nat × QG) × Bool × (List Zn)
theorem QfU {m:Mem} {cs:List Value} {x0:Nat × QG} {x1:Bool} {x2:List Zn} (h:Ow ZI m cs (x0,x1,x2)):∃ (A2:Option Addr),∃ (c2:Nat),∃ (n0:Mem),∃ (n2:Mem),cs=[(.pointer (some ⟨x0.1,0,none⟩):Value),.bool x1,.slice A2 x2.length c2]∧Qu m [n0,n2]∧Ow (.ptr Qy) n0 [.pointer (some ⟨x0.1,0,none⟩)] x0∧Ow (.sl ZL) n2 [.slice A2 x2.length c2] x2:=by
 obtain ⟨p1,q1,ma1,mb1,rfl,dj1,la1,lb1,u1,w1⟩:=Ow.pair h
 have z2:=u1
 obtain ⟨rfl,_⟩:=u1
 obtain ⟨p3,q3,ma3,mb3,rfl,dj3,la3,lb3,u3,w3⟩:=Ow.pair w1
 obtain rfl:=(show _=_ from u3)
 have z5:=w3
 obtain ⟨A5,c5,rfl,_⟩:=Ow.slice1 w3
 exact ⟨A5,c5,_,_,rfl,(Qu.app dj1 la1 lb1 (Qu.one (Qb _)) (Qu.app dj3 la3 lb3 (Qu.nil _) (Qu.one (Qb _)))),z2,z5⟩
theorem QhX {m:Mem} {n0 n2:Mem} (x0:Nat × QG) (x1:Bool) (x2:List Zn) (hS:Qu m [n0,n2]) {v0:Value} (h0:Ow (.ptr Qy) n0 [v0] x0) {v2:Value} (h2:Ow (.sl ZL) n2 [v2] x2):Ow ZI m [v0,.bool x1,v2] (x0,x1,x2):=by
 obtain ⟨e1,la1,lb1,Sa1,Sb1⟩:=Qu.cut (l:=[n0]) (r:=[n2]) hS
 obtain ⟨e2,la2,lb2,Sa2,Sb2⟩:=Qu.cut (l:=[]) (r:=[n2]) Sb1
 exact (Ow.mkPair (c1:=[_]) e1 la1 lb1 (h0.up (Sa1.1 _ (.head _))) (Ow.mkPair (c1:=[_]) e2 la2 lb2 (show Ow .bool _ [_] _ from rfl) (h2.up (Sb2.1 _ (.head _)))))
theorem Ja {m:Mem} {cs:List Value} {g:Nat} {x0:Nat × QG} {x1:Bool} {x2:List Zn} (h:Ow (.ptr ZI) m cs (g,(x0,x1,x2))):∃ (E:TypeId),∃ (A2:Option Addr),∃ (c2:Nat),∃ (n0:Mem),∃ (n2:Mem),cs=[.pointer (some ⟨g,0,none⟩)]∧Qu m [QE g (.cells [(.pointer (some ⟨x0.1,0,none⟩):Value),.bool x1,.slice A2 x2.length c2].toArray E (0,0)),n0,n2]∧Ow (.ptr Qy) n0 [.pointer (some ⟨x0.1,0,none⟩)] x0∧Ow (.sl ZL) n2 [.slice A2 x2.length c2] x2:=by
 obtain ⟨rfl,rc,E,m1,hd,l0,l1,h1⟩:=Ow.opnP h
 obtain ⟨A2,c2,n0,n2,rfl,hS,f0,f2⟩:=QfU h1
 exact ⟨E,A2,c2,n0,n2,rfl,Qu.app hd l0 l1 (Qu.one (Qb _)) hS,f0,f2⟩
theorem Jj {m:Mem} {g:Nat} {E:TypeId} {n0 n2:Mem}{v0:Value}{v2:Value} (x0:Nat × QG) (x1:Bool) (x2:List Zn) (hS:Qu m [QE g (.cells [v0,.bool x1,v2].toArray E (0,0)),n0,n2]) (h0:Ow (.ptr Qy) n0 [v0] x0) (h2:Ow (.sl ZL) n2 [v2] x2):Ow (.ptr ZI) m [.pointer (some ⟨g,0,none⟩)] (g,(x0,x1,x2)):=
 Ow.clsP hS fun hS=>QhX x0 x1 x2 hS h0 h2
abbrev Qhh := (Option Nat) × Bool × (List Zn)
theorem Qnn:JX Tryz.prog 13=true:=by kernel_rfl
theorem Qk8:JX Tryz.prog 19=true:=by kernel_rfl
theorem Qnh:JX Tryz.prog 39=true:=by kernel_rfl
theorem QiV:JX Tryz.prog 42=true:=by kernel_rfl
theorem Qng:JX Tryz.prog 43=true:=by kernel_rfl
theorem Qnd:JX Tryz.prog 50=true:=by kernel_rfl
theorem Qnc:JX Tryz.prog 51=true:=by kernel_rfl
theorem Qnb:JX Tryz.prog 52=true:=by kernel_rfl
theorem Qk3:JX Tryz.prog 53=true:=by kernel_rfl
theorem fnOk54:JX Tryz.prog 54=true:=by kernel_rfl
theorem fnOk55:JX Tryz.prog 55=true:=by kernel_rfl
theorem fnOk82:JX Tryz.prog 82=true:=by kernel_rfl
theorem Qji:tk Tryz.prog 27=some none:=by kernel_rfl
theorem Qhk:tk Tryz.prog 43=some none:=by kernel_rfl
theorem QaJ:tst Tryz.prog 80=some [(0,1),(1,1),(2,1)]:=by kernel_rfl
theorem tz80:tz Tryz.prog 80=some [.pointer none,.bool false,.slice none 0 0]:=by kernel_rfl
theorem QfD (W:World) {l_:List Zn} {br_:Bool} {D_:QG} {gd_:Nat} {m0:Mem} (hm:mle (m0) (wm W)) {g0:Nat} (h0:Ow (.ptr ZI) m0 [.pointer (some ⟨g0,0,none⟩)] (g0,((gd_,D_),br_,l_))):Qg Tryz.prog 42 [.pointer (some ⟨g0,0,none⟩)] W (m0) (fun v m'=>v= .bool (decide (False))∧Ow (.ptr ZI) m' [.pointer (some ⟨g0,0,none⟩)] (g0,((gd_,D_),br_,l_))):=by
 refine Qg.ofB (n:=12) hm Tryz.func42 rfl rfl rfl ?_
 refine VC.rs (VO.as (VO.k2 0 2 (VC.rs (VO.mv ?_))))
 refine VO.z (.pnil rfl rfl Tryz.underlying31 rfl) ?_
 refine VO.mv (VO.w (.mv rfl) (VO.w (.nilp rfl) (VO.w (.fa rfl QaJ rfl) ?_)))
 obtain ⟨q1_E,q1_A2,q1_c2,q1_n0,q1_n2,_,q1_S,q1_0,q1_2⟩:=Ja (x0:=(gd_,D_)) (x1:=br_) (x2:=l_) h0
 dsimp only at q1_0
 have q1_r2:=q1_2.rm
 refine VO.inv _ (fun _ h=>h.parts (i:=1) rfl q1_S [104,102,103]) ?_
 refine VO.w (.ld1 104 rfl Qji rfl (Qa rfl rfl)) ?_
 refine VO.w (.pnil rfl rfl Tryz.underlying27 rfl) ?_
 refine VO.z (.pF rfl rfl) (VO.as ?_)
 refine VO.clsP 105 [104,102,103] rfl (fun hg5=>(Jj _ _ _ hg5 q1_0 q1_2)) (fun mc5 ho5=>?_)
 refine VO.k2 0 2 (VC.ret ?_)
 exact ZA 2 105 rfl ho5 (by first | rfl | (simp [*];done)) (by first | rfl | (simp [*];done))
theorem Qhr (W:World) {l_:List Zn} {br_:Bool} {D_:QG} {gd_:Nat} {m0:Mem} (hm:mle (m0) (wm W)) {g0:Nat} (h0:Ow (.ptr ZI) m0 [.pointer (some ⟨g0,0,none⟩)] (g0,((gd_,D_),br_,l_))) (e0:okU l_):Qg Tryz.prog 19 [.pointer (some ⟨g0,0,none⟩)] W (m0) (fun v m'=>v= .int .i64 (QX l_)∧Ow (.ptr ZI) m' [.pointer (some ⟨g0,0,none⟩)] (g0,((gd_,D_),br_,l_))):=by
 have hll:=Y3 e0
 refine Qg.ofB (n:=26) hm Tryz.func19 rfl rfl rfl ?_
 refine VC.rs (VO.as (VO.k2 0 2 (VC.seq (VC.rs (VO.mv ?_)))))
 refine VO.call 1 rfl QiV rfl rfl (fun W hW=>QfD W (hW.t 1) h0) (fun v1 m1 hv1=>?_)
 try dsimp only at hv1
 obtain ⟨rfl,w1_0⟩:=hv1
 refine VO.mv ?_
 refine VO.dec (t:=5) rfl (fun hc2=>?_) (fun hc2=>?_)
 exact hc2.elim
 refine VO.w (.mv rfl) (VO.w (.nilp rfl) (VO.w (.fa rfl QaJ rfl) ?_))
 obtain ⟨q3_E,q3_A2,q3_c2,q3_n0,q3_n2,_,q3_S,q3_0,q3_2⟩:=Ja (x0:=(gd_,D_)) (x1:=br_) (x2:=l_) w1_0
 dsimp only at q3_0
 have q3_r2:=q3_2.rm
 refine VO.inv _ (fun _ h=>h.parts (i:=1) rfl q3_S [106,104,105]) ?_
 refine VO.w (.ld1 106 rfl Qhk rfl (Qa rfl rfl)) (VO.w (.lenS rfl Z3) (VO.w (.eql rfl rfl) (VO.z (.pF rfl rfl) ?_)))
 refine VO.clsP 107 [106,104,105] rfl (fun hg7=>(Jj _ _ _ hg7 q3_0 q3_2)) (fun mc7 ho7=>?_)
 refine VO.k3 0 2 12 ?_
 refine VC.cond rfl (fun hc8=>?_) (fun hc8=>?_)
 ·refine VC.rs (VO.as (VO.p2 107 0 (VO.k3 0 2 12 (VC.ret (QS ?_)))))
  exact ZA 2 107 rfl ho7 (by first | rfl | (simp [*];done)) (by first | rfl | (first | exact congrArg (Value.int _) (Qgc ‹l_[_]? =some _› Qx).symm | exact congrArg (Value.int _) (Qaf Qx).symm | exact congrArg (Value.int _) (Qaf (not_not_intro Qd)).symm))
 ·refine VC.skip (Qj (VC.seq ?_))
  obtain ⟨q9_E,q9_A2,q9_c2,q9_n0,q9_n2,_,q9_S,q9_0,q9_2⟩:=Ja (x0:=(gd_,D_)) (x1:=br_) (x2:=l_) ho7
  dsimp only at q9_0
  have q9_r2:=q9_2.rm
  refine VC.inv _ (fun _ h=>h.parts (i:=107) rfl q9_S [112,110,111]) ?_
  refine VC.regD _ 10 [(0,true),(1,true),(2,true),(3,true),(4,true),(5,true),(6,true),(7,true),(8,true),(9,true)] follows (by kernel_rfl) (fun _ h=>h.sub [112,110,111,0]) ?_
  refine VD.z rfl (.mv rfl) (VD.z rfl (.nilp rfl) (VD.z rfl (.fa rfl QaJ rfl) (VD.z rfl (.ld1 112 rfl Qhk rfl (Qa rfl rfl)) (VD.z rfl (.mv rfl) (VD.z rfl (.nilp rfl) (VD.z rfl (.fa rfl QaJ rfl) (VD.z rfl (.ld1 112 rfl Qhk rfl (Qa rfl rfl)) (VD.z rfl (.lenS rfl Z3) ?_))))))))
  refine VD.z rfl (.sub rfl rfl rfl ⟨bd,bd⟩) ?_
  refine VD.nil rfl ?_ rfl
  obtain ⟨x13,hx13⟩:∃ z_,(l_)[(((l_.length:Nat):Int) - 1).toNat]? =some z_:=⟨_,List.getElem?_eq_getElem bd⟩
  obtain ⟨gg13,oo13,ec13,ea13,hce13,hre13⟩:=(Ow.rd q9_2 (Qb _)).elem hx13
  cases ea13
  obtain ⟨q13_A2,q13_c2,rfl,q13_0,q13_1,q13_2⟩:=ZF (x0:=x13.1) (x1:=x13.2.1) (x2:=x13.2.2) hre13
  simp only [inK] at q13_0 q13_1
  have q13_r2:=Rd.room q13_2
  refine VO.z (.ixI ((((l_.length:Nat):Int) - 1).toNat) rfl rfl Z3 bd bd) ?_
  refine VO.z (.fa rfl Jl rfl) ?_
  refine VO.z (.ld1 111 rfl tk3 rfl (hce13.at1 (j:=1) rfl)) ?_
  refine VO.as ?_
  refine VO.clsP 114 [112,110,111] rfl (fun hg14=>(Jj _ _ _ hg14 q9_0 q9_2)) (fun mc14 ho14=>?_)
  refine VO.p2 114 0 (VO.k3 0 2 12 (Qj (VC.ret ?_)))
  exact ZA 2 114 rfl ho14 (by first | rfl | (simp [*];done)) (by first | rfl | (first | exact congrArg (Value.int _) (Qgc ‹l_[_]? =some _› Qx).symm | exact congrArg (Value.int _) (Qaf Qx).symm | exact congrArg (Value.int _) (Qaf (not_not_intro Qd)).symm))
theorem QeM (W:World) {v0:List Value} {d0:Zn} (h0:Rd ZL (wm W) v0 d0) (e0:d0.2.2.length≤3518437208800):Qg Tryz.prog 43 [.agg v0.toArray] W (Qr) (fun v m'=>∃ (s0:List Value),v= .agg s0.toArray∧Ow ZL m' s0 (d0)):=by
 obtain ⟨p0_A2,p0_c2,rfl,p0_0,p0_1,p0_2⟩:=ZF (x0:=d0.1) (x1:=d0.2.1) (x2:=d0.2.2) h0
 simp only [inK] at p0_0 p0_1
 have p0_r2:=Rd.room p0_2
 refine Qg.ofA (n:=8) Tryz.func43 rfl rfl rfl ?_
 refine VC.rs ?_
 refine VO.box (cs:=[.int .i64 (d0.1),.int .i64 (d0.2.1),.slice p0_A2 (d0.2.2.length) (p0_c2)]) 102 rfl rfl rfl (fun g1=>?_)
 refine VO.alloc 104 rfl X6 (fun g3=>?_)
 refine VO.k3 0 1 2 (VC.rs (VO.z (.fa rfl Jl rfl) (VO.z (.ld1 102 rfl YY rfl (Qa rfl rfl)) ?_)))
 refine VO.callN 105 rfl fnOk82 rfl (fun W hW=>QmH W (Rd.mono p0_2 (hW.t 0)) bd) (fun v5 m5 hv5=>?_)
 obtain ⟨s5_0,rfl,f5_0⟩:=hv5
 obtain ⟨A5_0,c5_0,eq5_0,l5_0,k5_0⟩:=f5_0.slc
 subst eq5_0
 refine VO.z (.fa rfl Jl rfl) ?_
 refine VO.store (k:=1) (c':=[.int .i64 (d0.1),.int .i64 (d0.2.1),.slice A5_0 (d0.2.2.length) (c5_0)]) 102 rfl rfl (.inr ⟨YY,rfl⟩) rfl rfl rfl rfl rfl ?_
 refine VO.k3 0 1 2 (VC.rs (VO.z (.ldA 102 rfl Yx rfl (Qa rfl rfl)) ?_))
 refine VO.store (k:=3) (c':=[.int .i64 (d0.1),.int .i64 (d0.2.1),.slice A5_0 (d0.2.2.length) (c5_0)]) 104 rfl rfl (.inl Yx) rfl rfl rfl rfl rfl ?_
 refine VO.p4 105 104 102 0 (VO.k3 0 1 2 (VC.ret ?_))
 refine ⟨_,_,Q8 (rs:=[.cell 2 38]) rfl (.agg 104 rfl Yx rfl ⟨_,_,_,Qq _ _,Nat.le_of_ble_eq_true rfl,rfl⟩ .nil),fun W_ hI=>JC (l:=[m5]) hI [105] rfl rfl (Qb _) (fun hS_=>?_)⟩
 dsimp only [Qv]
 have he0:(d0:Ty.Den ZL)=d0:=by first | rfl | (simp [*];done)
 refine ⟨[.int .i64 (d0.1),.int .i64 (d0.2.1),.slice A5_0 (d0.2.2.length) (c5_0)],?_,?_⟩
 rotate_left
 ·rw [he0];exact (show Ow ZL _ _ d0 from (ZC d0.1 d0.2.1 d0.2.2 hS_ bdk bdk f5_0))
 all_goals (first | rfl | (simp [*];done))
theorem Zi {P:Prop} (h:P:=by first | exact bd | (have h_:=QaN e0 ‹l_[_]? =some _›;omega)):P:=h
theorem QfE (W:World) {l_:List Zn} {br_:Bool} {D_:QG} {gd_:Nat} {m0:Mem} (hm:mle (m0) (wm W)) {g0:Nat} (h0:Ow (.ptr ZI) m0 [.pointer (some ⟨g0,0,none⟩)] (g0,((gd_,D_),br_,l_))) (e0:okU l_):Qg Tryz.prog 11 [.pointer (some ⟨g0,0,none⟩)] W (m0) (fun v m'=>∃ (s0:Value),∃ (p0:Mem),∃ (p1:Mem),v=s0∧Qu m' [p0,p1]∧Ow (.sl ZL) p0 [s0] (l_)∧Ow (.ptr ZI) p1 [.pointer (some ⟨g0,0,none⟩)] (g0,((gd_,D_),br_,l_))):=by
 have hll:=Y3 e0
 refine Qg.ofB (n:=24) hm Tryz.func11 rfl rfl rfl ?_
 refine VC.rs (VO.as (VO.k2 0 2 (VC.seq (VC.rs (VO.mv ?_)))))
 refine VO.call 1 rfl QiV rfl rfl (fun W hW=>QfD W (hW.t 1) h0) (fun v1 m1 hv1=>?_)
 try dsimp only at hv1
 obtain ⟨rfl,w1_0⟩:=hv1
 refine VO.k3 0 2 7 ?_
 refine VC.cond rfl (fun hc2=>?_) (fun hc2=>?_)
 exact hc2.elim
 refine VC.skip (Qj (VC.rs (VO.as (VO.p2 1 0 (VO.k4 0 2 3 7 (VC.seq (VC.rs (VO.mv (VO.z (.nilp rfl) (VO.z (.fa rfl QaJ rfl) ?_))))))))))
 obtain ⟨q3_E,q3_A2,q3_c2,q3_n0,q3_n2,_,q3_S,q3_0,q3_2⟩:=Ja (x0:=(gd_,D_)) (x1:=br_) (x2:=l_) w1_0
 dsimp only at q3_0
 have q3_r2:=q3_2.rm
 refine VO.inv _ (fun _ h=>h.parts (i:=1) rfl q3_S [106,104,105]) ?_
 refine VO.z (.ld1 106 rfl Qhk rfl (Qa rfl rfl)) (VO.z (.lenS rfl Z3) (VO.mv (VO.k7 0 2 3 7 11 12 13 (VC.block ?_))))
 refine VC.inv ((107,Qr)::_) (fun _ h=>h.nilc 107) ?_
 refine VC.loop (G:=Nat × (List Zn) × (Option Addr) × Nat × Mem) (fun g=>[(3,.slice (g.2.2.1) ((g.2.1).length) ((g.2.2.2.1))),(13,.int .i64 ((((g.1):Nat):Int))),(0,.pointer (some ⟨g0,0,none⟩)),(2,.slice none (0) (0)),(7,.bool (decide (False))),(11,.slice q3_A2 (l_.length) (q3_c2)),(12,.int .i64 (((l_.length:Nat):Int)))]) (fun g=>[(107,(g.2.2.2.2)),(106,QE g0 (.cells #[.pointer (some ⟨gd_,0,none⟩),.bool br_,.slice q3_A2 (l_.length) (q3_c2)] q3_E (0,0))),(104,q3_n0),(105,q3_n2),(0,JY (wm W) (m0))]) (fun g=>((g.1)≤l_.length)∧((g.2.1)=l_.take (g.1))∧(Ow (.sl ZL) (g.2.2.2.2) [.slice (g.2.2.1) (g.2.1).length (g.2.2.2.1)] (g.2.1))) (fun g=>l_.length - (g.1)) (0,[],none,0,Qr) (⟨by omega,by rfl,(Ow.nil ZL Qr)⟩) ⟨esn,fun _ h=>h.sub [107,106,104,105,0]⟩ ?_
 rintro ⟨k,out,out_A,out_c,out_m⟩ ⟨hk,ho,h_out⟩
 replace hk:k≤l_.length:=hk
 replace ho:out=l_.take k:=ho
 replace h_out:Ow (.sl ZL) out_m [.slice out_A out.length out_c] out:=h_out
 show VC _ _ _ _ _ [(3,.slice out_A (out.length) (out_c)),(13,.int .i64 (((k:Nat):Int))),(0,.pointer (some ⟨g0,0,none⟩)),(2,.slice none (0) (0)),(7,.bool (decide (False))),(11,.slice q3_A2 (l_.length) (q3_c2)),(12,.int .i64 (((l_.length:Nat):Int)))] [(107,out_m),(106,QE g0 (.cells #[.pointer (some ⟨gd_,0,none⟩),.bool br_,.slice q3_A2 (l_.length) (q3_c2)] q3_E (0,0))),(104,q3_n0),(105,q3_n2),(0,JY (wm W) (m0))]
 have l_out:out.length≤out_c:=by obtain ⟨_,_,he,hl,_⟩:=h_out.slice;simp only [Value.slice.injEq] at he;omega
 have k_out:out_c≤9223372036854775807:=by obtain ⟨_,_,he,_,hl⟩:=h_out.slice;simp only [Value.slice.injEq,maxLen] at he hl;omega
 have hlo:out.length≤k:=by rw [ho,List.length_take];omega
 refine VC.rs (VO.z (.lss rfl rfl) (VO.k8 0 2 3 7 11 12 13 14 (VC.seq ?_)))
 refine VC.cond rfl (fun hc8=>?_) (fun hc8=>?_)
 ·refine VC.skip (Qj (VC.seq (VC.block (VC.rs ?_))))
  obtain ⟨x9,hx9⟩:∃ z_,(l_)[k]? =some z_:=⟨_,List.getElem?_eq_getElem Zi⟩
  obtain ⟨gg9,oo9,ec9,ea9,hce9,hre9⟩:=(Ow.rd q3_2 (Qb _)).elem hx9
  cases ea9
  obtain ⟨q9_A2,q9_c2,rfl,q9_0,q9_1,q9_2⟩:=ZF (x0:=x9.1) (x1:=x9.2.1) (x2:=x9.2.2) hre9
  simp only [inK] at q9_0 q9_1
  have q9_r2:=Rd.room q9_2
  refine VO.z (.ixI k rfl rfl Z3 rfl Zi) ?_
  refine VO.z (.ldA 105 rfl Yx rfl hce9) ?_
  refine VO.alloc 111 rfl X6 (fun g10=>?_)
  refine VO.store (k:=3) (c':=[.int .i64 (x9.1),.int .i64 (x9.2.1),.slice q9_A2 (x9.2.2.length) (q9_c2)]) 111 rfl rfl (.inl Yx) rfl rfl rfl rfl rfl ?_
  refine VO.p6 111 107 106 104 105 0 (VO.k9 0 2 3 5 7 11 12 13 14 ?_)
  refine VC.reg ?_
  refine VO.mv (VO.z (.ldA 111 rfl Yx rfl (Qa rfl rfl)) ?_)
  refine VO.callN 112 rfl Qng rfl (fun W hW=>QeM W (Rd.mono hre9 (hW.t 105)) Zi) (fun v12 m12 hv12=>?_)
  obtain ⟨s12_0,rfl,f12_0⟩:=hv12
  obtain ⟨q12_0_A2,q12_0_c2,q12_0_n2,rfl,q12_0_S,q12_0_0,q12_0_1,q12_0_2⟩:=Y2 (x0:=x9.1) (x1:=x9.2.1) (x2:=x9.2.2) f12_0
  simp only [inK] at q12_0_0 q12_0_1
  have q12_0_r2:=q12_0_2.rm
  refine VO.inv _ (fun _ h=>h.parts (i:=112) rfl q12_0_S [113]) ?_
  refine VO.bsl (cs:=[.int .i64 (x9.1),.int .i64 (x9.2.1),.slice q12_0_A2 (x9.2.2.length) (q12_0_c2)]) 115 rfl rfl Z3 X6 rfl rfl (fun g14=>?_)
  refine VO.appO (e:=ZL) 107 113 115 rfl rfl rfl Z3 X6 rfl rfl rfl rfl h_out (show Ow ZL _ _ x9 from (ZC x9.1 x9.2.1 x9.2.2 (Qu.one (Qb _)) (by simp only [inK];(exact Zi)) (by simp only [inK];(exact Zi)) q12_0_2)) Tryz.underlying43 (Qa rfl rfl) (by simp only [maxLen];(exact Zi)) Zi (by decide) (fun v16 m16 ho16=>?_)
  obtain ⟨A16,c16,rfl,l16,k16⟩:=ho16.slc
  refine VO.as (VO.k9 0 2 3 5 7 11 12 13 14 (JE (Qj ?_)))
  refine VC.reg ?_
  refine VO.z (.add (c:=((k+1:Nat):Int)) rfl rfl Qx ⟨by exact Zi,by exact Zi⟩) ?_
  refine VO.mv (VO.k9 0 2 3 5 7 11 12 13 14 ?_)
  exact Qj ⟨⟨k+1,out++[x9],A16,c16,m16⟩,⟨by omega,by (rw [ho];exact (Yq ‹l_[k]? =some _›).symm),ho16⟩,by exact Zi,⟨esn,fun _ h=>Inv.sub h [107,106,104,105,0]⟩⟩
 ·refine VC.exit (Zc (Zc (Zd (Qj (VC.rs (VO.mv (VO.as (VO.p5 107 106 104 105 0 (VO.k8 0 2 3 7 11 12 13 14 (VC.ret ?_))))))))))
  refine Yz 2 [107,106,104,105] fun hS_=>?_
  dsimp only [Qv]
  have hm0_:(((gd_,D_),br_,l_):Qaj)=((gd_,D_),br_,l_):=by first | rfl | (rw [ho,List.take_of_length_le Qx])
  refine ⟨.slice out_A (out.length) (out_c),Zv [out_m],Zv [QE g0 (.cells #[.pointer (some ⟨gd_,0,none⟩),.bool br_,.slice q3_A2 (l_.length) (q3_c2)] q3_E (0,0)),q3_n0,q3_n2],?_,?_,?_,?_⟩
  rotate_left
  ·exact Qu.grp (ls:=[[out_m],[QE g0 (.cells [Value.pointer (some ⟨gd_,0,none⟩),Value.bool br_,Value.slice q3_A2 (l_.length) (q3_c2)].toArray q3_E (0,0)),q3_n0,q3_n2]]) hS_
  ·exact Ow.cg (Ow.up h_out ((Qu.self hS_ (List.Sublist.cons_cons _ (List.Sublist.cons _ (List.Sublist.cons _ (List.Sublist.cons _ List.Sublist.slnil))))).1 _ (.head _))) (by first | rfl | (rw [ho,List.take_of_length_le Qx]))
  ·rw [hm0_];exact (Jj _ _ _ (Qu.self hS_ (List.Sublist.cons _ (List.Sublist.cons_cons _ (List.Sublist.cons_cons _ (List.Sublist.cons_cons _ List.Sublist.slnil))))) q3_0 q3_2)
  all_goals (first | rfl | (simp [*];done))
theorem Jt {P:Prop} (h:P:=by first | (rw [Qcl (.inl (by assumption))] <;> first | rfl | done) | (rw [Qcl (.inr (by assumption))] <;> first | rfl | done) | (rw [Qg6 (by rintro (q_ | q_) <;> first | exact absurd (q_.symm.trans ‹br_=false›) (by decide) | exact q_ (by assumption) | exact absurd q_ (by assumption) | simp_all) (by assumption)] <;> first | rfl | done) | (rw [Qes (by rintro (q_ | q_) <;> first | exact absurd (q_.symm.trans ‹br_=false›) (by decide) | exact q_ (by assumption) | exact absurd q_ (by assumption) | simp_all) (by assumption) (by assumption)] <;> first | rfl | done) | (rw [Qer (by rintro (q_ | q_) <;> first | exact absurd (q_.symm.trans ‹br_=false›) (by decide) | exact q_ (by assumption) | exact absurd q_ (by assumption) | simp_all) (by assumption) (by assumption) (by assumption)] <;> first | rfl | done) | (rw [Qfe (by rintro (q_ | q_) <;> first | exact absurd (q_.symm.trans ‹br_=false›) (by decide) | exact q_ (by assumption) | exact absurd q_ (by assumption) | simp_all) (by assumption) (by assumption) (by assumption) (by assumption)] <;> first | rfl | done) | (rw [Qff (by rintro (q_ | q_) <;> first | exact absurd (q_.symm.trans ‹br_=false›) (by decide) | exact q_ (by assumption) | exact absurd q_ (by assumption) | simp_all) (by assumption) (by assumption) (by assumption) (by assumption)] <;> first | rfl | done)):P:=h
theorem JS {P:Prop} (h:P:=by first | exact bd | (have h_:=JV (Qag ‹¬ ¬ (Qh d1).2=0›).1;omega) | (have h_:=Qi2 ‹¬ ¬ (Qh d1).2=0›;omega) | (have h_:=write_rng D_ 2 (QZ [] (Qh d1).1).1;omega)):P:=h
set_option maxHeartbeats 4000000 in
theorem QdQ (W:World) {l_:List Zn} {br_:Bool} {D_:QG} {gd_:Nat} {m0:Mem} (hm:mle (m0) (wm W)) {g0:Nat} (h0:Ow (.ptr ZI) m0 [.pointer (some ⟨g0,0,none⟩)] (g0,((gd_,D_),br_,l_))) {v1:List Value} {d1:Zn} (h1:Rd ZL (JY (wm W) (m0)) v1 d1) (e0:okD D_) (e1:wD D_+200000≤1000000000000) (e2:okU l_):Qg Tryz.prog 17 [.pointer (some ⟨g0,0,none⟩),.agg v1.toArray] W (m0) (fun v m'=>v= .int .i64 ((QJ D_ br_ l_ d1).2)∧Ow (.ptr ZI) m' [.pointer (some ⟨g0,0,none⟩)] (g0,((gd_,(QJ D_ br_ l_ d1).1.1),(QJ D_ br_ l_ d1).1.2))):=by
 have hll:=Y3 e2
 obtain ⟨p1_A2,p1_c2,rfl,p1_0,p1_1,p1_2⟩:=ZF (x0:=d1.1) (x1:=d1.2.1) (x2:=d1.2.2) h1
 simp only [inK] at p1_0 p1_1
 have p1_r2:=Rd.room p1_2
 refine Qg.ofB (n:=76) hm Tryz.func17 rfl rfl rfl ?_
 refine VC.rs ?_
 refine VO.box (cs:=[.int .i64 (d1.1),.int .i64 (d1.2.1),.slice p1_A2 (d1.2.2.length) (p1_c2)]) 102 rfl rfl rfl (fun g1=>?_)
 refine VO.as (VO.k4 0 1 3 4 (VC.seq (VC.rs (VO.mv ?_))))
 refine VO.call 1 rfl QiV rfl rfl (fun W hW=>QfD W (hW.t 1) h0) (fun v3 m3 hv3=>?_)
 try dsimp only at hv3
 obtain ⟨rfl,w3_0⟩:=hv3
 refine VO.k5 0 1 3 4 9 ?_
 refine VC.cond rfl (fun hc4=>?_) (fun hc4=>?_)
 exact hc4.elim
 refine VC.skip (Qj (VC.seq (VC.rs (VO.mv (VO.z (.nilp rfl) (VO.z (.fa rfl QaJ rfl) ?_))))))
 obtain ⟨q5_E,q5_A2,q5_c2,q5_n0,q5_n2,_,q5_S,q5_0,q5_2⟩:=Ja (x0:=(gd_,D_)) (x1:=br_) (x2:=l_) w3_0
 dsimp only at q5_0
 have q5_r2:=q5_2.rm
 refine VO.inv _ (fun _ h=>h.parts (i:=1) rfl q5_S [108,106,107]) ?_
 refine VO.z (.ld1 108 rfl tk4 rfl (Qa rfl rfl)) (VO.mv ?_)
 refine VO.decB (t:=14) rfl (fun hc9=>?_) (fun hc9=>?_)
 refine VO.gN (VO.gN (VO.gN (VO.gN (VO.gN (VO.gN (VO.z (.pT rfl rfl) ?_))))))
 refine VO.clsP 110 [108,106,107] rfl (fun hg10=>(Jj _ _ _ hg10 q5_0 q5_2)) (fun mc10 ho10=>?_)
 refine VO.p3 110 102 0 (VO.k6 0 1 3 4 9 21 (VC.condT rfl (VC.rs (VO.mv (VO.z (.nilp rfl) (VO.z (.fa rfl QaJ rfl) ?_))))))
 obtain ⟨q11_E,q11_A2,q11_c2,q11_n0,q11_n2,_,q11_S,q11_0,q11_2⟩:=Ja (x0:=(gd_,D_)) (x1:=br_) (x2:=l_) ho10
 dsimp only at q11_0
 have q11_r2:=q11_2.rm
 refine VO.inv _ (fun _ h=>h.parts (i:=110) rfl q11_S [114,112,113]) ?_
 refine VO.store (k:=1) (c':=[.pointer (some ⟨gd_,0,none⟩),.bool true,.slice q11_A2 (l_.length) (q11_c2)]) 114 rfl rfl (.inr ⟨tk4,rfl⟩) rfl rfl rfl rfl rfl ?_
 refine VO.clsP 115 [114,112,113] rfl (fun hg15=>(Jj _ _ _ hg15 q11_0 q11_2)) (fun mc15 ho15=>?_)
 refine VO.k6 0 1 3 4 9 21 (VC.rs (VO.as (VO.k6 0 1 3 4 9 21 (VC.ret (QS ?_)))))
 exact ZA 4 115 rfl ho15 (by first | rfl | exact Jt) (by first | rfl | exact Jt)
 refine VO.w (.mv rfl) (VO.w (.nilp rfl) (VO.w (.fa rfl QaJ rfl) (VO.w (.ld1 108 rfl Qji rfl (Qa rfl rfl)) ?_)))
 refine VO.gcall 106 rfl ⟨_,rfl,rfl⟩ Qnh rfl rfl (fun W hW=>Qnu W (hW.t 106) q5_0) (fun v16 m16 hv16=>?_)
 obtain ⟨rfl,w16_0⟩:=hv16
 refine VO.w (.notD rfl) (VO.z (.pF rfl rfl) ?_)
 refine VO.clsP 117 [108,106,107] rfl (fun hg17=>(Jj _ _ _ hg17 w16_0 q5_2)) (fun mc17 ho17=>?_)
 refine VO.p3 117 102 0 (VO.k6 0 1 3 4 9 21 ?_)
 refine VC.cond rfl (fun hc18=>?_) (fun hc18=>?_)
 refine VC.rs (VO.mv (VO.z (.nilp rfl) (VO.z (.fa rfl QaJ rfl) ?_)))
 obtain ⟨q19_E,q19_A2,q19_c2,q19_n0,q19_n2,_,q19_S,q19_0,q19_2⟩:=Ja (x0:=(gd_,D_)) (x1:=br_) (x2:=l_) ho17
 dsimp only at q19_0
 have q19_r2:=q19_2.rm
 refine VO.inv _ (fun _ h=>h.parts (i:=117) rfl q19_S [122,120,121]) ?_
 refine VO.store (k:=1) (c':=[.pointer (some ⟨gd_,0,none⟩),.bool true,.slice q19_A2 (l_.length) (q19_c2)]) 122 rfl rfl (.inr ⟨tk4,rfl⟩) rfl rfl rfl rfl rfl ?_
 refine VO.clsP 123 [122,120,121] rfl (fun hg23=>(Jj _ _ _ hg23 q19_0 q19_2)) (fun mc23 ho23=>?_)
 refine VO.k6 0 1 3 4 9 21 (VC.rs (VO.as (VO.k6 0 1 3 4 9 21 (VC.ret (QS ?_)))))
 exact ZA 4 123 rfl ho23 (by first | rfl | exact Jt) (by first | rfl | exact Jt)
 refine VC.skip (Qj (VC.rs (VO.z (.ldA 102 rfl Yx rfl (Qa rfl rfl)) ?_)))
 refine VO.callN 124 rfl Qnn rfl (fun W hW=>Qc8 W (Rd.mono h1 (hW.t 0))) (fun v24 m24 hv24=>?_)
 obtain ⟨s24_0,rfl,f24_0⟩:=hv24
 have hfa25:=QaM d1
 obtain ⟨A24_0,c24_0,eq24_0,l24_0,k24_0⟩:=f24_0.slc
 subst eq24_0
 refine VO.mv (VO.z (.ext rfl rfl) (VO.z (.ext rfl rfl) (VO.as (VO.as (VO.k8 0 1 3 4 5 6 9 21 (VC.seq (VC.rs (VO.mv (VO.z (.neq rfl rfl) (VO.k9 0 1 3 4 5 6 9 21 31 ?_))))))))))
 refine VC.cond rfl (fun hc26=>?_) (fun hc26=>?_)
 refine VC.rs (VO.mv (VO.as (VO.p4 124 117 102 0 (VO.k9 0 1 3 4 5 6 9 21 31 (VC.ret (QS ?_))))))
 exact ZA 4 117 rfl ho17 (by first | rfl | exact Jt) (by first | rfl | exact Jt)
 refine VC.skip (Qj (VC.seq (VC.seq ?_)))
 refine VC.regD _ 5 [(0,true),(1,true),(2,true),(3,false),(4,true)] follows (by kernel_rfl) (fun _ h=>h.sub [124,102,0]) ?_
 refine VD.z rfl (.fa rfl Jl rfl) (VD.z rfl (.ld1 102 rfl tk3 rfl (Qa rfl rfl)) (VD.z rfl (.mv rfl) ?_))
 refine VD.call 117 rfl rfl (.inl rfl) Qk8 rfl rfl (fun _ _ h=>h.sub [124,102,0]) (fun W hW=>Qhr W (hW.t 117) ho17 Qd) (fun v27 m27 hv27=>?_)
 try dsimp only at hv27
 obtain ⟨rfl,w27_0⟩:=hv27
 refine VD.z rfl (.add rfl rfl rfl ⟨by exact JS,by exact JS⟩) ?_
 refine VD.nil rfl ?_ rfl
 refine VO.z (.neq rfl rfl) (VO.p4 117 124 102 0 (VO.k10 0 1 3 4 5 6 9 21 31 38 (Qj ?_)))
 refine VC.cond rfl (fun hc28=>?_) (fun hc28=>?_)
 refine VC.rs (VO.as (VO.k10 0 1 3 4 5 6 9 21 31 38 (VC.ret (QS ?_))))
 exact ZA 4 117 rfl w27_0 (by first | rfl | exact Jt) (by first | rfl | exact Jt)
 refine VC.skip (Qj (VC.rs (VO.mv ?_)))
 refine VO.callN 129 rfl fnOk54 rfl (fun W hW=>QjD W (Rd.nil _ _ none 0 (Nat.zero_le _)) (Ow.rd f24_0 (hW.t 124)) JS) (fun v29 m29 hv29=>?_)
 obtain ⟨s29_0,rfl,f29_0⟩:=hv29
 have hfa30:=Qeu [] ((Qh d1).1)
 have hfa31:=Qco [] ((Qh d1).1)
 obtain ⟨A29_0,c29_0,eq29_0,l29_0,k29_0⟩:=f29_0.slc
 subst eq29_0
 refine VO.mv (VO.z (.ext rfl rfl) (VO.z (.ext rfl rfl) (VO.as (VO.as (VO.k11 0 1 3 4 5 6 7 9 21 31 38 (VC.seq (VC.rs (VO.mv (VO.z (.eql rfl rfl) (VO.k12 0 1 3 4 5 6 7 9 21 31 38 45 ?_))))))))))
 refine VC.cond rfl (fun hc32=>?_) (fun hc32=>?_)
 refine VC.reg ?_
 refine VO.mv (VO.z (.nilp rfl) (VO.z (.fa rfl QaJ rfl) ?_))
 obtain ⟨q33_E,q33_A2,q33_c2,q33_n0,q33_n2,_,q33_S,q33_0,q33_2⟩:=Ja (x0:=(gd_,D_)) (x1:=br_) (x2:=l_) w27_0
 dsimp only at q33_0
 have q33_r2:=q33_2.rm
 refine VO.inv _ (fun _ h=>h.parts (i:=117) rfl q33_S [136,134,135]) ?_
 refine VO.z (.ld1 136 rfl Qji rfl (Qa rfl rfl)) (VO.mv ?_)
 refine VO.call 134 rfl fnOk55 rfl rfl (fun W hW=>Qlq W (hW.t 134) q33_0 2 (by simp only [inK];(exact JS)) (Ow.rd f29_0 (hW.o 134 129)) Qd JS) (fun v37 m37 hv37=>?_)
 obtain ⟨rfl,w37_0⟩:=hv37
 have hfa38:=(X8 (f:=2) (b:=((QZ [] ((Qh d1).1)).1)) (show okD D_ by assumption))
 have hfa39:=(Qhn (f:=2) (b:=((QZ [] ((Qh d1).1)).1)) (show okD D_ by assumption))
 refine VO.as ?_
 refine VO.clsP 140 [136,134,135] rfl (fun hg40=>(Jj _ _ _ hg40 w37_0 q33_2)) (fun mc40 ho40=>?_)
 refine VO.p5 140 129 124 102 0 (VO.k12 0 1 3 4 5 6 7 9 21 31 38 45 (Qj (VC.seq (VC.rs (VO.mv (VO.z (.eql rfl rfl) (VO.nil ?_)))))))
 refine VC.cond rfl (fun hc41=>?_) (fun hc41=>?_)
 refine VC.reg ?_
 refine VO.mv (VO.z (.nilp rfl) (VO.z (.fa rfl QaJ rfl) ?_))
 obtain ⟨q42_E,q42_A2,q42_c2,q42_n0,q42_n2,_,q42_S,q42_0,q42_2⟩:=Ja (x0:=(gd_,(Q7 D_ 2 ((QZ [] ((Qh d1).1)).1)).1)) (x1:=br_) (x2:=l_) ho40
 dsimp only at q42_0
 have q42_r2:=q42_2.rm
 refine VO.inv _ (fun _ h=>h.parts (i:=140) rfl q42_S [145,143,144]) ?_
 refine VO.z (.ld1 145 rfl Qji rfl (Qa rfl rfl)) ?_
 refine VO.call 143 rfl Qk3 rfl rfl (fun W hW=>Qgd W (hW.t 143) q42_0 Qd JS) (fun v46 m46 hv46=>?_)
 obtain ⟨rfl,w46_0⟩:=hv46
 have hfa47:=(QbF (show okD ((Q7 D_ 2 ((QZ [] ((Qh d1).1)).1)).1) by assumption))
 have hfa48:=(QeQ (show okD ((Q7 D_ 2 ((QZ [] ((Qh d1).1)).1)).1) by assumption))
 refine VO.as ?_
 refine VO.clsP 149 [145,143,144] rfl (fun hg49=>(Jj _ _ _ hg49 w46_0 q42_2)) (fun mc49 ho49=>?_)
 refine VO.nil (Qj (VC.seq (VC.rs (VO.mv (VO.z (.neq rfl rfl) (VO.p5 149 129 124 102 0 (VO.nil ?_)))))))
 refine VC.cond rfl (fun hc50=>?_) (fun hc50=>?_)
 refine VC.rs (VO.mv (VO.z (.nilp rfl) (VO.z (.fa rfl QaJ rfl) ?_)))
 obtain ⟨q51_E,q51_A2,q51_c2,q51_n0,q51_n2,_,q51_S,q51_0,q51_2⟩:=Ja (x0:=(gd_,(Zx ((Q7 D_ 2 ((QZ [] ((Qh d1).1)).1)).1)).1)) (x1:=br_) (x2:=l_) ho49
 dsimp only at q51_0
 have q51_r2:=q51_2.rm
 refine VO.inv _ (fun _ h=>h.parts (i:=149) rfl q51_S [154,152,153]) ?_
 refine VO.store (k:=1) (c':=[.pointer (some ⟨gd_,0,none⟩),.bool true,.slice q51_A2 (l_.length) (q51_c2)]) 154 rfl rfl (.inr ⟨tk4,rfl⟩) rfl rfl rfl rfl rfl ?_
 refine VO.clsP 155 [154,152,153] rfl (fun hg55=>(Jj _ _ _ hg55 q51_0 q51_2)) (fun mc55 ho55=>?_)
 refine VO.nil (VC.rs (VO.mv (VO.as (VO.nil (VC.ret (QS ?_))))))
 exact ZA 4 155 rfl ho55 (by first | rfl | exact Jt) (by first | rfl | exact Jt)
 refine VC.skip (Qj (VC.seq ?_))
 obtain ⟨q56_E,q56_A2,q56_c2,q56_n0,q56_n2,_,q56_S,q56_0,q56_2⟩:=Ja (x0:=(gd_,(Zx ((Q7 D_ 2 ((QZ [] ((Qh d1).1)).1)).1)).1)) (x1:=br_) (x2:=l_) ho49
 dsimp only at q56_0
 have q56_r2:=q56_2.rm
 refine VC.inv _ (fun _ h=>h.parts (i:=149) rfl q56_S [159,157,158]) ?_
 refine VC.regD _ 9 [(0,true),(1,true),(2,true),(3,true),(4,true),(5,true),(6,false),(7,false),(8,false)] follows (by kernel_rfl) (fun _ h=>h.sub [159,157,129,124,102,0]) ?_
 refine VD.z rfl (.mv rfl) (VD.z rfl (.mv rfl) (VD.z rfl (.nilp rfl) (VD.z rfl (.fa rfl QaJ rfl) (VD.z rfl (.ld1 159 rfl Qhk rfl (Qa rfl rfl)) (VD.z rfl (.ldA 102 rfl Yx rfl (Qa rfl rfl)) ?_)))))
 refine VD.callN 160 rfl rfl (.inl rfl) Qng rfl (fun _ h=>h.sub [159,157,129,124,102,0]) (fun W hW=>QeM W (Rd.mono h1 (hW.t 0)) JS) (fun v60 m60 hv60=>?_)
 obtain ⟨s60_0,rfl,f60_0⟩:=hv60
 obtain ⟨q60_0_A2,q60_0_c2,q60_0_n2,rfl,q60_0_S,q60_0_0,q60_0_1,q60_0_2⟩:=Y2 (x0:=d1.1) (x1:=d1.2.1) (x2:=d1.2.2) f60_0
 simp only [inK] at q60_0_0 q60_0_1
 have q60_0_r2:=q60_0_2.rm
 refine VD.inv _ (fun _ h=>h.parts (i:=160) rfl q60_0_S [161]) ?_
 refine VD.bsl (cs:=[.int .i64 (d1.1),.int .i64 (d1.2.1),.slice q60_0_A2 (d1.2.2.length) (q60_0_c2)]) 163 rfl rfl rfl Z3 X6 rfl rfl (fun _ h=>h.sub [159,157,129,124,102,0]) (fun g62=>?_)
 refine VD.appO (e:=ZL) 158 161 163 rfl rfl rfl rfl Z3 X6 rfl rfl rfl rfl q56_2 (show Ow ZL _ _ d1 from (ZC d1.1 d1.2.1 d1.2.2 (Qu.one (Qb _)) (by simp only [inK];(exact JS)) (by simp only [inK];(exact JS)) q60_0_2)) Tryz.underlying43 (Qa rfl rfl) (by simp only [maxLen];(exact JS)) JS (by decide) (fun _ _ h=>h.sub [159,157,129,124,102,0]) (fun v64 m64 ho64=>?_)
 obtain ⟨A64,c64,rfl,l64,k64⟩:=ho64.slc
 refine VD.nil rfl ?_ rfl
 refine VO.z (.nilp rfl) (VO.z (.fa rfl QaJ rfl) ?_)
 refine VO.store (k:=1) (c':=[.pointer (some ⟨gd_,0,none⟩),.bool br_,.slice A64 ((l_++[d1]).length) (c64)]) 159 rfl rfl (.inr ⟨Qhk,rfl⟩) rfl rfl rfl rfl rfl ?_
 refine VO.clsP 165 [159,157,158] rfl (fun hg65=>(Jj _ _ _ hg65 q56_0 ho64)) (fun mc65 ho65=>?_)
 refine VO.nil (Qj (VC.rs (VO.as (VO.nil (VC.ret ?_)))))
 exact ZA 4 165 rfl ho65 (by first | rfl | exact Jt) (by first | rfl | exact Jt)
 refine VC.skip (Qj (VC.seq (VC.rs (VO.mv (VO.z (.neq rfl rfl) (VO.nil ?_))))))
 refine VC.condKT rfl (decide_eq_true hc41) ?_
 refine VC.rs (VO.mv (VO.z (.nilp rfl) (VO.z (.fa rfl QaJ rfl) ?_)))
 obtain ⟨q66_E,q66_A2,q66_c2,q66_n0,q66_n2,_,q66_S,q66_0,q66_2⟩:=Ja (x0:=(gd_,(Q7 D_ 2 ((QZ [] ((Qh d1).1)).1)).1)) (x1:=br_) (x2:=l_) ho40
 dsimp only at q66_0
 have q66_r2:=q66_2.rm
 refine VO.inv _ (fun _ h=>h.parts (i:=140) rfl q66_S [169,167,168]) ?_
 refine VO.store (k:=1) (c':=[.pointer (some ⟨gd_,0,none⟩),.bool true,.slice q66_A2 (l_.length) (q66_c2)]) 169 rfl rfl (.inr ⟨tk4,rfl⟩) rfl rfl rfl rfl rfl ?_
 refine VO.clsP 170 [169,167,168] rfl (fun hg70=>(Jj _ _ _ hg70 q66_0 q66_2)) (fun mc70 ho70=>?_)
 refine VO.p5 170 129 124 102 0 (VO.nil (VC.rs (VO.mv (VO.as (VO.nil (VC.ret (QS ?_)))))))
 exact ZA 4 170 rfl ho70 (by first | rfl | exact Jt) (by first | rfl | exact Jt)
 exact absurd (by rw [Qbc Qd]) hc32
theorem QdP (W:World) {m0:Mem} (hm:mle (m0) (wm W)) {g0:Nat} {d0:QG} (h0:Ow (.ptr Qy) m0 [.pointer (some ⟨g0,0,none⟩)] (g0,d0)) (e0:okD d0) (e1:wD d0+200000≤1000000000000) (e2:(JL d0).2=0):Qg Tryz.prog 15 [.pointer (some ⟨g0,0,none⟩)] W (m0) (fun v m'=>∃ (s0:Nat),v= .tuple #[.pointer (some ⟨s0,0,none⟩),.int .i64 (0)]∧Ow (.ptr ZI) m' [.pointer (some ⟨s0,0,none⟩)] (s0,((g0,(JL d0).1),false,(Yg (Je d0 2).1).1))):=by
 refine Qg.ofB (n:=42) hm Tryz.func15 rfl rfl rfl ?_
 refine VC.rs (VO.as (VO.as (VO.k3 0 2 3 (VC.rs (VO.mv ?_)))))
 refine VO.call 1 rfl Qnd rfl rfl (fun W hW=>Qi4 W (hW.t 1) h0 2 bdk Qd bd) (fun v1 m1 hv1=>?_)
 obtain ⟨s1_0,p1_0,p1_1,rfl,hS1,f1_0,w1_0⟩:=hv1
 refine VO.inv _ (fun _ h=>h.parts (i:=1) rfl hS1 [102,103]) ?_
 have hfa4:=(QgG d0 2)
 obtain ⟨A1_0,c1_0,eq1_0,l1_0,k1_0⟩:=f1_0.slc
 subst eq1_0
 refine VO.mv (VO.z (.ext rfl rfl) (VO.z (.ext rfl rfl) (VO.as (VO.as (VO.k5 0 2 3 4 5 (VC.seq (VC.rs (VO.mv (VO.z (.neq rfl rfl) (VO.p3 102 103 0 (VO.k6 0 2 3 4 5 16 ?_)))))))))))
 refine VC.cond rfl (fun hc5=>?_) (fun hc5=>?_)
 rw [Qaq hc5] at e2;exact absurd e2 hc5
 refine VC.skip (Qj (VC.rs (VO.mv ?_)))
 refine VO.callN 106 rfl Qnc rfl (fun W hW=>Qii W (Ow.rd f1_0 (hW.t 102)) bd) (fun v6 m6 hv6=>?_)
 obtain ⟨s6_0,rfl,f6_0⟩:=hv6
 have hfa7:=YP ((Je d0 2).1)
 obtain ⟨A6_0,c6_0,eq6_0,l6_0,k6_0⟩:=f6_0.slc
 subst eq6_0
 refine VO.mv (VO.z (.ext rfl rfl) (VO.z (.ext rfl rfl) (VO.as (VO.as (VO.k8 0 2 3 4 5 6 7 16 (VC.seq (VC.rs (VO.mv (VO.mv (VO.z (.lenS rfl Q0) (VO.z (.lss rfl rfl) ?_)))))))))))
 refine VO.k9 0 2 3 4 5 6 7 16 26 ?_
 refine VC.cond rfl (fun hc8=>?_) (fun hc8=>?_)
 refine VC.seq (VC.rs (VO.mv (VO.mv ?_)))
 refine VO.call 103 rfl Qnb rfl rfl (fun W hW=>Qlu W (hW.t 103) w1_0 2 bdk ((Yg ((Je d0 2).1)).2) bdk Qd bd) (fun v9 m9 hv9=>?_)
 obtain ⟨rfl,w9_0⟩:=hv9
 have hfa10:=(Qbe (f:=2) (n:=((Yg ((Je d0 2).1)).2)) (show okD d0 by assumption))
 have hfa11:=(QmD (f:=2) (n:=((Yg ((Je d0 2).1)).2)) (show okD d0 by assumption))
 refine VO.as (VO.p4 103 106 102 0 (VO.k10 0 2 3 4 5 6 7 8 16 26 (VC.rs (VO.mv (VO.z (.neq rfl rfl) (VO.k11 0 2 3 4 5 6 7 8 16 26 31 ?_))))))
 refine VC.cond rfl (fun hc12=>?_) (fun hc12=>?_)
 rw [YR Qd Qd hc12] at e2;exact absurd e2 hc12
 refine VC.skip (Qj (VC.rs (VO.mv ?_)))
 refine VO.call 103 rfl Qk3 rfl rfl (fun W hW=>Qgd W (hW.t 103) w9_0 Qd bd) (fun v13 m13 hv13=>?_)
 obtain ⟨rfl,w13_0⟩:=hv13
 have hfa14:=(QbF (show okD ((Xe d0 2 ((Yg ((Je d0 2).1)).2)).1) by assumption))
 have hfa15:=(QeQ (show okD ((Xe d0 2 ((Yg ((Je d0 2).1)).2)).1) by assumption))
 refine VO.as (VO.k12 0 2 3 4 5 6 7 8 9 16 26 31 (VC.rs (VO.mv (VO.z (.neq rfl rfl) (VO.p4 103 106 102 0 (VO.nil ?_))))))
 refine VC.cond rfl (fun hc16=>?_) (fun hc16=>?_)
 rw [Xh Qd Qd Qd] at e2;exact absurd e2 hc16
 ·refine VC.skip (Qj (VC.rs (VO.mv (VO.mv ?_))))
  refine VO.z (.bst (cs:=[.pointer (some ⟨g0,0,none⟩),.bool false,.slice A6_0 (((Yg ((Je d0 2).1)).1).length) (c6_0)]) rfl QaJ tz80 rfl) ?_
  refine VO.box (cs:=[.pointer (some ⟨g0,0,none⟩),.bool false,.slice A6_0 (((Yg ((Je d0 2).1)).1).length) (c6_0)]) 118 rfl rfl rfl (fun g17=>?_)
  refine VO.as (VO.as (VO.nil (VC.ret ?_)))
  refine Qby 2 3 [118,103,106] fun hS_=>?_
  dsimp only [Qv]
  have he0:(((g0,(JL d0).1),false,(Yg (Je d0 2).1).1):Qaj)=((g0,(Zx ((Xe d0 2 ((Yg ((Je d0 2).1)).2)).1)).1),false,(Yg ((Je d0 2).1)).1):=by first | rfl | (first | (rw [Qaq Qd] <;> first | rfl | done) | (rw [Xg Qd Qd] <;> first | rfl | done) | (rw [YR Qd Qd Qd] <;> first | rfl | done) | (rw [Xh Qd Qd Qd] <;> first | rfl | done))
  refine ⟨g17,?_,?_⟩
  rotate_left
  ·rw [he0];exact (Jj _ _ _ hS_ w13_0 f6_0)
  all_goals (first | rfl | (first | (rw [Qaq Qd] <;> first | rfl | done) | (rw [Xg Qd Qd] <;> first | rfl | done) | (rw [YR Qd Qd Qd] <;> first | rfl | done) | (rw [Xh Qd Qd Qd] <;> first | rfl | done)))
 ·refine VC.skip (Qj (VC.rs (VO.mv (VO.mv ?_))))
  refine VO.z (.bst (cs:=[.pointer (some ⟨g0,0,none⟩),.bool false,.slice A6_0 (((Yg ((Je d0 2).1)).1).length) (c6_0)]) rfl QaJ tz80 rfl) ?_
  refine VO.box (cs:=[.pointer (some ⟨g0,0,none⟩),.bool false,.slice A6_0 (((Yg ((Je d0 2).1)).1).length) (c6_0)]) 120 rfl rfl rfl (fun g19=>?_)
  refine VO.as (VO.as (VO.p5 120 106 102 103 0 (VO.k9 0 2 3 4 5 6 7 16 26 (VC.ret ?_))))
  refine Qby 2 3 [120,103,106] fun hS_=>?_
  dsimp only [Qv]
  have he0:(((g0,(JL d0).1),false,(Yg (Je d0 2).1).1):Qaj)=((g0,d0),false,(Yg ((Je d0 2).1)).1):=by first | rfl | (first | (rw [Qaq Qd] <;> first | rfl | done) | (rw [Xg Qd Qd] <;> first | rfl | done) | (rw [YR Qd Qd Qd] <;> first | rfl | done) | (rw [Xh Qd Qd Qd] <;> first | rfl | done))
  refine ⟨g19,?_,?_⟩
  rotate_left
  ·rw [he0];exact (Jj _ _ _ hS_ w1_0 f6_0)
  all_goals (first | rfl | (first | (rw [Qaq Qd] <;> first | rfl | done) | (rw [Xg Qd Qd] <;> first | rfl | done) | (rw [YR Qd Qd Qd] <;> first | rfl | done) | (rw [Xh Qd Qd Qd] <;> first | rfl | done)))
theorem Yd {P:Prop} (h:P:=by first | (rw [Qaq (by assumption)] <;> first | rfl | done) | (rw [Xg (by assumption) (by assumption)] <;> first | rfl | done) | (rw [YR (by assumption) (by assumption) (by assumption)] <;> first | rfl | done) | (rw [Xh (by assumption) (by assumption) (by assumption)] <;> first | rfl | done)):P:=h
theorem QjV (W:World) {m0:Mem} (hm:mle (m0) (wm W)) {g0:Nat} {d0:QG} (h0:Ow (.ptr Qy) m0 [.pointer (some ⟨g0,0,none⟩)] (g0,d0)) (e0:okD d0) (e1:wD d0+200000≤1000000000000) (e2:¬ (JL d0).2=0):Qg Tryz.prog 15 [.pointer (some ⟨g0,0,none⟩)] W (m0) (fun v m'=>v= .tuple #[.pointer none,.int .i64 ((JL d0).2)]∧Ow (.ptr Qy) m' [.pointer (some ⟨g0,0,none⟩)] (g0,(JL d0).1)):=by
 refine Qg.ofB (n:=42) hm Tryz.func15 rfl rfl rfl ?_
 refine VC.rs (VO.as (VO.as (VO.k3 0 2 3 (VC.rs (VO.mv ?_)))))
 refine VO.call 1 rfl Qnd rfl rfl (fun W hW=>Qi4 W (hW.t 1) h0 2 bdk Qd bd) (fun v1 m1 hv1=>?_)
 obtain ⟨s1_0,p1_0,p1_1,rfl,hS1,f1_0,w1_0⟩:=hv1
 refine VO.inv _ (fun _ h=>h.parts (i:=1) rfl hS1 [102,103]) ?_
 have hfa4:=(QgG d0 2)
 obtain ⟨A1_0,c1_0,eq1_0,l1_0,k1_0⟩:=f1_0.slc
 subst eq1_0
 refine VO.mv (VO.z (.ext rfl rfl) (VO.z (.ext rfl rfl) (VO.as (VO.as (VO.k5 0 2 3 4 5 (VC.seq (VC.rs (VO.mv (VO.z (.neq rfl rfl) (VO.p3 102 103 0 (VO.k6 0 2 3 4 5 16 ?_)))))))))))
 refine VC.cond rfl (fun hc5=>?_) (fun hc5=>?_)
 refine VC.rs (VO.mv (VO.as (VO.as (VO.k6 0 2 3 4 5 16 (VC.ret (QS ?_))))))
 refine Qby 2 3 [103] fun hS_=>?_
 dsimp only [Qv]
 exact ⟨(by first | rfl | exact Yd),(Ow.cgP (Ow.up w1_0 (hS_.1 _ (.head _))) (by first | rfl | exact Yd))⟩
 refine VC.skip (Qj (VC.rs (VO.mv ?_)))
 refine VO.callN 106 rfl Qnc rfl (fun W hW=>Qii W (Ow.rd f1_0 (hW.t 102)) bd) (fun v6 m6 hv6=>?_)
 obtain ⟨s6_0,rfl,f6_0⟩:=hv6
 have hfa7:=YP ((Je d0 2).1)
 obtain ⟨A6_0,c6_0,eq6_0,l6_0,k6_0⟩:=f6_0.slc
 subst eq6_0
 refine VO.mv (VO.z (.ext rfl rfl) (VO.z (.ext rfl rfl) (VO.as (VO.as (VO.k8 0 2 3 4 5 6 7 16 (VC.seq (VC.rs (VO.mv (VO.mv (VO.z (.lenS rfl Q0) (VO.z (.lss rfl rfl) ?_)))))))))))
 refine VO.k9 0 2 3 4 5 6 7 16 26 ?_
 refine VC.cond rfl (fun hc8=>?_) (fun hc8=>?_)
 refine VC.seq (VC.rs (VO.mv (VO.mv ?_)))
 refine VO.call 103 rfl Qnb rfl rfl (fun W hW=>Qlu W (hW.t 103) w1_0 2 bdk ((Yg ((Je d0 2).1)).2) bdk Qd bd) (fun v9 m9 hv9=>?_)
 obtain ⟨rfl,w9_0⟩:=hv9
 have hfa10:=(Qbe (f:=2) (n:=((Yg ((Je d0 2).1)).2)) (show okD d0 by assumption))
 have hfa11:=(QmD (f:=2) (n:=((Yg ((Je d0 2).1)).2)) (show okD d0 by assumption))
 refine VO.as (VO.p4 103 106 102 0 (VO.k10 0 2 3 4 5 6 7 8 16 26 (VC.rs (VO.mv (VO.z (.neq rfl rfl) (VO.k11 0 2 3 4 5 6 7 8 16 26 31 ?_))))))
 refine VC.cond rfl (fun hc12=>?_) (fun hc12=>?_)
 refine VC.rs (VO.mv (VO.as (VO.as (VO.k11 0 2 3 4 5 6 7 8 16 26 31 (VC.ret (QS (QS ?_)))))))
 refine Qby 2 3 [103] fun hS_=>?_
 dsimp only [Qv]
 exact ⟨(by first | rfl | exact Yd),(Ow.cgP (Ow.up w9_0 (hS_.1 _ (.head _))) (by first | rfl | exact Yd))⟩
 refine VC.skip (Qj (VC.rs (VO.mv ?_)))
 refine VO.call 103 rfl Qk3 rfl rfl (fun W hW=>Qgd W (hW.t 103) w9_0 Qd bd) (fun v13 m13 hv13=>?_)
 obtain ⟨rfl,w13_0⟩:=hv13
 have hfa14:=(QbF (show okD ((Xe d0 2 ((Yg ((Je d0 2).1)).2)).1) by assumption))
 have hfa15:=(QeQ (show okD ((Xe d0 2 ((Yg ((Je d0 2).1)).2)).1) by assumption))
 refine VO.as (VO.k12 0 2 3 4 5 6 7 8 9 16 26 31 (VC.rs (VO.mv (VO.z (.neq rfl rfl) (VO.p4 103 106 102 0 (VO.nil ?_))))))
 refine VC.cond rfl (fun hc16=>?_) (fun hc16=>?_)
 refine VC.rs (VO.mv (VO.as (VO.as (VO.nil (VC.ret (QS ?_))))))
 refine Qby 2 3 [103] fun hS_=>?_
 dsimp only [Qv]
 exact ⟨(by first | rfl | exact Yd),(Ow.cgP (Ow.up w13_0 (hS_.1 _ (.head _))) (by first | rfl | exact Yd))⟩
 rw [Xh Qd Qd Qd] at e2;exact absurd (Decidable.not_not.1 hc16) e2
 rw [Xg Qd hc8] at e2;exact absurd rfl e2
end Go.Proofs.YtgmdjhdgaddigaaGreat
