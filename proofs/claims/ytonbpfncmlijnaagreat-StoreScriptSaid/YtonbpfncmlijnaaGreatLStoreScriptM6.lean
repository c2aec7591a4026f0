/- Part 6 of the proof of LStoreScript: what it needs of the library, the walks and the plain laws. Conditions: those named in each theorem. -/
import Derived.Test.YtonbpfncmlijnaaGreatLStoreScriptM5
set_option linter.unusedVariables false
set_option linter.unusedSimpArgs false
set_option maxRecDepth 4000
namespace Go.Proofs.YtonbpfncmlijnaaGreat
theorem Qna:JE Tryz.prog 110=true:=by kernel_rfl
theorem QqW:JE Tryz.prog 148=true:=by kernel_rfl
theorem QqV:JE Tryz.prog 149=true:=by kernel_rfl
theorem QqU:JE Tryz.prog 150=true:=by kernel_rfl
theorem QqT:JE Tryz.prog 151=true:=by kernel_rfl
theorem Qij:JE Tryz.prog 67=true:=by kernel_rfl
theorem tk70:tk Tryz.prog 70=some none:=by kernel_rfl
theorem JC {P:Prop} (h:P:=by first | (rw [xf_br (by assumption)] <;> first | rfl | (rw [Zf];done) | done) | (rw [xf_off (by assumption)] <;> first | rfl | (rw [Zf];done) | done) | (rw [xf_enc e1 (by assumption) (by assumption) (by assumption)] <;> first | rfl | (rw [Zf];done) | done) | (rw [QnK e1 (by assumption) (by assumption) (by assumption) (by assumption)] <;> first | rfl | (rw [Zf];done) | done) | (rw [QnJ e1 (by assumption) (by assumption) (by assumption) (by assumption) (by assumption)] <;> first | rfl | (rw [Zf];done) | done) | (rw [(QiB e1 (by assumption) (by assumption) e0 (by assumption) (by assumption) (by assumption) (by assumption)).2.2,(QiB e1 (by assumption) (by assumption) e0 (by assumption) (by assumption) (by assumption) (by assumption)).1] <;> first | rfl | done) | (rw [(QiB e1 (by assumption) (by assumption) e0 (by assumption) (by assumption) (by assumption) (by assumption)).2.1] <;> first | rfl | done) | (rw [(QiC e1 (by assumption) (by assumption) e0 (by assumption) (by assumption) (by assumption) (by assumption)).2.2,(QiC e1 (by assumption) (by assumption) e0 (by assumption) (by assumption) (by assumption) (by assumption)).1] <;> first | rfl | done) | (rw [(QiC e1 (by assumption) (by assumption) e0 (by assumption) (by assumption) (by assumption) (by assumption)).2.1] <;> first | rfl | done)):P:=h
theorem Zx {P:Prop} (h:P:=by first | exact bd | (have h_:=JP (QaK ‹¬ ¬ (Qq d1).2=0›).1;omega) | (have h_:=Qki ‹¬ ¬ (Qq d1).2=0›;omega) | (have h_:=write_rng (Qk R_) 2 (Jg [] (Qq d1).1).1;omega)):P:=h
theorem Xt {k:IntKind} {x:Int} (h:inK k x:=by simp only [inK];exact Zx):inK k x:=h
set_option maxHeartbeats 4000000 in
theorem Qlp (W:World) {br_:Bool} {l_:List Jv} {R_:QD} {gr_:Nat} {m0:Mem} (hm:mle (m0) (wm W)) {g0:Nat} (h0:Ow (.ptr JB) m0 [Vp g0] (g0,(true,(gr_,R_),l_,br_))) {v1:List Value} {d1:Jv} (h1:Rd YB (Ju (wm W) (m0)) v1 d1) (e0:okR R_) (e1:R_.1=true) (e2:wD (Qk R_)+400000≤1000000000000) (e3:okU l_):Qc Tryz.prog 118 [Vp g0,.agg v1.toArray] W (m0) (fun v m'=>v= .int .i64 ((QJ (Qk R_) br_ l_ d1).2)∧Ow (.ptr JB) m' [Vp g0] (g0,(true,(gr_,toR (QJ (Qk R_) br_ l_ d1).1.1 R_.2.2.2.2.2.1),(QJ (Qk R_) br_ l_ d1).1.2.2,(QJ (Qk R_) br_ l_ d1).1.2.1))):=by
 have hll:=Za e3
 obtain ⟨p1_A2,p1_c2,rfl,p1_0,p1_1,p1_2⟩:=ZX (x0:=d1.1) (x1:=d1.2.1) (x2:=d1.2.2) h1
 simp only [inK] at p1_0 p1_1
 refine Qc.ofB (n:=74) hm Tryz.func118 rfl rfl rfl ?_
 refine VC.rs ?_
 refine VO.box (cs:=[.int .i64 (d1.1),.int .i64 (d1.2.1),.slice p1_A2 (d1.2.2.length) (p1_c2)]) 102 rfl rfl rfl (fun g1=>?_)
 refine VO.as (VO.k4 0 1 3 4 (VC.seq (VC.rs (VO.mv ?_))))
 refine VO.call 1 rfl Qjk rfl rfl (fun W hW=>QgI W (hW.t 1) h0) (fun v3 m3 hv3=>?_)
 try dsimp only at hv3
 obtain ⟨rfl,w3_0⟩:=hv3
 refine VO.k5 0 1 3 4 8 ?_
 refine VC.cond rfl (fun hc4=>?_) (fun hc4=>?_)
 exact hc4.elim
 refine VC.skip (Qg (VC.seq (VC.rs (VO.mv (VO.z (.nilp rfl) (VO.z (.fa rfl Xo rfl) ?_))))))
 obtain ⟨q5_E,q5_A2,q5_c2,q5_n1,q5_n2,_,q5_S,q5_1,q5_2⟩:=Ja (x0:=true) (x1:=(gr_,R_)) (x2:=l_) (x3:=br_) w3_0
 dsimp only at q5_1
 refine VO.inv _ (fun _ h=>h.parts (i:=1) rfl q5_S [108,106,107]) ?_
 refine VO.z (.ld1 108 rfl tk4 rfl (Qa rfl rfl)) (VO.mv ?_)
 refine VO.decB (t:=13) rfl (fun hc9=>?_) (fun hc9=>?_)
 refine VO.gN (VO.gN (VO.gN (VO.gN (VO.gN (VO.gN (VO.gN (VO.gN (VO.z (.pT rfl rfl) ?_))))))))
 refine VO.clsP 110 [108,106,107] rfl (fun hg10=>(Jd _ _ _ _ hg10 q5_1 q5_2)) (fun mc10 ho10=>?_)
 refine VO.p3 110 102 0 (VO.k6 0 1 3 4 8 22 (VC.condT rfl (VC.rs (VO.mv (VO.z (.nilp rfl) (VO.z (.fa rfl Xo rfl) ?_))))))
 obtain ⟨q11_E,q11_A2,q11_c2,q11_n1,q11_n2,_,q11_S,q11_1,q11_2⟩:=Ja (x0:=true) (x1:=(gr_,R_)) (x2:=l_) (x3:=br_) ho10
 dsimp only at q11_1
 refine VO.inv _ (fun _ h=>h.parts (i:=110) rfl q11_S [114,112,113]) ?_
 refine VO.store (k:=1) (c':=[.bool true,Vp gr_,.slice q11_A2 (l_.length) (q11_c2),.bool true]) 114 rfl rfl (.inr ⟨tk4,rfl⟩) rfl rfl rfl rfl rfl ?_
 refine VO.clsP 115 [114,112,113] rfl (fun hg15=>(Jd _ _ _ _ hg15 q11_1 q11_2)) (fun mc15 ho15=>?_)
 refine VO.k6 0 1 3 4 8 22 (VC.rs (VO.as (VO.k6 0 1 3 4 8 22 (VC.ret (QK ?_)))))
 exact ZD 4 115 rfl ho15 (by first | rfl | exact JC) (by first | rfl | exact JC)
 refine VO.w (.mv rfl) (VO.w (.nilp rfl) (VO.w (.fa rfl Xo rfl) (VO.w (.ld1 108 rfl tk70 rfl (Qa rfl rfl)) (VO.w (.nilp rfl) (VO.w (.fa rfl Zt rfl) ?_)))))
 obtain ⟨q16_E,q16_A1,q16_c1,q16_A2,q16_c2,q16_A3,q16_c3,q16_A4,q16_c4,q16_A5,q16_c5,q16_n1,q16_n2,q16_n3,q16_n4,q16_n5,_,q16_S,q16_1,q16_2,q16_3,q16_4,q16_5,q16_8,q16_9⟩:=QB q5_1
 simp only [inK] at q16_8 q16_9
 refine VO.inv _ (fun _ h=>h.parts (i:=106) rfl q16_S [122,117,118,119,120,121]) ?_
 refine VO.w (.ld1 122 rfl tk4 rfl (Qa rfl rfl)) (VO.w (.not rfl) (VO.z (.pF rfl rfl) ?_))
 refine VO.clsP 123 [122,117,118,119,120,121] rfl (fun hg23=>(Ji R_ hg23 q16_1 q16_2 q16_3 q16_4 q16_5 Xt Xt)) (fun mc23 ho23=>?_)
 refine VO.clsP 124 [108,123,107] rfl (fun hg24=>(Jd _ _ _ _ hg24 ho23 q5_2)) (fun mc24 ho24=>?_)
 refine VO.p3 124 102 0 (VO.k6 0 1 3 4 8 22 ?_)
 refine VC.condBN rfl (fun hc25=>?_) (fun hc25=>?_)
 refine VC.rs (VO.mv (VO.z (.nilp rfl) (VO.z (.fa rfl Xo rfl) ?_)))
 obtain ⟨q26_E,q26_A2,q26_c2,q26_n1,q26_n2,_,q26_S,q26_1,q26_2⟩:=Ja (x0:=true) (x1:=(gr_,R_)) (x2:=l_) (x3:=br_) ho24
 dsimp only at q26_1
 refine VO.inv _ (fun _ h=>h.parts (i:=124) rfl q26_S [129,127,128]) ?_
 refine VO.store (k:=1) (c':=[.bool true,Vp gr_,.slice q26_A2 (l_.length) (q26_c2),.bool true]) 129 rfl rfl (.inr ⟨tk4,rfl⟩) rfl rfl rfl rfl rfl ?_
 refine VO.clsP 130 [129,127,128] rfl (fun hg30=>(Jd _ _ _ _ hg30 q26_1 q26_2)) (fun mc30 ho30=>?_)
 refine VO.k6 0 1 3 4 8 22 (VC.rs (VO.as (VO.k6 0 1 3 4 8 22 (VC.ret (QK ?_)))))
 exact ZD 4 130 rfl ho30 (by first | rfl | exact JC) (by first | rfl | exact JC)
 refine VC.skip (Qg (VC.rs (VO.z (.ldA 102 rfl XI rfl (Qa rfl rfl)) ?_)))
 refine VO.callN 131 rfl QqW rfl (fun W hW=>Qi2 W (Rd.mono h1 (hW.t 0))) (fun v31 m31 hv31=>?_)
 obtain ⟨s31_0,rfl,f31_0⟩:=hv31
 obtain ⟨A31_0,c31_0,eq31_0,l31_0,k31_0⟩:=f31_0.slc
 subst eq31_0
 refine VO.mv (VO.z (.ext rfl rfl) (VO.z (.ext rfl rfl) (VO.as (VO.as (VO.k8 0 1 3 4 5 6 8 22 (VC.seq (VC.rs (VO.mv (VO.z (.neq rfl rfl) (VO.k9 0 1 3 4 5 6 8 22 32 ?_))))))))))
 refine VC.cond rfl (fun hc33=>?_) (fun hc33=>?_)
 refine VC.rs (VO.mv (VO.as (VO.p4 131 124 102 0 (VO.k9 0 1 3 4 5 6 8 22 32 (VC.ret (QK ?_))))))
 exact ZD 4 124 rfl ho24 (by first | rfl | exact JC) (by first | rfl | exact JC)
 refine VC.skip (Qg (VC.seq (VC.seq ?_)))
 refine VC.regD _ 5 [(0,true),(1,true),(2,true),(3,true),(4,false)] follows (by kernel_rfl) (fun _ h=>h.sub [131,102,0]) ?_
 refine VD.z rfl (.fa rfl J2 rfl) (VD.z rfl (.ld1 102 rfl tk3 rfl (Qa rfl rfl)) ?_)
 refine VD.z rfl (.sub rfl rfl rfl ⟨by exact Zx,by exact Zx⟩) ?_
 refine VD.z rfl (.mv rfl) ?_
 refine VD.call 124 rfl rfl (.inl rfl) Qij rfl rfl (fun _ _ h=>h.sub [131,102,0]) (fun W hW=>QeF W (hW.t 124) ho24 Qf) (fun v34 m34 hv34=>?_)
 try dsimp only at hv34
 obtain ⟨rfl,w34_0⟩:=hv34
 refine VD.nil rfl ?_ rfl
 refine VO.z (.neq rfl rfl) (VO.p4 124 131 102 0 (VO.k10 0 1 3 4 5 6 8 22 32 39 (Qg ?_)))
 refine VC.cond rfl (fun hc35=>?_) (fun hc35=>?_)
 refine VC.rs (VO.as (VO.k10 0 1 3 4 5 6 8 22 32 39 (VC.ret (QK ?_))))
 exact ZD 4 124 rfl w34_0 (by first | rfl | exact JC) (by first | rfl | exact JC)
 refine VC.skip (Qg (VC.rs (VO.mv ?_)))
 refine VO.callN 136 rfl QqV rfl (fun W hW=>Qjn W (Rd.nil _ _ none 0 (Nat.zero_le _)) (Ow.rd f31_0 (hW.t 131)) Zx) (fun v36 m36 hv36=>?_)
 obtain ⟨s36_0,rfl,f36_0⟩:=hv36
 have hfa37:=Qjm [] ((Qq d1).1)
 obtain ⟨A36_0,c36_0,eq36_0,l36_0,k36_0⟩:=f36_0.slc
 subst eq36_0
 refine VO.mv (VO.z (.ext rfl rfl) (VO.z (.ext rfl rfl) (VO.as (VO.k10 0 1 3 4 5 6 8 22 32 39 (VC.seq (VC.rs (VO.mv (VO.z (.nilp rfl) (VO.z (.fa rfl Xo rfl) ?_)))))))))
 obtain ⟨q39_E,q39_A2,q39_c2,q39_n1,q39_n2,_,q39_S,q39_1,q39_2⟩:=Ja (x0:=true) (x1:=(gr_,R_)) (x2:=l_) (x3:=br_) w34_0
 dsimp only at q39_1
 refine VO.inv _ (fun _ h=>h.parts (i:=124) rfl q39_S [142,140,141]) ?_
 refine VO.z (.ld1 142 rfl tk70 rfl (Qa rfl rfl)) (VO.mv ?_)
 refine VO.call 140 rfl QqU rfl rfl (fun W hW=>Qme W (hW.t 140) q39_1 2 Xt (Ow.rd f36_0 (hW.o 140 136)) Qf Zx) (fun v43 m43 hv43=>?_)
 obtain ⟨rfl,w43_0⟩:=hv43
 have hfa44:=(Qoh (f:=2) (b:=((Jg [] ((Qq d1).1)).1)) (show okR R_ by assumption))
 have hfa45:=(Qog (f:=2) (b:=((Jg [] ((Qq d1).1)).1)) (show okR R_ by assumption))
 refine VO.z (.neq rfl rfl) (VO.mv ?_)
 refine VO.dec (t:=52) rfl (fun hc46=>?_) (fun hc46=>?_)
 refine VO.gN (VO.gN (VO.gN (VO.gN (VO.gN (VO.gN (VO.z (.pT rfl rfl) ?_))))))
 refine VO.clsP 147 [142,140,141] rfl (fun hg47=>(Jd _ _ _ _ hg47 w43_0 q39_2)) (fun mc47 ho47=>?_)
 refine VO.k11 0 1 3 4 5 6 8 22 32 39 59 (VC.condT rfl (VC.rs (VO.mv (VO.z (.nilp rfl) (VO.z (.fa rfl Xo rfl) ?_)))))
 obtain ⟨q48_E,q48_A2,q48_c2,q48_n1,q48_n2,_,q48_S,q48_1,q48_2⟩:=Ja (x0:=true) (x1:=(gr_,toR (Q7 (Qk R_) 2 ((Jg [] ((Qq d1).1)).1)).1 R_.2.2.2.2.2.1)) (x2:=l_) (x3:=br_) ho47
 dsimp only at q48_1
 refine VO.inv _ (fun _ h=>h.parts (i:=147) rfl q48_S [151,149,150]) ?_
 refine VO.store (k:=1) (c':=[.bool true,Vp gr_,.slice q48_A2 (l_.length) (q48_c2),.bool true]) 151 rfl rfl (.inr ⟨tk4,rfl⟩) rfl rfl rfl rfl rfl ?_
 refine VO.clsP 152 [151,149,150] rfl (fun hg52=>(Jd _ _ _ _ hg52 q48_1 q48_2)) (fun mc52 ho52=>?_)
 refine VO.p4 152 136 102 0 (VO.k11 0 1 3 4 5 6 8 22 32 39 59 (VC.rs (VO.as (VO.k11 0 1 3 4 5 6 8 22 32 39 59 (VC.ret (QK ?_))))))
 exact ZD 4 152 rfl ho52 (by first | rfl | exact JC) (by first | rfl | exact JC)
 refine VO.w (.mv rfl) (VO.w (.nilp rfl) (VO.w (.fa rfl Xo rfl) (VO.w (.ld1 142 rfl tk70 rfl (Qa rfl rfl)) ?_)))
 refine VO.gcall 140 rfl ⟨_,rfl,rfl⟩ Qna rfl rfl (fun W hW=>QjQ W (hW.t 140) w43_0 Qf Zx) (fun v53 m53 hv53=>?_)
 obtain ⟨rfl,w53_0⟩:=hv53
 refine VO.w (.neq rfl rfl) (VO.z (.pF rfl rfl) ?_)
 refine VO.clsP 156 [142,140,141] rfl (fun hg56=>(Jd _ _ _ _ hg56 w53_0 q39_2)) (fun mc56 ho56=>?_)
 refine VO.k11 0 1 3 4 5 6 8 22 32 39 59 ?_
 refine VC.cond rfl (fun hc57=>?_) (fun hc57=>?_)
 refine VC.rs (VO.mv (VO.z (.nilp rfl) (VO.z (.fa rfl Xo rfl) ?_)))
 obtain ⟨q58_E,q58_A2,q58_c2,q58_n1,q58_n2,_,q58_S,q58_1,q58_2⟩:=Ja (x0:=true) (x1:=(gr_,toR (Zh (Qk (toR (Q7 (Qk R_) 2 ((Jg [] ((Qq d1).1)).1)).1 R_.2.2.2.2.2.1))).1 (toR (Q7 (Qk R_) 2 ((Jg [] ((Qq d1).1)).1)).1 R_.2.2.2.2.2.1).2.2.2.2.2.1)) (x2:=l_) (x3:=br_) ho56
 dsimp only at q58_1
 refine VO.inv _ (fun _ h=>h.parts (i:=156) rfl q58_S [161,159,160]) ?_
 refine VO.store (k:=1) (c':=[.bool true,Vp gr_,.slice q58_A2 (l_.length) (q58_c2),.bool true]) 161 rfl rfl (.inr ⟨tk4,rfl⟩) rfl rfl rfl rfl rfl ?_
 refine VO.clsP 162 [161,159,160] rfl (fun hg62=>(Jd _ _ _ _ hg62 q58_1 q58_2)) (fun mc62 ho62=>?_)
 refine VO.p4 162 136 102 0 (VO.k11 0 1 3 4 5 6 8 22 32 39 59 (VC.rs (VO.as (VO.k11 0 1 3 4 5 6 8 22 32 39 59 (VC.ret (QK ?_))))))
 exact ZD 4 162 rfl ho62 (by first | rfl | exact JC) (by first | rfl | exact JC)
 refine VC.skip (Qg (VC.seq ?_))
 obtain ⟨q63_E,q63_A2,q63_c2,q63_n1,q63_n2,_,q63_S,q63_1,q63_2⟩:=Ja (x0:=true) (x1:=(gr_,toR (Zh (Qk (toR (Q7 (Qk R_) 2 ((Jg [] ((Qq d1).1)).1)).1 R_.2.2.2.2.2.1))).1 (toR (Q7 (Qk R_) 2 ((Jg [] ((Qq d1).1)).1)).1 R_.2.2.2.2.2.1).2.2.2.2.2.1)) (x2:=l_) (x3:=br_) ho56
 dsimp only at q63_1
 refine VC.inv _ (fun _ h=>h.parts (i:=156) rfl q63_S [166,164,165]) ?_
 refine VC.regD _ 9 [(0,true),(1,true),(2,true),(3,true),(4,true),(5,true),(6,false),(7,false),(8,false)] follows (by kernel_rfl) (fun _ h=>h.sub [166,164,136,131,102,0]) ?_
 refine VD.z rfl (.mv rfl) (VD.z rfl (.mv rfl) (VD.z rfl (.nilp rfl) (VD.z rfl (.fa rfl Xo rfl) (VD.z rfl (.ld1 166 rfl QhA rfl (Qa rfl rfl)) (VD.z rfl (.ldA 102 rfl XI rfl (Qa rfl rfl)) ?_)))))
 refine VD.callN 167 rfl rfl (.inl rfl) QqT rfl (fun _ h=>h.sub [166,164,136,131,102,0]) (fun W hW=>QnR W (Rd.mono h1 (hW.t 0)) Zx) (fun v67 m67 hv67=>?_)
 obtain ⟨s67_0,rfl,f67_0⟩:=hv67
 obtain ⟨q67_0_A2,q67_0_c2,q67_0_n2,rfl,q67_0_S,q67_0_0,q67_0_1,q67_0_2⟩:=QbQ (x0:=d1.1) (x1:=d1.2.1) (x2:=d1.2.2) f67_0
 simp only [inK] at q67_0_0 q67_0_1
 refine VD.inv _ (fun _ h=>h.parts (i:=167) rfl q67_0_S [168]) ?_
 refine VD.bsl (cs:=[.int .i64 (d1.1),.int .i64 (d1.2.1),.slice q67_0_A2 (d1.2.2.length) (q67_0_c2)]) 170 rfl rfl rfl XH QbA rfl rfl (fun _ h=>h.sub [166,164,136,131,102,0]) (fun g69=>?_)
 refine VD.appO (e:=YB) 165 168 170 rfl rfl rfl rfl XH QbA rfl rfl rfl rfl q63_2 (show Ow YB _ _ d1 from (Yb d1.1 d1.2.1 d1.2.2 (Qt.one (Qb _)) Xt Xt q67_0_2)) Tryz.underlying45 (Qa rfl rfl) (by simp only [maxLen];(exact Zx)) Zx (by decide) (fun _ _ h=>h.sub [166,164,136,131,102,0]) (fun v71 m71 ho71=>?_)
 obtain ⟨A71,c71,rfl,l71,k71⟩:=ho71.slc
 refine VD.nil rfl ?_ rfl
 refine VO.z (.nilp rfl) (VO.z (.fa rfl Xo rfl) ?_)
 refine VO.store (k:=1) (c':=[.bool true,Vp gr_,.slice A71 ((l_++[d1]).length) (c71),.bool br_]) 166 rfl rfl (.inr ⟨QhA,rfl⟩) rfl rfl rfl rfl rfl ?_
 refine VO.clsP 172 [166,164,165] rfl (fun hg72=>(Jd _ _ _ _ hg72 q63_1 ho71)) (fun mc72 ho72=>?_)
 refine VO.p4 172 136 102 0 (VO.k11 0 1 3 4 5 6 8 22 32 39 59 (Qg (VC.rs (VO.as (VO.k11 0 1 3 4 5 6 8 22 32 39 59 (VC.ret ?_))))))
 exact ZD 4 172 rfl ho72 (by first | rfl | exact JC) (by first | rfl | exact JC)
theorem Qrb:JE Tryz.prog 109=true:=by kernel_rfl
theorem fnOk60:JE Tryz.prog 60=true:=by kernel_rfl
theorem fnOk62:JE Tryz.prog 62=true:=by kernel_rfl
theorem tz122:tz Tryz.prog 122=some [.bool false,.pointer none,.slice none 0 0,.bool false]:=by kernel_rfl
theorem QnL (W:World) {m0:Mem} (hm:mle (m0) (wm W)) {g0:Nat} {d0:QD} (h0:Ow (.ptr QH) m0 [Vp g0] (g0,d0)) (d1:Int) (h1:inK .i64 d1) (d2:Int) (h2:inK .i64 d2) (e0:okR d0) (e1:wD (Qk d0)+3000≤1000000000000) (e2:onD (Qk d0)) (e3:inF d1) (e4:0≤d2∧d2≤((Zr d0.2.1 (d0.2.2.1.map JY) d1).length:Int)):Qc Tryz.prog 62 [Vp g0,.int .i64 d1,.int .i64 d2] W (m0) (fun v m'=>v= .int .i64 ((QbI (Qk d0) d1 d2).2)∧Ow (.ptr QH) m' [Vp g0] (g0,toR (QbI (Qk d0) d1 d2).1 d0.2.2.2.2.2.1)):=by
 have h1':=h1;simp only [inK] at h1'
 have h2':=h2;simp only [inK] at h2'
 refine Qc.ofB (n:=23) hm Tryz.func62 rfl rfl rfl ?_
 refine VC.rs (VO.as (VO.k4 0 1 2 6 (VC.seq (VC.rs (VO.mv (VO.mv ?_))))))
 refine VO.call 1 rfl QmU rfl rfl (fun W hW=>Qe1 W (hW.t 1) h0 d1 bdk Qf bd (by first | assumption | exact ⟨by omega,by omega⟩)) (fun v1 m1 hv1=>?_)
 obtain ⟨s1_0,p1_0,p1_1,rfl,hS1,f1_0,w1_0⟩:=hv1
 refine VO.inv _ (fun _ h=>h.parts (i:=1) rfl hS1 [102,103]) ?_
 obtain ⟨A1_0,c1_0,eq1_0,l1_0,k1_0⟩:=f1_0.slc
 subst eq1_0
 refine VO.z (.lenS rfl Jz) (VO.mv (VO.z (.eql rfl rfl) (VO.k5 0 1 2 6 12 ?_)))
 refine VC.cond rfl (fun hc5=>?_) (fun hc5=>?_)
 ·refine VC.rs (VO.as (VO.p2 103 0 (VO.k5 0 1 2 6 12 (VC.ret (QK ?_)))))
  exact ZD 6 103 rfl w1_0 (by first | rfl | (first | exact (Xf Qf).1 | (rw [QbP Qf Qf];done) | exact Qcd e0 Qf Qf)) (by first | rfl | (first | exact congrArg (Value.int _) (Xf Qf).2.symm | exact congrArg (Value.int _) (Qc2 Qf e2 e3 e4 Qf).symm | exact congrArg (Value.int _) (Qce e0 Qf e2 e3 e4 Qf Qf).symm | exact congrArg (Value.int _) (Qel e0 Qf Qf Qf).symm))
 refine VC.skip (Qg (VC.seq (VC.rs (VO.mv (VO.mv (VO.mv ?_))))))
 refine VO.call 103 rfl Qrb rfl rfl (fun W hW=>Qqr W (hW.t 103) w1_0 d1 bdk d2 bdk Qf bd) (fun v6 m6 hv6=>?_)
 obtain ⟨rfl,w6_0⟩:=hv6
 have hfa7:=(ro_cut (f:=d1) (n:=d2) (show okR d0 by assumption))
 have hfa8:=(rw_cut (f:=d1) (n:=d2) (show okR d0 by assumption))
 refine VO.z (.neq rfl rfl) (VO.mv ?_)
 refine VO.dec (t:=18) rfl (fun hc9=>?_) (fun hc9=>?_)
 ·refine VO.gN (VO.gN (VO.gN (VO.z (.pT rfl rfl) (VO.p2 103 0 (VO.k6 0 1 2 6 12 22 (VC.condT rfl (VC.rs (VO.as (VO.k6 0 1 2 6 12 22 (VC.ret (QK ?_)))))))))))
  exact ZD 6 103 rfl w6_0 (by first | rfl | (first | exact (Xf Qf).1 | (rw [QbP Qf Qf];done) | exact Qcd e0 Qf Qf)) (by first | rfl | (first | exact congrArg (Value.int _) (Xf Qf).2.symm | exact congrArg (Value.int _) (Qc2 Qf e2 e3 e4 Qf).symm | exact congrArg (Value.int _) (Qce e0 Qf e2 e3 e4 Qf Qf).symm | exact congrArg (Value.int _) (Qel e0 Qf Qf Qf).symm))
 refine VO.w (.mv rfl) ?_
 refine VO.gcall 103 rfl ⟨_,rfl,rfl⟩ Qna rfl rfl (fun W hW=>QjQ W (hW.t 103) w6_0 Qf bd) (fun v10 m10 hv10=>?_)
 obtain ⟨rfl,w10_0⟩:=hv10
 refine VO.w (.neq rfl rfl) (VO.z (.pF rfl rfl) (VO.p2 103 0 (VO.k6 0 1 2 6 12 22 ?_)))
 refine VC.cond rfl (fun hc13=>?_) (fun hc13=>?_)
 ·refine VC.rs (VO.as (VO.k6 0 1 2 6 12 22 (VC.ret (QK ?_))))
  exact ZD 6 103 rfl w10_0 (by first | rfl | (first | exact (Xf Qf).1 | (rw [QbP Qf Qf];done) | exact Qcd e0 Qf Qf)) (by first | rfl | (first | exact congrArg (Value.int _) (Xf Qf).2.symm | exact congrArg (Value.int _) (Qc2 Qf e2 e3 e4 Qf).symm | exact congrArg (Value.int _) (Qce e0 Qf e2 e3 e4 Qf Qf).symm | exact congrArg (Value.int _) (Qel e0 Qf Qf Qf).symm))
 ·refine VC.skip (Qg (VC.rs (VO.as (VO.k6 0 1 2 6 12 22 (VC.ret ?_)))))
  exact ZD 6 103 rfl w10_0 (by first | rfl | (first | exact (Xf Qf).1 | (rw [QbP Qf Qf];done) | exact Qcd e0 Qf Qf)) (by first | rfl | (first | exact congrArg (Value.int _) (Xf Qf).2.symm | exact congrArg (Value.int _) (Qc2 Qf e2 e3 e4 Qf).symm | exact congrArg (Value.int _) (Qce e0 Qf e2 e3 e4 Qf Qf).symm | exact congrArg (Value.int _) (Qel e0 Qf Qf Qf).symm))
theorem Qb1 (W:World) {v0:List Value} {d0:Qe} (h0:Rd QA (wm W) v0 d0) (e0:d0.2.2.length≤3518437208800):Qc Tryz.prog 114 [.agg v0.toArray] W (mnil) (fun v m'=>∃ (s0:List Value),v= .agg s0.toArray∧Ow QA m' s0 (d0)):=by
 obtain ⟨p0_A2,p0_c2,rfl,p0_0,p0_1,p0_2⟩:=Jc (x0:=d0.1) (x1:=d0.2.1) (x2:=d0.2.2) h0
 simp only [inK] at p0_0 p0_1
 refine Qc.ofA (n:=13) Tryz.func114 rfl rfl rfl ?_
 refine VC.rs ?_
 refine VO.box (cs:=[.int .i64 (d0.1),.int .i64 (d0.2.1),.slice p0_A2 (d0.2.2.length) (p0_c2)]) 102 rfl rfl rfl (fun g1=>?_)
 refine VO.alloc 104 rfl Qba (fun g3=>?_)
 refine VO.k3 0 1 2 (VC.rs (VO.as (VO.k4 0 1 2 3 (VC.seq ?_))))
 refine VC.regD _ 8 [(0,true),(1,true),(2,true),(3,true),(4,true),(5,true),(6,true),(7,false)] follows (by kernel_rfl) (fun _ h=>h.sub [104,102,0]) ?_
 refine VD.z rfl (.fa rfl JV rfl) (VD.z rfl (.ld1 102 rfl tk3 rfl (Qa rfl rfl)) (VD.z rfl (.fa rfl JV rfl) (VD.z rfl (.ld1 102 rfl tk3 rfl (Qa rfl rfl)) (VD.z rfl (.mv rfl) (VD.z rfl (.fa rfl JV rfl) (VD.z rfl (.ld1 102 rfl Jw rfl (Qa rfl rfl)) ?_))))))
 refine VD.inv _ (fun _ h=>h.nilc 106) ?_
 obtain ⟨mo5,cs5,hM5,hA5,hC5⟩:=(Qz.nil TOp mnil mnil)
 obtain ⟨all5,hS5,hR5⟩:=Rd.srcI (P:=Tryz.prog) (p0_2) Tryz.underlying34
 refine VD.app 106 rfl rfl rfl rfl QX YX rfl rfl hM5 hA5 (hS5 _ 0 rfl) hR5.nice bdm bd (by decide) (fun _ _ h=>h.sub [104,102,0]) (fun v5 m5 hN5=>?_)
 have ho5:Qz TOp m5 mnil v5 (d0.2.2):=Qz.more hC5 hN5 (Q8.mono hR5 fun _ _ h=>Rd.flat rfl h _)
 obtain ⟨A5,c5,rfl,l5,k5⟩:=ho5.slc
 refine VD.nil rfl ?_ rfl
 refine VO.z (.bst (cs:=[.int .i64 (d0.1),.int .i64 (d0.2.1),.slice A5 ((d0.2.2).length) (c5)]) rfl JV Qba rfl) ?_
 refine VO.store (k:=3) (c':=[.int .i64 (d0.1),.int .i64 (d0.2.1),.slice A5 ((d0.2.2).length) (c5)]) 104 rfl rfl (.inl XN) rfl rfl rfl rfl rfl ?_
 refine VO.p4 106 104 102 0 (VO.k4 0 1 2 3 (Qg (VC.ret ?_)))
 refine ⟨_,_,QE (rs:=[.cell 2 36]) rfl (.agg 104 rfl XN rfl ⟨_,_,_,Qn _ _,Nat.le_of_ble_eq_true rfl,rfl⟩ .nil),fun W_ hI=>Q2 (l:=[m5]) hI [106] rfl rfl (Qb _) (fun hS_=>?_)⟩
 dsimp only [Qu]
 have he0:(d0:Ty.Den QA)=d0:=by first | rfl | (simp [*];done)
 refine ⟨[.int .i64 (d0.1),.int .i64 (d0.2.1),.slice A5 ((d0.2.2).length) (c5)],?_,?_⟩
 rotate_left
 ·rw [he0];exact (show Ow QA _ _ d0 from (Yr d0.1 d0.2.1 d0.2.2 hS_ bdk bdk (Qz.ow ho5 rfl)))
 all_goals (first | rfl | (simp [*];done))
section
variable {t T : Xm} {l : List Jv} {r : List Qe} {c : Qe} {x o : DOp} {y z ops : List DOp} {q : Qr} {d : QS} {br : Bool} {i : Nat} {u : Int}
theorem QlX (t : Xm) (k : List UInt8) (v : List UInt8 × Bool) : (Qdq t k v).map (·.1) = if k ∈ t.map (·.1) then t.map (·.1) else t.map (·.1) ++ [k] := by
  induction t with
  | nil => rfl
  | cons x t ih =>
    rw [Qdq]
    by_cases hx : x.1 = k
    · rw [if_pos hx, if_pos (by rw [List.map_cons, hx]; exact .head _), List.map_cons, List.map_cons, hx]
    · rw [if_neg hx, List.map_cons, ih, List.map_cons]
      by_cases hk : k ∈ t.map (·.1)
      · rw [if_pos hk, if_pos (List.mem_cons_of_mem _ hk)]
      · rw [if_neg hk, if_neg (fun q => (List.mem_cons.1 q).elim (fun e => hx e.symm) hk)]; rfl
theorem QkH (h:(t.map (·.1)).Nodup) (k:List UInt8) (v:List UInt8 × Bool):((Qdq t k v).map (·.1)).Nodup:=by
 rw [QlX];split
 ·exact h
 ·rename_i hk
  exact List.nodup_append.2 ⟨h,List.nodup_cons.2 ⟨fun q=>(by cases q),List.nodup_nil⟩,fun a ha b hb e=>hk (by rw [List.mem_singleton.1 hb] at e;exact e ▸ ha)⟩
theorem Qbc:∀ (l:List DOp) {t:Xm},(t.map (·.1)).Nodup→((l.foldl Y3 t).map (·.1)).Nodup
 | [],_,h=>h
 | o::l,_,h=>Qbc l (QkH h _ _)
theorem Qo4 (h:∀ o∈ops,Q4 o=0):QfD (ops.foldl Y3 []) (tL (ops.foldl Y3 [])):=by
 have h1:=Qb4 QcW h
 rw [(QiJ (Qbc (t:=[]) ops List.nodup_nil) h1).1];exact h1
theorem Qis : ∀ (ops : List DOp) {t T : Xm} {f : Qr → Option (List UInt8 × Bool)}, (∀ q, YH t q = (YH T q).or (f q)) → ∀ q, YH (ops.foldl Y3 t) q = (YH (ops.foldl Y3 T) q).or (f q)
  | [], _, _, _, h, q => h q
  | o :: ops, t, T, f, h, q => Qis ops (fun q => by
    rw [show Y3 t o = Qdq t o.2.1 (o.2.2, o.1) from rfl, show Y3 T o = Qdq T o.2.1 (o.2.2, o.1) from rfl, Qhb, Qhb]
    split
    · rfl
    · exact h q) q
def QfG (r : List Qe) : List DOp := (r.map (·.2.2)).flatten
def QiH (l : List Jv) : List DOp := (l.map (·.2.2)).flatten
theorem Qhl (h:Q0 c=0):∀ o∈c.2.2,Q4 o=0:=fun o ho=>QaH (QfO (Xw h).2.2.2.2 ho)
theorem QiU (h:∀ c∈r,Q0 c=0):∀ o∈QfG r,Q4 o=0:=fun o ho=>by
 obtain ⟨y,hy,ho⟩:=List.mem_flatten.1 ho
 obtain ⟨c,hc,rfl⟩:=List.mem_map.1 hy
 exact Qhl (h c hc) o ho
theorem Qlq (h:okU l):∀ o∈QiH l,Q4 o=0:=fun o ho=>by
 obtain ⟨y,hy,ho⟩:=List.mem_flatten.1 ho
 obtain ⟨c,hc,rfl⟩:=List.mem_map.1 hy
 exact (JP (QaT h c hc)).2.2.2.2.1 o ho
theorem QlW : ∀ {r : List Qe} {t : Xm}, (∀ c ∈ r, Q0 c = 0) → r.foldl (fun t c => (Xr t c.2.2).1) t = (QfG r).foldl Y3 t
  | [], _, _ => rfl
  | c :: r, t, h => by
    rw [List.foldl_cons, QlW (fun x hx => h x (.tail _ hx)), Xd (Qhl (h c (.head _)))]
    show _ = ((c.2.2 ++ QfG r)).foldl Y3 t
    rw [List.foldl_append]
theorem QlV (h:∀ c∈r,Q0 c=0):sT r=(QfG r).foldl Y3 []:=QlW h
theorem QhM : ∀ {l : List Jv} {t : Xm}, (∀ x ∈ l, QP x = 0) → l.foldl (fun t x => (Xr t x.2.2).1) t = (QiH l).foldl Y3 t
  | [], _, _ => rfl
  | x :: l, t, h => by
    rw [List.foldl_cons, QhM (fun y hy => h y (.tail _ hy)), Xd (JP (h x (.head _))).2.2.2.2.1]
    show _ = ((x.2.2 ++ QiH l)).foldl Y3 t
    rw [List.foldl_append]
theorem QjH (h:okU l):Zm l=(QiH l).foldl Y3 []:=QhM (QaT h)
theorem QjG (h : okU l) : QlF (Zm l) l := by
  have key : ∀ n, n ≤ l.length → QlF (Zm (l.take n)) (l.take n) := fun n => by
    induction n with
    | zero => exact fun _ => Qp6
    | succ n ih =>
      intro hn
      have hx : l[n]? = some l[n] := List.getElem?_eq_getElem (by omega)
      have hc := (JP (QaT h _ (List.mem_of_getElem? hx))).2.2.2.2
      rw [QhL hx, Xd hc.1, Zc hx]
      exact QnX (ih (by omega)) hc
  have := key l.length (Nat.le_refl _)
  rwa [List.take_length] at this
theorem sT_is (h:okS l r):QfD (sT r) (tL (sT r)):=by rw [QlV (Xq h)];exact Qo4 (QiU (Xq h))
theorem Qqc (h:okU l):QfD (Zm l) (tL (Zm l)):=by rw [QjH h];exact Qo4 (Qlq h)
theorem QbT : ∀ {y z : List DOp} {x : DOp}, x ∈ mrg y z → x ∈ y ∨ x ∈ z
  | [], z, x, h => .inr h
  | o :: y, [], x, h => by
    rw [Qfb] at h
    rcases List.mem_cons.1 h with rfl | h
    · exact .inl (.head _)
    · rcases QbT h with h | h
      · exact .inl (.tail _ h)
      · cases h
  | o :: y, a :: z, x, h => by
    by_cases hk : kl a.2.1 o.2.1
    · rw [Qh1 hk] at h
      rcases List.mem_cons.1 h with rfl | h
      · exact .inr (.head _)
      · rcases QbT h with h | h
        · exact .inl h
        · exact .inr (.tail _ h)
    · by_cases he : a.2.1 = o.2.1
      · rw [Qh3 hk he] at h
        rcases List.mem_cons.1 h with rfl | h
        · exact .inl (.head _)
        · rcases QbT h with h | h
          · exact .inl (.tail _ h)
          · exact .inr (.tail _ h)
      · rw [Qh2 hk he] at h
        rcases List.mem_cons.1 h with rfl | h
        · exact .inl (.head _)
        · rcases QbT h with h | h
          · exact .inl (.tail _ h)
          · exact .inr h
theorem Qh0 : ∀ {y z : List DOp}, Ya y → Ya z → Ya (mrg y z)
  | [], z, _, hz => hz
  | o :: y, [], hy, hz => by
    rw [Qfb]
    exact QaB (hy.1 _ (.head _)) (Qh0 (Yi hy) hz) fun x hx => by
      rcases QbT hx with hx | hx
      · exact (List.pairwise_cons.1 hy.2).1 x hx
      · cases hx
  | o :: y, a :: z, hy, hz => by
    by_cases hk : kl a.2.1 o.2.1
    · rw [Qh1 hk]
      exact QaB (hz.1 _ (.head _)) (Qh0 hy (Yi hz)) fun x hx => by
        rcases QbT hx with hx | hx
        · rcases List.mem_cons.1 hx with rfl | hx
          · exact hk
          · exact QaI hk ((List.pairwise_cons.1 hy.2).1 x hx)
        · exact (List.pairwise_cons.1 hz.2).1 x hx
    · by_cases he : a.2.1 = o.2.1
      · rw [Qh3 hk he]
        exact QaB (hy.1 _ (.head _)) (Qh0 (Yi hy) (Yi hz)) fun x hx => by
          rcases QbT hx with hx | hx
          · exact (List.pairwise_cons.1 hy.2).1 x hx
          · rw [← he]; exact (List.pairwise_cons.1 hz.2).1 x hx
      · rw [Qh2 hk he]
        have hoa : kl o.2.1 a.2.1 := by rcases Qep a.2.1 o.2.1 with h | h | h; exact absurd h hk; exact absurd h he; exact h
        exact QaB (hy.1 _ (.head _)) (Qh0 (Yi hy) hz) fun x hx => by
          rcases QbT hx with hx | hx
          · exact (List.pairwise_cons.1 hy.2).1 x hx
          · rcases List.mem_cons.1 hx with rfl | hx
            · exact hoa
            · exact QaI hoa ((List.pairwise_cons.1 hz.2).1 x hx)
theorem Qk1 (h:∀ x∈y,¬ x.2.1=q):ZH y q=none:=by
 unfold ZH;exact List.find?_eq_none.2 fun x hx=>by simpa using h x hx
theorem Qdd : ∀ {y z : List DOp}, Ya y → Ya z → ∀ q, ZH (mrg y z) q = (ZH y q).or (ZH z q)
  | [], z, _, hz, q => by rw [Qjb]; rfl
  | o :: y, [], hy, hz, q => by
    rw [Qfb, Zl, Zl, Qdd (Yi hy) hz]
    split <;> rfl
  | o :: y, a :: z, hy, hz, q => by
    by_cases hk : kl a.2.1 o.2.1
    · rw [Qh1 hk, Zl, Qdd hy (Yi hz), Zl (x := a) (t := z)]
      by_cases ha : a.2.1 = q
      · rw [if_pos ha, if_pos ha]
        have : ZH (o :: y) q = none := Qk1 fun x hx e => by
          rcases List.mem_cons.1 hx with rfl | hx
          · exact QfM hk (ha.trans e.symm)
          · exact QfM (QaI hk ((List.pairwise_cons.1 hy.2).1 x hx)) (ha.trans e.symm)
        rw [this]; rfl
      · rw [if_neg ha, if_neg ha]
    · by_cases he : a.2.1 = o.2.1
      · rw [Qh3 hk he, Zl, Zl, Zl (x := a) (t := z), Qdd (Yi hy) (Yi hz), he]
        by_cases ho : o.2.1 = q
        · rw [if_pos ho, if_pos ho]; rfl
        · rw [if_neg ho, if_neg ho, if_neg ho]
      · rw [Qh2 hk he, Zl, Zl (x := o) (t := y), Qdd (Yi hy) hz]
        split <;> rfl
def Qoc (l : List Jv) (r : List Qe) (q : Qr) : Option (List UInt8 × Bool) := (YH (sT r) q).or ((Qdg l.reverse q).map Qe5)
theorem Qob : QjJ l r q = (((Qoc l r q).getD ([], false)).1, ((Qoc l r q).getD ([], false)).2) := by
  unfold QjJ Qoc Qj7
  cases YH (sT r) q with
  | some p => rfl
  | none =>
    cases Qdg l.reverse q with
    | some o => rfl
    | none => rfl
theorem QlT (hU:okU l) (hS:okS l r):Ya (XJ l r)∧∀ q,Qoc l r q=(ZH (XJ l r) q).map Qe5:=by
 have h1:=sT_is hS
 have h2:=Qqc hU
 refine ⟨Qh0 h1.1 h2.1,fun q=>?_⟩
 unfold XJ Qoc
 rw [Qdd h1.1 h2.1,h1.2 q,← QjG hU q,h2.2 q]
 cases ZH (tL (sT r)) q <;> rfl
theorem QqE (hU:okU l) (hS:okS l r) (hn:(t.map (·.1)).Nodup) (h:∀ q,YH t q=Qoc l r q):(XJ l r).filter (·.1)=Qp7 t:=by
 obtain ⟨h1,h2⟩:=QlT hU hS
 unfold Qp7;rw [(QiJ hn ⟨h1,fun q=>(h q).trans (h2 q)⟩).1]
end
structure PR (m : Nat) (D : QS) (br : Bool) (l : List Jv) (R : ZR) (k : List Jv) (bx : Bool) : Prop where
  ok : okD D
  fr : Qk R = D
  made : D.1 = true
  kl : k = l
  bb : bx = br
  okl : okU l
  w : wD D ≤ m
section
variable {m : Nat} {D : QS} {br : Bool} {l : List Jv} {R : ZR} {k : List Jv} {bx : Bool} {c : Jv} {n t to : Int}
theorem PR.okr (h:PR m D br l R k bx):okR R:=by unfold okR;rw [h.fr];exact h.ok
theorem PR.wr (h:PR m D br l R k bx):wD (Qk R)=wD D:=by rw [h.fr]
theorem PR.rm (h:PR m D br l R k bx):R.1=true:=by rw [← QmB R,h.fr];exact h.made
theorem PR.okk (h:PR m D br l R k bx):okU k:=by rw [h.kl];exact h.okl
theorem PR.up {m':Nat} (h:PR m D br l R k bx) (hm:m≤m'):PR m' D br l R k bx:=⟨h.ok,h.fr,h.made,h.kl,h.bb,h.okl,Nat.le_trans h.w hm⟩
theorem Qc6:PR 0 Qe9 false [] QiA [] false:=⟨QdG,QbV,rfl,rfl,rfl,QaS,Nat.le_refl _⟩
section
variable (h : PR m D br l R k bx)
include h
theorem Qqs:(Zi D n).1.1=D.1:=by have _:=h;unfold Zi;split;rfl;split <;> rfl
theorem PR.fuse:(Zi D n).2=(Zi (Qk R) n).2∧PR (m+200000) (Zi D n).1 br l (toR (Zi (Qk R) n).1 R.2.2.2.2.2.1) k bx:=by
 have hx:=Xs (x:=R.2.2.2.2.2.1) (QmO (n:=n) h.ok) (QqA (by rw [← h.fr];exact YF R))
 have hw:=fuse_w D n;have hm:=h.w
 rw [h.fr] at*
 exact ⟨rfl,QmO h.ok,hx,(Qqs h).trans h.made,h.kl,h.bb,h.okl,by omega⟩
end
end
def cT (c : List Qe) : List DOp := (QfG c).foldl Qax []
def xF (k : List Jv) (c : List Qe) : List DOp := (QgG k ++ QfG c).foldl Qax []
def Qcq (k : List Jv) (c : List Qe) : List DOp := (xF k c).filter (·.1)
section
variable {d D : QS} {R : ZR} {br bx : Bool} {l k : List Jv} {r c : List Qe} {x : Qe} {u : Int} {q : Qr} {i m n : Nat} {T : Xm} {e : Int}
theorem Qej : ∀ {r : List Qe}, (∀ c ∈ r, c.2.2.length ≤ 8) → (QfG r).length ≤ 8 * r.length
  | [], _ => Nat.le_refl _
  | x :: r, h => by
    have h1 := Qej fun y hy => h y (.tail _ hy)
    have h2 := h x (.head _)
    rw [show QfG (x :: r) = x.2.2 ++ QfG r from rfl, List.length_append, List.length_cons]; omega
theorem QhJ (hx:r[i]? =some x):QfG (r.take (i+1))=QfG (r.take i)++x.2.2:=by
 rw [Zc hx];unfold QfG;rw [List.map_append,List.flatten_append];simp
theorem cT_len (h:∀ c∈r,c.2.2.length≤8):(cT r).length≤8*r.length:=by
 have h1:=QbJ (QfG r) []
 have h2:=Qej h
 unfold cT;simp only [List.length_nil] at h1;omega
theorem Qrv (h:∀ c∈r,Q0 c=0) (hx:r[i]? =some x):(Qbt (true,cT (r.take i)) x.2.2).1=(true,cT (r.take (i+1))):=by
 rw [Xc rfl (Qhl (h x (List.mem_of_getElem? hx)))]
 unfold cT;rw [QhJ hx,List.foldl_append]
theorem QpP (h:∀ c∈r,Q0 c=0) (hx:r[i]? =some x):(Qbt (true,xF k (r.take i)) x.2.2).1=(true,xF k (r.take (i+1))):=by
 rw [Xc rfl (Qhl (h x (List.mem_of_getElem? hx)))]
 unfold xF;rw [QhJ hx,← List.append_assoc,List.foldl_append (l:=QgG k++_)]
theorem xF_0 (h:okU k):(Qbt (true,[]) (QgG k)).1=(true,xF k []):=by
 rw [Xc rfl (QpO h)];unfold xF;rw [show QfG []=[] from rfl,List.append_nil]
theorem Qd4 (h:Q0 x=0):x.2.2.length≤8:=X9 (Xw h).2.2.2.2
theorem Qfx (h:Q0 x=0):x.2.2.length≤3518437208800:=Nat.le_trans (Qd4 h) (by decide)
theorem Qrw (h:∀ c∈r,Q0 c=0) (i:Nat):(cT (r.take i)).length≤8*r.length:=by
 have h1:=cT_len (r:=r.take i) fun c hc=>Qd4 (h c (List.mem_of_mem_take hc))
 have h2:=List.length_take (i:=i) (l:=r)
 omega
theorem Qlh (hU:okU k) (h:∀ c∈r,c.2.2.length≤8):(xF k r).length≤1024*k.length+8*r.length:=by
 have h1:=QbJ (QgG k++QfG r) []
 have h2:=Qej h
 have h3:=Qhq hU
 unfold xF;simp only [List.length_nil,List.length_append] at h1;omega
theorem QpR (hU:okU k) (hS:okS k r) (i:Nat):(xF k (r.take i)).length≤1024*k.length+8*r.length:=by
 have h1:=Qlh (r:=r.take i) hU fun c hc=>Qap hS c (List.mem_of_mem_take hc)
 have h2:=List.length_take (i:=i) (l:=r)
 omega
theorem cT_is (h:∀ c∈r,Q0 c=0):tL (sT r)=cT r∧(sT r).length=(cT r).length:=by
 rw [QlV h]
 exact QiJ (Qbc (t:=[]) _ List.nodup_nil) (Qb4 QcW (QiU h))
theorem Qgx (h:okS l r):tL (sT (QeS l r u))=cT (QeS l r u)∧(sT (QeS l r u)).length=(cT (QeS l r u)).length:=cT_is fun c hc=>Xq h c (List.mem_of_mem_take hc)
theorem xF_ops (hU:okU l) (hS:okS l r):∀ o∈QiH l++QfG r,Q4 o=0:=fun o ho=>by
 rcases List.mem_append.1 ho with h | h
 ·exact Qlq hU o h
 ·exact QiU (Xq hS) o h
theorem QoY (hU:okU l) (hS:okS l r):QfD ((QiH l++QfG r).foldl Y3 []) (xF l r):=Qb4 QcW (xF_ops hU hS)
theorem Qlg (hU:okU l) (hS:okS l r) (q:Qr):YH ((QiH l++QfG r).foldl Y3 []) q=Qoc l r q:=by
 rw [List.foldl_append,← QjH hU,Qis (QfG r) (T:=[]) (f:=YH (Zm l)) (fun q=>rfl) q]
 unfold Qoc
 rw [QlV (Xq hS),QjG hU q]
theorem xF_val (hU:okU l) (hS:okS l r) (q:Qr):Qoc l r q=(ZH (xF l r) q).map Qe5:=by
 rw [← Qlg hU hS];exact (QoY hU hS).2 q
theorem xF_get (hU:okU l) (hS:okS l r) (q:Qr):QjJ l r q=((Qja (ZH (xF l r) q)).1,(Qja (ZH (xF l r) q)).2.2):=by
 rw [Qob,xF_val hU hS]
 cases ZH (xF l r) q <;> rfl
theorem QpQ (hU:okU l) (hS:okS l r):(XJ l r).filter (·.1)=Qcq l r:=by
 have hn:(((QiH l++QfG r).foldl Y3 []).map (·.1)).Nodup:=Qbc (t:=[]) _ List.nodup_nil
 rw [QqE hU hS hn (Qlg hU hS)]
 unfold Qp7 Qcq;rw [(QiJ hn (QoY hU hS)).1]
theorem QpC {out d:List DOp} {k:Nat} {x z:DOp} (ho:out=(d.take k).filter (·.1)) (hx:d[k]? =some x) (hz:d[k]? =some z) (hp:x.1=true):out++[z]=(d.take (k+1)).filter (·.1):=by
 obtain rfl:x=z:=Option.some.inj (hx.symm.trans hz)
 rw [Zc hx,List.filter_append,ho,List.filter_cons,hp];rfl
theorem fl_no {out d:List DOp} {k:Nat} {x:DOp} (ho:out=(d.take k).filter (·.1)) (hx:d[k]? =some x) (hp:x.1=false):out=(d.take (k+1)).filter (·.1):=by
 rw [Zc hx,List.filter_append,ho,List.filter_cons,hp];simp
theorem fol1 {e n:Int} (h1:Q0 x=0) (h2:x.2.1=n+1) (h3:e≤x.1):(Qi e n [x]).1=0:=Qaf (i:=0) h1 h2 h3 rfl
theorem Qlc (h:¬ ¬ Q0 x=0) (h0:¬ (0:Int) < (r.length:Int)) (h3:¬ ((Qi 1 (Qy l+(r.length:Int)) [x]).1=0∧(Qi 1 (Qy l+(r.length:Int)) [x]).2=0)):ZQ l r x=(r,15):=by
 have hc:=Decidable.not_not.1 h
 refine Qaa h (Decidable.byContradiction fun q=>QmP h3 (fol1 hc ?_ (Xw hc).1))
 by_cases h4:x.2.1 - 1=Qy l+(r.length:Int)
 ·omega
 ·exact absurd (.inl h4) q
theorem QoW (h:¬ ¬ Q0 x=0) (h0:¬ (0:Int) < (r.length:Int)) (h3:¬ ¬ ((Qi 1 (Qy l+(r.length:Int)) [x]).1=0∧(Qi 1 (Qy l+(r.length:Int)) [x]).2=0)):ZQ l r x=(r++[x],0):=by
 obtain ⟨a,b,_,_⟩:=ZI (i:=0) (Decidable.not_not.1 h3).1
 exact QcY h (by omega) (fun q=>h0 q.1)
theorem Qld {y:Qe} (h:¬ ¬ Q0 x=0) (hy:r[i]? =some y) (hi:(i:Int)+1=r.length) (h3:¬ ((Qi y.1 (Qy l+(r.length:Int)) [x]).1=0∧(Qi y.1 (Qy l+(r.length:Int)) [x]).2=0)):ZQ l r x=(r,15):=by
 have hc:=Decidable.not_not.1 h
 have hl:=Qas (e:=1) hy hi
 refine Qaa h (Decidable.byContradiction fun q=>QmP h3 ?_)
 by_cases h4:x.2.1 - 1=Qy l+(r.length:Int)
 ·by_cases h5:x.1 < Qat 1 r
  ·exact absurd (.inr ⟨by omega,h5⟩) q
  ·exact fol1 hc (by omega) (by rw [hl] at h5;omega)
 ·exact absurd (.inl h4) q
theorem QoX {y:Qe} (h:¬ ¬ Q0 x=0) (hy:r[i]? =some y) (hi:(i:Int)+1=r.length) (h3:¬ ¬ ((Qi y.1 (Qy l+(r.length:Int)) [x]).1=0∧(Qi y.1 (Qy l+(r.length:Int)) [x]).2=0)):ZQ l r x=(r++[x],0):=by
 obtain ⟨a,b,c,_⟩:=ZI (i:=0) (Decidable.not_not.1 h3).1
 have hl:=Qas (e:=1) hy hi
 exact QcY h (by omega) (fun q=>by have:=q.2;rw [hl] at this;omega)
theorem QpM (hS:okS l r) (h:¬ u < Qy l) (h1:¬ Qy l+(r.length:Int) < u) (h2:¬ u=Qy l) (h3:(1024:Int) < ((cT (QeS l r u)).length:Int)):QU d br l r u=(((d,br,l),r),3):=
 Qbg h h1 h2 rfl (by rw [(Qgx hS).2];exact h3)
theorem xs_bad (hS:okS l r) (h:¬ u < Qy l) (h1:¬ Qy l+(r.length:Int) < u) (h2:¬ u=Qy l) (h3:¬ (1024:Int) < ((cT (QeS l r u)).length:Int)) (h4:¬ (QJ d br l (Qy l+1,u,cT (QeS l r u))).2=0):
  QU d br l r u=(((QJ d br l (Qy l+1,u,cT (QeS l r u))).1,r),(QJ d br l (Qy l+1,u,cT (QeS l r u))).2):=by
 rw [← (Qgx hS).1] at h4 ⊢
 exact Qcb h h1 h2 rfl (by rw [(Qgx hS).2];exact h3) h4
theorem QpN (hS:okS l r) (h:¬ u < Qy l) (h1:¬ Qy l+(r.length:Int) < u) (h2:¬ u=Qy l) (h3:¬ (1024:Int) < ((cT (QeS l r u)).length:Int)) (h4:¬ ¬ (QJ d br l (Qy l+1,u,cT (QeS l r u))).2=0):
  QU d br l r u=(((QJ d br l (Qy l+1,u,cT (QeS l r u))).1,r.drop (u - Qy l).toNat),0):=by
 rw [← (Qgx hS).1] at h4 ⊢
 exact Qbh h h1 h2 rfl (by rw [(Qgx hS).2];exact h3) h4
theorem uf_l {x:Jv}:(QJ d br l x).1.2.2=if (QJ d br l x).2=0 then l++[x] else l:=by
 unfold QJ
 split
 ·rfl
 ·split
  ·rename_i h;first | rfl | (rw [if_neg h];done)
  ·split
   ·rfl
   ·split
    ·rename_i h;first | rfl | (rw [if_neg h];done)
    ·split
     ·rename_i h;first | rfl | (rw [if_neg h];done)
     ·rfl
theorem QbL:(∃ e,QU d br l r u=(((d,br,l),r),e))∨(∃ e,¬ (QJ d br l (QgU l r u)).2=0∧QU d br l r u=(((QJ d br l (QgU l r u)).1,r),e))∨(Qy l < u∧u≤Qy l+r.length∧(QJ d br l (QgU l r u)).2=0∧QU d br l r u=(((QJ d br l (QgU l r u)).1,r.drop (u - Qy l).toNat),0)):=by
 by_cases h1:u < Qy l∨Qy l+(r.length:Int) < u
 ·exact .inl ⟨_,XK h1⟩
 ·have a:=fun q=>h1 (.inl q)
  have b:=fun q=>h1 (.inr q)
  by_cases h2:u=Qy l
  ·exact .inl ⟨_,Qbf a b h2⟩
  ·by_cases h3:(1024:Int) < ((sT (QeS l r u)).length:Int)
   ·exact .inl ⟨_,Qbg a b h2 rfl h3⟩
   ·by_cases h4:(QJ d br l (QgU l r u)).2=0
    ·exact .inr (.inr ⟨by omega,by omega,h4,Qbh a b h2 rfl h3 (not_not_intro h4)⟩)
    ·exact .inr (.inl ⟨_,h4,Qcb a b h2 rfl h3 h4⟩)
theorem Qo8 (h:okD d):okD (QU d br l r u).1.1.1:=by
 rcases QbL (d:=d) (br:=br) (l:=l) (r:=r) (u:=u) with ⟨_,q⟩ | ⟨_,_,q⟩ | ⟨_,_,_,q⟩ <;> rw [q] <;> first | exact h | exact QoC h
theorem sfl_w (h:okD d):wD (QU d br l r u).1.1.1≤wD d+184600:=by
 have hw:=Qrj (br:=br) (l:=l) (x:=QgU l r u) h
 rcases QbL (d:=d) (br:=br) (l:=l) (r:=r) (u:=u) with ⟨_,q⟩ | ⟨_,_,q⟩ | ⟨_,_,_,q⟩ <;> rw [q] <;> first | exact hw | (dsimp only;omega)
theorem Qn9:(QU d br l r u).1.1.1.1=d.1:=by
 rcases QbL (d:=d) (br:=br) (l:=l) (r:=r) (u:=u) with ⟨_,q⟩ | ⟨_,_,q⟩ | ⟨_,_,_,q⟩ <;> rw [q] <;> first | rfl | exact QkZ
theorem sfl_nf (h:nf d):nf (QU d br l r u).1.1.1:=by
 rcases QbL (d:=d) (br:=br) (l:=l) (r:=r) (u:=u) with ⟨_,q⟩ | ⟨_,_,q⟩ | ⟨_,_,_,q⟩ <;> rw [q] <;> first | exact h | exact Qov h
theorem xo_sfl (h:okR R):okR (toR (QU (Qk R) br l r u).1.1.1 R.2.2.2.2.2.1)∧Qk (toR (QU (Qk R) br l r u).1.1.1 R.2.2.2.2.2.1)=(QU (Qk R) br l r u).1.1.1:=ro_of (Qo8 h) (sfl_nf (YF R)) _
theorem Qje (hS:okS l r) (hU:okU l) (h1:Qy l < u) (h2:u≤Qy l+r.length):okS (l++[QgU l r u]) (r.drop (u - Qy l).toNat):=by
 show (QG 1 (Qy (l++[QgU l r u])) 0 _).1=0
 rw [Qfv]
 have hk:(u - Qy l).toNat≤r.length:=by omega
 have h4:(QG 1 (Qy l) 0 (r.take (u - Qy l).toNat++r.drop (u - Qy l).toNat)).1=0:=by rw [List.take_append_drop];exact hS
 have h5:=Qa5 0 h4
 rw [List.length_take,Nat.min_eq_left hk,show Qy l+((u - Qy l).toNat:Int)=u by omega] at h5
 refine Qig h5 ?_ 0
 have h6:=Qbw h4
 rcases Nat.eq_zero_or_pos (r.take (u - Qy l).toNat).length with h7 | h7
 ·rw [List.eq_nil_of_length_eq_zero h7];exact Int.le_refl _
 ·have h8:(r.take (u - Qy l).toNat)[(r.take (u - Qy l).toNat).length - 1]? =some (r.take (u - Qy l).toNat)[(r.take (u - Qy l).toNat).length - 1]:=List.getElem?_eq_getElem (by omega)
  rw [Qas h8 (by omega)]
  exact (Qfj h6 h8).2.1
theorem QlO (hU:okU l) (hS:okS l r):okU (QU d br l r u).1.1.2.2∧okS (QU d br l r u).1.1.2.2 (QU d br l r u).1.2∧(QiH (QU d br l r u).1.1.2.2).length+8*(QU d br l r u).1.2.length≤(QiH l).length+8*r.length∧(QU d br l r u).1.2.length≤r.length∧(QU d br l r u).1.1.2.2.length≤l.length+1:=by
 have hU2:=Qnc (d:=d) (br:=br) (x:=QgU l r u) hU
 have e:=uf_l (d:=d) (br:=br) (l:=l) (x:=QgU l r u)
 rcases QbL (d:=d) (br:=br) (l:=l) (r:=r) (u:=u) with ⟨_,q⟩ | ⟨_,h,q⟩ | ⟨h1,h2,h,q⟩ <;> rw [q]
 ·exact ⟨hU,hS,Nat.le_refl _,Nat.le_refl _,Nat.le_succ _⟩
 ·rw [if_neg h] at e
  dsimp only;rw [e]
  exact ⟨hU,hS,Nat.le_refl _,Nat.le_refl _,Nat.le_succ _⟩
 ·rw [if_pos h] at e
  dsimp only;rw [e] at hU2 ⊢
  have h3:=QiT hS (u - Qy l).toNat
  have h4:(sT (QeS l r u)).length≤8*(r.take (u - Qy l).toNat).length:=by
   have:=Qod (r:=r.take (u - Qy l).toNat) (t:=[]) fun c hc=>Qap hS c (List.mem_of_mem_take hc)
   simpa [sT,QeS] using this
  have h5:(QiH (l++[QgU l r u])).length=(QiH l).length+(sT (QeS l r u)).length:=by
   unfold QiH;rw [List.map_append,List.flatten_append,List.length_append]
   simp only [List.map_cons,List.map_nil,List.flatten_cons,List.flatten_nil,List.append_nil]
   show _+(tL (sT (QeS l r u))).length=_
   rw [JO]
  refine ⟨hU2,Qje hS hU h1 h2,?_,by rw [List.length_drop];omega,by simp⟩
  rw [h5,List.length_drop];rw [List.length_take] at h4;omega
structure PS (m n : Nat) (D : QS) (br : Bool) (l : List Jv) (r : List Qe) (R : ZR) (k : List Jv) (bx : Bool) (c : List Qe) : Prop where
  p : PR m D br l R k bx
  rc : c = r
  s : okS l r
  w : (QiH l).length + 8 * r.length ≤ 8 * n
  rl : r.length ≤ n
  ll : l.length ≤ n
section
variable (h : PS m n D br l r R k bx c)
include h
theorem PS.oks:okS k c:=by rw [h.rc,h.p.kl];exact h.s
theorem PS.up {m' n':Nat} (hm:m≤m') (hn:n≤n'):PS m' n' D br l r R k bx c:=⟨h.p.up hm,h.rc,h.s,by have:=h.w;omega,by have:=h.rl;omega,by have:=h.ll;omega⟩
theorem PS.apply (y:Qe):(ZQ l r y).2=(ZQ k c y).2∧PS m (n+1) D br l (ZQ l r y).1 R k bx (ZQ k c y).1:=by
 have h1:=QkI (l:=l) (r:=r) (c:=y)
 have h2:=Qmt (c:=y) h.s
 have h3:=h.w;have h4:=h.rl;have h5:=h.ll
 refine ⟨by rw [h.rc,h.p.kl],h.p,by rw [h.rc,h.p.kl],h2,by omega,by omega,by omega⟩
theorem PS.flush (u:Int):(QU D br l r u).2=(QU (Qk R) bx k c u).2∧PS (m+200000) (n+1) (QU D br l r u).1.1.1 (QU D br l r u).1.1.2.1 (QU D br l r u).1.1.2.2 (QU D br l r u).1.2 (toR (QU (Qk R) bx k c u).1.1.1 R.2.2.2.2.2.1) (QU (Qk R) bx k c u).1.1.2.2 (QU (Qk R) bx k c u).1.1.2.1 (QU (Qk R) bx k c u).1.2:=by
 have hx:=(xo_sfl (br:=bx) (l:=k) (r:=c) (u:=u) h.p.okr).2
 have hw:=sfl_w (br:=br) (l:=l) (r:=r) (u:=u) h.p.ok;have hm:=h.p.w
 obtain ⟨a1,a2,a3,a4,a5⟩:=QlO (d:=D) (br:=br) (u:=u) h.p.okl h.s
 have h3:=h.w;have h4:=h.rl;have h5:=h.ll
 rw [h.rc,h.p.kl,h.p.bb,h.p.fr] at*
 exact ⟨rfl,⟨Qo8 h.p.ok,hx,Qn9.trans h.p.made,rfl,rfl,a1,by omega⟩,rfl,a2,by omega,by omega,by omega⟩
theorem PS.live:(XJ l r).filter (·.1)=Qcq k c:=by rw [h.rc,h.p.kl];exact QpQ h.p.okl h.s
theorem PS.len:(Qcq k c).length≤8*n:=by
 have h1:=List.length_filter_le (fun o:DOp=>o.1) (xF k c)
 have h2:=QbJ (QgG k++QfG c) []
 have h3:=Qej (Qap h.oks)
 have h4:=h.w
 have h5:(QgG k).length=(QiH l).length:=by rw [h.p.kl];rfl
 rw [← h.rc] at h4
 simp only [List.length_nil,List.length_append] at h2
 unfold Qcq;unfold xF at h1 ⊢;omega
theorem PS.all (hn:n≤100):Qkt ((XJ l r).filter (·.1)) 1000=Qcq k c:=by
 have h1:=h.len
 rw [h.live];unfold Qkt;rw [if_neg (by omega),List.take_of_length_le (by omega)]
theorem PS.alln {j:Int} (h0:0≤j):Qkt ((XJ l r).filter (·.1)) j=(Qcq k c).take j.toNat:=by
 rw [h.live];unfold Qkt;rw [if_neg (by omega)]
end
theorem ps_new {rest:List Qe} {f:Int} (h:okS [] rest):(Zi Qe9 f).2=(Zi (Qk QiA) f).2∧PS 200000 rest.length (Zi Qe9 f).1 false [] rest (toR (Zi (Qk QiA) f).1 QiA.2.2.2.2.2.1) [] false rest:=by
 have h1:=Qc6.fuse (n:=f)
 exact ⟨h1.1,h1.2.up (by omega),rfl,h,by show 0+_≤_;omega,Nat.le_refl _,Nat.zero_le _⟩
end
abbrev QQ : Ty := .pair .bool (.pair (.ptr JB) (.sl QA))
abbrev Qjr := Bool × (Nat × Qag) × (List Qe)
theorem Qed {m:Mem} {cs:List Value} {x0:Bool} {x1:Nat × Qag} {x2:List Qe} (h:Ow QQ m cs (x0,x1,x2)):∃ (A2:Option Addr),∃ (c2:Nat),∃ (n1:Mem),∃ (n2:Mem),cs=[(.bool x0:Value),.pointer (some ⟨x1.1,0,none⟩),.slice A2 x2.length c2]∧Qt m [n1,n2]∧Ow (.ptr JB) n1 [.pointer (some ⟨x1.1,0,none⟩)] x1∧Ow (.sl QA) n2 [.slice A2 x2.length c2] x2:=by
 obtain ⟨p1,q1,ma1,mb1,rfl,dj1,la1,lb1,u1,w1⟩:=Ow.pair h
 obtain rfl:=(show _=_ from u1)
 obtain ⟨p3,q3,ma3,mb3,rfl,dj3,la3,lb3,u3,w3⟩:=Ow.pair w1
 have z4:=u3
 obtain ⟨rfl,_⟩:=u3
 have z5:=w3
 obtain ⟨A5,c5,rfl,_⟩:=Ow.slice1 w3
 exact ⟨A5,c5,_,_,rfl,(Qt.app dj1 la1 lb1 (Qt.nil _) (Qt.app dj3 la3 lb3 (Qt.one (Qb _)) (Qt.one (Qb _)))),z4,z5⟩
theorem QfK {m:Mem} {n1 n2:Mem} (x0:Bool) (x1:Nat × Qag) (x2:List Qe) (hS:Qt m [n1,n2]) {v1:Value} (h1:Ow (.ptr JB) n1 [v1] x1) {v2:Value} (h2:Ow (.sl QA) n2 [v2] x2):Ow QQ m [.bool x0,v1,v2] (x0,x1,x2):=by
 obtain ⟨e1,la1,lb1,Sa1,Sb1⟩:=Qt.cut (l:=[]) (r:=[n1,n2]) hS
 obtain ⟨e2,la2,lb2,Sa2,Sb2⟩:=Qt.cut (l:=[n1]) (r:=[n2]) Sb1
 exact (Ow.mkPair (c1:=[_]) e1 la1 lb1 (show Ow .bool _ [_] _ from rfl) (Ow.mkPair (c1:=[_]) e2 la2 lb2 (h1.up (Sa2.1 _ (.head _))) (h2.up (Sb2.1 _ (.head _)))))
theorem QZ {m:Mem} {cs:List Value} {g:Nat} {x0:Bool} {x1:Nat × Qag} {x2:List Qe} (h:Ow (.ptr QQ) m cs (g,(x0,x1,x2))):∃ (E:TypeId),∃ (A2:Option Addr),∃ (c2:Nat),∃ (n1:Mem),∃ (n2:Mem),cs=[.pointer (some ⟨g,0,none⟩)]∧Qt m [Qo g (.cells [(.bool x0:Value),.pointer (some ⟨x1.1,0,none⟩),.slice A2 x2.length c2].toArray E (0,0)),n1,n2]∧Ow (.ptr JB) n1 [.pointer (some ⟨x1.1,0,none⟩)] x1∧Ow (.sl QA) n2 [.slice A2 x2.length c2] x2:=by
 obtain ⟨rfl,rc,E,m1,hd,l0,l1,h1⟩:=Ow.opnP h
 obtain ⟨A2,c2,n1,n2,rfl,hS,f1,f2⟩:=Qed h1
 exact ⟨E,A2,c2,n1,n2,rfl,Qt.app hd l0 l1 (Qt.one (Qb _)) hS,f1,f2⟩
theorem Q9 {m:Mem} {g:Nat} {E:TypeId} {n1 n2:Mem}{v1:Value}{v2:Value} (x0:Bool) (x1:Nat × Qag) (x2:List Qe) (hS:Qt m [Qo g (.cells [.bool x0,v1,v2].toArray E (0,0)),n1,n2]) (h1:Ow (.ptr JB) n1 [v1] x1) (h2:Ow (.sl QA) n2 [v2] x2):Ow (.ptr QQ) m [.pointer (some ⟨g,0,none⟩)] (g,(x0,x1,x2)):=
 Ow.clsP hS fun hS=>QfK x0 x1 x2 hS h1 h2
theorem Qfq:JE Tryz.prog 114=true:=by kernel_rfl
theorem Qm7:JE Tryz.prog 119=true:=by kernel_rfl
theorem Qm6:JE Tryz.prog 121=true:=by kernel_rfl
theorem Qjj:JE Tryz.prog 122=true:=by kernel_rfl
theorem JR {P:Prop} (h:P:=by first | exact bd | exact e1 _ (List.mem_of_getElem? ‹d0[_]? =some _›)):P:=h
theorem Qfy (W:World) {v0:Value} {d0:List Qe} (h0:Rd (.sl QA) (wm W) [v0] d0) (e0:d0.length≤3518437200000) (e1:∀ c∈d0,c.2.2.length≤3518437208800):Qc Tryz.prog 68 [v0] W (mnil) (fun v m'=>∃ (s0:Value),v=s0∧Ow (.sl QA) m' [s0] (d0)):=by
 obtain ⟨A0,c0,rfl,l0,k0⟩:=h0.slc
 refine Qc.ofA (n:=20) Tryz.func68 rfl rfl rfl ?_
 refine VC.rs (VO.as (VO.k2 0 2 (VC.rs (VO.as (VO.k3 0 2 3 (VC.seq (VC.rs (VO.as (VO.p1 0 (VO.k4 0 2 3 4 (VC.block ?_)))))))))))
 refine VC.inv ((101,mnil)::_) (fun _ h=>h.nilc 101) ?_
 refine VC.loop (G:=Nat × (List Qe) × (Option Addr) × Nat × Mem) (fun g=>[(3,.slice (g.2.2.1) ((g.2.1).length) ((g.2.2.2.1))),(4,.int .i64 ((((g.1):Nat):Int))),(0,.slice A0 (d0.length) (c0)),(2,.slice none (0) (0))]) (fun g=>[(101,(g.2.2.2.2)),(0,wm W)]) (fun g=>((g.1)≤d0.length)∧((g.2.1)=d0.take (g.1))∧(Ow (.sl QA) (g.2.2.2.2) [.slice (g.2.2.1) (g.2.1).length (g.2.2.2.1)] (g.2.1))) (fun g=>d0.length - (g.1)) (0,[],none,0,mnil) (⟨by omega,by rfl,(Ow.nil QA mnil)⟩) ⟨esn,fun _ h=>h.sub [101,0]⟩ ?_
 rintro ⟨k,out,out_A,out_c,out_m⟩ ⟨hk,ho,h_out⟩
 replace hk:k≤d0.length:=hk
 replace ho:out=d0.take k:=ho
 replace h_out:Ow (.sl QA) out_m [.slice out_A out.length out_c] out:=h_out
 show VC _ _ _ _ _ [(3,.slice out_A (out.length) (out_c)),(4,.int .i64 (((k:Nat):Int))),(0,.slice A0 (d0.length) (c0)),(2,.slice none (0) (0))] [(101,out_m),(0,wm W)]
 have l_out:out.length≤out_c:=by obtain ⟨_,_,he,hl,_⟩:=h_out.slice;simp only [Value.slice.injEq] at he;omega
 have k_out:out_c≤9223372036854775807:=by obtain ⟨_,_,he,_,hl⟩:=h_out.slice;simp only [Value.slice.injEq,maxLen] at he hl;omega
 have hlo:out.length≤k:=by rw [ho,List.length_take];omega
 refine VC.seq (VC.rs (VO.mv (VO.mv (VO.z (.lenS rfl JS) (VO.z (.lss rfl rfl) (VO.k5 0 2 3 4 8 ?_))))))
 refine VC.cond rfl (fun hc2=>?_) (fun hc2=>?_)
 ·refine VC.skip (Qg (VC.seq (VC.block ?_)))
  refine VC.reg ?_
  refine VO.mv (VO.mv (VO.mv ?_))
  obtain ⟨x3,hx3⟩:∃ z_,(d0)[k]? =some z_:=⟨_,List.getElem?_eq_getElem JR⟩
  obtain ⟨gg3,oo3,ec3,ea3,hce3,hre3⟩:=h0.elem hx3
  cases ea3
  obtain ⟨q3_A2,q3_c2,rfl,q3_0,q3_1,q3_2⟩:=Jc (x0:=x3.1) (x1:=x3.2.1) (x2:=x3.2.2) hre3
  simp only [inK] at q3_0 q3_1
  refine VO.z (.ixI k rfl rfl JS rfl JR) ?_
  refine VO.z (.ldA 0 rfl XN rfl hce3) ?_
  refine VO.callN 104 rfl Qfq rfl (fun W hW=>Qb1 W (Rd.mono hre3 (hW.t 0)) JR) (fun v4 m4 hv4=>?_)
  obtain ⟨s4_0,rfl,f4_0⟩:=hv4
  obtain ⟨q4_0_A2,q4_0_c2,q4_0_n2,rfl,q4_0_S,q4_0_0,q4_0_1,q4_0_2⟩:=Xh (x0:=x3.1) (x1:=x3.2.1) (x2:=x3.2.2) f4_0
  simp only [inK] at q4_0_0 q4_0_1
  refine VO.inv _ (fun _ h=>h.parts (i:=104) rfl q4_0_S [105]) ?_
  refine VO.bsl (cs:=[.int .i64 (x3.1),.int .i64 (x3.2.1),.slice q4_0_A2 (x3.2.2.length) (q4_0_c2)]) 107 rfl rfl JS Qba rfl rfl (fun g6=>?_)
  refine VO.appO (e:=QA) 101 105 107 rfl rfl rfl JS Qba rfl rfl rfl rfl h_out (show Ow QA _ _ x3 from (Yr x3.1 x3.2.1 x3.2.2 (Qt.one (Qb _)) (by simp only [inK];(exact JR)) (by simp only [inK];(exact JR)) q4_0_2)) Tryz.underlying27 (Qa rfl rfl) (by simp only [maxLen];(exact JR)) JR (by decide) (fun v8 m8 ho8=>?_)
  obtain ⟨A8,c8,rfl,l8,k8⟩:=ho8.slc
  refine VO.as (VO.k5 0 2 3 4 8 (Jh (Qg ?_)))
  refine VC.reg ?_
  refine VO.mv ?_
  refine VO.z (.add (c:=((k+1:Nat):Int)) rfl rfl Qp ⟨by exact JR,by exact JR⟩) ?_
  refine VO.as (VO.p2 101 0 (VO.k5 0 2 3 4 8 ?_))
  exact Qg ⟨⟨k+1,out++[x3],A8,c8,m8⟩,⟨by omega,by (rw [ho];exact (Zc ‹d0[k]? =some _›).symm),ho8⟩,by exact JR,⟨esn,fun _ h=>Inv.sub h [101,0]⟩⟩
 ·refine VC.exit (JU (JU (JT (Qg (VC.rs (VO.mv (VO.as (VO.k5 0 2 3 4 8 (VC.ret ?_)))))))))
  refine XC 2 [101] fun hS_=>?_
  dsimp only [Qu]
  exact ⟨Value.slice out_A (out.length) (out_c),(by first | rfl | (simp [*];done)),(Ow.cg (Ow.up h_out (hS_.1 _ (.head _))) (by first | rfl | (rw [ho,List.take_of_length_le Qp])))⟩
theorem QkC (W:World) {m0:Mem} (hm:mle (m0) (wm W)) {g0:Nat} {d0:JL} (h0:Ow (.ptr QR) m0 [Vp g0] (g0,d0)) (e0:d0.1=true) (e1:d0.2.length≤1700000000000):Qc Tryz.prog 78 [Vp g0] W (m0) (fun v m'=>∃ (s0:Value),∃ (p0:Mem),∃ (p1:Mem),v=s0∧Qt m' [p0,p1]∧Ow (.sl TOp) p0 [s0] (d0.2.filter (·.1))∧Ow (.ptr QR) p1 [Vp g0] (g0,d0)):=by
 refine Qc.ofB (n:=27) hm Tryz.func78 rfl rfl rfl ?_
 refine VC.rs (VO.as (VO.k2 0 2 (VC.rs (VO.as (VO.k3 0 2 3 (VC.rs (VO.mv ?_)))))))
 refine VO.call 1 rfl Qm7 rfl rfl (fun W hW=>QjD W (hW.t 1) h0 Qf bd) (fun v1 m1 hv1=>?_)
 obtain ⟨s1_0,p1_0,p1_1,rfl,hS1,f1_0,w1_0⟩:=hv1
 refine VO.inv _ (fun _ h=>h.parts (i:=1) rfl hS1 [102,103]) ?_
 obtain ⟨A1_0,c1_0,eq1_0,l1_0,k1_0⟩:=f1_0.slc
 subst eq1_0
 refine VO.as (VO.p3 102 103 0 (VO.k4 0 2 3 4 (VC.seq (VC.rs (VO.as (VO.k5 0 2 3 4 5 (VC.block ?_)))))))
 refine VC.inv ((104,mnil)::_) (fun _ h=>h.nilc 104) ?_
 refine VC.loop (G:=Nat × (List DOp) × (Option Addr) × Nat × Mem) (fun g=>[(3,.slice (g.2.2.1) ((g.2.1).length) ((g.2.2.2.1))),(5,.int .i64 ((((g.1):Nat):Int))),(0,Vp g0),(2,.slice none (0) (0)),(4,.slice A1_0 (d0.2.length) (c1_0))]) (fun g=>[(104,(g.2.2.2.2)),(102,p1_0),(103,p1_1),(0,Ju (wm W) (m0))]) (fun g=>((g.1)≤d0.2.length)∧((g.2.1)=(d0.2.take (g.1)).filter (·.1))∧(Qz TOp (g.2.2.2.2) mnil (.slice (g.2.2.1) (g.2.1).length (g.2.2.2.1)) (g.2.1))) (fun g=>d0.2.length - (g.1)) (0,[],none,0,mnil) (⟨by omega,by rfl,(Qz.nil TOp mnil mnil)⟩) ⟨esn,fun _ h=>h.sub [104,102,103,0]⟩ ?_
 rintro ⟨k,out,out_A,out_c,out_m⟩ ⟨hk,ho,h_out⟩
 replace hk:k≤d0.2.length:=hk
 replace ho:out=(d0.2.take k).filter (·.1):=ho
 replace h_out:Qz TOp out_m mnil (.slice out_A out.length out_c) out:=h_out
 show VC _ _ _ _ _ [(3,.slice out_A (out.length) (out_c)),(5,.int .i64 (((k:Nat):Int))),(0,Vp g0),(2,.slice none (0) (0)),(4,.slice A1_0 (d0.2.length) (c1_0))] [(104,out_m),(102,p1_0),(103,p1_1),(0,Ju (wm W) (m0))]
 have l_out:out.length≤out_c:=by obtain ⟨_,_,he,hl,_⟩:=h_out.slice;simp only [Value.slice.injEq] at he;omega
 have k_out:out_c≤9223372036854775807:=by obtain ⟨_,_,he,_,hl⟩:=h_out.slice;simp only [Value.slice.injEq,maxLen] at he hl;omega
 have hlo:out.length≤k:=by rw [ho];exact Nat.le_trans (List.length_filter_le _ _) (by rw [List.length_take];omega)
 refine VC.seq (VC.rs (VO.mv (VO.mv (VO.z (.lenS rfl QX) (VO.z (.lss rfl rfl) (VO.k6 0 2 3 4 5 11 ?_))))))
 refine VC.cond rfl (fun hc5=>?_) (fun hc5=>?_)
 refine VC.skip (Qg (VC.seq (VC.block (VC.rs (VO.mv (VO.mv ?_))))))
 obtain ⟨x6,hx6⟩:∃ z_,(d0.2)[k]? =some z_:=⟨_,List.getElem?_eq_getElem bd⟩
 obtain ⟨gg6,oo6,ec6,ea6,hce6,hre6⟩:=(Ow.ownl f1_0 rfl mnil).elem hx6
 cases ea6
 obtain ⟨rfl,q6_1,q6_2⟩:=Jr (x0:=x6.1) (x1:=x6.2.1) (x2:=x6.2.2) hre6
 simp only [maxLen] at q6_1
 simp only [maxLen] at q6_2
 refine VO.z (.ixI k rfl rfl QX rfl bd) ?_
 refine VO.z (.fa rfl JG rfl) ?_
 refine VO.z (.ld1 102 rfl tk4 rfl (hce6.at1 (j:=0) rfl)) ?_
 refine VO.p4 104 102 103 0 (VO.k7 0 2 3 4 5 11 18 ?_)
 refine VC.condB rfl (fun hc7=>?_) (fun hc7=>?_)
 refine VC.reg ?_
 refine VO.mv (VO.mv (VO.mv ?_))
 refine VO.z (.ixI k rfl rfl QX rfl bd) ?_
 refine VO.z (.ldA 102 rfl Yx rfl hce6) ?_
 refine VO.bsl (cs:=[.bool x6.1,str (x6.2.1),str (x6.2.2)]) 110 rfl rfl QX YX rfl rfl (fun g9=>?_)
 obtain ⟨mo11,cs11,hM11,hA11,hC11⟩:=h_out
 refine VO.app 104 rfl rfl rfl QX YX rfl rfl hM11 hA11 (.row 110 _ _ _ 1 1 _ _ Tryz.underlying34 rfl (Qa rfl rfl)) (by simp [Value.oneCell']) bdm bd (by decide) (fun v11 m11 hN11=>?_)
 have ho11:Qz TOp m11 mnil v11 (out++[x6]):=Qz.one hC11 hN11 (Rd.flat rfl hre6 _)
 obtain ⟨A11,c11,rfl,l11,k11⟩:=ho11.slc
 refine VO.as (VO.k7 0 2 3 4 5 11 18 (Jh (Qg ?_)))
 refine VC.reg ?_
 refine VO.mv ?_
 refine VO.z (.add (c:=((k+1:Nat):Int)) rfl rfl Qp ⟨bd,bd⟩) ?_
 refine VO.as (VO.k7 0 2 3 4 5 11 18 ?_)
 exact Qg ⟨⟨k+1,out++[x6],A11,c11,m11⟩,⟨by omega,by first | exact QpC ho ‹d0.2[k]? =some _› ‹d0.2[k]? =some _› Qf | exact fl_no ho ‹d0.2[k]? =some _› Qf,ho11⟩,bd,⟨esn,fun _ h=>Inv.sub h [104,102,103,0]⟩⟩
 refine VC.skip (Jh (Qg ?_))
 refine VC.reg ?_
 refine VO.mv ?_
 refine VO.z (.add (c:=((k+1:Nat):Int)) rfl rfl Qp ⟨bd,bd⟩) ?_
 refine VO.as (VO.k7 0 2 3 4 5 11 18 ?_)
 exact Qg ⟨⟨k+1,out,out_A,out_c,out_m⟩,⟨by omega,by first | exact QpC ho ‹d0.2[k]? =some _› ‹d0.2[k]? =some _› Qf | exact fl_no ho ‹d0.2[k]? =some _› Qf,h_out⟩,bd,⟨esn,fun _ h=>Inv.sub h [104,102,103,0]⟩⟩
 ·refine VC.exit (JU (JU (JT (Qg (VC.rs (VO.mv (VO.as (VO.p4 104 102 103 0 (VO.k6 0 2 3 4 5 11 (VC.ret ?_))))))))))
  refine XC 2 [104,103] fun hS_=>?_
  dsimp only [Qu]
  refine ⟨.slice out_A (out.length) (out_c),Zs [out_m],Zs [p1_1],?_,?_,?_,?_⟩
  rotate_left
  ·exact Qt.grp (ls:=[[out_m],[p1_1]]) hS_
  ·exact Ow.cg (Ow.up (Qz.ow h_out rfl) ((Qt.self hS_ (List.Sublist.cons_cons _ (List.Sublist.cons _ List.Sublist.slnil))).1 _ (.head _))) (by first | rfl | ((rw [ho,List.take_of_length_le Qp];done)))
  ·exact Ow.cgP (Ow.up w1_0 ((Qt.self hS_ (List.Sublist.cons _ (List.Sublist.cons_cons _ List.Sublist.slnil))).1 _ (.head _))) (by first | rfl | ((rw [ho,List.take_of_length_le Qp];done)))
  all_goals (first | rfl | (simp [*];done))
theorem QlJ (W:World) {v0:Value} {d0:List Qe} (h0:Rd (.sl QA) (wm W) [v0] d0) (e0:∀ c∈d0,Q0 c=0) (e1:d0.length≤1000000):Qc Tryz.prog 117 [v0] W (mnil) (fun v m'=>∃ (s0:Nat),v=Vp s0∧Ow (.ptr QR) m' [Vp s0] (s0,(true,cT d0))):=by
 obtain ⟨A0,c0,rfl,l0,k0⟩:=h0.slc
 refine Qc.ofA (n:=20) Tryz.func117 rfl rfl rfl ?_
 refine VC.rs (VO.as (VO.k2 0 2 (VC.rs ?_)))
 refine VO.callN 101 rfl Qm6 rfl (fun W hW=>QjC W) (fun v1 m1 hv1=>?_)
 obtain ⟨s1_0,rfl,f1_0⟩:=hv1
 refine VO.as (VO.k3 0 2 3 (VC.seq (VC.rs (VO.as (VO.p2 101 0 (VO.k4 0 2 3 4 (VC.block ?_)))))))
 refine VC.loop (G:=Nat × JL × Mem) (fun g=>[(4,.int .i64 ((((g.1):Nat):Int))),(0,.slice A0 (d0.length) (c0)),(2,.pointer none),(3,Vp s1_0)]) (fun g=>[(101,(g.2.2)),(0,wm W)]) (fun g=>((g.1)≤d0.length)∧((g.2.1)=(true,cT (d0.take (g.1))))∧(Ow (.ptr QR) (g.2.2) [Vp s1_0] (s1_0,(g.2.1)))) (fun g=>d0.length - (g.1)) (0,(true,[]),m1) (⟨by omega,by rfl,f1_0⟩) ⟨esn,fun _ h=>h.sub [101,0]⟩ ?_
 rintro ⟨k,t,t_m⟩ ⟨hk,ht,h_t⟩
 replace hk:k≤d0.length:=hk
 replace ht:t=(true,cT (d0.take k)):=ht
 replace h_t:Ow (.ptr QR) t_m [Vp s1_0] (s1_0,t):=h_t
 show VC _ _ _ _ _ [(4,.int .i64 (((k:Nat):Int))),(0,.slice A0 (d0.length) (c0)),(2,.pointer none),(3,Vp s1_0)] [(101,t_m),(0,wm W)]
 have htl:t.2.length≤8*d0.length:=by rw [ht];exact Qrw e0 k
 refine VC.seq (VC.rs (VO.mv (VO.mv (VO.z (.lenS rfl JS) (VO.z (.lss rfl rfl) (VO.k5 0 2 3 4 9 ?_))))))
 refine VC.cond rfl (fun hc2=>?_) (fun hc2=>?_)
 ·refine VC.skip (Qg (VC.seq (VC.block ?_)))
  refine VC.reg ?_
  refine VO.mv (VO.mv (VO.mv ?_))
  obtain ⟨x3,hx3⟩:∃ z_,(d0)[k]? =some z_:=⟨_,List.getElem?_eq_getElem (by first | exact bd | (have h_:=Qd4 (e0 _ (List.mem_of_getElem? ‹d0[_]? =some _›));omega))⟩
  obtain ⟨gg3,oo3,ec3,ea3,hce3,hre3⟩:=h0.elem hx3
  cases ea3
  obtain ⟨q3_A2,q3_c2,rfl,q3_0,q3_1,q3_2⟩:=Jc (x0:=x3.1) (x1:=x3.2.1) (x2:=x3.2.2) hre3
  simp only [inK] at q3_0 q3_1
  refine VO.z (.ixI k rfl rfl JS rfl (by first | exact bd | (have h_:=Qd4 (e0 _ (List.mem_of_getElem? ‹d0[_]? =some _›));omega))) ?_
  refine VO.z (.fa rfl JV rfl) ?_
  refine VO.z (.ld1 0 rfl Jw rfl (hce3.at1 (j:=2) rfl)) ?_
  refine VO.call 101 rfl Qjj rfl rfl (fun W hW=>Qdv W (hW.t 101) h_t (Rd.mono q3_2 (hW.o 101 0)) (by (rw [ht];done)) (by first | exact bd | (have h_:=Qd4 (e0 _ (List.mem_of_getElem? ‹d0[_]? =some _›));omega))) (fun v4 m4 hv4=>?_)
  obtain ⟨rfl,w4_0⟩:=hv4
  refine VO.k5 0 2 3 4 9 (Jh (Qg ?_))
  refine VC.reg ?_
  refine VO.mv ?_
  refine VO.z (.add (c:=((k+1:Nat):Int)) rfl rfl Qp ⟨by first | exact bd | (have h_:=Qd4 (e0 _ (List.mem_of_getElem? ‹d0[_]? =some _›));omega),by first | exact bd | (have h_:=Qd4 (e0 _ (List.mem_of_getElem? ‹d0[_]? =some _›));omega)⟩) ?_
  refine VO.as (VO.p2 101 0 (VO.k5 0 2 3 4 9 ?_))
  exact Qg ⟨⟨k+1,(Qbt t x3.2.2).1,m4⟩,⟨by omega,by (rw [ht];exact Qrv e0 ‹d0[k]? =some _›),w4_0⟩,by first | exact bd | (have h_:=Qd4 (e0 _ (List.mem_of_getElem? ‹d0[_]? =some _›));omega),⟨esn,fun _ h=>Inv.sub h [101,0]⟩⟩
 ·refine VC.exit (JU (JU (JT (Qg (VC.rs (VO.mv (VO.as (VO.k5 0 2 3 4 9 (VC.ret ?_)))))))))
  refine XC 2 [101] fun hS_=>?_
  dsimp only [Qu]
  exact ⟨s1_0,(by first | rfl | (simp [*];done)),(Ow.cgP (Ow.up h_t (hS_.1 _ (.head _))) (by first | rfl | ((rw [ht,List.take_of_length_le Qp];done))))⟩
theorem Qfp:JE Tryz.prog 116=true:=by kernel_rfl
theorem Qq7:JE Tryz.prog 120=true:=by kernel_rfl
theorem Qq6:JE Tryz.prog 123=true:=by kernel_rfl
theorem Qgl:JE Tryz.prog 66=true:=by kernel_rfl
theorem Qd2:JE Tryz.prog 72=true:=by kernel_rfl
theorem Qpn:JE Tryz.prog 77=true:=by kernel_rfl
theorem fnOk78:JE Tryz.prog 78=true:=by kernel_rfl
theorem tk72:tk Tryz.prog 72=some none:=by kernel_rfl
theorem Yw:tst Tryz.prog 125=some [(0,1),(1,1),(2,1)]:=by kernel_rfl
theorem QcT (W:World) {c_:List Qe} {bx_:Bool} {k_:List Jv} {R_:QD} {gr_:Nat} {gx_:Nat} {m0:Mem} (hm:mle (m0) (wm W)) {g0:Nat} (h0:Ow (.ptr QQ) m0 [Vp g0] (g0,(true,(gx_,(true,(gr_,R_),k_,bx_)),c_))):Qc Tryz.prog 116 [Vp g0] W (m0) (fun v m'=>v= .bool (decide (False))∧Ow (.ptr QQ) m' [Vp g0] (g0,(true,(gx_,(true,(gr_,R_),k_,bx_)),c_))):=by
 refine Qc.ofB (n:=12) hm Tryz.func116 rfl rfl rfl ?_
 refine VC.rs (VO.as (VO.k2 0 2 (VC.rs (VO.mv ?_))))
 refine VO.z (.pnil rfl rfl Tryz.underlying76 rfl) ?_
 refine VO.mv (VO.w (.mv rfl) (VO.w (.nilp rfl) (VO.w (.fa rfl Yw rfl) ?_)))
 obtain ⟨q1_E,q1_A2,q1_c2,q1_n1,q1_n2,_,q1_S,q1_1,q1_2⟩:=QZ (x0:=true) (x1:=(gx_,(true,(gr_,R_),k_,bx_))) (x2:=c_) h0
 dsimp only at q1_1
 refine VO.inv _ (fun _ h=>h.parts (i:=1) rfl q1_S [104,102,103]) ?_
 refine VO.w (.ld1 104 rfl tk4 rfl (Qa rfl rfl)) (VO.w (.not rfl) (VO.z (.pF rfl rfl) (VO.as ?_)))
 refine VO.clsP 105 [104,102,103] rfl (fun hg5=>(Q9 _ _ _ hg5 q1_1 q1_2)) (fun mc5 ho5=>?_)
 refine VO.k2 0 2 (VC.ret ?_)
 exact ZD 2 105 rfl ho5 (by first | rfl | (simp [*];done)) (by first | rfl | (rfl))
theorem QbE (W:World) {c_:List Qe} {bx_:Bool} {k_:List Jv} {R_:QD} {gr_:Nat} {gx_:Nat} {m0:Mem} (hm:mle (m0) (wm W)) {g0:Nat} (h0:Ow (.ptr QQ) m0 [Vp g0] (g0,(true,(gx_,(true,(gr_,R_),k_,bx_)),c_))) (e0:okU k_) (e1:c_.length≤2000000):Qc Tryz.prog 72 [Vp g0] W (m0) (fun v m'=>v= .int .i64 (Qy k_+((c_.length:Nat):Int))∧Ow (.ptr QQ) m' [Vp g0] (g0,(true,(gx_,(true,(gr_,R_),k_,bx_)),c_))):=by
 have hll:=Za e0
 refine Qc.ofB (n:=16) hm Tryz.func72 rfl rfl rfl ?_
 refine VC.rs (VO.as (VO.k2 0 2 (VC.seq (VC.rs (VO.mv ?_)))))
 refine VO.call 1 rfl Qfp rfl rfl (fun W hW=>QcT W (hW.t 1) h0) (fun v1 m1 hv1=>?_)
 try dsimp only at hv1
 obtain ⟨rfl,w1_0⟩:=hv1
 refine VO.k3 0 2 4 ?_
 refine VC.cond rfl (fun hc2=>?_) (fun hc2=>?_)
 exact hc2.elim
 ·refine VC.skip (Qg (VC.seq ?_))
  obtain ⟨q3_E,q3_A2,q3_c2,q3_n1,q3_n2,_,q3_S,q3_1,q3_2⟩:=QZ (x0:=true) (x1:=(gx_,(true,(gr_,R_),k_,bx_))) (x2:=c_) w1_0
  dsimp only at q3_1
  refine VC.inv _ (fun _ h=>h.parts (i:=1) rfl q3_S [106,104,105]) ?_
  refine VC.regD _ 10 [(0,true),(1,true),(2,true),(3,true),(5,true),(6,true),(7,true),(8,true),(9,true),(4,false)] follows (by kernel_rfl) (fun _ h=>h.sub [106,105,0]) ?_
  refine VD.z rfl (.mv rfl) (VD.z rfl (.nilp rfl) (VD.z rfl (.fa rfl Yw rfl) (VD.z rfl (.ld1 106 rfl tk72 rfl (Qa rfl rfl)) (VD.z rfl (.mv rfl) (VD.z rfl (.nilp rfl) (VD.z rfl (.fa rfl Yw rfl) (VD.z rfl (.ld1 106 rfl Qdp rfl (Qa rfl rfl)) (VD.z rfl (.lenS rfl JS) ?_))))))))
  refine VD.call 104 rfl rfl (.inl rfl) Qij rfl rfl (fun _ _ h=>h.sub [106,105,0]) (fun W hW=>QeF W (hW.t 104) q3_1 Qf) (fun v7 m7 hv7=>?_)
  try dsimp only at hv7
  obtain ⟨rfl,w7_0⟩:=hv7
  refine VD.nil rfl ?_ rfl
  refine VO.z (.add rfl rfl rfl ⟨bd,bd⟩) ?_
  refine VO.as ?_
  refine VO.clsP 108 [106,104,105] rfl (fun hg8=>(Q9 _ _ _ hg8 w7_0 q3_2)) (fun mc8 ho8=>?_)
  refine VO.p2 108 0 (VO.k3 0 2 4 (Qg (VC.ret ?_)))
  exact ZD 2 108 rfl ho8 (by first | rfl | (simp [*];done)) (by first | rfl | (simp [*];done))
theorem QnN (W:World) {c_:List Qe} {bx_:Bool} {k_:List Jv} {R_:QD} {gr_:Nat} {gx_:Nat} {m0:Mem} (hm:mle (m0) (wm W)) {g0:Nat} (h0:Ow (.ptr QQ) m0 [Vp g0] (g0,(true,(gx_,(true,(gr_,R_),k_,bx_)),c_))):Qc Tryz.prog 75 [Vp g0] W (m0) (fun v m'=>v= .int .i64 ((c_.length:Nat):Int)∧Ow (.ptr QQ) m' [Vp g0] (g0,(true,(gx_,(true,(gr_,R_),k_,bx_)),c_))):=by
 refine Qc.ofB (n:=10) hm Tryz.func75 rfl rfl rfl ?_
 refine VC.rs (VO.as (VO.k2 0 2 (VC.seq (VC.rs (VO.mv ?_)))))
 refine VO.call 1 rfl Qfp rfl rfl (fun W hW=>QcT W (hW.t 1) h0) (fun v1 m1 hv1=>?_)
 try dsimp only at hv1
 obtain ⟨rfl,w1_0⟩:=hv1
 refine VO.k3 0 2 4 ?_
 refine VC.cond rfl (fun hc2=>?_) (fun hc2=>?_)
 exact hc2.elim
 ·refine VC.skip (Qg (VC.rs (VO.mv (VO.z (.nilp rfl) (VO.z (.fa rfl Yw rfl) ?_)))))
  obtain ⟨q3_E,q3_A2,q3_c2,q3_n1,q3_n2,_,q3_S,q3_1,q3_2⟩:=QZ (x0:=true) (x1:=(gx_,(true,(gr_,R_),k_,bx_))) (x2:=c_) w1_0
  dsimp only at q3_1
  refine VO.inv _ (fun _ h=>h.parts (i:=1) rfl q3_S [106,104,105]) ?_
  refine VO.z (.ld1 106 rfl Qdp rfl (Qa rfl rfl)) (VO.z (.lenS rfl JS) (VO.as ?_))
  refine VO.clsP 107 [106,104,105] rfl (fun hg7=>(Q9 _ _ _ hg7 q3_1 q3_2)) (fun mc7 ho7=>?_)
  refine VO.p2 107 0 (VO.k3 0 2 4 (VC.ret ?_))
  exact ZD 2 107 rfl ho7 (by first | rfl | (simp [*];done)) (by first | rfl | (simp [*];done))
theorem Zy {P:Prop} (h:P:=by first | (rw [Qcc (by assumption)] <;> rfl) | (rw [Qlc (by assumption) (by omega) (by assumption)] <;> rfl) | (rw [QoW (by assumption) (by omega) (by assumption)] <;> rfl) | (rw [Qld (by assumption) ‹c_[_]? =some _› (by omega) (by assumption)] <;> rfl) | (rw [QoX (by assumption) ‹c_[_]? =some _› (by omega) (by assumption)] <;> rfl)):P:=h
theorem Zw {P:Prop} (h:P:=by first | (rw [Qcc (by assumption)];done) | (rw [Qlc (by assumption) (by omega) (by assumption)];done) | (rw [QoW (by assumption) (by omega) (by assumption)];done) | (rw [Qld (by assumption) ‹c_[_]? =some _› (by omega) (by assumption)];done) | (rw [QoX (by assumption) ‹c_[_]? =some _› (by omega) (by assumption)];done)):P:=h
theorem QT {P:Prop} (h:P:=by first | exact bd | (have h_:=Xw (Decidable.not_not.1 ‹¬ ¬ Q0 d1=0›);have h2_:=X9 h_.2.2.2.2;omega)):P:=h
theorem Jx {k:IntKind} {x:Int} (h:inK k x:=by simp only [inK];exact QT):inK k x:=h
set_option maxHeartbeats 1000000 in
theorem Qht (W:World) {c_:List Qe} {bx_:Bool} {k_:List Jv} {R_:QD} {gr_:Nat} {gx_:Nat} {m0:Mem} (hm:mle (m0) (wm W)) {g0:Nat} (h0:Ow (.ptr QQ) m0 [Vp g0] (g0,(true,(gx_,(true,(gr_,R_),k_,bx_)),c_))) {v1:List Value} {d1:Qe} (h1:Rd QA (Ju (wm W) (m0)) v1 d1) (e0:okU k_) (e1:c_.length≤1000000):Qc Tryz.prog 73 [Vp g0,.agg v1.toArray] W (m0) (fun v m'=>v= .int .i64 ((ZQ k_ c_ d1).2)∧Ow (.ptr QQ) m' [Vp g0] (g0,(true,(gx_,(true,(gr_,R_),k_,bx_)),(ZQ k_ c_ d1).1))):=by
 have hll:=Za e0
 obtain ⟨p1_A2,p1_c2,rfl,p1_0,p1_1,p1_2⟩:=Jc (x0:=d1.1) (x1:=d1.2.1) (x2:=d1.2.2) h1
 simp only [inK] at p1_0 p1_1
 refine Qc.ofB (n:=52) hm Tryz.func73 rfl rfl rfl ?_
 refine VC.rs ?_
 refine VO.box (cs:=[.int .i64 (d1.1),.int .i64 (d1.2.1),.slice p1_A2 (d1.2.2.length) (p1_c2)]) 102 rfl rfl rfl (fun g1=>?_)
 refine VO.as (VO.k4 0 1 3 4 (VC.seq (VC.rs (VO.mv ?_))))
 refine VO.call 1 rfl Qfp rfl rfl (fun W hW=>QcT W (hW.t 1) h0) (fun v3 m3 hv3=>?_)
 try dsimp only at hv3
 obtain ⟨rfl,w3_0⟩:=hv3
 refine VO.k5 0 1 3 4 8 ?_
 refine VC.cond rfl (fun hc4=>?_) (fun hc4=>?_)
 exact hc4.elim
 refine VC.skip (Qg (VC.rs (VO.z (.ldA 102 rfl XN rfl (Qa rfl rfl)) ?_)))
 refine VO.callN 105 rfl Qm8 rfl (fun W hW=>Qgz W (Rd.mono h1 (hW.t 0))) (fun v5 m5 hv5=>?_)
 subst hv5
 refine VO.as (VO.p3 1 102 0 (VO.k6 0 1 3 4 5 8 (VC.seq (VC.rs (VO.mv (VO.z (.neq rfl rfl) (VO.k7 0 1 3 4 5 8 12 ?_)))))))
 refine VC.cond rfl (fun hc7=>?_) (fun hc7=>?_)
 refine VC.rs (VO.mv (VO.as (VO.k7 0 1 3 4 5 8 12 (VC.ret (QK ?_)))))
 exact ZD 4 1 rfl w3_0 (by first | rfl | exact Zw) (by first | rfl | exact Zy)
 refine VC.skip (Qg (VC.rs (VO.as (VO.k8 0 1 3 4 5 6 8 12 (VC.seq (VC.rs (VO.mv (VO.z (.nilp rfl) (VO.z (.fa rfl Yw rfl) ?_)))))))))
 obtain ⟨q8_E,q8_A2,q8_c2,q8_n1,q8_n2,_,q8_S,q8_1,q8_2⟩:=QZ (x0:=true) (x1:=(gx_,(true,(gr_,R_),k_,bx_))) (x2:=c_) w3_0
 dsimp only at q8_1
 refine VO.inv _ (fun _ h=>h.parts (i:=1) rfl q8_S [111,109,110]) ?_
 refine VO.z (.ld1 111 rfl Qdp rfl (Qa rfl rfl)) (VO.z (.lenS rfl JS) (VO.z (.gtr rfl rfl) ?_))
 refine VO.clsP 112 [111,109,110] rfl (fun hg12=>(Q9 _ _ _ hg12 q8_1 q8_2)) (fun mc12 ho12=>?_)
 refine VO.p3 112 102 0 (VO.k9 0 1 3 4 5 6 8 12 19 ?_)
 refine VC.cond rfl (fun hc13=>?_) (fun hc13=>?_)
 obtain ⟨q14_E,q14_A2,q14_c2,q14_n1,q14_n2,_,q14_S,q14_1,q14_2⟩:=QZ (x0:=true) (x1:=(gx_,(true,(gr_,R_),k_,bx_))) (x2:=c_) ho12
 dsimp only at q14_1
 refine VC.inv _ (fun _ h=>h.parts (i:=112) rfl q14_S [117,115,116]) ?_
 refine VC.regD _ 10 [(0,true),(1,true),(2,true),(3,true),(4,true),(5,true),(6,true),(7,true),(8,true),(9,true)] follows (by kernel_rfl) (fun _ h=>h.sub [117,115,116,102,0]) ?_
 refine VD.z rfl (.mv rfl) (VD.z rfl (.nilp rfl) (VD.z rfl (.fa rfl Yw rfl) (VD.z rfl (.ld1 117 rfl Qdp rfl (Qa rfl rfl)) (VD.z rfl (.mv rfl) (VD.z rfl (.nilp rfl) (VD.z rfl (.fa rfl Yw rfl) (VD.z rfl (.ld1 117 rfl Qdp rfl (Qa rfl rfl)) (VD.z rfl (.lenS rfl JS) ?_))))))))
 refine VD.z rfl (.sub rfl rfl rfl ⟨by exact QT,by exact QT⟩) ?_
 refine VD.nil rfl ?_ rfl
 obtain ⟨x18,hx18⟩:∃ z_,(c_)[(((c_.length:Nat):Int) - 1).toNat]? =some z_:=⟨_,List.getElem?_eq_getElem QT⟩
 obtain ⟨gg18,oo18,ec18,ea18,hce18,hre18⟩:=(Ow.rd q14_2 (Qb _)).elem hx18
 cases ea18
 obtain ⟨q18_A2,q18_c2,rfl,q18_0,q18_1,q18_2⟩:=Jc (x0:=x18.1) (x1:=x18.2.1) (x2:=x18.2.2) hre18
 simp only [inK] at q18_0 q18_1
 refine VO.z (.ixI ((((c_.length:Nat):Int) - 1).toNat) rfl rfl JS QT QT) ?_
 refine VO.z (.fa rfl JV rfl) ?_
 refine VO.z (.ld1 116 rfl tk3 rfl (hce18.at1 (j:=0) rfl)) ?_
 refine VO.as ?_
 refine VO.clsP 119 [117,115,116] rfl (fun hg19=>(Q9 _ _ _ hg19 q14_1 q14_2)) (fun mc19 ho19=>?_)
 refine VO.k9 0 1 3 4 5 6 8 12 19 (Qg (VC.seq (VC.seq ?_)))
 refine VC.regE [(102,Qo g1 (.cells #[.int .i64 (d1.1),.int .i64 (d1.2.1),.slice p1_A2 (d1.2.2.length) (p1_c2)] 36 (0,0))),(0,Ju (wm W) (m0))] 7 follows (by kernel_rfl) (fun _ h=>h.sub [102,0]) ?_
 refine VE.y 0 rfl rfl (.inl rfl) (by kernel_rfl) (.mv rfl) ?_
 refine VE.y 1 rfl rfl (.inl rfl) (by kernel_rfl) (.mv rfl) ?_
 refine VE.y 3 rfl rfl (.inl rfl) (by kernel_rfl) (.ldA 102 rfl XN rfl (Qa rfl rfl)) ?_
 refine VE.y 6 rfl rfl (.inl rfl) (by kernel_rfl) (.bst (cs:=[Value.int .i64 (0),Value.int .i64 (0)]) rfl QaO QfC rfl) ?_
 refine VE.tree [2,4] (by kernel_rfl) ⟨?_,?_,trivial⟩
 refine VI.call 119 rfl rfl (.inl rfl) Qd2 rfl rfl (fun _ _ h=>Inv.sbK [102,0] h) (fun W hW=>QbE W (hW.t 119) ho19 Qf QT) (fun v20 m20 hv20=>?_)
 try dsimp only at hv20
 obtain ⟨rfl,w20_0⟩:=hv20
 refine VE.tree [4] (by kernel_rfl) ⟨?_,trivial⟩
 refine VI.bsl (cs:=[.int .i64 (d1.1),.int .i64 (d1.2.1),.slice p1_A2 (d1.2.2.length) (p1_c2)]) 122 rfl rfl rfl JS Qba rfl rfl (fun _ h=>Inv.sbK [102,0] h) (fun g21=>?_)
 refine VE.tree [5] (by kernel_rfl) ⟨?_,trivial⟩
 have ho24:Qz QA (Qo g21 (.cells [Value.int .i64 (d1.1),Value.int .i64 (d1.2.1),Value.slice p1_A2 (d1.2.2.length) (p1_c2)].toArray 36 (0,0))) (Ju (wm W) (m0)) (Value.slice (some ⟨g21,0,none⟩) (1) (1)) [d1]:=Qz.lit 1 (Q8.cons (c1:=[Value.int .i64 (d1.1),Value.int .i64 (d1.2.1),Value.slice p1_A2 (d1.2.2.length) (p1_c2)]) (Rd.mono h1 (Qb _)) Q8.nil) rfl rfl
 refine VI.callN 123 rfl rfl (.inl rfl) Qgl rfl (fun _ h=>Inv.sbK [102,0] h) (fun W hW=>Xi W x18.1 Jx (Qy k_+((c_.length:Nat):Int)) Jx (Qz.rd ho24 (hW.t 122) (hW.t 0))) (fun v23 m23 hv23=>?_)
 obtain ⟨s23_0,rfl,f23_0⟩:=hv23
 obtain ⟨rfl,q23_0_0,q23_0_1⟩:=Xg (x0:=(Qi x18.1 (Qy k_+((c_.length:Nat):Int)) ([d1])).1) (x1:=(Qi x18.1 (Qy k_+((c_.length:Nat):Int)) ([d1])).2) (f23_0.rd (Qb _))
 simp only [inK] at q23_0_0 q23_0_1
 refine VE.nil (by kernel_rfl) rfl ?_ rfl
 refine VO.z (.stneq (p:=((Qi x18.1 (Qy k_+((c_.length:Nat):Int)) ([d1])).1)=0∧((Qi x18.1 (Qy k_+((c_.length:Nat):Int)) ([d1])).2)=0) rfl rfl (QaX ((Qi x18.1 (Qy k_+((c_.length:Nat):Int)) ([d1])).1) ((Qi x18.1 (Qy k_+((c_.length:Nat):Int)) ([d1])).2)) (QaX 0 0) (by simp [ceq,Yd])) ?_
 refine VO.k10 0 1 3 4 5 6 8 12 19 40 (Qg ?_)
 refine VC.cond rfl (fun hc25=>?_) (fun hc25=>?_)
 refine VC.rs (VO.as (VO.p3 119 102 0 (VO.k10 0 1 3 4 5 6 8 12 19 40 (VC.ret (QK ?_)))))
 exact ZD 4 119 rfl w20_0 (by first | rfl | exact Zw) (by first | rfl | exact Zy)
 refine VC.skip (Qg (VC.seq ?_))
 obtain ⟨q26_E,q26_A2,q26_c2,q26_n1,q26_n2,_,q26_S,q26_1,q26_2⟩:=QZ (x0:=true) (x1:=(gx_,(true,(gr_,R_),k_,bx_))) (x2:=c_) w20_0
 dsimp only at q26_1
 refine VC.inv _ (fun _ h=>h.parts (i:=119) rfl q26_S [129,127,128]) ?_
 refine VC.regD _ 9 [(0,true),(1,true),(2,true),(3,true),(4,true),(5,true),(6,false),(7,false),(8,false)] follows (by kernel_rfl) (fun _ h=>h.sub [129,127,123,122,102,0]) ?_
 refine VD.z rfl (.mv rfl) (VD.z rfl (.mv rfl) (VD.z rfl (.nilp rfl) (VD.z rfl (.fa rfl Yw rfl) (VD.z rfl (.ld1 129 rfl Qdp rfl (Qa rfl rfl)) (VD.z rfl (.ldA 102 rfl XN rfl (Qa rfl rfl)) ?_)))))
 refine VD.callN 130 rfl rfl (.inl rfl) Qfq rfl (fun _ h=>h.sub [129,127,123,122,102,0]) (fun W hW=>Qb1 W (Rd.mono h1 (hW.t 0)) QT) (fun v30 m30 hv30=>?_)
 obtain ⟨s30_0,rfl,f30_0⟩:=hv30
 obtain ⟨q30_0_A2,q30_0_c2,q30_0_n2,rfl,q30_0_S,q30_0_0,q30_0_1,q30_0_2⟩:=Xh (x0:=d1.1) (x1:=d1.2.1) (x2:=d1.2.2) f30_0
 simp only [inK] at q30_0_0 q30_0_1
 refine VD.inv _ (fun _ h=>h.parts (i:=130) rfl q30_0_S [131]) ?_
 refine VD.bsl (cs:=[.int .i64 (d1.1),.int .i64 (d1.2.1),.slice q30_0_A2 (d1.2.2.length) (q30_0_c2)]) 133 rfl rfl rfl JS Qba rfl rfl (fun _ h=>h.sub [129,127,123,122,102,0]) (fun g32=>?_)
 refine VD.appO (e:=QA) 128 131 133 rfl rfl rfl rfl JS Qba rfl rfl rfl rfl q26_2 (show Ow QA _ _ d1 from (Yr d1.1 d1.2.1 d1.2.2 (Qt.one (Qb _)) Jx Jx q30_0_2)) Tryz.underlying27 (Qa rfl rfl) (by simp only [maxLen];(exact QT)) QT (by decide) (fun _ _ h=>h.sub [129,127,123,122,102,0]) (fun v34 m34 ho34=>?_)
 obtain ⟨A34,c34,rfl,l34,k34⟩:=ho34.slc
 refine VD.nil rfl ?_ rfl
 refine VO.z (.nilp rfl) (VO.z (.fa rfl Yw rfl) ?_)
 refine VO.store (k:=1) (c':=[.bool true,Vp gx_,.slice A34 ((c_++[d1]).length) (c34)]) 129 rfl rfl (.inr ⟨Qdp,rfl⟩) rfl rfl rfl rfl rfl ?_
 refine VO.clsP 135 [129,127,128] rfl (fun hg35=>(Q9 _ _ _ hg35 q26_1 ho34)) (fun mc35 ho35=>?_)
 refine VO.p3 135 102 0 (VO.k10 0 1 3 4 5 6 8 12 19 40 (Qg (VC.rs (VO.as (VO.k10 0 1 3 4 5 6 8 12 19 40 (VC.ret ?_))))))
 exact ZD 4 135 rfl ho35 (by first | rfl | exact Zw) (by first | rfl | exact Zy)
 refine VI.bsl (cs:=[.int .i64 (d1.1),.int .i64 (d1.2.1),.slice p1_A2 (d1.2.2.length) (p1_c2)]) 137 rfl rfl rfl JS Qba rfl rfl (fun _ h=>Inv.sbK [102,0] h) (fun g36=>?_)
 refine VE.tree [2] (by kernel_rfl) ⟨?_,trivial⟩
 refine VI.call 119 rfl rfl (.inl rfl) Qd2 rfl rfl (fun _ _ h=>Inv.sbK [102,0] h) (fun W hW=>QbE W (hW.t 119) ho19 Qf QT) (fun v38 m38 hv38=>?_)
 try dsimp only at hv38
 obtain ⟨rfl,w38_0⟩:=hv38
 refine VE.tree [5] (by kernel_rfl) ⟨?_,trivial⟩
 have ho40:Qz QA (Qo g36 (.cells [Value.int .i64 (d1.1),Value.int .i64 (d1.2.1),Value.slice p1_A2 (d1.2.2.length) (p1_c2)].toArray 36 (0,0))) (Ju (wm W) (m0)) (Value.slice (some ⟨g36,0,none⟩) (1) (1)) [d1]:=Qz.lit 1 (Q8.cons (c1:=[Value.int .i64 (d1.1),Value.int .i64 (d1.2.1),Value.slice p1_A2 (d1.2.2.length) (p1_c2)]) (Rd.mono h1 (Qb _)) Q8.nil) rfl rfl
 refine VI.callN 139 rfl rfl (.inl rfl) Qgl rfl (fun _ h=>Inv.sbK [102,0] h) (fun W hW=>Xi W x18.1 Jx (Qy k_+((c_.length:Nat):Int)) Jx (Qz.rd ho40 (hW.t 137) (hW.t 0))) (fun v39 m39 hv39=>?_)
 obtain ⟨s39_0,rfl,f39_0⟩:=hv39
 obtain ⟨rfl,q39_0_0,q39_0_1⟩:=Xg (x0:=(Qi x18.1 (Qy k_+((c_.length:Nat):Int)) ([d1])).1) (x1:=(Qi x18.1 (Qy k_+((c_.length:Nat):Int)) ([d1])).2) (f39_0.rd (Qb _))
 simp only [inK] at q39_0_0 q39_0_1
 refine VE.nil (by kernel_rfl) rfl ?_ rfl
 refine VO.z (.stneq (p:=((Qi x18.1 (Qy k_+((c_.length:Nat):Int)) ([d1])).1)=0∧((Qi x18.1 (Qy k_+((c_.length:Nat):Int)) ([d1])).2)=0) rfl rfl (QaX ((Qi x18.1 (Qy k_+((c_.length:Nat):Int)) ([d1])).1) ((Qi x18.1 (Qy k_+((c_.length:Nat):Int)) ([d1])).2)) (QaX 0 0) (by simp [ceq,Yd])) ?_
 refine VO.k10 0 1 3 4 5 6 8 12 19 40 (Qg ?_)
 refine VC.cond rfl (fun hc41=>?_) (fun hc41=>?_)
 refine VC.rs (VO.as (VO.p3 119 102 0 (VO.k10 0 1 3 4 5 6 8 12 19 40 (VC.ret (QK ?_)))))
 exact ZD 4 119 rfl w38_0 (by first | rfl | exact Zw) (by first | rfl | exact Zy)
 refine VC.skip (Qg (VC.seq ?_))
 obtain ⟨q42_E,q42_A2,q42_c2,q42_n1,q42_n2,_,q42_S,q42_1,q42_2⟩:=QZ (x0:=true) (x1:=(gx_,(true,(gr_,R_),k_,bx_))) (x2:=c_) w38_0
 dsimp only at q42_1
 refine VC.inv _ (fun _ h=>h.parts (i:=119) rfl q42_S [145,143,144]) ?_
 refine VC.regD _ 9 [(0,true),(1,true),(2,true),(3,true),(4,true),(5,true),(6,false),(7,false),(8,false)] follows (by kernel_rfl) (fun _ h=>h.sub [145,143,139,137,102,0]) ?_
 refine VD.z rfl (.mv rfl) (VD.z rfl (.mv rfl) (VD.z rfl (.nilp rfl) (VD.z rfl (.fa rfl Yw rfl) (VD.z rfl (.ld1 145 rfl Qdp rfl (Qa rfl rfl)) (VD.z rfl (.ldA 102 rfl XN rfl (Qa rfl rfl)) ?_)))))
 refine VD.callN 146 rfl rfl (.inl rfl) Qfq rfl (fun _ h=>h.sub [145,143,139,137,102,0]) (fun W hW=>Qb1 W (Rd.mono h1 (hW.t 0)) QT) (fun v46 m46 hv46=>?_)
 obtain ⟨s46_0,rfl,f46_0⟩:=hv46
 obtain ⟨q46_0_A2,q46_0_c2,q46_0_n2,rfl,q46_0_S,q46_0_0,q46_0_1,q46_0_2⟩:=Xh (x0:=d1.1) (x1:=d1.2.1) (x2:=d1.2.2) f46_0
 simp only [inK] at q46_0_0 q46_0_1
 refine VD.inv _ (fun _ h=>h.parts (i:=146) rfl q46_0_S [147]) ?_
 refine VD.bsl (cs:=[.int .i64 (d1.1),.int .i64 (d1.2.1),.slice q46_0_A2 (d1.2.2.length) (q46_0_c2)]) 149 rfl rfl rfl JS Qba rfl rfl (fun _ h=>h.sub [145,143,139,137,102,0]) (fun g48=>?_)
 refine VD.appO (e:=QA) 144 147 149 rfl rfl rfl rfl JS Qba rfl rfl rfl rfl q42_2 (show Ow QA _ _ d1 from (Yr d1.1 d1.2.1 d1.2.2 (Qt.one (Qb _)) Jx Jx q46_0_2)) Tryz.underlying27 (Qa rfl rfl) (by simp only [maxLen];(exact QT)) QT (by decide) (fun _ _ h=>h.sub [145,143,139,137,102,0]) (fun v50 m50 ho50=>?_)
 obtain ⟨A50,c50,rfl,l50,k50⟩:=ho50.slc
 refine VD.nil rfl ?_ rfl
 refine VO.z (.nilp rfl) (VO.z (.fa rfl Yw rfl) ?_)
 refine VO.store (k:=1) (c':=[.bool true,Vp gx_,.slice A50 ((c_++[d1]).length) (c50)]) 145 rfl rfl (.inr ⟨Qdp,rfl⟩) rfl rfl rfl rfl rfl ?_
 refine VO.clsP 151 [145,143,144] rfl (fun hg51=>(Q9 _ _ _ hg51 q42_1 ho50)) (fun mc51 ho51=>?_)
 refine VO.p3 151 102 0 (VO.k10 0 1 3 4 5 6 8 12 19 40 (Qg (VC.rs (VO.as (VO.k10 0 1 3 4 5 6 8 12 19 40 (VC.ret ?_))))))
 exact ZD 4 151 rfl ho51 (by first | rfl | exact Zw) (by first | rfl | exact Zy)
 refine VC.skip (Qg (VC.seq (VC.seq ?_)))
 refine VC.regE [(102,Qo g1 (.cells #[.int .i64 (d1.1),.int .i64 (d1.2.1),.slice p1_A2 (d1.2.2.length) (p1_c2)] 36 (0,0))),(0,Ju (wm W) (m0))] 7 follows (by kernel_rfl) (fun _ h=>h.sub [102,0]) ?_
 refine VE.y 0 rfl rfl (.inl rfl) (by kernel_rfl) (.mv rfl) ?_
 refine VE.y 1 rfl rfl (.inl rfl) (by kernel_rfl) (.mv rfl) ?_
 refine VE.y 3 rfl rfl (.inl rfl) (by kernel_rfl) (.ldA 102 rfl XN rfl (Qa rfl rfl)) ?_
 refine VE.y 6 rfl rfl (.inl rfl) (by kernel_rfl) (.bst (cs:=[Value.int .i64 (0),Value.int .i64 (0)]) rfl QaO QfC rfl) ?_
 refine VE.tree [2,4] (by kernel_rfl) ⟨?_,?_,trivial⟩
 refine VI.call 112 rfl rfl (.inl rfl) Qd2 rfl rfl (fun _ _ h=>Inv.sbK [102,0] h) (fun W hW=>QbE W (hW.t 112) ho12 Qf QT) (fun v52 m52 hv52=>?_)
 try dsimp only at hv52
 obtain ⟨rfl,w52_0⟩:=hv52
 refine VE.tree [4] (by kernel_rfl) ⟨?_,trivial⟩
 refine VI.bsl (cs:=[.int .i64 (d1.1),.int .i64 (d1.2.1),.slice p1_A2 (d1.2.2.length) (p1_c2)]) 154 rfl rfl rfl JS Qba rfl rfl (fun _ h=>Inv.sbK [102,0] h) (fun g53=>?_)
 refine VE.tree [5] (by kernel_rfl) ⟨?_,trivial⟩
 have ho56:Qz QA (Qo g53 (.cells [Value.int .i64 (d1.1),Value.int .i64 (d1.2.1),Value.slice p1_A2 (d1.2.2.length) (p1_c2)].toArray 36 (0,0))) (Ju (wm W) (m0)) (Value.slice (some ⟨g53,0,none⟩) (1) (1)) [d1]:=Qz.lit 1 (Q8.cons (c1:=[Value.int .i64 (d1.1),Value.int .i64 (d1.2.1),Value.slice p1_A2 (d1.2.2.length) (p1_c2)]) (Rd.mono h1 (Qb _)) Q8.nil) rfl rfl
 refine VI.callN 155 rfl rfl (.inl rfl) Qgl rfl (fun _ h=>Inv.sbK [102,0] h) (fun W hW=>Xi W 1 Jx (Qy k_+((c_.length:Nat):Int)) Jx (Qz.rd ho56 (hW.t 154) (hW.t 0))) (fun v55 m55 hv55=>?_)
 obtain ⟨s55_0,rfl,f55_0⟩:=hv55
 obtain ⟨rfl,q55_0_0,q55_0_1⟩:=Xg (x0:=(Qi 1 (Qy k_+((c_.length:Nat):Int)) ([d1])).1) (x1:=(Qi 1 (Qy k_+((c_.length:Nat):Int)) ([d1])).2) (f55_0.rd (Qb _))
 simp only [inK] at q55_0_0 q55_0_1
 refine VE.nil (by kernel_rfl) rfl ?_ rfl
 refine VO.z (.stneq (p:=((Qi 1 (Qy k_+((c_.length:Nat):Int)) ([d1])).1)=0∧((Qi 1 (Qy k_+((c_.length:Nat):Int)) ([d1])).2)=0) rfl rfl (QaX ((Qi 1 (Qy k_+((c_.length:Nat):Int)) ([d1])).1) ((Qi 1 (Qy k_+((c_.length:Nat):Int)) ([d1])).2)) (QaX 0 0) (by simp [ceq,Yd])) ?_
 refine VO.k10 0 1 3 4 5 6 8 12 19 40 (Qg ?_)
 refine VC.cond rfl (fun hc57=>?_) (fun hc57=>?_)
 refine VC.rs (VO.as (VO.k10 0 1 3 4 5 6 8 12 19 40 (VC.ret (QK ?_))))
 exact ZD 4 112 rfl w52_0 (by first | rfl | exact Zw) (by first | rfl | exact Zy)
 refine VC.skip (Qg (VC.seq ?_))
 obtain ⟨q58_E,q58_A2,q58_c2,q58_n1,q58_n2,_,q58_S,q58_1,q58_2⟩:=QZ (x0:=true) (x1:=(gx_,(true,(gr_,R_),k_,bx_))) (x2:=c_) w52_0
 dsimp only at q58_1
 refine VC.inv _ (fun _ h=>h.parts (i:=112) rfl q58_S [161,159,160]) ?_
 refine VC.regD _ 9 [(0,true),(1,true),(2,true),(3,true),(4,true),(5,true),(6,false),(7,false),(8,false)] follows (by kernel_rfl) (fun _ h=>h.sub [161,159,155,154,102,0]) ?_
 refine VD.z rfl (.mv rfl) (VD.z rfl (.mv rfl) (VD.z rfl (.nilp rfl) (VD.z rfl (.fa rfl Yw rfl) (VD.z rfl (.ld1 161 rfl Qdp rfl (Qa rfl rfl)) (VD.z rfl (.ldA 102 rfl XN rfl (Qa rfl rfl)) ?_)))))
 refine VD.callN 162 rfl rfl (.inl rfl) Qfq rfl (fun _ h=>h.sub [161,159,155,154,102,0]) (fun W hW=>Qb1 W (Rd.mono h1 (hW.t 0)) QT) (fun v62 m62 hv62=>?_)
 obtain ⟨s62_0,rfl,f62_0⟩:=hv62
 obtain ⟨q62_0_A2,q62_0_c2,q62_0_n2,rfl,q62_0_S,q62_0_0,q62_0_1,q62_0_2⟩:=Xh (x0:=d1.1) (x1:=d1.2.1) (x2:=d1.2.2) f62_0
 simp only [inK] at q62_0_0 q62_0_1
 refine VD.inv _ (fun _ h=>h.parts (i:=162) rfl q62_0_S [163]) ?_
 refine VD.bsl (cs:=[.int .i64 (d1.1),.int .i64 (d1.2.1),.slice q62_0_A2 (d1.2.2.length) (q62_0_c2)]) 165 rfl rfl rfl JS Qba rfl rfl (fun _ h=>h.sub [161,159,155,154,102,0]) (fun g64=>?_)
 refine VD.appO (e:=QA) 160 163 165 rfl rfl rfl rfl JS Qba rfl rfl rfl rfl q58_2 (show Ow QA _ _ d1 from (Yr d1.1 d1.2.1 d1.2.2 (Qt.one (Qb _)) Jx Jx q62_0_2)) Tryz.underlying27 (Qa rfl rfl) (by simp only [maxLen];(exact QT)) QT (by decide) (fun _ _ h=>h.sub [161,159,155,154,102,0]) (fun v66 m66 ho66=>?_)
 obtain ⟨A66,c66,rfl,l66,k66⟩:=ho66.slc
 refine VD.nil rfl ?_ rfl
 refine VO.z (.nilp rfl) (VO.z (.fa rfl Yw rfl) ?_)
 refine VO.store (k:=1) (c':=[.bool true,Vp gx_,.slice A66 ((c_++[d1]).length) (c66)]) 161 rfl rfl (.inr ⟨Qdp,rfl⟩) rfl rfl rfl rfl rfl ?_
 refine VO.clsP 167 [161,159,160] rfl (fun hg67=>(Q9 _ _ _ hg67 q58_1 ho66)) (fun mc67 ho67=>?_)
 refine VO.k10 0 1 3 4 5 6 8 12 19 40 (Qg (VC.rs (VO.as (VO.p3 167 102 0 (VO.k10 0 1 3 4 5 6 8 12 19 40 (VC.ret ?_))))))
 exact ZD 4 167 rfl ho67 (by first | rfl | exact Zw) (by first | rfl | exact Zy)
 refine VI.bsl (cs:=[.int .i64 (d1.1),.int .i64 (d1.2.1),.slice p1_A2 (d1.2.2.length) (p1_c2)]) 169 rfl rfl rfl JS Qba rfl rfl (fun _ h=>Inv.sbK [102,0] h) (fun g68=>?_)
 refine VE.tree [2] (by kernel_rfl) ⟨?_,trivial⟩
 refine VI.call 112 rfl rfl (.inl rfl) Qd2 rfl rfl (fun _ _ h=>Inv.sbK [102,0] h) (fun W hW=>QbE W (hW.t 112) ho12 Qf QT) (fun v70 m70 hv70=>?_)
 try dsimp only at hv70
 obtain ⟨rfl,w70_0⟩:=hv70
 refine VE.tree [5] (by kernel_rfl) ⟨?_,trivial⟩
 have ho72:Qz QA (Qo g68 (.cells [Value.int .i64 (d1.1),Value.int .i64 (d1.2.1),Value.slice p1_A2 (d1.2.2.length) (p1_c2)].toArray 36 (0,0))) (Ju (wm W) (m0)) (Value.slice (some ⟨g68,0,none⟩) (1) (1)) [d1]:=Qz.lit 1 (Q8.cons (c1:=[Value.int .i64 (d1.1),Value.int .i64 (d1.2.1),Value.slice p1_A2 (d1.2.2.length) (p1_c2)]) (Rd.mono h1 (Qb _)) Q8.nil) rfl rfl
 refine VI.callN 171 rfl rfl (.inl rfl) Qgl rfl (fun _ h=>Inv.sbK [102,0] h) (fun W hW=>Xi W 1 Jx (Qy k_+((c_.length:Nat):Int)) Jx (Qz.rd ho72 (hW.t 169) (hW.t 0))) (fun v71 m71 hv71=>?_)
 obtain ⟨s71_0,rfl,f71_0⟩:=hv71
 obtain ⟨rfl,q71_0_0,q71_0_1⟩:=Xg (x0:=(Qi 1 (Qy k_+((c_.length:Nat):Int)) ([d1])).1) (x1:=(Qi 1 (Qy k_+((c_.length:Nat):Int)) ([d1])).2) (f71_0.rd (Qb _))
 simp only [inK] at q71_0_0 q71_0_1
 refine VE.nil (by kernel_rfl) rfl ?_ rfl
 refine VO.z (.stneq (p:=((Qi 1 (Qy k_+((c_.length:Nat):Int)) ([d1])).1)=0∧((Qi 1 (Qy k_+((c_.length:Nat):Int)) ([d1])).2)=0) rfl rfl (QaX ((Qi 1 (Qy k_+((c_.length:Nat):Int)) ([d1])).1) ((Qi 1 (Qy k_+((c_.length:Nat):Int)) ([d1])).2)) (QaX 0 0) (by simp [ceq,Yd])) ?_
 refine VO.k10 0 1 3 4 5 6 8 12 19 40 (Qg ?_)
 refine VC.cond rfl (fun hc73=>?_) (fun hc73=>?_)
 refine VC.rs (VO.as (VO.k10 0 1 3 4 5 6 8 12 19 40 (VC.ret (QK ?_))))
 exact ZD 4 112 rfl w70_0 (by first | rfl | exact Zw) (by first | rfl | exact Zy)
 refine VC.skip (Qg (VC.seq ?_))
 obtain ⟨q74_E,q74_A2,q74_c2,q74_n1,q74_n2,_,q74_S,q74_1,q74_2⟩:=QZ (x0:=true) (x1:=(gx_,(true,(gr_,R_),k_,bx_))) (x2:=c_) w70_0
 dsimp only at q74_1
 refine VC.inv _ (fun _ h=>h.parts (i:=112) rfl q74_S [177,175,176]) ?_
 refine VC.regD _ 9 [(0,true),(1,true),(2,true),(3,true),(4,true),(5,true),(6,false),(7,false),(8,false)] follows (by kernel_rfl) (fun _ h=>h.sub [177,175,171,169,102,0]) ?_
 refine VD.z rfl (.mv rfl) (VD.z rfl (.mv rfl) (VD.z rfl (.nilp rfl) (VD.z rfl (.fa rfl Yw rfl) (VD.z rfl (.ld1 177 rfl Qdp rfl (Qa rfl rfl)) (VD.z rfl (.ldA 102 rfl XN rfl (Qa rfl rfl)) ?_)))))
 refine VD.callN 178 rfl rfl (.inl rfl) Qfq rfl (fun _ h=>h.sub [177,175,171,169,102,0]) (fun W hW=>Qb1 W (Rd.mono h1 (hW.t 0)) QT) (fun v78 m78 hv78=>?_)
 obtain ⟨s78_0,rfl,f78_0⟩:=hv78
 obtain ⟨q78_0_A2,q78_0_c2,q78_0_n2,rfl,q78_0_S,q78_0_0,q78_0_1,q78_0_2⟩:=Xh (x0:=d1.1) (x1:=d1.2.1) (x2:=d1.2.2) f78_0
 simp only [inK] at q78_0_0 q78_0_1
 refine VD.inv _ (fun _ h=>h.parts (i:=178) rfl q78_0_S [179]) ?_
 refine VD.bsl (cs:=[.int .i64 (d1.1),.int .i64 (d1.2.1),.slice q78_0_A2 (d1.2.2.length) (q78_0_c2)]) 181 rfl rfl rfl JS Qba rfl rfl (fun _ h=>h.sub [177,175,171,169,102,0]) (fun g80=>?_)
 refine VD.appO (e:=QA) 176 179 181 rfl rfl rfl rfl JS Qba rfl rfl rfl rfl q74_2 (show Ow QA _ _ d1 from (Yr d1.1 d1.2.1 d1.2.2 (Qt.one (Qb _)) Jx Jx q78_0_2)) Tryz.underlying27 (Qa rfl rfl) (by simp only [maxLen];(exact QT)) QT (by decide) (fun _ _ h=>h.sub [177,175,171,169,102,0]) (fun v82 m82 ho82=>?_)
 obtain ⟨A82,c82,rfl,l82,k82⟩:=ho82.slc
 refine VD.nil rfl ?_ rfl
 refine VO.z (.nilp rfl) (VO.z (.fa rfl Yw rfl) ?_)
 refine VO.store (k:=1) (c':=[.bool true,Vp gx_,.slice A82 ((c_++[d1]).length) (c82)]) 177 rfl rfl (.inr ⟨Qdp,rfl⟩) rfl rfl rfl rfl rfl ?_
 refine VO.clsP 183 [177,175,176] rfl (fun hg83=>(Q9 _ _ _ hg83 q74_1 ho82)) (fun mc83 ho83=>?_)
 refine VO.k10 0 1 3 4 5 6 8 12 19 40 (Qg (VC.rs (VO.as (VO.p3 183 102 0 (VO.k10 0 1 3 4 5 6 8 12 19 40 (VC.ret ?_))))))
 exact ZD 4 183 rfl ho83 (by first | rfl | exact Zw) (by first | rfl | exact Zy)
theorem Qju (W:World) {c_:List Qe} {bx_:Bool} {k_:List Jv} {R_:QD} {gr_:Nat} {gx_:Nat} {m0:Mem} (hm:mle (m0) (wm W)) {g0:Nat} (h0:Ow (.ptr QQ) m0 [Vp g0] (g0,(true,(gx_,(true,(gr_,R_),k_,bx_)),c_))) (e0:okU k_) (e1:okS k_ c_) (e2:c_.length≤1000000):Qc Tryz.prog 77 [Vp g0] W (m0) (fun v m'=>∃ (s0:Nat),∃ (p0:Mem),∃ (p1:Mem),v=Vp s0∧Qt m' [p0,p1]∧Ow (.ptr QR) p0 [Vp s0] (s0,(true,xF k_ c_))∧Ow (.ptr QQ) p1 [Vp g0] (g0,(true,(gx_,(true,(gr_,R_),k_,bx_)),c_))):=by
 have hll:=Za e0;have hxl:=Qhq e0;have hfl:=QpR e0 e1
 refine Qc.ofB (n:=36) hm Tryz.func77 rfl rfl rfl ?_
 refine VC.rs (VO.as (VO.k2 0 2 (VC.rs ?_)))
 refine VO.callN 101 rfl Qm6 rfl (fun W hW=>QjC W) (fun v1 m1 hv1=>?_)
 obtain ⟨s1_0,rfl,f1_0⟩:=hv1
 refine VO.as (VO.k3 0 2 3 (VC.seq (VC.rs (VO.mv ?_))))
 refine VO.call 1 rfl Qfp rfl rfl (fun W hW=>QcT W (hW.t 1) h0) (fun v2 m2 hv2=>?_)
 try dsimp only at hv2
 obtain ⟨rfl,w2_0⟩:=hv2
 refine VO.p3 1 101 0 (VO.k4 0 2 3 7 ?_)
 refine VC.cond rfl (fun hc3=>?_) (fun hc3=>?_)
 exact hc3.elim
 refine VC.skip (Qg (VC.rs (VO.mv (VO.mv (VO.z (.nilp rfl) (VO.z (.fa rfl Yw rfl) ?_))))))
 obtain ⟨q4_E,q4_A2,q4_c2,q4_n1,q4_n2,_,q4_S,q4_1,q4_2⟩:=QZ (x0:=true) (x1:=(gx_,(true,(gr_,R_),k_,bx_))) (x2:=c_) w2_0
 dsimp only at q4_1
 have q4_r2:=q4_2.rm
 refine VO.inv _ (fun _ h=>h.parts (i:=1) rfl q4_S [107,105,106]) ?_
 refine VO.z (.ld1 107 rfl tk72 rfl (Qa rfl rfl)) ?_
 refine VO.call 105 rfl Qq6 rfl rfl (fun W hW=>QpW W (hW.t 105) q4_1 Qf) (fun v8 m8 hv8=>?_)
 try dsimp only at hv8
 obtain ⟨s8_0,p8_0,p8_1,rfl,hS8,f8_0,w8_0⟩:=hv8
 refine VO.inv _ (fun _ h=>h.parts (i:=105) rfl hS8 [109,110]) ?_
 obtain ⟨A8_0,c8_0,eq8_0,l8_0,k8_0⟩:=f8_0.slc
 subst eq8_0
 refine VO.call 101 rfl Qjj rfl rfl (fun W hW=>Qdv W (hW.t 101) f1_0 (Ow.rd f8_0 (hW.o 101 109)) (by first | rfl | (rw [ht];done)) (by first | (dsimp only [List.length_nil];omega) | (have h_:=Qap e1 _ (List.mem_of_getElem? ‹c_[_]? =some _›);omega))) (fun v12 m12 hv12=>?_)
 try dsimp only at hv12
 obtain ⟨rfl,w12_0⟩:=hv12
 refine VO.clsP 114 [107,110,106] rfl (fun hg14=>(Q9 _ _ _ hg14 w8_0 q4_2)) (fun mc14 ho14=>?_)
 refine VO.k4 0 2 3 7 (VC.seq (VC.rs (VO.as (VO.k5 0 2 3 4 7 (VC.block ?_)))))
 refine VC.loop (G:=Nat × JL × Mem × Mem) (fun g=>[(4,.int .i64 ((((g.1):Nat):Int))),(0,Vp g0),(2,.pointer none),(3,Vp s1_0),(7,.bool (decide (False)))]) (fun g=>[(114,(g.2.2.2)),(101,(g.2.2.1)),(0,Ju (wm W) (m0))]) (fun g=>((g.1)≤c_.length)∧((g.2.1)=(true,xF k_ (c_.take (g.1))))∧(Ow (.ptr QR) (g.2.2.1) [Vp s1_0] (s1_0,(g.2.1)))∧(Ow (.ptr QQ) (g.2.2.2) [Vp g0] (g0,(true,(gx_,(true,(gr_,R_),k_,bx_)),c_)))) (fun g=>c_.length - (g.1)) (0,(Qbt (true,[]) (QgG k_)).1,m12,mc14) (⟨by omega,by exact xF_0 e0,w12_0,ho14⟩) ⟨esn,fun _ h=>h.sub [114,101,0]⟩ ?_
 rintro ⟨k,t,t_m,w_m⟩ ⟨hk,ht,h_t,h_w⟩
 replace hk:k≤c_.length:=hk
 replace ht:t=(true,xF k_ (c_.take k)):=ht
 replace h_t:Ow (.ptr QR) t_m [Vp s1_0] (s1_0,t):=h_t
 replace h_w:Ow (.ptr QQ) w_m [Vp g0] (g0,(true,(gx_,(true,(gr_,R_),k_,bx_)),c_)):=h_w
 show VC _ _ _ _ _ [(4,.int .i64 (((k:Nat):Int))),(0,Vp g0),(2,.pointer none),(3,Vp s1_0),(7,.bool (decide (False)))] [(114,w_m),(101,t_m),(0,Ju (wm W) (m0))]
 have htl:t.2.length≤1024*k_.length+8*c_.length:=by rw [ht];exact hfl k
 refine VC.seq (VC.rs (VO.mv (VO.mv (VO.z (.nilp rfl) (VO.z (.fa rfl Yw rfl) ?_)))))
 obtain ⟨q15_E,q15_A2,q15_c2,q15_n1,q15_n2,_,q15_S,q15_1,q15_2⟩:=QZ (x0:=true) (x1:=(gx_,(true,(gr_,R_),k_,bx_))) (x2:=c_) h_w
 dsimp only at q15_1
 refine VO.inv _ (fun _ h=>h.parts (i:=114) rfl q15_S [118,116,117]) ?_
 refine VO.z (.ld1 118 rfl Qdp rfl (Qa rfl rfl)) (VO.z (.lenS rfl JS) (VO.z (.lss rfl rfl) ?_))
 refine VO.clsP 119 [118,116,117] rfl (fun hg19=>(Q9 _ _ _ hg19 q15_1 q15_2)) (fun mc19 ho19=>?_)
 refine VO.p3 119 101 0 (VO.k6 0 2 3 4 7 22 ?_)
 refine VC.cond rfl (fun hc20=>?_) (fun hc20=>?_)
 ·refine VC.skip (Qg (VC.seq (VC.block ?_)))
  refine VC.reg ?_
  refine VO.mv (VO.mv (VO.z (.nilp rfl) (VO.z (.fa rfl Yw rfl) ?_)))
  obtain ⟨q21_E,q21_A2,q21_c2,q21_n1,q21_n2,_,q21_S,q21_1,q21_2⟩:=QZ (x0:=true) (x1:=(gx_,(true,(gr_,R_),k_,bx_))) (x2:=c_) ho19
  dsimp only at q21_1
  refine VO.inv _ (fun _ h=>h.parts (i:=119) rfl q21_S [124,122,123]) ?_
  refine VO.z (.ld1 124 rfl Qdp rfl (Qa rfl rfl)) (VO.mv ?_)
  obtain ⟨x25,hx25⟩:∃ z_,(c_)[k]? =some z_:=⟨_,List.getElem?_eq_getElem bd⟩
  obtain ⟨gg25,oo25,ec25,ea25,hce25,hre25⟩:=(Ow.rd q21_2 (Qb _)).elem hx25
  cases ea25
  obtain ⟨q25_A2,q25_c2,rfl,q25_0,q25_1,q25_2⟩:=Jc (x0:=x25.1) (x1:=x25.2.1) (x2:=x25.2.2) hre25
  simp only [inK] at q25_0 q25_1
  refine VO.z (.ixI k rfl rfl JS rfl bd) ?_
  refine VO.z (.fa rfl JV rfl) ?_
  refine VO.z (.ld1 123 rfl Jw rfl (hce25.at1 (j:=2) rfl)) ?_
  refine VO.call 101 rfl Qjj rfl rfl (fun W hW=>Qdv W (hW.t 101) h_t (Rd.mono q25_2 (hW.o 101 123)) (by first | rfl | (rw [ht];done)) (by first | (dsimp only [List.length_nil];omega) | (have h_:=Qap e1 _ (List.mem_of_getElem? ‹c_[_]? =some _›);omega))) (fun v26 m26 hv26=>?_)
  obtain ⟨rfl,w26_0⟩:=hv26
  refine VO.clsP 128 [124,122,123] rfl (fun hg28=>(Q9 _ _ _ hg28 q21_1 q21_2)) (fun mc28 ho28=>?_)
  refine VO.k6 0 2 3 4 7 22 (Jh (Qg ?_))
  refine VC.reg ?_
  refine VO.mv ?_
  refine VO.z (.add (c:=((k+1:Nat):Int)) rfl rfl Qp ⟨bd,bd⟩) ?_
  refine VO.as (VO.k6 0 2 3 4 7 22 ?_)
  exact Qg ⟨⟨k+1,(Qbt t x25.2.2).1,m26,mc28⟩,⟨by omega,by (rw [ht];exact QpP (Xq e1) ‹c_[k]? =some _›),w26_0,ho28⟩,bd,⟨esn,fun _ h=>Inv.sub (Inv.num h 128 114 rfl) [114,101,0]⟩⟩
 ·refine VC.exit (JU (JU (JT (Qg (VC.rs (VO.mv (VO.as (VO.k6 0 2 3 4 7 22 (VC.ret ?_)))))))))
  refine XC 2 [101,119] fun hS_=>?_
  dsimp only [Qu]
  refine ⟨s1_0,Zs [t_m],Zs [mc19],?_,?_,?_,?_⟩
  rotate_left
  ·exact Qt.grp (ls:=[[t_m],[mc19]]) hS_
  ·exact Ow.cgP (Ow.up h_t ((Qt.self hS_ (List.Sublist.cons_cons _ (List.Sublist.cons _ List.Sublist.slnil))).1 _ (.head _))) (by first | rfl | ((rw [ht,List.take_of_length_le Qp];done)))
  ·exact Ow.cgP (Ow.up ho19 ((Qt.self hS_ (List.Sublist.cons _ (List.Sublist.cons_cons _ List.Sublist.slnil))).1 _ (.head _))) (by first | rfl | ((rw [ht,List.take_of_length_le Qp];done)))
  all_goals (first | rfl | (simp [*];done))
theorem QpT (W:World) {c_:List Qe} {bx_:Bool} {k_:List Jv} {R_:QD} {gr_:Nat} {gx_:Nat} {m0:Mem} (hm:mle (m0) (wm W)) {g0:Nat} (h0:Ow (.ptr QQ) m0 [Vp g0] (g0,(true,(gx_,(true,(gr_,R_),k_,bx_)),c_))) (d1:List UInt8) (h1:d1.length≤maxLen) (e0:okU k_) (e1:okS k_ c_) (e2:c_.length≤1000000):Qc Tryz.prog 76 [Vp g0,str d1] W (m0) (fun v m'=>v= .tuple #[str ((QjJ k_ c_ d1).1),.bool ((QjJ k_ c_ d1).2)]∧Ow (.ptr QQ) m' [Vp g0] (g0,(true,(gx_,(true,(gr_,R_),k_,bx_)),c_))):=by
 have hll:=Za e0;have hfl:=Qlh e0 (Qap e1)
 have h1':=h1;simp only [maxLen] at h1'
 refine Qc.ofB (n:=19) hm Tryz.func76 rfl rfl rfl ?_
 refine VC.rs (VO.as (VO.as (VO.k4 0 1 4 5 (VC.rs (VO.mv ?_)))))
 refine VO.call 1 rfl Qpn rfl rfl (fun W hW=>Qju W (hW.t 1) h0 Qf Qf bd) (fun v1 m1 hv1=>?_)
 try dsimp only at hv1
 obtain ⟨s1_0,p1_0,p1_1,rfl,hS1,f1_0,w1_0⟩:=hv1
 refine VO.inv _ (fun _ h=>h.parts (i:=1) rfl hS1 [102,103]) ?_
 refine VO.mv ?_
 refine VO.call 102 rfl Qq7 rfl rfl (fun W hW=>QlI W (hW.t 102) f1_0 d1 bdm (by rfl) bd) (fun v5 m5 hv5=>?_)
 try dsimp only at hv5
 obtain ⟨rfl,w5_0⟩:=hv5
 refine VO.mv (VO.z (.ext rfl rfl) (VO.z (.ext rfl rfl) (VO.z (.ext rfl rfl) (VO.as (VO.as (VO.as (VO.k6 0 1 4 5 6 8 (VC.rs (VO.mv (VO.mv (VO.as ?_)))))))))))
 refine VO.as (VO.p3 102 103 0 (VO.k6 0 1 4 5 6 8 (VC.ret ?_)))
 refine QcA 4 5 [103] fun hS_=>?_
 dsimp only [Qu]
 exact ⟨(by first | rfl | ((rw [xF_get e0 e1];rfl))),(Ow.cgP (Ow.up w1_0 (hS_.1 _ (.head _))))⟩
theorem QiF (W:World) {c_:List Qe} {bx_:Bool} {k_:List Jv} {R_:QD} {gr_:Nat} {gx_:Nat} {m0:Mem} (hm:mle (m0) (wm W)) {g0:Nat} (h0:Ow (.ptr QQ) m0 [Vp g0] (g0,(true,(gx_,(true,(gr_,R_),k_,bx_)),c_))) (e0:okU k_) (e1:okS k_ c_) (e2:c_.length≤1000000):Qc Tryz.prog 37 [Vp g0] W (m0) (fun v m'=>∃ (s0:Value),∃ (p0:Mem),∃ (p1:Mem),v=s0∧Qt m' [p0,p1]∧Ow (.sl TOp) p0 [s0] (Qcq k_ c_)∧Ow (.ptr QQ) p1 [Vp g0] (g0,(true,(gx_,(true,(gr_,R_),k_,bx_)),c_))):=by
 have hll:=Za e0;have hfl:=Qlh e0 (Qap e1)
 refine Qc.ofB (n:=6) hm Tryz.func37 rfl rfl rfl ?_
 refine VC.rs (VO.as (VO.k2 0 2 (VC.rs (VO.mv ?_))))
 refine VO.call 1 rfl Qpn rfl rfl (fun W hW=>Qju W (hW.t 1) h0 Qf Qf bd) (fun v1 m1 hv1=>?_)
 try dsimp only at hv1
 obtain ⟨s1_0,p1_0,p1_1,rfl,hS1,f1_0,w1_0⟩:=hv1
 refine VO.inv _ (fun _ h=>h.parts (i:=1) rfl hS1 [102,103]) ?_
 refine VO.call 102 rfl fnOk78 rfl rfl (fun W hW=>QkC W (hW.t 102) f1_0 (by rfl) bd) (fun v5 m5 hv5=>?_)
 try dsimp only at hv5
 obtain ⟨s5_0,p5_0,p5_1,rfl,hS5,f5_0,w5_0⟩:=hv5
 refine VO.inv _ (fun _ h=>h.parts (i:=102) rfl hS5 [106,107]) ?_
 obtain ⟨A5_0,c5_0,eq5_0,l5_0,k5_0⟩:=f5_0.slc
 subst eq5_0
 refine VO.as (VO.k2 0 2 (VC.ret ?_))
 refine XC 2 [106,103] fun hS_=>?_
 dsimp only [Qu]
 refine ⟨.slice A5_0 (((xF k_ c_).filter (·.1)).length) (c5_0),Zs [p5_0],Zs [p1_1],?_,?_,?_,?_⟩
 rotate_left
 ·exact Qt.grp (ls:=[[p5_0],[p1_1]]) hS_
 ·exact Ow.cg (Ow.up f5_0 ((Qt.self hS_ (List.Sublist.cons_cons _ (List.Sublist.cons _ List.Sublist.slnil))).1 _ (.head _))) (by first | rfl | (rfl))
 ·exact Ow.cgP (Ow.up w1_0 ((Qt.self hS_ (List.Sublist.cons _ (List.Sublist.cons_cons _ List.Sublist.slnil))).1 _ (.head _))) (by first | rfl | (rfl))
 all_goals (first | rfl | (simp [*];done))
theorem Qq9:JE Tryz.prog 117=true:=by kernel_rfl
theorem Qq8:JE Tryz.prog 118=true:=by kernel_rfl
theorem Qpq:JE Tryz.prog 68=true:=by kernel_rfl
theorem JQ {P:Prop} (h:P:=by first | (rw [XK (.inl (by assumption))] <;> first | rfl | (rw [Zf];done) | done) | (rw [XK (.inr (by assumption))] <;> first | rfl | (rw [Zf];done) | done) | (rw [Qbf (by assumption) (by assumption) (by assumption)] <;> first | rfl | (rw [Zf];done) | done) | (rw [QpM e3 (by assumption) (by assumption) (by assumption) (by assumption)] <;> first | rfl | (rw [Zf];done) | done) | (rw [xs_bad e3 (by assumption) (by assumption) (by assumption) (by assumption) (by assumption)] <;> first | rfl | (rw [Zf];done) | done) | (rw [QpN e3 (by assumption) (by assumption) (by assumption) (by assumption) (by assumption)] <;> first | rfl | (rw [Zf];done) | done)):P:=h
set_option maxHeartbeats 8000000 in
theorem Qhs (W:World) {c_:List Qe} {bx_:Bool} {k_:List Jv} {R_:QD} {gr_:Nat} {gx_:Nat} {m0:Mem} (hm:mle (m0) (wm W)) {g0:Nat} (h0:Ow (.ptr QQ) m0 [Vp g0] (g0,(true,(gx_,(true,(gr_,R_),k_,bx_)),c_))) (d1:Int) (h1:inK .i64 d1) (e0:okU k_) (e1:R_.1=true) (e2:okR R_) (e3:okS k_ c_) (e4:c_.length≤100000) (e5:wD (Qk R_)+400000≤1000000000000):Qc Tryz.prog 74 [Vp g0,.int .i64 d1] W (m0) (fun v m'=>v= .int .i64 ((QU (Qk R_) bx_ k_ c_ d1).2)∧Ow (.ptr QQ) m' [Vp g0] (g0,(true,(gx_,(true,(gr_,toR (QU (Qk R_) bx_ k_ c_ d1).1.1.1 R_.2.2.2.2.2.1),(QU (Qk R_) bx_ k_ c_ d1).1.1.2.2,(QU (Qk R_) bx_ k_ c_ d1).1.1.2.1)),(QU (Qk R_) bx_ k_ c_ d1).1.2))):=by
 have hll:=Za e0;have hcl:=Qgx (u:=d1) e3;have hcn:=QiT e3 (d1 - Qy k_).toNat;have hct:∀ c∈c_.take (d1 - Qy k_).toNat,Q0 c=0:=fun y_ hy_=>Xq e3 y_ (List.mem_of_mem_take hy_)
 have h1':=h1;simp only [inK] at h1'
 refine Qc.ofB (n:=68) hm Tryz.func74 rfl rfl rfl ?_
 refine VC.rs (VO.as (VO.k3 0 1 4 (VC.seq (VC.rs (VO.mv ?_)))))
 refine VO.call 1 rfl Qfp rfl rfl (fun W hW=>QcT W (hW.t 1) h0) (fun v1 m1 hv1=>?_)
 try dsimp only at hv1
 obtain ⟨rfl,w1_0⟩:=hv1
 refine VO.k4 0 1 4 9 ?_
 refine VC.cond rfl (fun hc2=>?_) (fun hc2=>?_)
 exact hc2.elim
 refine VC.skip (Qg (VC.rs (VO.mv (VO.z (.nilp rfl) (VO.z (.fa rfl Yw rfl) ?_)))))
 obtain ⟨q3_E,q3_A2,q3_c2,q3_n1,q3_n2,_,q3_S,q3_1,q3_2⟩:=QZ (x0:=true) (x1:=(gx_,(true,(gr_,R_),k_,bx_))) (x2:=c_) w1_0
 dsimp only at q3_1
 refine VO.inv _ (fun _ h=>h.parts (i:=1) rfl q3_S [106,104,105]) ?_
 refine VO.z (.ld1 106 rfl tk72 rfl (Qa rfl rfl)) ?_
 refine VO.call 104 rfl Qij rfl rfl (fun W hW=>QeF W (hW.t 104) q3_1 Qf) (fun v7 m7 hv7=>?_)
 try dsimp only at hv7
 obtain ⟨rfl,w7_0⟩:=hv7
 refine VO.as ?_
 refine VO.clsP 108 [106,104,105] rfl (fun hg8=>(Q9 _ _ _ hg8 w7_0 q3_2)) (fun mc8 ho8=>?_)
 refine VO.p2 108 0 (VO.k5 0 1 4 5 9 (VC.seq (VC.rs (VO.mv (VO.mv (VO.z (.lss rfl rfl) (VO.mv ?_)))))))
 refine VO.dec (t:=18) rfl (fun hc9=>?_) (fun hc9=>?_)
 refine VO.gN (VO.gN (VO.gN (VO.gN (VO.z (.pT rfl rfl) (VO.k6 0 1 4 5 9 23 (VC.condT rfl (VC.rs (VO.as (VO.k6 0 1 4 5 9 23 (VC.ret (QK ?_)))))))))))
 exact ZD 4 108 rfl ho8 (by first | rfl | exact JQ) (by first | rfl | exact JQ)
 refine VO.w (.mv rfl) (VO.w (.mv rfl) ?_)
 refine VO.gcall 108 rfl ⟨_,rfl,rfl⟩ Qd2 rfl rfl (fun W hW=>QbE W (hW.t 108) ho8 Qf bd) (fun v10 m10 hv10=>?_)
 try dsimp only at hv10
 obtain ⟨rfl,w10_0⟩:=hv10
 refine VO.w (.gtr rfl rfl) (VO.z (.pF rfl rfl) (VO.k6 0 1 4 5 9 23 ?_))
 refine VC.cond rfl (fun hc11=>?_) (fun hc11=>?_)
 refine VC.rs (VO.as (VO.k6 0 1 4 5 9 23 (VC.ret (QK ?_))))
 exact ZD 4 108 rfl w10_0 (by first | rfl | exact JQ) (by first | rfl | exact JQ)
 refine VC.skip (Qg (VC.seq (VC.rs (VO.mv (VO.mv (VO.z (.eql rfl rfl) (VO.k7 0 1 4 5 9 23 26 ?_)))))))
 refine VC.cond rfl (fun hc12=>?_) (fun hc12=>?_)
 refine VC.rs (VO.as (VO.p2 108 0 (VO.k7 0 1 4 5 9 23 26 (VC.ret (QK ?_)))))
 exact ZD 4 108 rfl w10_0 (by first | rfl | exact JQ) (by first | rfl | exact JQ)
 refine VC.skip (Qg (VC.rs (VO.mv (VO.z (.nilp rfl) (VO.z (.fa rfl Yw rfl) ?_)))))
 obtain ⟨q13_E,q13_A2,q13_c2,q13_n1,q13_n2,_,q13_S,q13_1,q13_2⟩:=QZ (x0:=true) (x1:=(gx_,(true,(gr_,R_),k_,bx_))) (x2:=c_) w10_0
 dsimp only at q13_1
 have q13_r2:=q13_2.rm
 refine VO.inv _ (fun _ h=>h.parts (i:=108) rfl q13_S [116,114,115]) ?_
 refine VO.z (.ld1 116 rfl Qdp rfl (Qa rfl rfl)) (VO.mv (VO.mv ?_))
 refine VO.z (.sub rfl rfl rfl ⟨bd,bd⟩) ?_
 refine VO.z (.slHI ((d1 - (Qy k_)).toNat) rfl rfl JS bd bd) ?_
 refine VO.callN 118 rfl Qq9 rfl (fun W hW=>QlJ W (Ow.rd (q13_2.pre (j:=((d1 - (Qy k_)).toNat)) bd) (hW.t 115)) (by exact fun y_ hy_=>Xq e3 y_ (List.mem_of_mem_take hy_)) bd) (fun v18 m18 hv18=>?_)
 obtain ⟨s18_0,rfl,f18_0⟩:=hv18
 refine VO.as ?_
 refine VO.clsP 120 [116,114,115] rfl (fun hg20=>(Q9 _ _ _ hg20 q13_1 q13_2)) (fun mc20 ho20=>?_)
 refine VO.p3 120 118 0 (VO.k8 0 1 4 5 6 9 23 26 (VC.seq (VC.rs (VO.mv (VO.z (.nilp rfl) (VO.z (.fa rfl XD rfl) ?_))))))
 obtain ⟨q21_E,q21_A1,q21_c1,q21_n1,_,q21_S,q21_1⟩:=XU (x0:=true) (x1:=cT ((c_).take ((d1 - (Qy k_)).toNat))) f18_0
 refine VO.inv _ (fun _ h=>h.parts (i:=118) rfl q21_S [123,122]) ?_
 refine VO.z (.ld1 123 rfl Jw rfl (Qa rfl rfl)) (VO.z (.lenS rfl QX) (VO.z (.gtr rfl rfl) ?_))
 refine VO.clsP 124 [123,122] rfl (fun hg24=>(Y1 _ _ hg24 q21_1)) (fun mc24 ho24=>?_)
 refine VO.k9 0 1 4 5 6 9 23 26 41 ?_
 refine VC.cond rfl (fun hc25=>?_) (fun hc25=>?_)
 refine VC.rs (VO.as (VO.k9 0 1 4 5 6 9 23 26 41 (VC.ret (QK ?_))))
 exact ZD 4 120 rfl ho20 (by first | rfl | exact JQ) (by first | rfl | exact JQ)
 refine VC.skip (Qg (VC.seq ?_))
 obtain ⟨q26_E,q26_A2,q26_c2,q26_n1,q26_n2,_,q26_S,q26_1,q26_2⟩:=QZ (x0:=true) (x1:=(gx_,(true,(gr_,R_),k_,bx_))) (x2:=c_) ho20
 dsimp only at q26_1
 refine VC.inv _ (fun _ h=>h.parts (i:=120) rfl q26_S [129,127,128]) ?_
 refine VC.regD _ 10 [(0,true),(1,true),(2,true),(3,true),(4,true),(5,true),(6,true),(7,true),(8,false),(9,true)] follows (by kernel_rfl) (fun _ h=>h.sub [129,127,128,0]) ?_
 refine VD.z rfl (.mv rfl) (VD.z rfl (.nilp rfl) (VD.z rfl (.fa rfl Yw rfl) (VD.z rfl (.ld1 129 rfl tk72 rfl (Qa rfl rfl)) (VD.z rfl (.mv rfl) ?_))))
 refine VD.z rfl (.add rfl rfl rfl ⟨bd,bd⟩) ?_
 refine VD.z rfl (.mv rfl) (VD.z rfl (.mv rfl) ?_)
 refine VD.call 124 rfl rfl (.inl rfl) Qm7 rfl rfl (fun _ _ h=>h.sub [129,127,128,0]) (fun W hW=>QjD W (hW.t 124) ho24 (by rfl) bd) (fun v30 m30 hv30=>?_)
 try dsimp only at hv30
 obtain ⟨s30_0,p30_0,p30_1,rfl,hS30,f30_0,w30_0⟩:=hv30
 refine VD.inv _ (fun _ h=>h.parts (i:=124) rfl hS30 [131,132]) ?_
 obtain ⟨A30_0,c30_0,eq30_0,l30_0,k30_0⟩:=f30_0.slc
 subst eq30_0
 refine VD.z rfl (.bst (cs:=[.int .i64 ((Qy k_)+1),.int .i64 (d1),.slice A30_0 ((cT ((c_).take ((d1 - (Qy k_)).toNat))).length) (c30_0)]) rfl J2 QbA rfl) ?_
 refine VD.nil rfl ?_ rfl
 refine VO.call 127 rfl Qq8 rfl rfl (fun W hW=>Qlp W (hW.t 127) q26_1 (Qh4 (m:=Ju (wm W) (q26_n1)) ((Qy k_)+1) d1 (cT ((c_).take ((d1 - (Qy k_)).toNat))) bdk bdk (Ow.rd f30_0 (hW.o 127 131))) Qf Qf bd Qf) (fun v33 m33 hv33=>?_)
 try dsimp only at hv33
 obtain ⟨rfl,w33_0⟩:=hv33
 refine VO.as ?_
 refine VO.clsP 138 [129,127,128] rfl (fun hg38=>(Q9 _ _ _ hg38 w33_0 q26_2)) (fun mc38 ho38=>?_)
 refine VO.k10 0 1 4 5 6 7 9 23 26 41 (Qg (VC.seq (VC.rs (VO.mv (VO.z (.neq rfl rfl) (VO.p3 138 132 0 (VO.k11 0 1 4 5 6 7 9 23 26 41 54 ?_)))))))
 refine VC.cond rfl (fun hc39=>?_) (fun hc39=>?_)
 refine VC.rs (VO.mv (VO.as (VO.k11 0 1 4 5 6 7 9 23 26 41 54 (VC.ret (QK ?_)))))
 exact ZD 4 138 rfl ho38 (by first | rfl | exact JQ) (by first | rfl | exact JQ)
 refine VC.skip (Qg (VC.rs (VO.mv (VO.mv (VO.z (.nilp rfl) (VO.z (.fa rfl Yw rfl) ?_))))))
 obtain ⟨q40_E,q40_A2,q40_c2,q40_n1,q40_n2,_,q40_S,q40_1,q40_2⟩:=QZ (x0:=true) (x1:=(gx_,(true,(gr_,toR (QJ (Qk R_) bx_ k_ ((Qy k_)+1,d1,(cT ((c_).take ((d1 - (Qy k_)).toNat))))).1.1 R_.2.2.2.2.2.1),(QJ (Qk R_) bx_ k_ ((Qy k_)+1,d1,(cT ((c_).take ((d1 - (Qy k_)).toNat))))).1.2.2,(QJ (Qk R_) bx_ k_ ((Qy k_)+1,d1,(cT ((c_).take ((d1 - (Qy k_)).toNat))))).1.2.1))) (x2:=c_) ho38
 dsimp only at q40_1
 refine VO.inv _ (fun _ h=>h.parts (i:=138) rfl q40_S [143,141,142]) ?_
 refine VO.z (.ld1 143 rfl Qdp rfl (Qa rfl rfl)) (VO.mv (VO.mv ?_))
 refine VO.z (.sub rfl rfl rfl ⟨bd,bd⟩) ?_
 obtain ⟨A44,hA44,ho44⟩:=q40_2.drop' 3 ((d1 - (Qy k_)).toNat) rfl bd
 refine VO.z (.slLI ((d1 - (Qy k_)).toNat) A44 rfl rfl JS bd hA44 bd) ?_
 refine VO.callN 145 rfl Qpq rfl (fun W hW=>Qfy W (Ow.rd ho44 (hW.t 142)) bd (by exact fun y_ hy_=>Qfx (Xq e3 y_ (List.mem_of_mem_drop hy_)))) (fun v45 m45 hv45=>?_)
 obtain ⟨s45_0,rfl,f45_0⟩:=hv45
 obtain ⟨A45_0,c45_0,eq45_0,l45_0,k45_0⟩:=f45_0.slc
 subst eq45_0
 refine VO.z (.nilp rfl) (VO.z (.fa rfl Yw rfl) ?_)
 refine VO.store (k:=1) (c':=[.bool true,Vp gx_,.slice A45_0 ((c_.drop ((d1 - (Qy k_)).toNat)).length) (c45_0)]) 143 rfl rfl (.inr ⟨Qdp,rfl⟩) rfl rfl rfl rfl rfl ?_
 refine VO.clsP 146 [143,141,145] rfl (fun hg46=>(Q9 _ _ _ hg46 q40_1 f45_0)) (fun mc46 ho46=>?_)
 refine VO.k11 0 1 4 5 6 7 9 23 26 41 54 (VC.rs (VO.as (VO.k11 0 1 4 5 6 7 9 23 26 41 54 (VC.ret ?_))))
 exact ZD 4 146 rfl ho46 (by first | rfl | exact JQ) (by first | rfl | exact JQ)
abbrev Qa6 : Ty := .pair (.int .i64) (.pair (.int .i64) QA)
abbrev Qa9 := Int × Int × Qe
instance Qrq : DecidableEq Qa9 := (@instDecidableEqProd _ _ inferInstance (@instDecidableEqProd _ _ inferInstance (@instDecidableEqProd _ _ inferInstance (@instDecidableEqProd _ _ inferInstance inferInstance))))
theorem X1 {m:Mem} {cs:List Value} {x0:Int} {x1:Int} {x2:Int} {x3:Int} {x4:List DOp} (h:Rd Qa6 m cs (x0,x1,x2,x3,x4)):∃ (A4:Option Addr),∃ (c4:Nat),cs=[(.int .i64 x0:Value),.int .i64 x1,.int .i64 x2,.int .i64 x3,.slice A4 x4.length c4]∧inK .i64 x0∧inK .i64 x1∧inK .i64 x2∧inK .i64 x3∧Rd (.sl TOp) m [.slice A4 x4.length c4] x4:=by
 obtain ⟨p1,q1,rfl,u1,w1⟩:=Rd.pair h
 obtain ⟨rfl,z2⟩:=(show _=_∧_ from u1)
 obtain ⟨p3,q3,rfl,u3,w3⟩:=Rd.pair w1
 obtain ⟨rfl,z4⟩:=(show _=_∧_ from u3)
 obtain ⟨p5,q5,rfl,u5,w5⟩:=Rd.pair w3
 obtain ⟨rfl,z6⟩:=(show _=_∧_ from u5)
 obtain ⟨p7,q7,rfl,u7,w7⟩:=Rd.pair w5
 obtain ⟨rfl,z8⟩:=(show _=_∧_ from u7)
 have z9:=w7
 obtain ⟨A9,c9,rfl,_⟩:=Rd.slice1 w7
 exact ⟨A9,c9,rfl,z2,z4,z6,z8,z9⟩
abbrev SAct := Qa9
def QdR (l : List SAct) (r : List Qe) : Prop := (∀ a ∈ l, a.2.2.2.2.length ≤ 40) ∧ (∀ c ∈ r, c.2.2.length ≤ 40) ∧ l.length ≤ 40 ∧ r.length ≤ 40
instance (l : List SAct) (r : List Qe) : Decidable (QdR l r) := by unfold QdR; infer_instance
section
variable {l : List SAct} {r : List Qe} {i k : Nat} {x : SAct} {y : Qe}
theorem QnC (h:∀ a∈l.take k,a.2.2.2.2.length≤40) (hx:l[k]? =some x) (hc:x.2.2.2.2.length≤40):∀ a∈l.take (k+1),a.2.2.2.2.length≤40:=fun a ha=>by
 rw [Zc hx,List.mem_append,List.mem_singleton] at ha
 rcases ha with ha | rfl
 ·exact h a ha
 ·exact hc
theorem QnB (h:∀ a∈r.take k,a.2.2.length≤40) (hx:r[k]? =some y) (hc:y.2.2.length≤40):∀ a∈r.take (k+1),a.2.2.length≤40:=fun a ha=>by
 rw [Zc hx,List.mem_append,List.mem_singleton] at ha
 rcases ha with ha | rfl
 ·exact h a ha
 ·exact hc
theorem Qb6 (hx:l[k]? =some x) (hc:¬ x.2.2.2.2.length≤40):¬ QdR l r:=fun h=>hc (h.1 x (List.mem_of_getElem? hx))
theorem Qb7 (hx:r[k]? =some y) (hc:¬ y.2.2.length≤40):¬ QdR l r:=fun h=>hc (h.2.1 y (List.mem_of_getElem? hx))
theorem Qbb (h:¬ (l.length:Int)≤40):¬ QdR l r:=fun q=>h (by have:=q.2.2.1;omega)
theorem Qb8 (h:∀ a∈l.take i,a.2.2.2.2.length≤40) (h2:∀ a∈r.take k,a.2.2.length≤40) (hi:l.length≤i) (hk:r.length≤k) (hl:(l.length:Int)≤40):(r.length:Int)≤40↔QdR l r:=by
 rw [List.take_of_length_le hi] at h
 rw [List.take_of_length_le hk] at h2
 exact ⟨fun q=>⟨h,h2,by omega,by omega⟩,fun q=>by have:=q.2.2.2;omega⟩
end
theorem Qlx:tsl Tryz.prog 68=some (82,5,56):=by kernel_rfl
theorem QeH:tst Tryz.prog 82=some [(0,1),(1,1),(2,3)]:=by kernel_rfl
theorem Qgp:JE Tryz.prog 20=true:=by kernel_rfl
theorem QkG (W:World) {v0:Value} {d0:List Qa9} (h0:Rd (.sl Qa6) (wm W) [v0] d0) {v1:Value} {d1:List Qe} (h1:Rd (.sl QA) (wm W) [v1] d1):Qc Tryz.prog 27 [v0,v1] W (mnil) (fun v m'=>v= .bool (decide (QdR d0 d1))):=by
 obtain ⟨A0,c0,rfl,l0,k0⟩:=h0.slc
 obtain ⟨A1,c1,rfl,l1,k1⟩:=h1.slc
 refine Qc.ofA (n:=42) Tryz.func27 rfl rfl rfl ?_
 refine VC.rs (VO.as (VO.k3 0 1 4 (VC.seq (VC.rs (VO.as (VO.k4 0 1 4 5 (VC.block ?_)))))))
 refine VC.loop (G:=Nat) (fun k=>[(5,.int .i64 (((k:Nat):Int))),(0,.slice A0 (d0.length) (c0)),(1,.slice A1 (d1.length) (c1))]) (fun k=>[(0,wm W)]) (fun k=>(k≤d0.length)∧(∀ a∈d0.take k,a.2.2.2.2.length≤40)) (fun k=>d0.length - k) 0 (⟨by omega,by simp⟩) ⟨esn,fun _ h=>h.sub [0]⟩ ?_
 rintro k ⟨hk,ha⟩
 refine VC.seq (VC.rs (VO.mv (VO.mv (VO.z (.lenS rfl Qlx) (VO.z (.lss rfl rfl) (VO.p1 0 (VO.k4 0 1 5 10 ?_)))))))
 refine VC.cond rfl (fun hc1=>?_) (fun hc1=>?_)
 refine VC.skip (Qg (VC.seq (VC.block (VC.rs (VO.mv (VO.mv ?_))))))
 obtain ⟨x2,hx2⟩:∃ z_,(d0)[k]? =some z_:=⟨_,List.getElem?_eq_getElem bd⟩
 obtain ⟨gg2,oo2,ec2,ea2,hce2,hre2⟩:=h0.elem hx2
 cases ea2
 obtain ⟨q2_A4,q2_c4,rfl,q2_0,q2_1,q2_2,q2_3,q2_4⟩:=X1 (x0:=x2.1) (x1:=x2.2.1) (x2:=x2.2.2.1) (x3:=x2.2.2.2.1) (x4:=x2.2.2.2.2) hre2
 simp only [inK] at q2_0 q2_1 q2_2 q2_3
 refine VO.z (.ixI k rfl rfl Qlx rfl bd) ?_
 refine VO.z (.fa rfl QeH rfl) (VO.z (.fa rfl JV rfl) ?_)
 refine VO.z (.ld1 0 rfl Jw rfl (hce2.at1 (j:=4) rfl)) ?_
 refine VO.z (.lenS rfl QX) (VO.z (.gtr rfl rfl) (VO.k5 0 1 5 10 20 ?_))
 refine VC.cond rfl (fun hc3=>?_) (fun hc3=>?_)
 refine VC.rs (VO.as (VO.k6 0 1 4 5 10 20 (VC.ret (Jf (QK (QK (Jf (QK ?_))))))))
 exact Yu 4 rfl (by first | rfl | (first | exact congrArg Value.bool (decide_eq_false (Qb7 ‹d1[j]? =some _› Qp)).symm | exact congrArg Value.bool (decide_eq_false (Qb6 ‹d0[k]? =some _› Qp)).symm | exact congrArg Value.bool (decide_eq_decide.2 (Qb8 ha hb Qp Qp Qf)) | exact congrArg Value.bool (decide_eq_false (Qbb Qf)).symm))
 refine VC.skip (Jh (Qg ?_))
 refine VC.reg ?_
 refine VO.mv ?_
 refine VO.z (.add (c:=((k+1:Nat):Int)) rfl rfl Qp ⟨bd,bd⟩) ?_
 refine VO.as (VO.k5 0 1 5 10 20 ?_)
 exact Qg ⟨k+1,⟨by omega,by exact QnC ha ‹d0[k]? =some _› Qp⟩,bd,⟨esn,fun _ h=>Inv.sub h [0]⟩⟩
 refine VC.exit (JU (JU (JT (Qg (VC.seq (VC.rs (VO.as (VO.k5 0 1 5 6 10 (VC.block ?_)))))))))
 refine VC.loop (G:=Nat) (fun j=>[(6,.int .i64 (((j:Nat):Int))),(0,.slice A0 (d0.length) (c0)),(1,.slice A1 (d1.length) (c1)),(5,.int .i64 (((k:Nat):Int))),(10,.bool (decide (((k:Nat):Int) < ((d0.length:Nat):Int))))]) (fun j=>[(0,wm W)]) (fun j=>(j≤d1.length)∧(∀ a∈d1.take j,a.2.2.length≤40)) (fun j=>d1.length - j) 0 (⟨by omega,by simp⟩) ⟨esn,fun _ h=>h.sub [0]⟩ ?_
 rintro j ⟨hj,hb⟩
 refine VC.seq (VC.rs (VO.mv (VO.mv (VO.z (.lenS rfl JS) (VO.z (.lss rfl rfl) (VO.k6 0 1 5 6 10 24 ?_))))))
 refine VC.cond rfl (fun hc4=>?_) (fun hc4=>?_)
 refine VC.skip (Qg (VC.seq (VC.block (VC.rs (VO.mv (VO.mv ?_))))))
 obtain ⟨x5,hx5⟩:∃ z_,(d1)[j]? =some z_:=⟨_,List.getElem?_eq_getElem bd⟩
 obtain ⟨gg5,oo5,ec5,ea5,hce5,hre5⟩:=h1.elem hx5
 cases ea5
 obtain ⟨q5_A2,q5_c2,rfl,q5_0,q5_1,q5_2⟩:=Jc (x0:=x5.1) (x1:=x5.2.1) (x2:=x5.2.2) hre5
 simp only [inK] at q5_0 q5_1
 refine VO.z (.ixI j rfl rfl JS rfl bd) ?_
 refine VO.z (.fa rfl JV rfl) ?_
 refine VO.z (.ld1 0 rfl Jw rfl (hce5.at1 (j:=2) rfl)) ?_
 refine VO.z (.lenS rfl QX) (VO.z (.gtr rfl rfl) (VO.p1 0 (VO.k7 0 1 5 6 10 24 33 ?_)))
 refine VC.cond rfl (fun hc6=>?_) (fun hc6=>?_)
 refine VC.rs (VO.as (VO.k8 0 1 4 5 6 10 24 33 (VC.ret (Jf (QK (QK (Jf (QK ?_))))))))
 exact Yu 4 rfl (by first | rfl | (first | exact congrArg Value.bool (decide_eq_false (Qb7 ‹d1[j]? =some _› Qp)).symm | exact congrArg Value.bool (decide_eq_false (Qb6 ‹d0[k]? =some _› Qp)).symm | exact congrArg Value.bool (decide_eq_decide.2 (Qb8 ha hb Qp Qp Qf)) | exact congrArg Value.bool (decide_eq_false (Qbb Qf)).symm))
 refine VC.skip (Jh (Qg ?_))
 refine VC.reg ?_
 refine VO.mv ?_
 refine VO.z (.add (c:=((j+1:Nat):Int)) rfl rfl Qp ⟨bd,bd⟩) ?_
 refine VO.as (VO.k7 0 1 5 6 10 24 33 ?_)
 exact Qg ⟨j+1,⟨by omega,by exact QnB hb ‹d1[j]? =some _› Qp⟩,bd,⟨esn,fun _ h=>Inv.sub h [0]⟩⟩
 refine VC.exit (JU (JU (JT (Qg (VC.rs (VO.mv (VO.z (.lenS rfl Qlx) (VO.z (.leq rfl rfl) (VO.mv ?_)))))))))
 refine VO.dec (t:=37) rfl (fun hc7=>?_) (fun hc7=>?_)
 refine VO.w (.mv rfl) (VO.w (.lenS rfl JS) (VO.w (.leq rfl rfl) (VO.z (.pT rfl rfl) (VO.as (VO.p1 0 (VO.k7 0 1 4 5 6 10 24 (VC.ret ?_)))))))
 exact Yu 4 rfl (by first | rfl | (first | exact congrArg Value.bool (decide_eq_false (Qb7 ‹d1[j]? =some _› Qp)).symm | exact congrArg Value.bool (decide_eq_false (Qb6 ‹d0[k]? =some _› Qp)).symm | exact congrArg Value.bool (decide_eq_decide.2 (Qb8 ha hb Qp Qp Qf)) | exact congrArg Value.bool (decide_eq_false (Qbb Qf)).symm))
 refine VO.gN (VO.gN (VO.gN (VO.z (.pF rfl rfl) (VO.as (VO.p1 0 (VO.k7 0 1 4 5 6 10 24 (VC.ret ?_)))))))
 exact Yu 4 rfl (by first | rfl | (first | exact congrArg Value.bool (decide_eq_false (Qb7 ‹d1[j]? =some _› Qp)).symm | exact congrArg Value.bool (decide_eq_false (Qb6 ‹d0[k]? =some _› Qp)).symm | exact congrArg Value.bool (decide_eq_decide.2 (Qb8 ha hb Qp Qp Qf)) | exact congrArg Value.bool (decide_eq_false (Qbb Qf)).symm))
theorem Qmv (W:World) {v0:List Value} {d0:Qa9} (h0:Rd Qa6 (wm W) v0 d0) (d1:Int) (h1:inK .i64 d1) (e0:0≤d1∧d1≤1048576000):Qc Tryz.prog 71 [.agg v0.toArray,.int .i64 d1] W (mnil) (fun v m'=>v= .agg [.int .i64 (1+JZ d0.2.2.1 3),.int .i64 (d1+1),v0.getD 4 undef].toArray):=by
 obtain ⟨p0_A4,p0_c4,rfl,p0_0,p0_1,p0_2,p0_3,p0_4⟩:=X1 (x0:=d0.1) (x1:=d0.2.1) (x2:=d0.2.2.1) (x3:=d0.2.2.2.1) (x4:=d0.2.2.2.2) h0
 simp only [inK] at p0_0 p0_1 p0_2 p0_3
 have h1':=h1;simp only [inK] at h1'
 refine Qc.ofA (n:=16) Tryz.func71 rfl rfl rfl ?_
 refine VC.rs ?_
 refine VO.box (cs:=[.int .i64 (d0.1),.int .i64 (d0.2.1),.int .i64 (d0.2.2.1),.int .i64 (d0.2.2.2.1),.slice p0_A4 (d0.2.2.2.2.length) (p0_c4)]) 102 rfl rfl rfl (fun g1=>?_)
 refine VO.alloc 104 rfl Qba (fun g3=>?_)
 refine VO.k4 0 1 2 4 (VC.seq ?_)
 refine VC.regD _ 10 [(0,true),(1,true),(2,true),(5,true),(6,true),(7,true),(8,true),(9,true),(3,false),(4,true)] follows (by kernel_rfl) (fun _ h=>h.sub [104,102,0]) ?_
 refine VD.z rfl (.fa rfl QeH rfl) (VD.z rfl (.fa rfl JV rfl) (VD.z rfl (.ld1 102 rfl tk3 rfl (Qa rfl rfl)) (VD.z rfl (.mv rfl) ?_)))
 refine VD.z rfl (.add rfl rfl rfl ⟨bd,bd⟩) ?_
 refine VD.z rfl (.fa rfl QeH rfl) (VD.z rfl (.fa rfl JV rfl) (VD.z rfl (.ld1 102 rfl Jw rfl (Qa rfl rfl)) ?_))
 refine VD.callN 105 rfl rfl (.inl rfl) Qgp rfl (fun _ h=>h.sub [104,102,0]) (fun W hW=>QdE W d0.2.2.1 bdk 3 bdk bd) (fun v5 m5 hv5=>?_)
 subst hv5
 have hfa6:=QaE d0.2.2.1 3 Qp
 refine VD.z rfl (.add rfl rfl rfl ⟨bd,bd⟩) ?_
 refine VD.nil rfl ?_ rfl
 refine VO.z (.bst (cs:=[.int .i64 (1+(JZ d0.2.2.1 3)),.int .i64 (d1+1),.slice p0_A4 (d0.2.2.2.2.length) (p0_c4)]) rfl JV Qba rfl) ?_
 refine VO.store (k:=3) (c':=[.int .i64 (1+(JZ d0.2.2.1 3)),.int .i64 (d1+1),.slice p0_A4 (d0.2.2.2.2.length) (p0_c4)]) 104 rfl rfl (.inl XN) rfl rfl rfl rfl rfl ?_
 refine VO.k4 0 1 2 4 (Qg (VC.ret ?_))
 refine ⟨_,_,QE (rs:=[.cell 4 36]) rfl (.agg 104 rfl XN rfl ⟨_,_,_,Qn _ _,Nat.le_of_ble_eq_true rfl,rfl⟩ .nil),fun W_ hI=>Q2 (l:=[]) hI [] rfl rfl (Qb _) (fun hS_=>?_)⟩
 dsimp only [Qu]
 all_goals (first | rfl | (simp [*];done))
theorem fnOk71:JE Tryz.prog 71=true:=by kernel_rfl
theorem Qpp:JE Tryz.prog 73=true:=by kernel_rfl
theorem Qpo:JE Tryz.prog 74=true:=by kernel_rfl
theorem tk82:tk Tryz.prog 82=some (some 5):=by kernel_rfl
theorem Qpz:JE Tryz.prog 15=true:=by kernel_rfl
set_option maxHeartbeats 8000000 in
theorem Qnt (W:World) {m_ n_:Nat} {c_:List Qe} {bx_:Bool} {k_:List Jv} {R_:QD} {gr_:Nat} {gx_:Nat} {r_:List Qe} {l_:List Jv} {br_:Bool} {D_:Qx} {gd_:Nat} {gu_:Nat} {T_:QI} {gt_:Nat} {m:Mem} {m0:Mem} {m1:Mem} (hm:mle (m) (wm W)) (hS:Qt m [m0,m1]) {g0:Nat} (h0:Ow (.ptr Qs) m0 [Vp g0] (g0,((gt_,T_),(gu_,((gd_,D_),br_,l_)),r_))) {g1:Nat} (h1:Ow (.ptr QQ) m1 [Vp g1] (g1,(true,(gx_,(true,(gr_,R_),k_,bx_)),c_))) {v2:List Value} {d2:Qa9} (h2:Rd Qa6 (Ju (wm W) (m)) v2 d2) (e0:PS m_ n_ D_ br_ l_ r_ R_ k_ bx_ c_) (e1:T_=sT r_) (e2:m_+500000≤1000000000000) (e3:n_≤90) (e4:d2.2.2.2.2.length≤60):Qc Tryz.prog 35 [Vp g0,Vp g1,.agg v2.toArray] W (m) (fun v m'=>∃ (gt2:Nat),∃ (D2:QS),∃ (br2:Bool),∃ (l2:List Jv),∃ (r2:List Qe),∃ (R2:ZR),∃ (k2:List Jv),∃ (bx2:Bool),∃ (c2:List Qe),∃ (p0:Mem),∃ (p1:Mem),v= .bool true∧Qt m' [p0,p1]∧Ow (.ptr Qs) p0 [Vp g0] (g0,((gt2,(sT r2)),(gu_,((gd_,D2),br2,l2)),r2))∧Ow (.ptr QQ) p1 [Vp g1] (g1,(true,(gx_,(true,(gr_,R2),k2,bx2)),c2))∧PS (m_+200000) (n_+1) D2 br2 l2 r2 R2 k2 bx2 c2):=by
 have hpo:=e0.p.ok;have hpr:=e0.p.okr;have hpm:=e0.p.rm;have hpw:=e0.p.w;have hpx:=e0.p.wr;have hpl:=e0.p.okl;have hpk:=e0.p.okk;have hss:=e0.s;have hsc:=e0.oks;have hrl:=e0.rl;have hlr:=e0.ll;have hcr:c_.length=r_.length:=(by rw [e0.rc]);have hkl:k_.length=l_.length:=(by rw [e0.p.kl]);have hul:=Za hpl;have huk:=Za hpk
 obtain ⟨p2_A4,p2_c4,rfl,p2_0,p2_1,p2_2,p2_3,p2_4⟩:=X1 (x0:=d2.1) (x1:=d2.2.1) (x2:=d2.2.2.1) (x3:=d2.2.2.2.1) (x4:=d2.2.2.2.2) h2
 simp only [inK] at p2_0 p2_1 p2_2 p2_3
 refine Qc.ofB (n:=81) hm Tryz.func35 rfl rfl rfl ?_
 refine VC.inv _ (fun _ h=>h.parts (i:=1) rfl hS [10,11]) ?_
 refine VC.rs ?_
 refine VO.box (cs:=[.int .i64 (d2.1),.int .i64 (d2.2.1),.int .i64 (d2.2.2.1),.int .i64 (d2.2.2.2.1),.slice p2_A4 (d2.2.2.2.2.length) (p2_c4)]) 105 rfl rfl rfl (fun g4=>?_)
 refine VO.as (VO.k5 0 1 2 5 6 (VC.seq (VC.rs (VO.z (.fa rfl QeH rfl) (VO.z (.ld1 105 rfl tk3 rfl (Qa rfl rfl)) ?_)))))
 refine VO.callN 106 rfl Qgp rfl (fun W hW=>QdE W d2.1 bdk 4 bdk bd) (fun v6 m6 hv6=>?_)
 subst hv6
 refine VO.k6 0 1 2 5 6 15 (VC.block (VC.seq (VC.rs (VO.z (.eql rfl rfl) (VO.as (VO.p4 105 0 10 11 (VO.k7 0 1 2 5 6 15 16 ?_)))))))
 refine VC.cond rfl (fun hc8=>?_) (fun hc8=>?_)
 refine VC.skip (Qg ?_)
 refine VC.condKT rfl (decide_eq_true hc8) ?_
 refine VC.rs (VO.z (.fa rfl QeH rfl) (VO.z (.ldA 105 rfl XN rfl (Qa rfl rfl)) ?_))
 refine VO.alloc 110 rfl Qba (fun g9=>?_)
 refine VO.store (k:=3) (c':=[.int .i64 (d2.2.2.1),.int .i64 (d2.2.2.2.1),.slice p2_A4 (d2.2.2.2.2.length) (p2_c4)]) 110 rfl rfl (.inl XN) rfl rfl rfl rfl rfl ?_
 refine VO.k8 0 1 2 5 6 7 15 16 (VC.seq (VC.rs (VO.z (.fa rfl QeH rfl) (VO.z (.ld1 105 rfl tk3 rfl (Qa rfl rfl)) ?_))))
 refine VO.callN 111 rfl Qgp rfl (fun W hW=>QdE W d2.1 bdk 4 bdk bd) (fun v11 m11 hv11=>?_)
 subst hv11
 refine VO.z (.eql rfl rfl) (VO.k9 0 1 2 5 6 7 15 16 24 ?_)
 refine VC.cond rfl (fun hc13=>?_) (fun hc13=>?_)
 first | exact absurd (e0.flush _).1 hc13 | exact absurd rfl hc13 | (exfalso;omega)
 refine VC.skip (Qg (VC.rs (VO.z (.ldA 110 rfl XN rfl (Qa rfl rfl)) ?_)))
 refine VO.callN 114 rfl QmT rfl (fun W hW=>Qbq W (show Rd QA _ _ d2.2.2 from (YG (m:=wm W) d2.2.2.1 d2.2.2.2.1 d2.2.2.2.2 bdk bdk (Rd.mono p2_4 (hW.t 0)))) bd) (fun v14 m14 hv14=>?_)
 obtain ⟨s14_0,rfl,f14_0⟩:=hv14
 obtain ⟨q14_0_A2,q14_0_c2,q14_0_n2,rfl,q14_0_S,q14_0_0,q14_0_1,q14_0_2⟩:=Qbm (x0:=d2.2.2.1) (x1:=d2.2.2.2.1) (x2:=(d2.2.2.2.2,Z9)) f14_0
 simp only [inK] at q14_0_0 q14_0_1
 have q14_0_f2:=(Rd.full (q14_0_2.rd (Qb _))).2
 have q14_0_s2:=Rd.pre2 q14_0_f2
 have q14_0_r2:=Rd.room q14_0_f2
 dsimp only at q14_0_f2 q14_0_s2 q14_0_r2
 have q14_0_o2:=(Ow.full q14_0_2).2
 have q14_0_p2:=Ow.pre2 q14_0_o2
 dsimp only at q14_0_o2 q14_0_p2
 refine VO.inv _ (fun _ h=>h.parts (i:=114) rfl q14_0_S [115]) ?_
 refine VO.alloc 117 rfl Qba (fun g16=>?_)
 refine VO.store (k:=3) (c':=[.int .i64 (d2.2.2.1),.int .i64 (d2.2.2.2.1),.slice q14_0_A2 (d2.2.2.2.2.length) (q14_0_c2)]) 117 rfl rfl (.inl XN) rfl rfl rfl rfl rfl ?_
 refine VO.p7 117 115 110 105 0 10 11 (VO.k10 0 1 2 5 6 7 8 15 16 24 (VC.rs (VO.mv (VO.z (.ldA 117 rfl XN rfl (Qa rfl rfl)) ?_))))
 refine VO.call 10 rfl Qpz rfl rfl (fun W hW=>Qf4 W (hW.t 10) h0 (show Rd QA _ _ d2.2.2 from (YG (m:=Ju (wm W) (m0)) d2.2.2.1 d2.2.2.2.1 d2.2.2.2.2 bdk bdk (Ow.rd q14_0_p2 (hW.o 10 115)))) (by first | assumption | rfl) Qf bd) (fun v18 m18 hv18=>?_)
 try dsimp only at hv18
 obtain ⟨rfl,w18_0⟩:=hv18
 refine VO.as (VO.k11 0 1 2 5 6 7 8 9 15 16 24 (VC.rs (VO.z (.ldA 117 rfl XN rfl (Qa rfl rfl)) (VO.z (.ldA 110 rfl XN rfl (Qa rfl rfl)) ?_))))
 refine VO.callN 119 rfl QmS rfl (fun W hW=>Qbr W (Qgf (m:=wm W) d2.2.2.1 d2.2.2.2.1 (d2.2.2.2.2,Z9) bdk bdk (Rd.mono (Rd.mkSpl (e:=TOp) (xs:=(d2.2.2.2.2,Z9).1) (ys:=(d2.2.2.2.2,Z9).2) q14_0_f2 rfl) (hW.t 115))) (show Rd QA _ _ d2.2.2 from (YG (m:=wm W) d2.2.2.1 d2.2.2.2.1 d2.2.2.2.2 bdk bdk (Rd.mono p2_4 (hW.t 0)))) (by rfl) bd) (fun v19 m19 hv19=>?_)
 try dsimp only at hv19
 subst hv19
 refine VO.as (VO.k12 0 1 2 5 6 7 8 9 10 15 16 24 (VC.seq (VC.rs (VO.as (VO.p7 10 117 115 110 105 0 11 (VO.nil (VC.block ?_)))))))
 refine VC.loop (G:=Nat × (List DOp) × Mem) (fun g=>[(11,.int .i64 ((((g.1):Nat):Int))),(0,Vp g0),(1,Vp g1),(2,.agg [.int .i64 (d2.1),.int .i64 (d2.2.1),.int .i64 (d2.2.2.1),.int .i64 (d2.2.2.2.1),.slice p2_A4 (d2.2.2.2.2.length) (p2_c4)].toArray),(5,Vp g4),(6,.bool false),(7,Vp g9),(8,Vp g16),(9,.int .i64 ((ZQ l_ r_ d2.2.2).2)),(10,.bool true),(15,.int .i64 (JZ d2.1 4)),(16,.bool (decide ((JZ d2.1 4)=0))),(24,.bool (decide ((JZ d2.1 4)=1)))]) (fun g=>[(10,m18),(117,Qo g16 (.cells #[.int .i64 (d2.2.2.1),.int .i64 (d2.2.2.2.1),.slice q14_0_A2 (d2.2.2.2.2.length) (q14_0_c2)] 36 (0,0))),(115,(g.2.2)),(110,Qo g9 (.cells #[.int .i64 (d2.2.2.1),.int .i64 (d2.2.2.2.1),.slice p2_A4 (d2.2.2.2.2.length) (p2_c4)] 36 (0,0))),(105,Qo g4 (.cells #[.int .i64 (d2.1),.int .i64 (d2.2.1),.int .i64 (d2.2.2.1),.int .i64 (d2.2.2.2.1),.slice p2_A4 (d2.2.2.2.2.length) (p2_c4)] 82 (0,0))),(0,Ju (wm W) (m)),(11,m1)]) (fun g=>((g.1)≤(g.2.1).length)∧(Qz TOp (g.2.2) mnil (.slice q14_0_A2 (d2.2.2.2.2.length) (q14_0_c2)) (g.2.1))) (fun g=>(g.2.1).length - (g.1)) (0,d2.2.2.2.2,q14_0_n2) (⟨by (dsimp only;omega),(Ow.ownl q14_0_p2 rfl mnil)⟩) ⟨esn,fun _ h=>h.sub [10,117,115,110,105,0,11]⟩ ?_
 rintro ⟨i,ops,ops_m⟩ ⟨hi,h_ops⟩
 replace hi:i≤ops.length:=hi
 replace h_ops:Qz TOp ops_m mnil (.slice q14_0_A2 (d2.2.2.2.2.length) (q14_0_c2)) ops:=h_ops
 show VC _ _ _ _ _ [(11,.int .i64 (((i:Nat):Int))),(0,Vp g0),(1,Vp g1),(2,.agg [.int .i64 (d2.1),.int .i64 (d2.2.1),.int .i64 (d2.2.2.1),.int .i64 (d2.2.2.2.1),.slice p2_A4 (d2.2.2.2.2.length) (p2_c4)].toArray),(5,Vp g4),(6,.bool false),(7,Vp g9),(8,Vp g16),(9,.int .i64 ((ZQ l_ r_ d2.2.2).2)),(10,.bool true),(15,.int .i64 (JZ d2.1 4)),(16,.bool (decide ((JZ d2.1 4)=0))),(24,.bool (decide ((JZ d2.1 4)=1)))] [(10,m18),(117,Qo g16 (.cells #[.int .i64 (d2.2.2.1),.int .i64 (d2.2.2.2.1),.slice q14_0_A2 (d2.2.2.2.2.length) (q14_0_c2)] 36 (0,0))),(115,ops_m),(110,Qo g9 (.cells #[.int .i64 (d2.2.2.1),.int .i64 (d2.2.2.2.1),.slice p2_A4 (d2.2.2.2.2.length) (p2_c4)] 36 (0,0))),(105,Qo g4 (.cells #[.int .i64 (d2.1),.int .i64 (d2.2.1),.int .i64 (d2.2.2.1),.int .i64 (d2.2.2.2.1),.slice p2_A4 (d2.2.2.2.2.length) (p2_c4)] 82 (0,0))),(0,Ju (wm W) (m)),(11,m1)]
 have ll_ops:=QbK (Qz.ow h_ops rfl)
 refine VC.seq (VC.rs (VO.mv (VO.z (.fa rfl JV rfl) (VO.z (.ld1 117 rfl Jw rfl (Qa rfl rfl)) (VO.z (.lenS rfl QX) (VO.z (.lss rfl rfl) (VO.nil ?_)))))))
 refine VC.cond rfl (fun hc20=>?_) (fun hc20=>?_)
 · refine VC.skip (Qg (VC.seq (VC.block ?_)))
   refine VC.reg ?_
   refine VO.z (.fa rfl JV rfl) (VO.z (.ld1 117 rfl Jw rfl (Qa rfl rfl)) (VO.mv ?_))
   refine VO.z (.bst (cs:=[.bool false,str ([111,118,101,114]),str ([])]) rfl JG YX rfl) ?_
   obtain ⟨x21,hx21⟩:∃ z_,(ops)[i]? =some z_:=⟨_,List.getElem?_eq_getElem bd⟩
   obtain ⟨gg21,oo21,ec21,ea21,hce21,hre21⟩:=h_ops.elem hx21
   cases ea21
   obtain ⟨rfl,q21_1,q21_2⟩:=Jr (x0:=x21.1) (x1:=x21.2.1) (x2:=x21.2.2) hre21
   simp only [maxLen] at q21_1
   simp only [maxLen] at q21_2
   refine VO.z (.ixI i rfl rfl QX rfl bd) ?_
   refine VO.upd (e:=TOp) (k:=3) (i:=i) (x':=(false,[111,118,101,114],[])) 115 0 rfl rfl (.inl Yx) rfl rfl rfl (Qz.ow h_ops rfl) rfl hx21 rfl (fun mi ec he=>by obtain ⟨rfl,z1,z2⟩:=Jr (x0:=x21.1) (x1:=x21.2.1) (x2:=x21.2.2) (he.rd (Qb _));exact Ow.of (m:=mnil) rfl (Xl false ([111,118,101,114]) [] bdm bdm)) (fun mu22 hu22=>?_)
   have hl22:=QbK hu22
   refine VO.nil (Jh (Qg ?_))
   refine VC.reg ?_
   refine VO.mv ?_
   refine VO.z (.add (c:=((i+1:Nat):Int)) rfl rfl Qp ⟨bd,bd⟩) ?_
   refine VO.as (VO.p7 10 117 115 110 105 0 11 (VO.nil ?_))
   exact Qg ⟨⟨i+1,(ops).set i (false,[111,118,101,114],[]),mu22⟩,⟨by (simp only [List.length_set];omega),(Ow.ownl hu22 rfl mnil)⟩,by (simp only [List.length_set];omega),⟨esn,fun _ h=>Inv.sub h [10,117,115,110,105,0,11]⟩⟩
 · refine VC.exit (JU (JU (JT (Qg (VC.rs (VO.mv (VO.mv (VO.w (.mv rfl) (VO.w (.mv rfl) (VO.w (.ldA 110 rfl XN rfl (Qa rfl rfl)) ?_))))))))))
   refine VO.gcall 11 rfl ⟨_,rfl,rfl⟩ Qpp rfl rfl (fun W hW=>Qht W (hW.t 11) h1 (show Rd QA _ _ d2.2.2 from (YG (m:=Ju (wm W) (m1)) d2.2.2.1 d2.2.2.2.1 d2.2.2.2.2 bdk bdk (Rd.mono p2_4 (hW.o 11 0)))) Qf bd) (fun v23 m23 hv23=>?_)
   try dsimp only at hv23
   obtain ⟨rfl,w23_0⟩:=hv23
   refine VO.w (.eql rfl rfl) (VO.z (.pT rfl rfl) (VO.as (VO.nil (VC.ret (Jf (QK ?_))))))
   refine XC 6 [10,11] fun hS_=>?_
   dsimp only [Qu]
   refine ⟨gt_,D_,br_,l_,(ZQ l_ r_ d2.2.2).1,R_,k_,bx_,(ZQ k_ c_ d2.2.2).1,Zs [m18],Zs [m23],?_,?_,?_,?_,?_⟩
   rotate_left
   · exact Qt.grp (ls:=[[m18],[m23]]) hS_
   · exact Ow.cgP (Ow.up w18_0 ((Qt.self hS_ (List.Sublist.cons_cons _ (List.Sublist.cons _ List.Sublist.slnil))).1 _ (.head _)))
   · exact Ow.cgP (Ow.up w23_0 ((Qt.self hS_ (List.Sublist.cons _ (List.Sublist.cons_cons _ List.Sublist.slnil))).1 _ (.head _)))
   · (first | exact ((e0.apply _).2).up Qp Qp | exact (e0.flush _).2 | exact PS.up e0 Qp Qp)
   all_goals (first | rfl | (first | exact congrArg Value.bool (decide_eq_true (e0.apply _).1) | exact congrArg Value.bool (decide_eq_true (e0.flush _).1) | rfl))
 refine VC.reg ?_
 refine VO.z (.eql rfl rfl) (VO.as (VO.k7 0 1 2 5 6 15 16 (Qg ?_)))
 refine VC.cond rfl (fun hc24=>?_) (fun hc24=>?_)
 refine VC.rs (VO.z (.fa rfl QeH rfl) (VO.z (.ldA 105 rfl XN rfl (Qa rfl rfl)) ?_))
 refine VO.alloc 126 rfl Qba (fun g25=>?_)
 refine VO.store (k:=3) (c':=[.int .i64 (d2.2.2.1),.int .i64 (d2.2.2.2.1),.slice p2_A4 (d2.2.2.2.2.length) (p2_c4)]) 126 rfl rfl (.inl XN) rfl rfl rfl rfl rfl ?_
 refine VO.k8 0 1 2 5 6 7 15 16 (VC.seq (VC.rs (VO.z (.fa rfl QeH rfl) (VO.z (.ld1 105 rfl tk3 rfl (Qa rfl rfl)) ?_))))
 refine VO.callN 127 rfl Qgp rfl (fun W hW=>QdE W d2.1 bdk 4 bdk bd) (fun v27 m27 hv27=>?_)
 subst hv27
 refine VO.z (.eql rfl rfl) (VO.p5 126 105 0 10 11 (VO.k9 0 1 2 5 6 7 15 16 24 ?_))
 refine VC.condKT rfl (decide_eq_true hc24) ?_
 refine VC.regD _ 3 [(0,true),(1,true),(2,false)] follows (by kernel_rfl) (fun _ h=>h.sub [126,105,0,10]) ?_
 refine VD.z rfl (.ldA 105 rfl tk82 rfl (Qa rfl rfl)) (VD.z rfl (.mv rfl) ?_)
 refine VD.call 11 rfl rfl (.inl rfl) Qd2 rfl rfl (fun _ _ h=>h.sub [126,105,0,10]) (fun W hW=>QbE W (hW.t 11) h1 Qf bd) (fun v29 m29 hv29=>?_)
 try dsimp only at hv29
 obtain ⟨rfl,w29_0⟩:=hv29
 refine VD.nil rfl ?_ rfl
 refine VO.callN 130 rfl fnOk71 rfl (fun W hW=>Qmv W (Rd.mono h2 (hW.t 0)) (Qy k_+((c_.length:Nat):Int)) bdk bd) (fun v30 m30 hv30=>?_)
 try simp only [List.getD_cons_succ,List.getD_cons_zero] at hv30
 subst hv30
 have hfa31:=QaE d2.2.2.1 3 Qp
 refine VO.store (k:=3) (c':=[.int .i64 (1+JZ d2.2.2.1 3),.int .i64 ((Qy k_+((c_.length:Nat):Int))+1),.slice p2_A4 (d2.2.2.2.2.length) (p2_c4)]) 126 rfl rfl (.inl XN) rfl rfl rfl rfl rfl ?_
 refine VO.k9 0 1 2 5 6 7 15 16 24 (Qg (VC.rs (VO.z (.ldA 126 rfl XN rfl (Qa rfl rfl)) ?_)))
 refine VO.callN 132 rfl QmT rfl (fun W hW=>Qbq W (YG (m:=wm W) (1+JZ d2.2.2.1 3) ((Qy k_+((c_.length:Nat):Int))+1) d2.2.2.2.2 bdk bdk (Rd.mono p2_4 (hW.t 0))) bd) (fun v32 m32 hv32=>?_)
 try dsimp only at hv32
 obtain ⟨s32_0,rfl,f32_0⟩:=hv32
 obtain ⟨q32_0_A2,q32_0_c2,q32_0_n2,rfl,q32_0_S,q32_0_0,q32_0_1,q32_0_2⟩:=Qbm (x0:=(1+JZ d2.2.2.1 3,(Qy k_+((c_.length:Nat):Int))+1,d2.2.2.2.2).1) (x1:=(1+JZ d2.2.2.1 3,(Qy k_+((c_.length:Nat):Int))+1,d2.2.2.2.2).2.1) (x2:=((1+JZ d2.2.2.1 3,(Qy k_+((c_.length:Nat):Int))+1,d2.2.2.2.2).2.2,Z9)) f32_0
 simp only [inK] at q32_0_0 q32_0_1
 have q32_0_f2:=(Rd.full (q32_0_2.rd (Qb _))).2
 have q32_0_s2:=Rd.pre2 q32_0_f2
 have q32_0_r2:=Rd.room q32_0_f2
 dsimp only at q32_0_f2 q32_0_s2 q32_0_r2
 have q32_0_o2:=(Ow.full q32_0_2).2
 have q32_0_p2:=Ow.pre2 q32_0_o2
 dsimp only at q32_0_o2 q32_0_p2
 refine VO.inv _ (fun _ h=>h.parts (i:=132) rfl q32_0_S [133]) ?_
 refine VO.alloc 135 rfl Qba (fun g34=>?_)
 refine VO.store (k:=3) (c':=[.int .i64 ((1+JZ d2.2.2.1 3,(Qy k_+((c_.length:Nat):Int))+1,d2.2.2.2.2).1),.int .i64 ((1+JZ d2.2.2.1 3,(Qy k_+((c_.length:Nat):Int))+1,d2.2.2.2.2).2.1),.slice q32_0_A2 (((1+JZ d2.2.2.1 3,(Qy k_+((c_.length:Nat):Int))+1,d2.2.2.2.2).2.2).length) (q32_0_c2)]) 135 rfl rfl (.inl XN) rfl rfl rfl rfl rfl ?_
 refine VO.k10 0 1 2 5 6 7 8 15 16 24 (VC.rs (VO.mv (VO.z (.ldA 135 rfl XN rfl (Qa rfl rfl)) ?_)))
 refine VO.call 10 rfl Qpz rfl rfl (fun W hW=>Qf4 W (hW.t 10) h0 (show Rd QA _ _ (1+JZ d2.2.2.1 3,(Qy k_+((c_.length:Nat):Int))+1,d2.2.2.2.2) from (YG (m:=Ju (wm W) (m0)) ((1+JZ d2.2.2.1 3,(Qy k_+((c_.length:Nat):Int))+1,d2.2.2.2.2).1) ((1+JZ d2.2.2.1 3,(Qy k_+((c_.length:Nat):Int))+1,d2.2.2.2.2).2.1) ((1+JZ d2.2.2.1 3,(Qy k_+((c_.length:Nat):Int))+1,d2.2.2.2.2).2.2) bdk bdk (Ow.rd q32_0_p2 (hW.o 10 133)))) (by first | assumption | rfl) Qf bd) (fun v36 m36 hv36=>?_)
 try dsimp only at hv36
 obtain ⟨rfl,w36_0⟩:=hv36
 refine VO.as (VO.p7 10 135 133 11 126 105 0 (VO.k11 0 1 2 5 6 7 8 9 15 16 24 (VC.rs (VO.z (.ldA 135 rfl XN rfl (Qa rfl rfl)) (VO.z (.ldA 126 rfl XN rfl (Qa rfl rfl)) ?_)))))
 refine VO.callN 137 rfl QmS rfl (fun W hW=>Qbr W (Qgf (m:=wm W) ((1+JZ d2.2.2.1 3,(Qy k_+((c_.length:Nat):Int))+1,d2.2.2.2.2).1) ((1+JZ d2.2.2.1 3,(Qy k_+((c_.length:Nat):Int))+1,d2.2.2.2.2).2.1) ((1+JZ d2.2.2.1 3,(Qy k_+((c_.length:Nat):Int))+1,d2.2.2.2.2).2.2,Z9) bdk bdk (Rd.mono (Rd.mkSpl (e:=TOp) (xs:=((1+JZ d2.2.2.1 3,(Qy k_+((c_.length:Nat):Int))+1,d2.2.2.2.2).2.2,Z9).1) (ys:=((1+JZ d2.2.2.1 3,(Qy k_+((c_.length:Nat):Int))+1,d2.2.2.2.2).2.2,Z9).2) q32_0_f2 rfl) (hW.t 133))) (YG (m:=wm W) (1+JZ d2.2.2.1 3) ((Qy k_+((c_.length:Nat):Int))+1) d2.2.2.2.2 bdk bdk (Rd.mono p2_4 (hW.t 0))) (by rfl) bd) (fun v37 m37 hv37=>?_)
 try dsimp only at hv37
 subst hv37
 refine VO.as (VO.k12 0 1 2 5 6 7 8 9 10 15 16 24 (VC.seq (VC.rs (VO.as (VO.nil (VC.block ?_))))))
 refine VC.loop (G:=Nat × (List DOp) × Mem) (fun g=>[(11,.int .i64 ((((g.1):Nat):Int))),(0,Vp g0),(1,Vp g1),(2,.agg [.int .i64 (d2.1),.int .i64 (d2.2.1),.int .i64 (d2.2.2.1),.int .i64 (d2.2.2.2.1),.slice p2_A4 (d2.2.2.2.2.length) (p2_c4)].toArray),(5,Vp g4),(6,.bool false),(7,Vp g25),(8,Vp g34),(9,.int .i64 ((ZQ l_ r_ (1+JZ d2.2.2.1 3,(Qy k_+((c_.length:Nat):Int))+1,d2.2.2.2.2)).2)),(10,.bool true),(15,.int .i64 (JZ d2.1 4)),(16,.bool (decide ((JZ d2.1 4)=1))),(24,.bool (decide ((JZ d2.1 4)=1)))]) (fun g=>[(10,m36),(135,Qo g34 (.cells #[.int .i64 ((1+JZ d2.2.2.1 3,(Qy k_+((c_.length:Nat):Int))+1,d2.2.2.2.2).1),.int .i64 ((1+JZ d2.2.2.1 3,(Qy k_+((c_.length:Nat):Int))+1,d2.2.2.2.2).2.1),.slice q32_0_A2 (((1+JZ d2.2.2.1 3,(Qy k_+((c_.length:Nat):Int))+1,d2.2.2.2.2).2.2).length) (q32_0_c2)] 36 (0,0))),(133,(g.2.2)),(11,m29),(126,Qo g25 (.cells #[.int .i64 (1+JZ d2.2.2.1 3),.int .i64 ((Qy k_+((c_.length:Nat):Int))+1),.slice p2_A4 (d2.2.2.2.2.length) (p2_c4)] 36 (0,0))),(105,Qo g4 (.cells #[.int .i64 (d2.1),.int .i64 (d2.2.1),.int .i64 (d2.2.2.1),.int .i64 (d2.2.2.2.1),.slice p2_A4 (d2.2.2.2.2.length) (p2_c4)] 82 (0,0))),(0,Ju (wm W) (m))]) (fun g=>((g.1)≤(g.2.1).length)∧(Qz TOp (g.2.2) mnil (.slice q32_0_A2 (((1+JZ d2.2.2.1 3,(Qy k_+((c_.length:Nat):Int))+1,d2.2.2.2.2).2.2).length) (q32_0_c2)) (g.2.1))) (fun g=>(g.2.1).length - (g.1)) (0,(1+JZ d2.2.2.1 3,(Qy k_+((c_.length:Nat):Int))+1,d2.2.2.2.2).2.2,q32_0_n2) (⟨by (dsimp only;omega),(Ow.ownl q32_0_p2 rfl mnil)⟩) ⟨esn,fun _ h=>h.sub [10,135,133,11,126,105,0]⟩ ?_
 rintro ⟨i,ops,ops_m⟩ ⟨hi,h_ops⟩
 replace hi:i≤ops.length:=hi
 replace h_ops:Qz TOp ops_m mnil (.slice q32_0_A2 (((1+JZ d2.2.2.1 3,(Qy k_+((c_.length:Nat):Int))+1,d2.2.2.2.2).2.2).length) (q32_0_c2)) ops:=h_ops
 show VC _ _ _ _ _ [(11,.int .i64 (((i:Nat):Int))),(0,Vp g0),(1,Vp g1),(2,.agg [.int .i64 (d2.1),.int .i64 (d2.2.1),.int .i64 (d2.2.2.1),.int .i64 (d2.2.2.2.1),.slice p2_A4 (d2.2.2.2.2.length) (p2_c4)].toArray),(5,Vp g4),(6,.bool false),(7,Vp g25),(8,Vp g34),(9,.int .i64 ((ZQ l_ r_ (1+JZ d2.2.2.1 3,(Qy k_+((c_.length:Nat):Int))+1,d2.2.2.2.2)).2)),(10,.bool true),(15,.int .i64 (JZ d2.1 4)),(16,.bool (decide ((JZ d2.1 4)=1))),(24,.bool (decide ((JZ d2.1 4)=1)))] [(10,m36),(135,Qo g34 (.cells #[.int .i64 ((1+JZ d2.2.2.1 3,(Qy k_+((c_.length:Nat):Int))+1,d2.2.2.2.2).1),.int .i64 ((1+JZ d2.2.2.1 3,(Qy k_+((c_.length:Nat):Int))+1,d2.2.2.2.2).2.1),.slice q32_0_A2 (((1+JZ d2.2.2.1 3,(Qy k_+((c_.length:Nat):Int))+1,d2.2.2.2.2).2.2).length) (q32_0_c2)] 36 (0,0))),(133,ops_m),(11,m29),(126,Qo g25 (.cells #[.int .i64 (1+JZ d2.2.2.1 3),.int .i64 ((Qy k_+((c_.length:Nat):Int))+1),.slice p2_A4 (d2.2.2.2.2.length) (p2_c4)] 36 (0,0))),(105,Qo g4 (.cells #[.int .i64 (d2.1),.int .i64 (d2.2.1),.int .i64 (d2.2.2.1),.int .i64 (d2.2.2.2.1),.slice p2_A4 (d2.2.2.2.2.length) (p2_c4)] 82 (0,0))),(0,Ju (wm W) (m))]
 have ll_ops:=QbK (Qz.ow h_ops rfl)
 refine VC.seq (VC.rs (VO.mv (VO.z (.fa rfl JV rfl) (VO.z (.ld1 135 rfl Jw rfl (Qa rfl rfl)) (VO.z (.lenS rfl QX) (VO.z (.lss rfl rfl) (VO.p7 10 135 133 11 126 105 0 (VO.nil ?_))))))))
 refine VC.cond rfl (fun hc38=>?_) (fun hc38=>?_)
 · refine VC.skip (Qg (VC.seq (VC.block ?_)))
   refine VC.reg ?_
   refine VO.z (.fa rfl JV rfl) (VO.z (.ld1 135 rfl Jw rfl (Qa rfl rfl)) (VO.mv ?_))
   refine VO.z (.bst (cs:=[.bool false,str ([111,118,101,114]),str ([])]) rfl JG YX rfl) ?_
   obtain ⟨x39,hx39⟩:∃ z_,(ops)[i]? =some z_:=⟨_,List.getElem?_eq_getElem bd⟩
   obtain ⟨gg39,oo39,ec39,ea39,hce39,hre39⟩:=h_ops.elem hx39
   cases ea39
   obtain ⟨rfl,q39_1,q39_2⟩:=Jr (x0:=x39.1) (x1:=x39.2.1) (x2:=x39.2.2) hre39
   simp only [maxLen] at q39_1
   simp only [maxLen] at q39_2
   refine VO.z (.ixI i rfl rfl QX rfl bd) ?_
   refine VO.upd (e:=TOp) (k:=3) (i:=i) (x':=(false,[111,118,101,114],[])) 133 0 rfl rfl (.inl Yx) rfl rfl rfl (Qz.ow h_ops rfl) rfl hx39 rfl (fun mi ec he=>by obtain ⟨rfl,z1,z2⟩:=Jr (x0:=x39.1) (x1:=x39.2.1) (x2:=x39.2.2) (he.rd (Qb _));exact Ow.of (m:=mnil) rfl (Xl false ([111,118,101,114]) [] bdm bdm)) (fun mu40 hu40=>?_)
   have hl40:=QbK hu40
   refine VO.nil (Jh (Qg ?_))
   refine VC.reg ?_
   refine VO.mv ?_
   refine VO.z (.add (c:=((i+1:Nat):Int)) rfl rfl Qp ⟨bd,bd⟩) ?_
   refine VO.as (VO.nil ?_)
   exact Qg ⟨⟨i+1,(ops).set i (false,[111,118,101,114],[]),mu40⟩,⟨by (simp only [List.length_set];omega),(Ow.ownl hu40 rfl mnil)⟩,by (simp only [List.length_set];omega),⟨esn,fun _ h=>Inv.sub h [10,135,133,11,126,105,0]⟩⟩
 · refine VC.exit (JU (JU (JT (Qg (VC.rs (VO.mv (VO.mv (VO.w (.mv rfl) (VO.w (.mv rfl) (VO.w (.ldA 126 rfl XN rfl (Qa rfl rfl)) ?_))))))))))
   refine VO.gcall 11 rfl ⟨_,rfl,rfl⟩ Qpp rfl rfl (fun W hW=>Qht W (hW.t 11) w29_0 (YG (m:=Ju (wm W) (m29)) (1+JZ d2.2.2.1 3) ((Qy k_+((c_.length:Nat):Int))+1) d2.2.2.2.2 bdk bdk (Rd.mono p2_4 (hW.o 11 0))) Qf bd) (fun v41 m41 hv41=>?_)
   try dsimp only at hv41
   obtain ⟨rfl,w41_0⟩:=hv41
   refine VO.w (.eql rfl rfl) (VO.z (.pT rfl rfl) (VO.as (VO.nil (VC.ret (Jf (QK ?_))))))
   refine XC 6 [10,11] fun hS_=>?_
   dsimp only [Qu]
   refine ⟨gt_,D_,br_,l_,(ZQ l_ r_ (1+JZ d2.2.2.1 3,(Qy k_+((c_.length:Nat):Int))+1,d2.2.2.2.2)).1,R_,k_,bx_,(ZQ k_ c_ (1+JZ d2.2.2.1 3,(Qy k_+((c_.length:Nat):Int))+1,d2.2.2.2.2)).1,Zs [m36],Zs [m41],?_,?_,?_,?_,?_⟩
   rotate_left
   · exact Qt.grp (ls:=[[m36],[m41]]) hS_
   · exact Ow.cgP (Ow.up w36_0 ((Qt.self hS_ (List.Sublist.cons_cons _ (List.Sublist.cons _ List.Sublist.slnil))).1 _ (.head _)))
   · exact Ow.cgP (Ow.up w41_0 ((Qt.self hS_ (List.Sublist.cons _ (List.Sublist.cons_cons _ List.Sublist.slnil))).1 _ (.head _)))
   · (first | exact ((e0.apply _).2).up Qp Qp | exact (e0.flush _).2 | exact PS.up e0 Qp Qp)
   all_goals (first | rfl | (first | exact congrArg Value.bool (decide_eq_true (e0.apply _).1) | exact congrArg Value.bool (decide_eq_true (e0.flush _).1) | rfl))
 refine VC.rs (VO.z (.eql rfl rfl) (VO.as (VO.k8 0 1 2 5 6 15 16 57 ?_)))
 refine VC.cond rfl (fun hc42=>?_) (fun hc42=>?_)
 · refine VC.seq ?_
   refine VC.regD _ 7 [(0,true),(1,true),(2,true),(4,true),(5,true),(6,true),(3,false)] follows (by kernel_rfl) (fun _ h=>h.sub [105,0,11]) ?_
   refine VD.z rfl (.mv rfl) (VD.z rfl (.fa rfl QeH rfl) (VD.z rfl (.ld1 105 rfl tk3 rfl (Qa rfl rfl)) (VD.z rfl (.mv rfl) (VD.z rfl (.fa rfl QeH rfl) (VD.z rfl (.ld1 105 rfl tk3 rfl (Qa rfl rfl)) ?_)))))
   refine VD.call 10 rfl rfl (.inl rfl) QpB rfl rfl (fun _ _ h=>h.sub [105,0,11]) (fun W hW=>QhN W (hW.t 10) h0 d2.2.1 bdk (by first | assumption | rfl) Qf Qf bd Qf bd) (fun v43 m43 hv43=>?_)
   try dsimp only at hv43
   obtain ⟨gt2_43,rfl,w43_0⟩:=hv43
   refine VD.nil rfl ?_ rfl
   refine VO.call 11 rfl Qpo rfl rfl (fun W hW=>Qhs W (hW.t 11) h1 d2.2.1 bdk Qf Qf Qf Qf bd bd) (fun v44 m44 hv44=>?_)
   try dsimp only at hv44
   obtain ⟨rfl,w44_0⟩:=hv44
   refine VO.z (.eql rfl rfl) (VO.as (VO.p4 11 10 105 0 (VO.k8 0 1 2 5 6 15 16 57 (Qg (VC.ret (Jf (QK ?_)))))))
   refine XC 6 [10,11] fun hS_=>?_
   dsimp only [Qu]
   refine ⟨gt2_43,(QU D_ br_ l_ r_ d2.2.1).1.1.1,(QU D_ br_ l_ r_ d2.2.1).1.1.2.1,(QU D_ br_ l_ r_ d2.2.1).1.1.2.2,(QU D_ br_ l_ r_ d2.2.1).1.2,toR (QU (Qk R_) bx_ k_ c_ d2.2.1).1.1.1 R_.2.2.2.2.2.1,(QU (Qk R_) bx_ k_ c_ d2.2.1).1.1.2.2,(QU (Qk R_) bx_ k_ c_ d2.2.1).1.1.2.1,(QU (Qk R_) bx_ k_ c_ d2.2.1).1.2,Zs [m43],Zs [m44],?_,?_,?_,?_,?_⟩
   rotate_left
   · exact Qt.grp (ls:=[[m43],[m44]]) hS_
   · exact Ow.cgP (Ow.up w43_0 ((Qt.self hS_ (List.Sublist.cons_cons _ (List.Sublist.cons _ List.Sublist.slnil))).1 _ (.head _)))
   · exact Ow.cgP (Ow.up w44_0 ((Qt.self hS_ (List.Sublist.cons _ (List.Sublist.cons_cons _ List.Sublist.slnil))).1 _ (.head _)))
   · (first | exact ((e0.apply _).2).up Qp Qp | exact (e0.flush _).2 | exact PS.up e0 Qp Qp)
   all_goals (first | rfl | (first | exact congrArg Value.bool (decide_eq_true (e0.apply _).1) | exact congrArg Value.bool (decide_eq_true (e0.flush _).1) | rfl))
 · refine VC.skip (Jh (Qg (VC.seq ?_)))
   refine VC.regD _ 4 [(0,true),(2,true),(3,true),(1,false)] follows (by kernel_rfl) (fun _ h=>h.sub [105,0,10]) ?_
   refine VD.z rfl (.mv rfl) (VD.z rfl (.fa rfl QeH rfl) (VD.z rfl (.ld1 105 rfl tk3 rfl (Qa rfl rfl)) ?_))
   refine VD.call 11 rfl rfl (.inl rfl) Qd2 rfl rfl (fun _ _ h=>h.sub [105,0,10]) (fun W hW=>QbE W (hW.t 11) h1 Qf bd) (fun v45 m45 hv45=>?_)
   try dsimp only at hv45
   obtain ⟨rfl,w45_0⟩:=hv45
   refine VD.nil rfl ?_ rfl
   refine VO.callN 146 rfl Qgp rfl (fun W hW=>QdE W d2.2.1 bdk 4 bdk bd) (fun v46 m46 hv46=>?_)
   subst hv46
   have hfa47:=QaE d2.2.1 4 Qp
   refine VO.z (.sub rfl rfl rfl ⟨bd,bd⟩) ?_
   refine VO.as (VO.p4 11 105 0 10 (VO.k9 0 1 2 5 6 12 15 16 57 (Qg (VC.rs (VO.mv (VO.mv ?_))))))
   refine VO.call 10 rfl QpB rfl rfl (fun W hW=>QhN W (hW.t 10) h0 ((Qy k_+((c_.length:Nat):Int)) - (JZ d2.2.1 4)) bdk (by first | assumption | rfl) Qf Qf bd Qf bd) (fun v48 m48 hv48=>?_)
   try dsimp only at hv48
   obtain ⟨gt2_48,rfl,w48_0⟩:=hv48
   refine VO.mv (VO.mv ?_)
   refine VO.call 11 rfl Qpo rfl rfl (fun W hW=>Qhs W (hW.t 11) w45_0 ((Qy k_+((c_.length:Nat):Int)) - (JZ d2.2.1 4)) bdk Qf Qf Qf Qf bd bd) (fun v49 m49 hv49=>?_)
   try dsimp only at hv49
   obtain ⟨rfl,w49_0⟩:=hv49
   refine VO.z (.eql rfl rfl) (VO.as (VO.k9 0 1 2 5 6 12 15 16 57 (VC.ret ?_)))
   refine XC 6 [10,11] fun hS_=>?_
   dsimp only [Qu]
   refine ⟨gt2_48,(QU D_ br_ l_ r_ ((Qy k_+((c_.length:Nat):Int)) - (JZ d2.2.1 4))).1.1.1,(QU D_ br_ l_ r_ ((Qy k_+((c_.length:Nat):Int)) - (JZ d2.2.1 4))).1.1.2.1,(QU D_ br_ l_ r_ ((Qy k_+((c_.length:Nat):Int)) - (JZ d2.2.1 4))).1.1.2.2,(QU D_ br_ l_ r_ ((Qy k_+((c_.length:Nat):Int)) - (JZ d2.2.1 4))).1.2,toR (QU (Qk R_) bx_ k_ c_ ((Qy k_+((c_.length:Nat):Int)) - (JZ d2.2.1 4))).1.1.1 R_.2.2.2.2.2.1,(QU (Qk R_) bx_ k_ c_ ((Qy k_+((c_.length:Nat):Int)) - (JZ d2.2.1 4))).1.1.2.2,(QU (Qk R_) bx_ k_ c_ ((Qy k_+((c_.length:Nat):Int)) - (JZ d2.2.1 4))).1.1.2.1,(QU (Qk R_) bx_ k_ c_ ((Qy k_+((c_.length:Nat):Int)) - (JZ d2.2.1 4))).1.2,Zs [m48],Zs [m49],?_,?_,?_,?_,?_⟩
   rotate_left
   · exact Qt.grp (ls:=[[m48],[m49]]) hS_
   · exact Ow.cgP (Ow.up w48_0 ((Qt.self hS_ (List.Sublist.cons_cons _ (List.Sublist.cons _ List.Sublist.slnil))).1 _ (.head _)))
   · exact Ow.cgP (Ow.up w49_0 ((Qt.self hS_ (List.Sublist.cons _ (List.Sublist.cons_cons _ List.Sublist.slnil))).1 _ (.head _)))
   · (first | exact ((e0.apply _).2).up Qp Qp | exact (e0.flush _).2 | exact PS.up e0 Qp Qp)
   all_goals (first | rfl | (first | exact congrArg Value.bool (decide_eq_true (e0.apply _).1) | exact congrArg Value.bool (decide_eq_true (e0.flush _).1) | rfl))
theorem QmV:JE Tryz.prog 37=true:=by kernel_rfl
theorem fnOk75:JE Tryz.prog 75=true:=by kernel_rfl
theorem fnOk76:JE Tryz.prog 76=true:=by kernel_rfl
set_option maxHeartbeats 8000000 in
theorem QhH (W:World) {m_ n_:Nat} {c_:List Qe} {bx_:Bool} {k_:List Jv} {R_:QD} {gr_:Nat} {gx_:Nat} {r_:List Qe} {l_:List Jv} {br_:Bool} {D_:Qx} {gd_:Nat} {gu_:Nat} {T_:QI} {gt_:Nat} {m:Mem} {m0:Mem} {m1:Mem} (hm:mle (m) (wm W)) (hS:Qt m [m0,m1]) {g0:Nat} (h0:Ow (.ptr Qs) m0 [Vp g0] (g0,((gt_,T_),(gu_,((gd_,D_),br_,l_)),r_))) {g1:Nat} (h1:Ow (.ptr QQ) m1 [Vp g1] (g1,(true,(gx_,(true,(gr_,R_),k_,bx_)),c_))) {v2:Value} {d2:List (List UInt8)} (h2:Rd (.sl .str) (Ju (wm W) (m)) [v2] d2) (e0:PS m_ n_ D_ br_ l_ r_ R_ k_ bx_ c_) (e1:T_=sT r_) (e2:m_+500000≤1000000000000) (e3:n_≤100):Qc Tryz.prog 36 [Vp g0,Vp g1,v2] W (m) (fun v m'=>∃ (p0:Mem),∃ (p1:Mem),v= .bool true∧Qt m' [p0,p1]∧Ow (.ptr Qs) p0 [Vp g0] (g0,((gt_,T_),(gu_,((gd_,D_),br_,l_)),r_))∧Ow (.ptr QQ) p1 [Vp g1] (g1,(true,(gx_,(true,(gr_,R_),k_,bx_)),c_))):=by
 have hpo:=e0.p.ok;have hpr:=e0.p.okr;have hpm:=e0.p.rm;have hpw:=e0.p.w;have hpx:=e0.p.wr;have hpl:=e0.p.okl;have hpk:=e0.p.okk;have hss:=e0.s;have hsc:=e0.oks;have hrl:=e0.rl;have hlr:=e0.ll;have hcr:c_.length=r_.length:=(by rw [e0.rc]);have hkl:k_.length=l_.length:=(by rw [e0.p.kl]);have hul:=Za hpl;have huk:=Za hpk
 obtain ⟨A2,c2,rfl,l2,k2⟩:=h2.slc
 refine Qc.ofB (n:=64) hm Tryz.func36 rfl rfl rfl ?_
 refine VC.inv _ (fun _ h=>h.parts (i:=1) rfl hS [10,11]) ?_
 refine VC.rs (VO.as (VO.k4 0 1 2 6 (VC.seq (VC.rs (VO.mv ?_)))))
 refine VO.call 10 rfl Qke rfl rfl (fun W hW=>QiW W (hW.t 10) h0 Qf bd) (fun v4 m4 hv4=>?_)
 try dsimp only at hv4
 obtain ⟨rfl,w4_0⟩:=hv4
 refine VO.mv ?_
 refine VO.call 11 rfl Qd2 rfl rfl (fun W hW=>QbE W (hW.t 11) h1 Qf bd) (fun v5 m5 hv5=>?_)
 try dsimp only at hv5
 obtain ⟨rfl,w5_0⟩:=hv5
 refine VO.z (.neq rfl rfl) (VO.mv ?_)
 refine VO.dec (t:=17) rfl (fun hc6=>?_) (fun hc6=>?_)
 · first | (refine absurd ?_ hc6;rw [e0.rc];done) | (refine absurd ?_ hc6;rw [e0.p.kl,e0.rc];done) | (refine absurd ?_ hc6;rw [e0.all Qp];done) | exact absurd (e0.all Qp) hc6 | (refine absurd ?_ hc6;rw [e0.get];done) | exact absurd (congrArg Prod.fst (e0.get _)) hc6 | exact absurd (decide_eq_decide.2 (by (rw [e0.get];done))) hc6 | exact absurd (congrArg Prod.snd (e0.get _)) hc6 | exact absurd rfl hc6
 refine VO.w (.mv rfl) ?_
 refine VO.gcall 10 rfl ⟨_,rfl,rfl⟩ QpA rfl rfl (fun W hW=>QjF W (hW.t 10) w4_0) (fun v7 m7 hv7=>?_)
 try dsimp only at hv7
 obtain ⟨rfl,w7_0⟩:=hv7
 refine VO.w (.mv rfl) ?_
 refine VO.gcall 11 rfl ⟨_,rfl,rfl⟩ fnOk75 rfl rfl (fun W hW=>QnN W (hW.t 11) w5_0) (fun v8 m8 hv8=>?_)
 try dsimp only at hv8
 obtain ⟨rfl,w8_0⟩:=hv8
 refine VO.w (.neq rfl rfl) (VO.z (.pF rfl rfl) (VO.mv ?_))
 refine VO.dec (t:=24) rfl (fun hc9=>?_) (fun hc9=>?_)
 · first | (refine absurd ?_ hc9;rw [e0.rc];done) | (refine absurd ?_ hc9;rw [e0.p.kl,e0.rc];done) | (refine absurd ?_ hc9;rw [e0.all Qp];done) | exact absurd (e0.all Qp) hc9 | (refine absurd ?_ hc9;rw [e0.get];done) | exact absurd (congrArg Prod.fst (e0.get _)) hc9 | exact absurd (decide_eq_decide.2 (by (rw [e0.get];done))) hc9 | exact absurd (congrArg Prod.snd (e0.get _)) hc9 | exact absurd rfl hc9
 refine VO.w (.mv rfl) ?_
 refine VO.gcall 10 rfl ⟨_,rfl,rfl⟩ QmY rfl rfl (fun W hW=>Qhm W (hW.t 10) w7_0 1000 bdk (by first | assumption | rfl) Qf Qf bd bd) (fun v10 m10 hv10=>?_)
 try dsimp only at hv10
 obtain ⟨s10_0,p10_0,p10_1,rfl,hS10,f10_0,w10_0⟩:=hv10
 refine VO.inv _ (fun _ h=>h.parts (i:=10) rfl hS10 [111,112]) ?_
 obtain ⟨A10_0,c10_0,eq10_0,l10_0,k10_0⟩:=f10_0.slc
 subst eq10_0
 refine VO.w (.mv rfl) ?_
 refine VO.gcall 11 rfl ⟨_,rfl,rfl⟩ QmV rfl rfl (fun W hW=>QiF W (hW.t 11) w8_0 Qf Qf bd) (fun v15 m15 hv15=>?_)
 try dsimp only at hv15
 obtain ⟨s15_0,p15_0,p15_1,rfl,hS15,f15_0,w15_0⟩:=hv15
 refine VO.inv _ (fun _ h=>h.parts (i:=11) rfl hS15 [116,117]) ?_
 obtain ⟨A15_0,c15_0,eq15_0,l15_0,k15_0⟩:=f15_0.slc
 subst eq15_0
 refine VO.gcallN 119 rfl ⟨_,rfl,rfl⟩ Qik rfl (fun W hW=>Qa8 W (Ow.rd f10_0 (hW.t 111)) (Ow.rd f15_0 (hW.t 116))) (fun v19 m19 hv19=>?_)
 subst hv19
 refine VO.w (.notD rfl) (VO.z (.pF rfl rfl) (VO.k5 0 1 2 6 31 ?_))
 refine VC.cond rfl (fun hc20=>?_) (fun hc20=>?_)
 · first | (refine absurd ?_ hc20;rw [e0.rc];done) | (refine absurd ?_ hc20;rw [e0.p.kl,e0.rc];done) | (refine absurd ?_ hc20;rw [e0.all Qp];done) | exact absurd (e0.all Qp) hc20 | (refine absurd ?_ hc20;rw [e0.get];done) | exact absurd (congrArg Prod.fst (e0.get _)) hc20 | exact absurd (decide_eq_decide.2 (by (rw [e0.get];done))) hc20 | exact absurd (congrArg Prod.snd (e0.get _)) hc20 | exact absurd rfl hc20
 refine VC.skip (Qg (VC.seq (VC.rs (VO.as (VO.p3 117 112 0 (VO.k6 0 1 2 6 7 31 (VC.block ?_)))))))
 refine VC.loop (G:=Nat × Mem × Mem) (fun g=>[(7,.int .i64 ((((g.1):Nat):Int))),(0,Vp g0),(1,Vp g1),(2,.slice A2 (d2.length) (c2)),(31,.bool (decide (¬ ((Qkt ((XJ l_ r_).filter (·.1)) 1000)=(Qcq k_ c_)))))]) (fun g=>[(117,(g.2.2)),(112,(g.2.1)),(0,Ju (wm W) (m))]) (fun g=>((g.1)≤d2.length)∧(Ow (.ptr Qs) (g.2.1) [Vp g0] (g0,((gt_,T_),(gu_,((gd_,D_),br_,l_)),r_)))∧(Ow (.ptr QQ) (g.2.2) [Vp g1] (g1,(true,(gx_,(true,(gr_,R_),k_,bx_)),c_)))) (fun g=>d2.length - (g.1)) (0,p10_1,p15_1) (⟨by (dsimp only;omega),w10_0,w15_0⟩) ⟨esn,fun _ h=>h.sub [117,112,0]⟩ ?_
 rintro ⟨k,w_m,v_m⟩ ⟨hk,h_w,h_v⟩
 replace hk:k≤d2.length:=hk
 replace h_w:Ow (.ptr Qs) w_m [Vp g0] (g0,((gt_,T_),(gu_,((gd_,D_),br_,l_)),r_)):=h_w
 replace h_v:Ow (.ptr QQ) v_m [Vp g1] (g1,(true,(gx_,(true,(gr_,R_),k_,bx_)),c_)):=h_v
 show VC _ _ _ _ _ [(7,.int .i64 (((k:Nat):Int))),(0,Vp g0),(1,Vp g1),(2,.slice A2 (d2.length) (c2)),(31,.bool (decide (¬ ((Qkt ((XJ l_ r_).filter (·.1)) 1000)=(Qcq k_ c_)))))] [(117,v_m),(112,w_m),(0,Ju (wm W) (m))]
 refine VC.seq (VC.rs (VO.mv (VO.mv (VO.z (.lenS rfl QkA) (VO.z (.lss rfl rfl) (VO.k6 0 1 2 7 31 35 ?_))))))
 refine VC.cond rfl (fun hc21=>?_) (fun hc21=>?_)
 refine VC.skip (Qg (VC.seq (VC.block (VC.rs (VO.mv (VO.mv (VO.mv ?_)))))))
 obtain ⟨x22,hx22⟩:∃ z_,(d2)[k]? =some z_:=⟨_,List.getElem?_eq_getElem bd⟩
 obtain ⟨gg22,oo22,ec22,ea22,hce22,hre22⟩:=h2.elem hx22
 cases ea22
 obtain ⟨rfl,q22⟩:=hre22
 have q22':=q22;simp only [maxLen] at q22'
 refine VO.z (.ixI k rfl rfl QkA rfl bd) ?_
 refine VO.z (.ld1 0 rfl tk9 rfl hce22) ?_
 refine VO.call 112 rfl Qm3 rfl rfl (fun W hW=>QiV W (hW.t 112) h_w x22 bdm (by first | assumption | rfl) Qf) (fun v23 m23 hv23=>?_)
 try dsimp only at hv23
 obtain ⟨rfl,w23_0⟩:=hv23
 refine VO.mv (VO.z (.ext rfl rfl) (VO.z (.ext rfl rfl) (VO.as (VO.as (VO.k8 0 1 2 7 8 9 31 35 (VC.rs (VO.mv (VO.mv (VO.mv ?_)))))))))
 refine VO.z (.ixI k rfl rfl QkA rfl bd) ?_
 refine VO.z (.ld1 0 rfl tk9 rfl hce22) ?_
 refine VO.call 117 rfl fnOk76 rfl rfl (fun W hW=>QpT W (hW.t 117) h_v x22 bdm Qf Qf bd) (fun v25 m25 hv25=>?_)
 try dsimp only at hv25
 obtain ⟨rfl,w25_0⟩:=hv25
 refine VO.mv (VO.z (.ext rfl rfl) (VO.z (.ext rfl rfl) (VO.as (VO.as (VO.p3 117 112 0 (VO.k10 0 1 2 7 8 9 10 11 31 35 (VC.rs (VO.mv (VO.mv (VO.z (.sneq rfl rfl) (VO.mv ?_)))))))))))
 refine VO.dec (t:=59) rfl (fun hc26=>?_) (fun hc26=>?_)
 · first | (refine absurd ?_ hc26;rw [e0.rc];done) | (refine absurd ?_ hc26;rw [e0.p.kl,e0.rc];done) | (refine absurd ?_ hc26;rw [e0.all Qp];done) | exact absurd (e0.all Qp) hc26 | (refine absurd ?_ hc26;rw [e0.get];done) | exact absurd (congrArg Prod.fst (e0.get _)) hc26 | exact absurd (decide_eq_decide.2 (by (rw [e0.get];done))) hc26 | exact absurd (congrArg Prod.snd (e0.get _)) hc26 | exact absurd rfl hc26
 refine VO.w (.mv rfl) (VO.w (.mv rfl) ?_)
 refine VO.w (.bneq rfl rfl Tryz.underlying4) ?_
 refine VO.z (.pF rfl rfl) (VO.k11 0 1 2 7 8 9 10 11 31 35 63 ?_)
 refine VC.cond rfl (fun hc27=>?_) (fun hc27=>?_)
 · first | (refine absurd ?_ hc27;rw [e0.rc];done) | (refine absurd ?_ hc27;rw [e0.p.kl,e0.rc];done) | (refine absurd ?_ hc27;rw [e0.all Qp];done) | exact absurd (e0.all Qp) hc27 | (refine absurd ?_ hc27;rw [e0.get];done) | exact absurd (congrArg Prod.fst (e0.get _)) hc27 | exact absurd (decide_eq_decide.2 (by (rw [e0.get];done))) hc27 | exact absurd (congrArg Prod.snd (e0.get _)) hc27 | exact absurd rfl hc27
 refine VC.skip (Jh (Qg ?_))
 refine VC.reg ?_
 refine VO.mv ?_
 refine VO.z (.add (c:=((k+1:Nat):Int)) rfl rfl Qp ⟨bd,bd⟩) ?_
 refine VO.as (VO.k11 0 1 2 7 8 9 10 11 31 35 63 ?_)
 exact Qg ⟨⟨k+1,m23,m25⟩,⟨by (dsimp only;omega),w23_0,w25_0⟩,by (dsimp only;omega),⟨esn,fun _ h=>Inv.sub h [117,112,0]⟩⟩
 · refine VC.exit (JU (JU (JT (Qg (VC.rs (VO.as (VO.k7 0 1 2 6 7 31 35 (VC.ret ?_))))))))
   refine XC 6 [112,117] fun hS_=>?_
   dsimp only [Qu]
   refine ⟨Zs [w_m],Zs [v_m],?_,?_,?_,?_⟩
   rotate_left
   · exact Qt.grp (ls:=[[w_m],[v_m]]) hS_
   · exact Ow.cgP (Ow.up h_w ((Qt.self hS_ (List.Sublist.cons_cons _ (List.Sublist.cons _ List.Sublist.slnil))).1 _ (.head _)))
   · exact Ow.cgP (Ow.up h_v ((Qt.self hS_ (List.Sublist.cons _ (List.Sublist.cons_cons _ List.Sublist.slnil))).1 _ (.head _)))
   all_goals (first | rfl | (rfl))
theorem tz125:tz Tryz.prog 125=some [.bool false,.pointer none,.slice none 0 0]:=by kernel_rfl
theorem Qlj (W:World) {br_:Bool} {l_:List Jv} {R_:QD} {gr_:Nat} {m0:Mem} (hm:mle (m0) (wm W)) {g0:Nat} (h0:Ow (.ptr JB) m0 [Vp g0] (g0,(true,(gr_,R_),l_,br_))) {v1:Value} {d1:List Qe} (h1:Rd (.sl QA) (Ju (wm W) (m0)) [v1] d1) (e0:okU l_) (e1:(Qi 1 (Qy l_) d1).1=0) (e2:d1.length≤1000000):Qc Tryz.prog 33 [Vp g0,v1] W (m0) (fun v m'=>∃ (s0:Nat),v= .tuple #[Vp s0,.int .i64 (0)]∧Ow (.ptr QQ) m' [Vp s0] (s0,(true,(g0,(true,(gr_,R_),l_,br_)),d1))):=by
 have hll:=Za e0
 obtain ⟨A1,c1,rfl,l1,k1⟩:=h1.slc
 refine Qc.ofB (n:=30) hm Tryz.func33 rfl rfl rfl ?_
 refine VC.rs (VO.as (VO.as (VO.k4 0 1 4 5 (VC.seq (VC.rs (VO.mv ?_))))))
 refine VO.z (.pnil rfl rfl Tryz.underlying72 rfl) ?_
 refine VO.mv (VO.w (.mv rfl) (VO.w (.nilp rfl) (VO.w (.fa rfl Xo rfl) ?_)))
 obtain ⟨q1_E,q1_A2,q1_c2,q1_n1,q1_n2,_,q1_S,q1_1,q1_2⟩:=Ja (x0:=true) (x1:=(gr_,R_)) (x2:=l_) (x3:=br_) h0
 dsimp only at q1_1
 refine VO.inv _ (fun _ h=>h.parts (i:=1) rfl q1_S [104,102,103]) ?_
 refine VO.w (.ld1 104 rfl tk4 rfl (Qa rfl rfl)) (VO.w (.not rfl) (VO.z (.pF rfl rfl) ?_))
 refine VO.clsP 105 [104,102,103] rfl (fun hg5=>(Jd _ _ _ _ hg5 q1_1 q1_2)) (fun mc5 ho5=>?_)
 refine VO.k5 0 1 4 5 15 ?_
 refine VC.condBN rfl (fun hc6=>?_) (fun hc6=>?_)
 first | exact hc6.elim | exact absurd rfl hc6 | exact absurd hc6 (by decide)
 refine VC.skip (Qg (VC.rs (VO.mv ?_)))
 refine VO.call 105 rfl Qij rfl rfl (fun W hW=>QeF W (hW.t 105) ho5 Qf) (fun v7 m7 hv7=>?_)
 try dsimp only at hv7
 obtain ⟨rfl,w7_0⟩:=hv7
 refine VO.mv ?_
 refine VO.callN 108 rfl Qgl rfl (fun W hW=>Xi W 1 (by simp only [inK];(first | exact bd | exact fun c_ hc_=>Qfx (Xq e1 c_ hc_))) (Qy l_) (by simp only [inK];(first | exact bd | exact fun c_ hc_=>Qfx (Xq e1 c_ hc_))) (Rd.mono h1 (hW.t 0))) (fun v8 m8 hv8=>?_)
 obtain ⟨s8_0,rfl,f8_0⟩:=hv8
 obtain ⟨rfl,q8_0_0,q8_0_1⟩:=Xg (x0:=(Qi 1 (Qy l_) d1).1) (x1:=(Qi 1 (Qy l_) d1).2) (f8_0.rd (Qb _))
 simp only [inK] at q8_0_0 q8_0_1
 refine VO.alloc 110 rfl QfC (fun g9=>?_)
 refine VO.store (k:=2) (c':=[.int .i64 ((Qi 1 (Qy l_) d1).1),.int .i64 ((Qi 1 (Qy l_) d1).2)]) 110 rfl rfl (.inl Qcr) rfl rfl rfl rfl rfl ?_
 refine VO.p3 110 105 0 (VO.k6 0 1 4 5 6 15 (VC.seq (VC.rs (VO.z (.ldA 110 rfl Qcr rfl (Qa rfl rfl)) ?_))))
 refine VO.z (.bst (cs:=[.int .i64 (0),.int .i64 (0)]) rfl QaO QfC rfl) ?_
 refine VO.z (.stneq (p:=((Qi 1 (Qy l_) d1).1)=0∧((Qi 1 (Qy l_) d1).2)=0) rfl rfl (QaX ((Qi 1 (Qy l_) d1).1) ((Qi 1 (Qy l_) d1).2)) (QaX 0 0) (by simp [ceq,Yd])) ?_
 refine VO.k7 0 1 4 5 6 15 22 ?_
 refine VC.cond rfl (fun hc11=>?_) (fun hc11=>?_)
 exact absurd e1 (QmP hc11)
 ·refine VC.skip (Qg (VC.rs (VO.mv (VO.mv ?_))))
  refine VO.callN 112 rfl Qpq rfl (fun W hW=>Qfy W (Rd.mono h1 (hW.t 0)) (by first | exact bd | exact fun c_ hc_=>Qfx (Xq e1 c_ hc_)) (by exact fun c_ hc_=>Qfx (Xq e1 c_ hc_))) (fun v12 m12 hv12=>?_)
  obtain ⟨s12_0,rfl,f12_0⟩:=hv12
  obtain ⟨A12_0,c12_0,eq12_0,l12_0,k12_0⟩:=f12_0.slc
  subst eq12_0
  refine VO.z (.bst (cs:=[.bool true,Vp g0,.slice A12_0 (d1.length) (c12_0)]) rfl Yw tz125 rfl) ?_
  refine VO.box (cs:=[.bool true,Vp g0,.slice A12_0 (d1.length) (c12_0)]) 114 rfl rfl rfl (fun g13=>?_)
  refine VO.as (VO.as (VO.k7 0 1 4 5 6 15 22 (VC.ret ?_)))
  refine QcA 4 5 [114,105,112] fun hS_=>?_
  dsimp only [Qu]
  have he0:((true,(g0,(true,(gr_,R_),l_,br_)),d1):Qjr)=(true,(g0,(true,(gr_,R_),l_,br_)),d1):=by first | rfl | (simp [*];done)
  refine ⟨g13,?_,?_⟩
  rotate_left
  ·rw [he0];exact (Q9 _ _ _ hS_ w7_0 f12_0)
  all_goals (first | rfl | (simp [*];done))
theorem Qlk (W:World) {br_:Bool} {l_:List Jv} {R_:QD} {gr_:Nat} {m0:Mem} (hm:mle (m0) (wm W)) {g0:Nat} (h0:Ow (.ptr JB) m0 [Vp g0] (g0,(true,(gr_,R_),l_,br_))) {v1:Value} {d1:List Qe} (h1:Rd (.sl QA) (Ju (wm W) (m0)) [v1] d1) (e0:okU l_) (e1:¬ (Qi 1 (Qy l_) d1).1=0):Qc Tryz.prog 33 [Vp g0,v1] W (m0) (fun v m'=>v= .tuple #[.pointer none,.int .i64 ((Qi 1 (Qy l_) d1).1)]∧Ow (.ptr JB) m' [Vp g0] (g0,(true,(gr_,R_),l_,br_))):=by
 have hll:=Za e0
 obtain ⟨A1,c1,rfl,l1,k1⟩:=h1.slc
 refine Qc.ofB (n:=30) hm Tryz.func33 rfl rfl rfl ?_
 refine VC.rs (VO.as (VO.as (VO.k4 0 1 4 5 (VC.seq (VC.rs (VO.mv ?_))))))
 refine VO.z (.pnil rfl rfl Tryz.underlying72 rfl) ?_
 refine VO.mv (VO.w (.mv rfl) (VO.w (.nilp rfl) (VO.w (.fa rfl Xo rfl) ?_)))
 obtain ⟨q1_E,q1_A2,q1_c2,q1_n1,q1_n2,_,q1_S,q1_1,q1_2⟩:=Ja (x0:=true) (x1:=(gr_,R_)) (x2:=l_) (x3:=br_) h0
 dsimp only at q1_1
 refine VO.inv _ (fun _ h=>h.parts (i:=1) rfl q1_S [104,102,103]) ?_
 refine VO.w (.ld1 104 rfl tk4 rfl (Qa rfl rfl)) (VO.w (.not rfl) (VO.z (.pF rfl rfl) ?_))
 refine VO.clsP 105 [104,102,103] rfl (fun hg5=>(Jd _ _ _ _ hg5 q1_1 q1_2)) (fun mc5 ho5=>?_)
 refine VO.k5 0 1 4 5 15 ?_
 refine VC.condBN rfl (fun hc6=>?_) (fun hc6=>?_)
 first | exact hc6.elim | exact absurd rfl hc6 | exact absurd hc6 (by decide)
 refine VC.skip (Qg (VC.rs (VO.mv ?_)))
 refine VO.call 105 rfl Qij rfl rfl (fun W hW=>QeF W (hW.t 105) ho5 Qf) (fun v7 m7 hv7=>?_)
 try dsimp only at hv7
 obtain ⟨rfl,w7_0⟩:=hv7
 refine VO.mv ?_
 refine VO.callN 108 rfl Qgl rfl (fun W hW=>Xi W 1 bdk (Qy l_) bdk (Rd.mono h1 (hW.t 0))) (fun v8 m8 hv8=>?_)
 obtain ⟨s8_0,rfl,f8_0⟩:=hv8
 obtain ⟨rfl,q8_0_0,q8_0_1⟩:=Xg (x0:=(Qi 1 (Qy l_) d1).1) (x1:=(Qi 1 (Qy l_) d1).2) (f8_0.rd (Qb _))
 simp only [inK] at q8_0_0 q8_0_1
 refine VO.alloc 110 rfl QfC (fun g9=>?_)
 refine VO.store (k:=2) (c':=[.int .i64 ((Qi 1 (Qy l_) d1).1),.int .i64 ((Qi 1 (Qy l_) d1).2)]) 110 rfl rfl (.inl Qcr) rfl rfl rfl rfl rfl ?_
 refine VO.p3 110 105 0 (VO.k6 0 1 4 5 6 15 (VC.seq (VC.rs (VO.z (.ldA 110 rfl Qcr rfl (Qa rfl rfl)) ?_))))
 refine VO.z (.bst (cs:=[.int .i64 (0),.int .i64 (0)]) rfl QaO QfC rfl) ?_
 refine VO.z (.stneq (p:=((Qi 1 (Qy l_) d1).1)=0∧((Qi 1 (Qy l_) d1).2)=0) rfl rfl (QaX ((Qi 1 (Qy l_) d1).1) ((Qi 1 (Qy l_) d1).2)) (QaX 0 0) (by simp [ceq,Yd])) ?_
 refine VO.k7 0 1 4 5 6 15 22 ?_
 refine VC.cond rfl (fun hc11=>?_) (fun hc11=>?_)
 ·refine VC.seq ?_
  refine VC.regD _ 3 [(0,true),(1,true),(2,true)] follows (by kernel_rfl) (fun _ h=>h.sub [110,105,0]) ?_
  refine VD.z rfl (.fa rfl QaO rfl) (VD.z rfl (.ld1 110 rfl Qp3 rfl (Qa rfl rfl)) (VD.z rfl (.as rfl) ?_))
  refine VD.nil rfl ?_ rfl
  refine VO.as (VO.k7 0 1 4 5 6 15 22 (Qg (VC.ret (QK ?_))))
  refine QcA 4 5 [105] fun hS_=>?_
  dsimp only [Qu]
  exact ⟨(by first | rfl | (simp [*];done)),(Ow.cgP (Ow.up w7_0 (hS_.1 _ (.head _))))⟩
 exact absurd (Decidable.not_not.1 hc11).1 e1
theorem fnOk27:JE Tryz.prog 27=true:=by kernel_rfl
theorem fnOk28:JE Tryz.prog 28=true:=by kernel_rfl
theorem fnOk29:JE Tryz.prog 29=true:=by kernel_rfl
theorem fnOk30:JE Tryz.prog 30=true:=by kernel_rfl
theorem fnOk31:JE Tryz.prog 31=true:=by kernel_rfl
theorem fnOk32:JE Tryz.prog 32=true:=by kernel_rfl
theorem Qpw:JE Tryz.prog 33=true:=by kernel_rfl
theorem Qpv:JE Tryz.prog 34=true:=by kernel_rfl
theorem fnOk35:JE Tryz.prog 35=true:=by kernel_rfl
theorem Qpu:JE Tryz.prog 36=true:=by kernel_rfl
theorem fnOk38:JE Tryz.prog 38=true:=by kernel_rfl
theorem fnOk39:JE Tryz.prog 39=true:=by kernel_rfl
theorem Qlo (W:World) {m0:Mem} (hm:mle (m0) (wm W)) {g0:Nat} {d0:QD} (h0:Ow (.ptr QH) m0 [Vp g0] (g0,d0)) (e0:d0=QiA):Qc Tryz.prog 29 [Vp g0] W (m0) (fun v m'=>∃ (s0:Nat),v= .tuple #[Vp s0,.int .i64 (0)]∧Ow (.ptr JB) m' [Vp s0] (s0,(true,(g0,QiA),([]:List Jv),false))):=by
 have hz1:d0.1=true:=(by rw [e0];rfl)
 have hz2:d0.2.2.2.1=true:=(by rw [e0];rfl)
 have hzo:okR d0:=(by rw [e0];exact QdG)
 have hzw:wD (Qk d0)+400000≤1000000000000:=(by rw [e0];decide)
 have hhl:=Ql7 (f:=2) hzo (by decide);have hrf:=QeV (Zr d0.2.1 (d0.2.2.1.map JY) 2)
 have hgo:=Qkx hz1 hz2
 refine Qc.ofB (n:=37) hm Tryz.func29 rfl rfl rfl ?_
 refine VC.rs (VO.as (VO.as (VO.k3 0 2 3 (VC.seq (VC.rs (VO.mv ?_))))))
 refine VO.z (.pnil rfl rfl Tryz.underlying70 rfl) ?_
 refine VO.mv (VO.w (.mv rfl) (VO.w (.nilp rfl) (VO.w (.fa rfl Zt rfl) ?_)))
 obtain ⟨q1_E,q1_A1,q1_c1,q1_A2,q1_c2,q1_A3,q1_c3,q1_A4,q1_c4,q1_A5,q1_c5,q1_n1,q1_n2,q1_n3,q1_n4,q1_n5,_,q1_S,q1_1,q1_2,q1_3,q1_4,q1_5,q1_8,q1_9⟩:=QB h0
 simp only [inK] at q1_8 q1_9
 refine VO.inv _ (fun _ h=>h.parts (i:=1) rfl q1_S [107,102,103,104,105,106]) ?_
 refine VO.w (.ld1 107 rfl tk4 rfl (Qa rfl rfl)) (VO.w (.not rfl) (VO.z (.pF rfl rfl) ?_))
 refine VO.clsP 108 [107,102,103,104,105,106] rfl (fun hg8=>(Ji d0 hg8 q1_1 q1_2 q1_3 q1_4 q1_5 bdk bdk)) (fun mc8 ho8=>?_)
 refine VO.k4 0 2 3 15 ?_
 refine VC.condBN rfl (fun hc9=>?_) (fun hc9=>?_)
 exact absurd (hz1.symm.trans hc9) (by decide)
 refine VC.skip (Qg (VC.seq (VC.rs (VO.mv (VO.z (.nilp rfl) (VO.z (.fa rfl Zt rfl) ?_))))))
 obtain ⟨q10_E,q10_A1,q10_c1,q10_A2,q10_c2,q10_A3,q10_c3,q10_A4,q10_c4,q10_A5,q10_c5,q10_n1,q10_n2,q10_n3,q10_n4,q10_n5,_,q10_S,q10_1,q10_2,q10_3,q10_4,q10_5,q10_8,q10_9⟩:=QB ho8
 simp only [inK] at q10_8 q10_9
 refine VO.inv _ (fun _ h=>h.parts (i:=108) rfl q10_S [116,111,112,113,114,115]) ?_
 refine VO.z (.ld1 116 rfl tk4 rfl (Qa rfl rfl)) (VO.z (.not rfl) ?_)
 refine VO.clsP 117 [116,111,112,113,114,115] rfl (fun hg17=>(Ji d0 hg17 q10_1 q10_2 q10_3 q10_4 q10_5 bdk bdk)) (fun mc17 ho17=>?_)
 refine VO.p2 117 0 (VO.k5 0 2 3 15 20 ?_)
 refine VC.condBN rfl (fun hc18=>?_) (fun hc18=>?_)
 exact absurd (hz2.symm.trans hc18) (by decide)
 refine VC.skip (Qg (VC.rs (VO.mv ?_)))
 refine VO.call 117 rfl QmU rfl rfl (fun W hW=>Qe1 W (hW.t 117) ho17 2 bdk Qf bd (by first | assumption | exact ⟨by omega,by omega⟩)) (fun v19 m19 hv19=>?_)
 obtain ⟨s19_0,p19_0,p19_1,rfl,hS19,f19_0,w19_0⟩:=hv19
 refine VO.inv _ (fun _ h=>h.parts (i:=117) rfl hS19 [120,121]) ?_
 obtain ⟨A19_0,c19_0,eq19_0,l19_0,k19_0⟩:=f19_0.slc
 subst eq19_0
 refine VO.callN 123 rfl fnOk60 rfl (fun W hW=>QnP W (Ow.rd f19_0 (hW.t 120)) bd) (fun v23 m23 hv23=>?_)
 obtain ⟨s23_0,rfl,f23_0⟩:=hv23
 obtain ⟨A23_0,c23_0,eq23_0,l23_0,k23_0⟩:=f23_0.slc
 subst eq23_0
 refine VO.mv (VO.z (.ext rfl rfl) (VO.z (.ext rfl rfl) (VO.as (VO.as (VO.k7 0 2 3 4 5 15 20 (VC.rs (VO.mv (VO.mv ?_))))))))
 refine VO.call 121 rfl fnOk62 rfl rfl (fun W hW=>QnL W (hW.t 121) w19_0 2 bdk ((Qea (Zr d0.2.1 (d0.2.2.1.map JY) 2)).2) bdk Qf bd (by exact xon1 hz1 hz2) (by first | assumption | decide) bd) (fun v25 m25 hv25=>?_)
 obtain ⟨rfl,w25_0⟩:=hv25
 refine VO.as (VO.k8 0 2 3 4 5 6 15 20 (VC.seq (VC.rs (VO.mv (VO.z (.neq rfl rfl) (VO.p3 121 123 0 (VO.k9 0 2 3 4 5 6 15 20 31 ?_)))))))
 refine VC.cond rfl (fun hc29=>?_) (fun hc29=>?_)
 rw [← hgo.1,e0,QbV,ru0] at hc29;exact absurd rfl hc29
 ·refine VC.skip (Qg (VC.rs (VO.mv (VO.mv ?_))))
  refine VO.z (.bst (cs:=[.bool true,Vp g0,.slice A23_0 (((Qea (Zr d0.2.1 (d0.2.2.1.map JY) 2)).1).length) (c23_0),.bool false]) rfl Xo tz122 rfl) ?_
  refine VO.box (cs:=[.bool true,Vp g0,.slice A23_0 (((Qea (Zr d0.2.1 (d0.2.2.1.map JY) 2)).1).length) (c23_0),.bool false]) 131 rfl rfl rfl (fun g30=>?_)
  refine VO.as (VO.as (VO.k9 0 2 3 4 5 6 15 20 31 (VC.ret ?_)))
  refine QcA 2 3 [131,121,123] fun hS_=>?_
  dsimp only [Qu]
  have he0:((true,(g0,QiA),([]:List Jv),false):Qag)=(true,(g0,toR (QbI (Qk d0) 2 ((Qea (Zr d0.2.1 (d0.2.2.1.map JY) 2)).2)).1 d0.2.2.2.2.2.1),(Qea (Zr d0.2.1 (d0.2.2.1.map JY) 2)).1,false):=by first | rfl | (first | (rw [← hgo.1,← hgo.2,e0,QbV,ru0,ru0l];rfl) | (rw [← hgo.1,e0,QbV,ru0];rfl) | (rw [← hgo.2,e0,QbV,ru0l];done))
  refine ⟨g30,?_,?_⟩
  rotate_left
  ·rw [he0];exact (Jd _ _ _ _ hS_ w25_0 f23_0)
  all_goals (first | rfl | (simp [*];done))
theorem Ql {P:Prop} (h:P:=by first | exact bd | (have h_:=hsm.1 _ (List.mem_of_getElem? ‹d1[_]? =some _›);omega)):P:=h
theorem ZZ {k:IntKind} {x:Int} (h:inK k x:=by simp only [inK];exact Ql):inK k x:=h
set_option maxHeartbeats 8000000 in
theorem QfE (W:World) {v0:Value} {d0:List Qe} (h0:Rd (.sl QA) (wm W) [v0] d0) {v1:Value} {d1:List Qa9} (h1:Rd (.sl Qa6) (wm W) [v1] d1) {v2:Value} {d2:List (List UInt8)} (h2:Rd (.sl .str) (wm W) [v2] d2) (d3:Int) (h3:inK .i64 d3):Qc Tryz.prog 7 [v0,v1,v2,.int .i64 d3] W (mnil) (fun v m'=>v= .bool true):=by
 obtain ⟨A0,c0,rfl,l0,k0⟩:=h0.slc
 obtain ⟨A1,c1,rfl,l1,k1⟩:=h1.slc
 obtain ⟨A2,c2,rfl,l2,k2⟩:=h2.slc
 have h3':=h3;simp only [inK] at h3'
 refine Qc.ofA (n:=138) Tryz.func7 rfl rfl rfl ?_
 refine VC.rs (VO.as (VO.k5 0 1 2 3 8 (VC.seq (VC.rs ?_))))
 refine VO.callN 101 rfl fnOk8 rfl (fun W hW=>Qk0 W) (fun v1 m1 hv1=>?_)
 subst hv1
 refine VO.z (.not rfl) (VO.k6 0 1 2 3 8 21 (VC.condF rfl (VC.skip (Qg (VC.seq (VC.rs (VO.mv (VO.mv ?_))))))))
 refine VO.callN 102 rfl fnOk27 rfl (fun W hW=>QkG W (Rd.mono h1 (hW.t 0)) (Rd.mono h0 (hW.t 0))) (fun v2 m2 hv2=>?_)
 subst hv2
 refine VO.z (.notD rfl) (VO.mv ?_)
 refine VO.dec (t:=26) rfl (fun hc3=>?_) (fun hc3=>?_)
 refine VO.gN (VO.gN (VO.gN (VO.z (.pT rfl rfl) (VO.p1 0 (VO.k7 0 1 2 3 8 21 30 (VC.condT rfl (VC.rs (VO.as (VO.k7 0 1 2 3 8 21 30 (VC.ret (QK ?_)))))))))))
 exact Yu 8 rfl (by first | rfl | (first | rfl | exact congrArg Value.bool (decide_eq_true (by rw [hp.p.fr]))))
 refine VO.w (.mv rfl) (VO.w (.lenS rfl QkA) (VO.w (.gtr rfl rfl) (VO.z (.pF rfl rfl) (VO.p1 0 (VO.k7 0 1 2 3 8 21 30 ?_)))))
 refine VC.cond rfl (fun hc4=>?_) (fun hc4=>?_)
 refine VC.rs (VO.as (VO.k7 0 1 2 3 8 21 30 (VC.ret (QK ?_))))
 exact Yu 8 rfl (by first | rfl | (first | rfl | exact congrArg Value.bool (decide_eq_true (by rw [hp.p.fr]))))
 refine VC.skip (Qg (VC.rs ?_))
 refine VO.callN 105 rfl Qpy rfl (fun W hW=>Qnp W) (fun v5 m5 hv5=>?_)
 obtain ⟨s5_0,rfl,f5_0⟩:=hv5
 refine VO.callN 108 rfl fnOk28 rfl (fun W hW=>Qqq W) (fun v8 m8 hv8=>?_)
 obtain ⟨s8_0,rfl,f8_0⟩:=hv8
 have hfa9:=(show okR QiA from QdG)
 refine VO.as (VO.as (VO.k9 0 1 2 3 8 9 10 21 30 (VC.rs (VO.mv ?_))))
 refine VO.call 105 rfl Qpx rfl rfl (fun W hW=>Qhx W (hW.t 105) f5_0 (by first | assumption | rfl)) (fun v11 m11 hv11=>?_)
 obtain ⟨s11_0,rfl,f11_0⟩:=hv11
 refine VO.mv (VO.z (.ext rfl rfl) (VO.z (.ext rfl rfl) (VO.as (VO.as (VO.k11 0 1 2 3 8 9 10 11 12 21 30 (VC.rs (VO.mv ?_)))))))
 refine VO.call 108 rfl fnOk29 rfl rfl (fun W hW=>Qlo W (hW.t 108) f8_0 (by first | assumption | rfl)) (fun v12 m12 hv12=>?_)
 obtain ⟨s12_0,rfl,f12_0⟩:=hv12
 refine VO.mv (VO.z (.ext rfl rfl) (VO.z (.ext rfl rfl) (VO.as (VO.as (VO.p3 108 105 0 (VO.nil (VC.seq (VC.rs (VO.mv (VO.mv (VO.z (.neq rfl rfl) ?_)))))))))))
 refine VO.mv ?_
 refine VO.dec (t:=46) rfl (fun hc13=>?_) (fun hc13=>?_)
 · first | exact absurd rfl hc13 | exact hc13 Iff.rfl | (simp at hc13;done) | exact absurd ‹(Qi 1 _ d0).1=0› hc13 | exact absurd hc13 ‹¬ (Qi 1 _ d0).1=0› | exact absurd Qc6.fuse.1 hc13 | exact absurd hfol hc13 | exact hc13.elim | (exfalso;omega) | exact absurd (hp.alln Qp) hc13 | (refine absurd ?_ hc13;rw [hp.p.fr];done)
 refine VO.w (.mv rfl) (VO.w (.mv rfl) ?_)
 obtain ⟨q15_E,q15_A2,q15_c2,q15_n0,q15_n2,_,q15_S,q15_0,q15_2⟩:=JM (x0:=(s5_0,Qe9)) (x1:=false) (x2:=([]:List Jv)) f11_0
 dsimp only at q15_0
 refine VO.inv _ (fun _ h=>h.parts (i:=105) rfl q15_S [118,116,117]) ?_
 refine VO.gcall 116 rfl ⟨_,rfl,rfl⟩ fnOk30 rfl rfl (fun W hW=>QoN W (hW.t 116) q15_0 d3 ZZ Qf) (fun v14 m14 hv14=>?_)
 obtain ⟨rfl,w14_0⟩:=hv14
 refine VO.w (.mv rfl) (VO.w (.mv rfl) ?_)
 obtain ⟨q22_E,q22_A2,q22_c2,q22_n1,q22_n2,_,q22_S,q22_1,q22_2⟩:=Ja (x0:=true) (x1:=(s8_0,QiA)) (x2:=([]:List Jv)) (x3:=false) f12_0
 dsimp only at q22_1
 refine VO.inv _ (fun _ h=>h.parts (i:=108) rfl q22_S [125,123,124]) ?_
 refine VO.gcall 123 rfl ⟨_,rfl,rfl⟩ fnOk31 rfl rfl (fun W hW=>Qoj W (hW.t 123) q22_1 d3 ZZ Qf) (fun v21 m21 hv21=>?_)
 obtain ⟨rfl,w21_0⟩:=hv21
 refine VO.w (.neq rfl rfl) (VO.z (.pF rfl rfl) ?_)
 refine VO.clsP 128 [125,123,124] rfl (fun hg28=>(Jd _ _ _ _ hg28 w21_0 q22_2)) (fun mc28 ho28=>?_)
 refine VO.clsP 129 [118,116,117] rfl (fun hg29=>(J1 _ _ _ hg29 w14_0 q15_2)) (fun mc29 ho29=>?_)
 refine VO.nil ?_
 refine VC.cond rfl (fun hc30=>?_) (fun hc30=>?_)
 · first | exact absurd rfl hc30 | exact hc30 Iff.rfl | (simp at hc30;done) | exact absurd ‹(Qi 1 _ d0).1=0› hc30 | exact absurd hc30 ‹¬ (Qi 1 _ d0).1=0› | exact absurd Qc6.fuse.1 hc30 | exact absurd hfol hc30 | exact hc30.elim | (exfalso;omega) | exact absurd (hp.alln Qp) hc30 | (refine absurd ?_ hc30;rw [hp.p.fr];done)
 refine VC.skip (Qg (VC.rs ?_))
 have hsm:=Decidable.not_not.1 ‹¬ ¬ QdR d1 d0›
 have hsm2:=hsm.2.2
 have hcs:∀ c∈d0,c.2.2.length≤3518437208800:=fun y_ hy_=>Nat.le_trans (hsm.2.1 y_ hy_) (by decide)
 have hkU:okU ([]:List Jv):=QaS
 refine VO.mv ?_
 refine VO.callN 131 rfl fnOk32 rfl (fun W hW=>QfP W (Rd.mono h0 (hW.t 0)) Ql Qf) (fun v31 m31 hv31=>?_)
 obtain ⟨s31_0,rfl,f31_0⟩:=hv31
 have hfa32:=Qg6 d0
 obtain ⟨A31_0,c31_0,eq31_0,l31_0,k31_0⟩:=f31_0.slc
 subst eq31_0
 refine VO.as (VO.nil (VC.rs (VO.mv (VO.mv (VO.mv (VO.z (.lenS rfl JS) ?_))))))
 refine VO.z (.slHI d0.length rfl rfl JS rfl Ql) ?_
 by_cases hsp34:(Qi 1 (Qy ([]:List Jv)) d0).1=0
 refine VO.call 129 rfl Qm2 rfl rfl (fun W hW=>QhK W (hW.t 129) ho29 (QmE (Ow.rd (f31_0.pre (j:=d0.length) Ql) (hW.o 129 131))) Qf Qf Ql) (fun v35 m35 hv35=>?_)
 try dsimp only at hv35
 obtain ⟨s35_0,gt2_35,rfl,f35_0⟩:=hv35
 refine VO.mv (VO.z (.ext rfl rfl) (VO.z (.ext rfl rfl) (VO.as (VO.as (VO.p4 129 131 128 0 (VO.nil (VC.rs (VO.mv (VO.mv ?_)))))))))
 by_cases hsp36:(Qi 1 (Qy ([]:List Jv)) d0).1=0
 refine VO.call 128 rfl Qpw rfl rfl (fun W hW=>Qlj W (hW.t 128) ho28 (Rd.mono h0 (hW.o 128 0)) Qf Qf Ql) (fun v37 m37 hv37=>?_)
 try dsimp only at hv37
 obtain ⟨s37_0,rfl,f37_0⟩:=hv37
 refine VO.mv (VO.z (.ext rfl rfl) (VO.z (.ext rfl rfl) (VO.as (VO.as (VO.nil (VC.seq (VC.rs (VO.mv (VO.mv (VO.z (.neq rfl rfl) (VO.mv ?_)))))))))))
 refine VO.known (t:=75) false rfl (decide_eq_false hc13) ?_
 refine VO.w (.mv rfl) ?_
 refine VO.w (.pnil rfl rfl Tryz.underlying23 rfl) ?_
 refine VO.w (.mv rfl) ?_
 refine VO.w (.pnil rfl rfl Tryz.underlying76 rfl) ?_
 refine VO.w (.bneq rfl rfl Tryz.underlying4) ?_
 refine VO.z (.pF rfl rfl) (VO.mv ?_)
 refine VO.dec (t:=82) rfl (fun hc38=>?_) (fun hc38=>?_)
 · first | exact absurd rfl hc38 | exact hc38 Iff.rfl | (simp at hc38;done) | exact absurd ‹(Qi 1 _ d0).1=0› hc38 | exact absurd hc38 ‹¬ (Qi 1 _ d0).1=0› | exact absurd Qc6.fuse.1 hc38 | exact absurd hfol hc38 | exact hc38.elim | (exfalso;omega) | exact absurd (hp.alln Qp) hc38 | (refine absurd ?_ hc38;rw [hp.p.fr];done)
 refine VO.w (.mv rfl) (VO.w (.mv rfl) ?_)
 refine VO.gcallN 139 rfl ⟨_,rfl,rfl⟩ Qpv rfl (fun W hW=>QcG W (Ow.rd f31_0 (hW.t 131)) (Rd.mono h0 (hW.t 0)) (by rfl) Ql Qf) (fun v39 m39 hv39=>?_)
 subst hv39
 refine VO.w (.not rfl) (VO.z (.pF rfl rfl) (VO.nil (VC.condF rfl (VC.skip (Qg (VC.seq (VC.rs (VO.mv ?_))))))))
 refine VO.z (.pnil rfl rfl Tryz.underlying76 rfl) ?_
 refine VO.p4 128 129 131 0 (VO.nil (VC.condF rfl (VC.skip (Qg (VC.seq (VC.rs (VO.as (VO.nil (VC.block ?_)))))))))
 refine VC.loop (G:=Nat × Nat × QI × Qx × Bool × (List Jv) × (List Qe) × Mem × QD × (List Jv) × Bool × (List Qe) × Mem) (fun g=>[(18,.int .i64 ((((g.1):Nat):Int))),(0,.slice A0 (d0.length) (c0)),(1,.slice A1 (d1.length) (c1)),(2,.slice A2 (d2.length) (c2)),(3,.int .i64 (d3)),(9,Vp s5_0),(10,Vp s8_0),(11,Vp s11_0),(12,.int .i64 (0)),(13,Vp s12_0),(14,.int .i64 (0)),(15,.slice A31_0 ((d0.map X4++XY).length) (c31_0)),(16,Vp s35_0),(17,Vp s37_0),(21,.bool false),(30,.bool (decide (20 < ((d2.length:Nat):Int)))),(54,.bool (decide (¬ ((Zi Qe9 d3).2)=((Zi (Qk QiA) d3).2)))),(87,.bool false),(89,.bool false)]) (fun g=>[(128,(g.2.2.2.2.2.2.2.2.2.2.2.2)),(129,(g.2.2.2.2.2.2.2.1)),(131,m31),(0,wm W)]) (fun g=>((g.1)≤d1.length)∧(PS (200000+200000*(g.1)) (d0.length+(g.1)) (g.2.2.2.1) (g.2.2.2.2.1) (g.2.2.2.2.2.1) (g.2.2.2.2.2.2.1) (g.2.2.2.2.2.2.2.2.1) (g.2.2.2.2.2.2.2.2.2.1) (g.2.2.2.2.2.2.2.2.2.2.1) (g.2.2.2.2.2.2.2.2.2.2.2.1))∧((g.2.2.1)=sT (g.2.2.2.2.2.2.1))∧(Ow (.ptr Qs) (g.2.2.2.2.2.2.2.1) [Vp s35_0] (s35_0,(((g.2.1),(g.2.2.1)),(s11_0,((s5_0,(g.2.2.2.1)),(g.2.2.2.2.1),(g.2.2.2.2.2.1))),(g.2.2.2.2.2.2.1))))∧(Ow (.ptr QQ) (g.2.2.2.2.2.2.2.2.2.2.2.2) [Vp s37_0] (s37_0,(true,(s12_0,(true,(s8_0,(g.2.2.2.2.2.2.2.2.1)),(g.2.2.2.2.2.2.2.2.2.1),(g.2.2.2.2.2.2.2.2.2.2.1))),(g.2.2.2.2.2.2.2.2.2.2.2.1))))) (fun g=>d1.length - (g.1)) (0,gt2_35,(sT d0),((Zi Qe9 d3).1),false,([]:List Jv),d0,m35,(toR (Zi (Qk QiA) d3).1 QiA.2.2.2.2.2.1),([]:List Jv),false,d0,m37) (⟨by (dsimp only;omega),by exact (ps_new Qf).2,by rfl,f35_0,f37_0⟩) ⟨esn,fun _ h=>h.sub [128,129,131,0]⟩ ?_
 rintro ⟨i,w_0g,w_0,w_1_0,w_1_1,w_1_2,w_2,w_m,v_1_1,v_1_2,v_1_3,v_2,v_m⟩ ⟨hi,hp,hT,h_w,h_v⟩
 replace hi:i≤d1.length:=hi
 replace hp:PS (200000+200000*i) (d0.length+i) w_1_0 w_1_1 w_1_2 w_2 v_1_1 v_1_2 v_1_3 v_2:=hp
 replace hT:w_0=sT w_2:=hT
 replace h_w:Ow (.ptr Qs) w_m [Vp s35_0] (s35_0,((w_0g,w_0),(s11_0,((s5_0,w_1_0),w_1_1,w_1_2)),w_2)):=h_w
 replace h_v:Ow (.ptr QQ) v_m [Vp s37_0] (s37_0,(true,(s12_0,(true,(s8_0,v_1_1),v_1_2,v_1_3)),v_2)):=h_v
 show VC _ _ _ _ _ [(18,.int .i64 (((i:Nat):Int))),(0,.slice A0 (d0.length) (c0)),(1,.slice A1 (d1.length) (c1)),(2,.slice A2 (d2.length) (c2)),(3,.int .i64 (d3)),(9,Vp s5_0),(10,Vp s8_0),(11,Vp s11_0),(12,.int .i64 (0)),(13,Vp s12_0),(14,.int .i64 (0)),(15,.slice A31_0 ((d0.map X4++XY).length) (c31_0)),(16,Vp s35_0),(17,Vp s37_0),(21,.bool false),(30,.bool (decide (20 < ((d2.length:Nat):Int)))),(54,.bool (decide (¬ ((Zi Qe9 d3).2)=((Zi (Qk QiA) d3).2)))),(87,.bool false),(89,.bool false)] [(128,v_m),(129,w_m),(131,m31),(0,wm W)]
 have hcr:v_2.length=w_2.length:=(by rw [hp.rc])
 have hpl:=hp.p.okl;have hpk:=hp.p.okk;have hss:=hp.s;have hsc:=hp.oks;have hrl:=hp.rl;have hlr:=hp.ll;have hul:=Za hpl;have huk:=Za hpk;have hvl:=hp.len
 refine VC.seq (VC.rs (VO.mv (VO.mv (VO.z (.lenS rfl Qlx) (VO.z (.lss rfl rfl) (VO.nil ?_))))))
 refine VC.cond rfl (fun hc40=>?_) (fun hc40=>?_)
 · refine VC.skip (Qg (VC.seq (VC.block (VC.rs (VO.mv (VO.mv (VO.mv (VO.mv ?_))))))))
   obtain ⟨x41,hx41⟩:∃ z_,(d1)[i]? =some z_:=⟨_,List.getElem?_eq_getElem Ql⟩
   obtain ⟨gg41,oo41,ec41,ea41,hce41,hre41⟩:=h1.elem hx41
   cases ea41
   obtain ⟨q41_A4,q41_c4,rfl,q41_0,q41_1,q41_2,q41_3,q41_4⟩:=X1 (x0:=x41.1) (x1:=x41.2.1) (x2:=x41.2.2.1) (x3:=x41.2.2.2.1) (x4:=x41.2.2.2.2) hre41
   simp only [inK] at q41_0 q41_1 q41_2 q41_3
   refine VO.z (.ixI i rfl rfl Qlx rfl Ql) ?_
   refine VO.z (.ldA 0 rfl tk82 rfl hce41) ?_
   refine VO.gather (l:=[w_m,v_m]) 143 [129,128] rfl (fun hg42=>?_)
   refine VO.call 143 rfl fnOk35 rfl rfl (fun W hW=>Qnt W (hW.t 143) hg42 h_w h_v (Rd.mono hre41 (hW.o 143 0)) (by first | assumption) (by first | assumption | rfl) Ql Ql Ql) (fun v42 m42 hv42=>?_)
   try dsimp only at hv42
   obtain ⟨gt2_42,D2_42,br2_42,l2_42,r2_42,R2_42,k2_42,bx2_42,c2_42,p42_0,p42_1,rfl,hS42,w42_0,w42_1,xf42_0⟩:=hv42
   refine VO.inv _ (fun _ h=>h.parts (i:=143) rfl hS42 [144,145]) ?_
   refine VO.z (.not rfl) (VO.mv (VO.w (.mv rfl) (VO.w (.mv rfl) (VO.w (.mv rfl) ?_))))
   refine VO.gather (l:=[p42_0,p42_1]) 147 [144,145] rfl (fun hg46=>?_)
   refine VO.gcall 147 rfl ⟨_,rfl,rfl⟩ Qpu rfl rfl (fun W hW=>QhH W (hW.t 147) hg46 w42_0 w42_1 (Rd.mono h2 (hW.o 147 0)) (by first | assumption) (by first | assumption | rfl) Ql Ql) (fun v46 m46 hv46=>?_)
   try dsimp only at hv46
   obtain ⟨p46_0,p46_1,rfl,hS46,w46_0,w46_1⟩:=hv46
   refine VO.inv _ (fun _ h=>h.parts (i:=147) rfl hS46 [148,149]) ?_
   refine VO.w (.not rfl) (VO.z (.pF rfl rfl) (VO.p4 148 149 131 0 (VO.nil (VC.condF rfl (VC.skip (Jh (Qg ?_)))))))
   refine VC.reg ?_
   refine VO.mv ?_
   refine VO.z (.add (c:=((i+1:Nat):Int)) rfl rfl Qp ⟨by exact Ql,by exact Ql⟩) ?_
   refine VO.as (VO.nil ?_)
   exact Qg ⟨⟨i+1,gt2_42,(sT r2_42),D2_42,br2_42,l2_42,r2_42,p46_0,R2_42,k2_42,bx2_42,c2_42,p46_1⟩,⟨by (dsimp only;omega),by exact PS.up Qf Qp Qp,by rfl,w46_0,w46_1⟩,by (dsimp only;omega),⟨esn,fun _ h=>Inv.sub (Inv.num (Inv.num h 148 129 rfl) 149 128 rfl) [128,129,131,0]⟩⟩
 refine VC.exit (JU (JU (JT (Qg (VC.rs (VO.mv (VO.mv ?_)))))))
 refine VO.call 128 rfl QmV rfl rfl (fun W hW=>QiF W (hW.t 128) h_v Qf Qf Ql) (fun v50 m50 hv50=>?_)
 try dsimp only at hv50
 obtain ⟨s50_0,p50_0,p50_1,rfl,hS50,f50_0,w50_0⟩:=hv50
 refine VO.inv _ (fun _ h=>h.parts (i:=128) rfl hS50 [151,152]) ?_
 obtain ⟨A50_0,c50_0,eq50_0,l50_0,k50_0⟩:=f50_0.slc
 subst eq50_0
 refine VO.z (.lenS rfl QX) ?_
 refine VO.z (.add (c:=((((Qcq v_1_2 v_2).length)+1:Nat):Int)) rfl rfl Qp ⟨by exact Ql,by exact Ql⟩) ?_
 refine VO.callN 154 rfl Qgp rfl (fun W hW=>QdE W d3 ZZ ((((Qcq v_1_2 v_2).length)+1:Nat):Int) ZZ Ql) (fun v54 m54 hv54=>?_)
 subst hv54
 have hfa55:=QaE d3 ((((Qcq v_1_2 v_2).length)+1:Nat):Int) Qp
 refine VO.as (VO.p4 152 129 131 0 (VO.nil (VC.rs (VO.mv (VO.mv ?_)))))
 refine VO.call 129 rfl QmY rfl rfl (fun W hW=>Qhm W (hW.t 129) h_w (JZ d3 ((((Qcq v_1_2 v_2).length)+1:Nat):Int)) ZZ (by first | assumption | rfl) Qf Qf Ql Ql) (fun v56 m56 hv56=>?_)
 try dsimp only at hv56
 obtain ⟨s56_0,p56_0,p56_1,rfl,hS56,f56_0,w56_0⟩:=hv56
 refine VO.inv _ (fun _ h=>h.parts (i:=129) rfl hS56 [157,158]) ?_
 obtain ⟨A56_0,c56_0,eq56_0,l56_0,k56_0⟩:=f56_0.slc
 subst eq56_0
 refine VO.mv ?_
 refine VO.call 152 rfl QmV rfl rfl (fun W hW=>QiF W (hW.t 152) w50_0 Qf Qf Ql) (fun v61 m61 hv61=>?_)
 try dsimp only at hv61
 obtain ⟨s61_0,p61_0,p61_1,rfl,hS61,f61_0,w61_0⟩:=hv61
 refine VO.inv _ (fun _ h=>h.parts (i:=152) rfl hS61 [162,163]) ?_
 obtain ⟨A61_0,c61_0,eq61_0,l61_0,k61_0⟩:=f61_0.slc
 subst eq61_0
 refine VO.mv ?_
 refine VO.z (.slHI ((JZ d3 ((((Qcq v_1_2 v_2).length)+1:Nat):Int)).toNat) rfl rfl QX Ql Ql) ?_
 refine VO.callN 166 rfl Qik rfl (fun W hW=>Qa8 W (Ow.rd f56_0 (hW.t 157)) (Qz.rd ((Ow.ownl f61_0 rfl mnil).pre (j:=((JZ d3 ((((Qcq v_1_2 v_2).length)+1:Nat):Int)).toNat)) Ql) (hW.t 162) (JW _))) (fun v66 m66 hv66=>?_)
 subst hv66
 refine VO.mv ?_
 refine VO.dec (t:=125) rfl (fun hc67=>?_) (fun hc67=>?_)
 refine VO.w (.mv rfl) (VO.w (.mv rfl) (VO.w (.mv rfl) ?_))
 refine VO.gather (l:=[p56_1,p61_1]) 169 [158,163] rfl (fun hg68=>?_)
 refine VO.gcall 169 rfl ⟨_,rfl,rfl⟩ Qpu rfl rfl (fun W hW=>QhH W (hW.t 169) hg68 w56_0 w61_0 (Rd.mono h2 (hW.o 169 0)) (by first | assumption) (by first | assumption | rfl) Ql Ql) (fun v68 m68 hv68=>?_)
 try dsimp only at hv68
 obtain ⟨p68_0,p68_1,rfl,hS68,w68_0,w68_1⟩:=hv68
 refine VO.inv _ (fun _ h=>h.parts (i:=169) rfl hS68 [170,171]) ?_
 refine VO.z (.pT rfl rfl) (VO.mv (VO.w (.mv rfl) ?_))
 obtain ⟨q73_E,q73_A2,q73_c2,q73_n0,q73_n1,q73_n2,_,q73_S,q73_0,q73_1,q73_2⟩:=Jl (x0:=(w_0g,w_0)) (x1:=(s11_0,((s5_0,w_1_0),w_1_1,w_1_2))) (x2:=w_2) w68_0
 dsimp only at q73_0
 dsimp only at q73_1
 refine VO.inv _ (fun _ h=>h.parts (i:=170) rfl q73_S [177,174,175,176]) ?_
 obtain ⟨q78_E,q78_A2,q78_c2,q78_n0,q78_n2,_,q78_S,q78_0,q78_2⟩:=JM (x0:=(s5_0,w_1_0)) (x1:=w_1_1) (x2:=w_1_2) q73_1
 dsimp only at q78_0
 refine VO.inv _ (fun _ h=>h.parts (i:=175) rfl q78_S [181,179,180]) ?_
 refine VO.gcall 179 rfl ⟨_,rfl,rfl⟩ fnOk38 rfl rfl (fun W hW=>Qno W (hW.t 179) q78_0) (fun v72 m72 hv72=>?_)
 obtain ⟨rfl,w72_0⟩:=hv72
 refine VO.w (.mv rfl) ?_
 obtain ⟨q83_E,q83_A2,q83_c2,q83_n1,q83_n2,_,q83_S,q83_1,q83_2⟩:=QZ (x0:=true) (x1:=(s12_0,(true,(s8_0,v_1_1),v_1_2,v_1_3))) (x2:=v_2) w68_1
 dsimp only at q83_1
 refine VO.inv _ (fun _ h=>h.parts (i:=171) rfl q83_S [186,184,185]) ?_
 obtain ⟨q87_E,q87_A2,q87_c2,q87_n1,q87_n2,_,q87_S,q87_1,q87_2⟩:=Ja (x0:=true) (x1:=(s8_0,v_1_1)) (x2:=v_1_2) (x3:=v_1_3) q83_1
 dsimp only at q87_1
 refine VO.inv _ (fun _ h=>h.parts (i:=184) rfl q87_S [190,188,189]) ?_
 refine VO.gcall 188 rfl ⟨_,rfl,rfl⟩ fnOk39 rfl rfl (fun W hW=>Qmf W (hW.t 188) q87_1) (fun v82 m82 hv82=>?_)
 obtain ⟨rfl,w82_0⟩:=hv82
 refine VO.w (.eql rfl rfl) (VO.z (.pT rfl rfl) (VO.as ?_))
 refine VO.clsP 191 [190,188,189] rfl (fun hg91=>(Jd _ _ _ _ hg91 w82_0 q87_2)) (fun mc91 ho91=>?_)
 refine VO.clsP 192 [186,191,185] rfl (fun hg92=>(Q9 _ _ _ hg92 ho91 q83_2)) (fun mc92 ho92=>?_)
 refine VO.clsP 193 [181,179,180] rfl (fun hg93=>(J1 _ _ _ hg93 w72_0 q78_2)) (fun mc93 ho93=>?_)
 refine VO.clsP 194 [177,174,193,176] rfl (fun hg94=>(Qd _ _ _ hg94 q73_0 ho93 q73_2)) (fun mc94 ho94=>?_)
 refine VO.nil (VC.ret ?_)
 exact Yu 8 rfl (by first | rfl | (first | rfl | exact congrArg Value.bool (decide_eq_true (by rw [hp.p.fr]))))
 · first | exact absurd rfl hc67 | exact hc67 Iff.rfl | (simp at hc67;done) | exact absurd ‹(Qi 1 _ d0).1=0› hc67 | exact absurd hc67 ‹¬ (Qi 1 _ d0).1=0› | exact absurd Qc6.fuse.1 hc67 | exact absurd hfol hc67 | exact hc67.elim | (exfalso;omega) | exact absurd (hp.alln Qp) hc67 | (refine absurd ?_ hc67;rw [hp.p.fr];done)
 · first | exact absurd rfl hsp36 | exact hsp36 Iff.rfl | (simp at hsp36;done) | exact absurd ‹(Qi 1 _ d0).1=0› hsp36 | exact absurd hsp36 ‹¬ (Qi 1 _ d0).1=0› | exact absurd Qc6.fuse.1 hsp36 | exact absurd hfol hsp36 | exact hsp36.elim | (exfalso;omega) | exact absurd (hp.alln Qp) hsp36 | (refine absurd ?_ hsp36;rw [hp.p.fr];done)
 refine VO.call 129 rfl Qm2 rfl rfl (fun W hW=>QlY W (hW.t 129) ho29 (QmE (Ow.rd (f31_0.pre (j:=d0.length) Ql) (hW.o 129 131))) Qf Qf) (fun v95 m95 hv95=>?_)
 try dsimp only at hv95
 obtain ⟨rfl,w95_0⟩:=hv95
 refine VO.mv (VO.z (.ext rfl rfl) (VO.z (.ext rfl rfl) (VO.as (VO.as (VO.p4 129 131 128 0 (VO.nil (VC.rs (VO.mv (VO.mv ?_)))))))))
 by_cases hsp96:(Qi 1 (Qy ([]:List Jv)) d0).1=0
 · first | exact absurd rfl hsp96 | exact hsp96 Iff.rfl | (simp at hsp96;done) | exact absurd ‹(Qi 1 _ d0).1=0› hsp96 | exact absurd hsp96 ‹¬ (Qi 1 _ d0).1=0› | exact absurd Qc6.fuse.1 hsp96 | exact absurd hfol hsp96 | exact hsp96.elim | (exfalso;omega) | exact absurd (hp.alln Qp) hsp96 | (refine absurd ?_ hsp96;rw [hp.p.fr];done)
 refine VO.call 128 rfl Qpw rfl rfl (fun W hW=>Qlk W (hW.t 128) ho28 (Rd.mono h0 (hW.o 128 0)) Qf Qf) (fun v97 m97 hv97=>?_)
 try dsimp only at hv97
 obtain ⟨rfl,w97_0⟩:=hv97
 refine VO.mv (VO.z (.ext rfl rfl) (VO.z (.ext rfl rfl) (VO.as (VO.as (VO.nil (VC.seq (VC.rs (VO.mv (VO.mv (VO.z (.neq rfl rfl) (VO.mv ?_)))))))))))
 refine VO.dec (t:=75) rfl (fun hc98=>?_) (fun hc98=>?_)
 · first | exact absurd rfl hc98 | exact hc98 Iff.rfl | (simp at hc98;done) | exact absurd ‹(Qi 1 _ d0).1=0› hc98 | exact absurd hc98 ‹¬ (Qi 1 _ d0).1=0› | exact absurd Qc6.fuse.1 hc98 | exact absurd hfol hc98 | exact hc98.elim | (exfalso;omega) | exact absurd (hp.alln Qp) hc98 | (refine absurd ?_ hc98;rw [hp.p.fr];done)
 refine VO.w (.mv rfl) ?_
 refine VO.w (.pnil rfl rfl Tryz.underlying23 rfl) ?_
 refine VO.w (.mv rfl) ?_
 refine VO.w (.pnil rfl rfl Tryz.underlying76 rfl) ?_
 refine VO.w (.bneq rfl rfl Tryz.underlying4) ?_
 refine VO.z (.pF rfl rfl) (VO.mv ?_)
 refine VO.dec (t:=82) rfl (fun hc99=>?_) (fun hc99=>?_)
 · first | exact absurd rfl hc99 | exact hc99 Iff.rfl | (simp at hc99;done) | exact absurd ‹(Qi 1 _ d0).1=0› hc99 | exact absurd hc99 ‹¬ (Qi 1 _ d0).1=0› | exact absurd Qc6.fuse.1 hc99 | exact absurd hfol hc99 | exact hc99.elim | (exfalso;omega) | exact absurd (hp.alln Qp) hc99 | (refine absurd ?_ hc99;rw [hp.p.fr];done)
 refine VO.w (.mv rfl) (VO.w (.mv rfl) ?_)
 refine VO.gcallN 200 rfl ⟨_,rfl,rfl⟩ Qpv rfl (fun W hW=>QcG W (Ow.rd f31_0 (hW.t 131)) (Rd.mono h0 (hW.t 0)) (by rfl) Ql Qf) (fun v100 m100 hv100=>?_)
 subst hv100
 refine VO.w (.not rfl) (VO.z (.pF rfl rfl) (VO.nil (VC.condF rfl (VC.skip (Qg (VC.seq (VC.rs (VO.mv ?_))))))))
 refine VO.z (.pnil rfl rfl Tryz.underlying76 rfl) ?_
 refine VO.p4 128 129 131 0 (VO.nil (VC.condT rfl (VC.rs (VO.as (VO.nil (VC.ret (QK ?_)))))))
 exact Yu 8 rfl (by first | rfl | (first | rfl | exact congrArg Value.bool (decide_eq_true (by rw [hp.p.fr]))))
section
open Go.ChangeShapes Go.WideShapes Go.ChangeAt Go.RowKit
theorem storeScript_ok0:QfW Tryz.prog 60 (.sl QA) (.inl 27)=true:=by kernel_rfl
theorem storeScript_ok1:QfW Tryz.prog 60 (.sl Qa6) (.inl 68)=true:=by kernel_rfl
theorem storeScript_ok2:QfW Tryz.prog 60 (.sl .str) (.inl 57)=true:=by kernel_rfl
set_option maxRecDepth 100000 in
theorem storeScript_lifted (os:Os) (started:os.Started) (H:Type) (enc:TypeId × Value→H):
  ReturnsInHanded {} Tryz.checked os 7 .any (Rows.storeScriptSpec.pre6 enc Tryz.prog Tryz.f7 Rows.storeScriptRow.domain false) (Rows.storeScriptSpec.post enc Tryz.prog Tryz.f7 false true false false):=by
 refine returnsInHanded_of_change (C:=Tryz.checked) (by kernel_rfl) started (by kernel_rfl) Tryz.func7
  (ChangeSpec.witness6 (enc:=enc) (C:=Tryz.checked) false ⟨#[], #[.slice none 0 0,.slice none 0 0,.slice none 0 0,.int .i64 0],[]⟩ 8 (by kernel_rfl) (by kernel_rfl) (by kernel_rfl) (by kernel_rfl)) ?_
 intro W base args ds gs before hval0 hW hcnd _
 have hval:∀ (j:Nat) t v,Tryz.f7.params[j]? =some t→args[j]? =some v→Value.okWide Tryz.prog W .any base t v:=hval0
 have hW':=hW
 obtain ⟨p,q,hA0,hV,rfl,hfz,hnd⟩:=hW
 have hA:DataW.TrodAll enc Tryz.prog W 0 (fun _=>true) true Tryz.f7.params.toList args.toList ds p:=hA0
 rw [Tryz.params7] at hA hval
 clear hA0 hval0
 obtain ⟨args⟩:=args
 obtain ⟨v0,r0,d0,e0,p0,q0,ha0,rfl,rfl,h0,hA0⟩:=trodAll_cons hA
 simp only at ha0;subst ha0
 obtain ⟨v1,r1,d1,e1,p1,q1,ha1,rfl,rfl,h1,hA1⟩:=trodAll_cons hA0
 subst ha1
 obtain ⟨v2,r2,d2,e2,p2,q2,ha2,rfl,rfl,h2,hA2⟩:=trodAll_cons hA1
 subst ha2
 obtain ⟨v3,r3,d3,e3,p3,q3,ha3,rfl,rfl,h3,hA3⟩:=trodAll_cons hA2
 subst ha3
 obtain ⟨rfl,rfl,rfl⟩:=trodAll_nil hA3
 obtain ⟨x0,hx0⟩:=Qnx 60 storeScript_ok0 Tryz.underlying27 (hval 0 27 v0 rfl rfl) h0
 obtain ⟨x1,hx1⟩:=Qnx 60 storeScript_ok1 Tryz.underlying68 (hval 1 68 v1 rfl rfl) h1
 obtain ⟨x2,hx2⟩:=Qnx 60 storeScript_ok2 Tryz.underlying57 (hval 2 57 v2 rfl rfl) h2
 obtain ⟨x3,rfl,hx3⟩:=QrE Tryz.underlying3 (hval 3 3 v3 rfl rfl) h3
 refine (QoR (QfE W hx0 hx1 hx2 x3 hx3)).mono fun e W' ⟨he,hg⟩=>?_
 subst he
 exact ⟨_,rfl,Qoy hW' hg laidOut_ok (by kernel_rfl) rfl Tryz.underlying4 rfl rfl rfl rfl⟩
theorem storeScript_joined:joinedFacts Tryz.prog 7 Tryz.f7 Rows.storeScriptSpec Rows.storeScriptRow=true:=by
 unfold joinedFacts
 rw [laidOut_ok,mapsRowed_ok,stopsHeard_ok,mayEnter_ok,lifts_ok,make_ok]
 kernel_rfl
theorem storeScript_proved:Rows.StoreScriptSaid:=
  OpenClaim.holds_of_wide 7 Tryz.f7 rfl rfl rfl rfl rfl rfl rfl ⟨rfl,rfl,rfl,rfl,rfl⟩ rfl rfl rfl rfl rfl (by kernel_rfl) Tryz.func7 storeScript_joined
    (of_decide_eq_true (by kernel_rfl)) (by unfold Func.isWrapper;first | (rw [if_pos (by decide+kernel)];kernel_rfl) | (rw [if_neg (by decide+kernel)];exact ⟨rfl,rfl⟩))
    (fun os started H enc _=>storeScript_lifted os started H enc)
#print axioms storeScript_proved
end
end Go.Proofs.YtonbpfncmlijnaaGreat
