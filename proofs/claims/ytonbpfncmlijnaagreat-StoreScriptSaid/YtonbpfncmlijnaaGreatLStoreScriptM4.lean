/- Part 4 of the proof of LStoreScript: what it needs of the library, the walks and the plain laws. Conditions: those named in each theorem. -/
import Derived.Test.YtonbpfncmlijnaaGreatLStoreScriptM3
set_option linter.unusedVariables false
set_option linter.unusedSimpArgs false
set_option maxRecDepth 4000
namespace Go.Proofs.YtonbpfncmlijnaaGreat
def kAt (l : List DOp) (i : Nat) : Qr := (l[i]?.getD (false, [], [])).2.1
theorem QmK {l:List DOp} {i:Nat} {x:DOp} (h:l[i]? =some x):kAt l i=x.2.1:=by unfold kAt;rw [h];rfl
def geK (l : List DOp) (k : Qr) (i : Nat) : Bool := decide (¬ kl (kAt l i) k)
def Qja : Option DOp → Qr × Bool × Bool
  | some o => (o.2.2, true, o.1)
  | none => ([], false, false)
def ZH (l : List DOp) (k : Qr) : Option DOp := l.find? fun o => decide (o.2.1 = k)
def Qdg : List Jv → Qr → Option DOp
  | [], _ => none
  | r :: l, k => match ZH r.2.2 k with
    | some o => some o
    | none => Qdg l k
def Qj7 (l : List Jv) (k : Qr) : Qr × Bool × Bool := Qja (Qdg l.reverse k)
section
variable {l : List DOp} {k : Qr} {i j : Nat} {x : DOp} {u : List Jv} {r : Jv}
theorem Qjz {y:DOp} (h:Ya l) (hx:l[i]? =some x) (hy:l[j]? =some y) (hij:i < j):kl x.2.1 y.2.1:=by
 obtain ⟨h1,e1⟩:=List.getElem?_eq_some_iff.1 hx
 obtain ⟨h2,e2⟩:=List.getElem?_eq_some_iff.1 hy
 have:=List.pairwise_iff_getElem.1 h.2 _ _ h1 h2 hij
 rwa [e1,e2] at this
theorem Qrm (h : Ya l) (hx : l[i]? = some x) (he : x.2.1 = k) : ZH l k = some x := by
  unfold ZH
  cases hf : l.find? fun o => decide (o.2.1 = k) with
  | none =>
    have := List.find?_eq_none.1 hf x (List.mem_of_getElem? hx)
    rw [he] at this; simp at this
  | some y =>
    have hy := List.find?_some hf
    simp only [decide_eq_true_eq] at hy
    obtain ⟨j, hj⟩ := List.getElem?_of_mem (List.mem_of_find?_eq_some hf)
    rcases Nat.lt_trichotomy i j with q | q | q
    · have := Qjz h hx hj q; rw [he, hy] at this; exact absurd this (Y4 _)
    · subst q; rw [hx] at hj; exact hj.symm
    · have := Qjz h hj hx q; rw [he, hy] at this; exact absurd this (Y4 _)
theorem Qkf (h:Ya l) (hi:i≤l.length) (h1:i < l.length→geK l k i=true) (h2:0 < i→geK l k (i - 1)=false) (hn:∀ x,l[i]? =some x→¬ x.2.1=k):ZH l k=none:=by
 unfold ZH
 refine List.find?_eq_none.2 fun y hy=>?_
 obtain ⟨j,hj⟩:=List.getElem?_of_mem hy
 have hjl:=(List.getElem?_eq_some_iff.1 hj).1
 simp only [decide_eq_true_eq]
 intro e
 rcases Nat.lt_trichotomy j i with q | q | q
 ·have h3:=h2 (by omega)
  have h4:kl (kAt l (i - 1)) k:=by unfold geK at h3;simpa using h3
  obtain ⟨z,hz⟩:∃ z,l[i - 1]? =some z:=⟨_,List.getElem?_eq_getElem (by omega)⟩
  rw [QmK hz] at h4
  rcases Nat.lt_or_ge j (i - 1) with q2 | q2
  ·have:=QaI (Qjz h hj hz q2) h4;rw [e] at this;exact Y4 _ this
  ·have:j=i - 1:=by omega
   subst this;rw [hj] at hz;cases hz;rw [e] at h4;exact Y4 _ h4
 ·subst q;exact hn y hj e
 ·have h3:=h1 (by omega)
  have h4:¬ kl (kAt l i) k:=by unfold geK at h3;simpa using h3
  obtain ⟨z,hz⟩:∃ z,l[i]? =some z:=⟨_,List.getElem?_eq_getElem (by omega)⟩
  rw [QmK hz] at h4
  have:=Qjz h hz hj q;rw [e] at this;exact h4 this
theorem Qfh {n:Nat} (hx:u[n]? =some r):Qdg (u.take (n+1)).reverse k=(match ZH r.2.2 k with | some o=>some o | none=>Qdg (u.take n).reverse k):=by
 rw [Zc hx,List.reverse_append];rfl
def Qif (u : List Jv) (k : Qr) (a : Int) : Prop := -1 ≤ a ∧ a < u.length ∧ Qj7 u k = Qja (Qdg (u.take (a + 1).toNat).reverse k)
theorem QqL (u:List Jv) (k:Qr):Qif u k ((u.length:Int) - 1):=⟨by omega,by omega,by
 unfold Qj7;rw [List.take_of_length_le (by omega)]⟩
theorem Qgj {a:Int} (h:Qif u k a) (h0:0≤a) (hx:u[a.toNat]? =some r) (hf:ZH r.2.2 k=none):Qif u k (a - 1):=by
 refine ⟨by omega,by have:=h.2.1;omega,?_⟩
 rw [h.2.2,show (a+1).toNat=a.toNat+1 by omega,Qfh hx,hf,show (a - 1+1).toNat=a.toNat by omega]
theorem QmN {a:Int} {o:DOp} (h:Qif u k a) (h0:0≤a) (hx:u[a.toNat]? =some r) (hf:ZH r.2.2 k=some o):Qj7 u k=(o.2.2,true,o.1):=by
 rw [h.2.2,show (a+1).toNat=a.toNat+1 by omega,Qfh hx,hf];rfl
theorem Qie {a:Int} (h:Qif u k a) (ha:a < 0):Qj7 u k=([],false,false):=by
 rw [h.2.2,show (a+1).toNat=0 by omega];rfl
end
theorem fnOk89:JE Tryz.prog 89=true:=by kernel_rfl
theorem fnOk90:JE Tryz.prog 90=true:=by kernel_rfl
theorem fnOk91:JE Tryz.prog 91=true:=by kernel_rfl
theorem tz4:tz Tryz.prog 4=some [.bool false]:=by kernel_rfl
theorem tz9:tz Tryz.prog 9=some [.string ⟨#[]⟩]:=by kernel_rfl
theorem QlS (W:World) (d0:Nat) (h0:d0 < 9223372036854775808) {gf1:FuncId} {caps1:List Value} {p1:Nat→Bool} (hf1:JE Tryz.prog gf1=true) (h1:∀ W',mle (wm W) (wm W')→∀ i:Nat,i < d0→Qc Tryz.prog gf1 (.int .i64 ((i:Nat):Int)::caps1) W' mnil (fun v _=>v= .bool (p1 i))) (e0:d0≤4611686018427387903):Qc Tryz.prog 90 [.int .i64 (d0:Int),.func (.func gf1) #[] caps1.toArray] W (mnil) (fun v m'=>∃ (kq:Nat),v= .int .i64 ((kq:Nat):Int)∧kq≤d0∧(kq < d0→p1 kq=true)∧(0 < kq→p1 (kq - 1)=false)):=by
 refine Qc.ofA (n:=26) Tryz.func90 rfl rfl rfl ?_
 refine VC.rs (VO.as (VO.k3 0 1 4 (VC.rs (VO.mv (VO.as (VO.as (VO.k5 0 1 4 5 6 (VC.seq (VC.block ?_)))))))))
 refine VC.loop (G:=Nat × Nat) (fun g=>[(5,.int .i64 ((((g.1):Nat):Int))),(6,.int .i64 ((((g.2):Nat):Int))),(0,.int .i64 (((d0:Nat):Int))),(1,.func (.func gf1) #[] caps1.toArray),(4,.int .i64 (0))]) (fun g=>[(0,wm W)]) (fun g=>((g.1)≤(g.2))∧((g.2)≤d0)∧(0 < (g.1)→p1 ((g.1) - 1)=false)∧((g.2) < d0→p1 (g.2)=true)) (fun g=>(g.2) - (g.1)) (0,d0) (⟨by omega,by omega,by (intro h_;exact absurd h_ Qp),by (intro h_;exact absurd h_ Qp)⟩) ⟨esn,fun _ h=>h.sub [0]⟩ ?_
 rintro ⟨i,j⟩ ⟨hij,hj,hp1,hp2⟩
 replace hij:i≤j:=hij
 replace hj:j≤d0:=hj
 replace hp1:0 < i→p1 (i - 1)=false:=hp1
 replace hp2:j < d0→p1 j=true:=hp2
 show VC _ _ _ _ _ [(5,.int .i64 (((i:Nat):Int))),(6,.int .i64 (((j:Nat):Int))),(0,.int .i64 (((d0:Nat):Int))),(1,.func (.func gf1) #[] caps1.toArray),(4,.int .i64 (0))] [(0,wm W)]
 refine VC.seq (VC.rs (VO.mv (VO.mv (VO.z (.lss rfl rfl) (VO.p1 0 (VO.k6 0 1 4 5 6 11 ?_))))))
 refine VC.cond rfl (fun hc1=>?_) (fun hc1=>?_)
 refine VC.skip (Qg (VC.block (VC.rs (VO.mv (VO.mv ?_)))))
 refine VO.z (.add (c:=((i+j:Nat):Int)) rfl rfl Qp ⟨bd,bd⟩) ?_
 refine VO.z (.cvI rfl ⟨_,Tryz.underlying3⟩ Tryz.underlying166 (IntWalk.u64_in _ bd)) ?_
 refine VO.z (.shf (.inr rfl) rfl rfl (shr1 _)) ?_
 refine VO.z (.cvI rfl ⟨_,Tryz.underlying166⟩ Tryz.underlying3 (IntWalk.i64_in _ bd)) ?_
 refine VO.as (VO.k7 0 1 4 5 6 7 11 (VC.rs (VO.mv (VO.mv ?_))))
 refine VO.callVN 102 rfl rfl hf1 rfl (fun W_ hW_=>h1 W_ (hW_.at (i:=0) rfl) ((i+j) / 2) bd) (fun v2 m2 hv2=>?_)
 subst hv2
 refine VO.z (.not rfl) (VO.k8 0 1 4 5 6 7 11 21 ?_)
 refine VC.condBN rfl (fun hc3=>?_) (fun hc3=>?_)
 refine VC.reg ?_
 refine VO.mv ?_
 refine VO.z (.add (c:=((((i+j) / 2)+1:Nat):Int)) rfl rfl Qp ⟨bd,bd⟩) ?_
 refine VO.as (VO.p1 0 (VO.k8 0 1 4 5 6 7 11 21 (Jh ?_)))
 exact Qg ⟨⟨((i+j) / 2)+1,j⟩,⟨by omega,by omega,by first | exact hp1 | (intro _;rw [show (i+j) / 2+1 - 1=(i+j) / 2 by omega];assumption),by first | exact hp2 | (intro _;assumption)⟩,bd,⟨esn,fun _ h=>Inv.sub h [0]⟩⟩
 refine VC.reg ?_
 refine VO.mv (VO.as (VO.p1 0 (VO.k8 0 1 4 5 6 7 11 21 (Jh ?_))))
 exact Qg ⟨⟨i,(i+j) / 2⟩,⟨by omega,by omega,by first | exact hp1 | (intro _;rw [show (i+j) / 2+1 - 1=(i+j) / 2 by omega];assumption),by first | exact hp2 | (intro _;assumption)⟩,bd,⟨esn,fun _ h=>Inv.sub h [0]⟩⟩
 ·refine VC.exit (JU (JU (JT (Qg (VC.rs (VO.mv (VO.as (VO.k6 0 1 4 5 6 11 (VC.ret ?_)))))))))
  refine ⟨_,_,QE (rs:=[.tmp 4]) rfl (.tmp rfl .nil),fun W_ hI=>Q2 (l:=[]) hI [] rfl rfl (Qb _) (fun hS_=>?_)⟩
  dsimp only [Qu]
  refine ⟨i,?_,?_,?_,?_⟩
  rotate_left
  ·(omega)
  ·((intro h_;have e_:i=j:=Qp;subst e_;exact hp2 h_))
  ·(exact hp1)
  all_goals (first | rfl | (simp [*];done))
theorem QqM (W:World) (d0:Nat) (h0:d0 < 9223372036854775808) {g1:Nat} {E1:TypeId} {v1:List Value} {d1:Jv} (h1:Rd YB (wm W) v1 d1) (b1:mle (Qo g1 (.cells v1.toArray E1 (0,0))) (wm W)) {g2:Nat} {E2:TypeId} {v2:List Value} {d2:List UInt8} (h2:Rd .str (wm W) v2 d2) (b2:mle (Qo g2 (.cells v2.toArray E2 (0,0))) (wm W)) (e0:d0 < d1.2.2.length):Qc Tryz.prog 91 [.int .i64 (d0:Int),Vp g1,Vp g2] W (mnil) (fun v m'=>v= .bool (geK d1.2.2 d2 d0)):=by
 have hrb1:=h1
 obtain ⟨p1_A2,p1_c2,rfl,p1_0,p1_1,p1_2⟩:=ZX (x0:=d1.1) (x1:=d1.2.1) (x2:=d1.2.2) h1
 simp only [inK] at p1_0 p1_1
 have hceb1:Jp (wm W) g1 0 3 [Value.int .i64 (d1.1),Value.int .i64 (d1.2.1),Value.slice p1_A2 (d1.2.2.length) (p1_c2)]:=(Qa rfl rfl).mono b1
 have hrb2:=h2
 obtain ⟨rfl,_⟩:=h2
 have hceb2:Jp (wm W) g2 0 1 [str (d2)]:=(Qa rfl rfl).mono b2
 refine Qc.ofA (n:=13) Tryz.func91 rfl rfl rfl ?_
 refine VC.rs (VO.as (VO.k4 0 1 2 4 (VC.seq ?_)))
 refine VC.regD _ 7 [(0,true),(1,true),(2,true),(3,true),(4,true),(5,true),(6,true)] follows (by kernel_rfl) (fun _ h=>h.sub [0]) ?_
 refine VD.z rfl (.fa rfl J2 rfl) ?_
 refine VD.z rfl (.ld1 0 rfl Jw rfl (hceb1.at1 (j:=2) rfl)) ?_
 refine VD.z rfl (.mv rfl) ?_
 obtain ⟨x1,hx1⟩:∃ z_,(d1.2.2)[d0]? =some z_:=⟨_,List.getElem?_eq_getElem bd⟩
 obtain ⟨gg1,oo1,ec1,ea1,hce1,hre1⟩:=p1_2.elem hx1
 cases ea1
 obtain ⟨rfl,q1_1,q1_2⟩:=Jr (x0:=x1.1) (x1:=x1.2.1) (x2:=x1.2.2) hre1
 simp only [maxLen] at q1_1
 simp only [maxLen] at q1_2
 refine VD.z rfl (.ixI d0 rfl rfl QX rfl bd) ?_
 refine VD.z rfl (.fa rfl JG rfl) ?_
 refine VD.z rfl (.ld1 0 rfl tk9 rfl (hce1.at1 (j:=1) rfl)) ?_
 refine VD.z rfl (.ld1 0 rfl tk9 rfl hceb2) ?_
 refine VD.nil rfl ?_ rfl
 refine VO.z (.sgeq rfl rfl) (VO.as (VO.k4 0 1 2 4 (Qg (VC.ret ?_))))
 exact Yu 4 rfl (by first | rfl | (exact congrArg Value.bool (by unfold geK;rw [QmK ‹d1.2.2[d0]? =some _›])))
theorem Qls (W:World) {g0:Nat} {E0:TypeId} {d0:Qix} {b0_2:Value} (hm:mle (Qo g0 (.cells [(.pointer (d0.1.map fun g=>⟨g,0,none⟩):Value),.bool d0.2.1,b0_2].toArray E0 (0,0))) (wm W)) (h0_2:Rd (.sl YB) (Ju (wm W) (Qo g0 (.cells [(.pointer (d0.1.map fun g=>⟨g,0,none⟩):Value),.bool d0.2.1,b0_2].toArray E0 (0,0)))) [b0_2] d0.2.2):Qc Tryz.prog 55 [Vp g0] W (Qo g0 (.cells [(.pointer (d0.1.map fun g=>⟨g,0,none⟩):Value),.bool d0.2.1,b0_2].toArray E0 (0,0))) (fun v m'=>v= .bool (decide (d0.1=none))∧m'=Qo g0 (.cells [(.pointer (d0.1.map fun g=>⟨g,0,none⟩):Value),.bool d0.2.1,b0_2].toArray E0 (0,0))):=by
 obtain ⟨A0_2,c0_2,rfl,l0_2,k0_2⟩:=h0_2.slc
 refine Qc.ofB (n:=12) hm Tryz.func55 rfl rfl rfl ?_
 refine VC.rs (VO.as (VO.k2 0 2 (VC.rs (VO.mv ?_))))
 refine VO.z (.pnil rfl rfl Tryz.underlying38 rfl) ?_
 refine VO.mv (VO.w (.mv rfl) (VO.w (.nilp rfl) (VO.w (.fa rfl Qah rfl) (VO.w (.ld1 1 rfl Qp2 rfl (Qa rfl rfl)) ?_))))
 refine VO.w (.pnilO rfl rfl Tryz.underlying44) ?_
 refine VO.z (.pF rfl rfl) (VO.as (VO.k2 0 2 (VC.ret ?_)))
 refine XC 2 [1] fun hS_=>?_
 dsimp only [Qu]
 refine ⟨?_,?_⟩
 rotate_left
 ·rw [ZA]
 all_goals (first | rfl | (simp [*];done))
set_option maxHeartbeats 4000000 in
theorem QpY (W:World) {g0:Nat} {E0:TypeId} {d0:Qix} {b0_2:Value} (hm:mle (Qo g0 (.cells [(.pointer (d0.1.map fun g=>⟨g,0,none⟩):Value),.bool d0.2.1,b0_2].toArray E0 (0,0))) (wm W)) (h0_2:Rd (.sl YB) (Ju (wm W) (Qo g0 (.cells [(.pointer (d0.1.map fun g=>⟨g,0,none⟩):Value),.bool d0.2.1,b0_2].toArray E0 (0,0)))) [b0_2] d0.2.2) (d1:List UInt8) (h1:d1.length≤maxLen) (e0:okU d0.2.2) (e1:¬ d0.1=none):Qc Tryz.prog 46 [Vp g0,str d1] W (Qo g0 (.cells [(.pointer (d0.1.map fun g=>⟨g,0,none⟩):Value),.bool d0.2.1,b0_2].toArray E0 (0,0))) (fun v m'=>v= .tuple #[str ((Qj7 d0.2.2 d1).1),.bool ((Qj7 d0.2.2 d1).2.1),.bool ((Qj7 d0.2.2 d1).2.2)]∧m'=Qo g0 (.cells [(.pointer (d0.1.map fun g=>⟨g,0,none⟩):Value),.bool d0.2.1,b0_2].toArray E0 (0,0))):=by
 obtain ⟨A0_2,c0_2,rfl,l0_2,k0_2⟩:=h0_2.slc
 have h1':=h1;simp only [maxLen] at h1'
 refine Qc.ofX (n:=51) Tryz.func46 rfl rfl rfl hm ?_
 refine VX.rs ?_
 refine VO.box (cs:=[str (d1)]) 102 rfl rfl rfl (fun g1=>?_)
 refine VO.alloc 104 rfl tz9 (fun g3=>?_)
 refine VO.alloc 106 rfl tz4 (fun g5=>?_)
 refine VO.alloc 108 rfl tz4 (fun g7=>?_)
 refine VO.k6 0 1 3 4 5 6 ?_
 refine VX.seq ?_
 refine VX.rs ?_
 refine VO.mv ?_
 refine VO.call 1 rfl Qgn rfl rfl (fun W hW=>Qls W (d0:=d0) (hW.t 1) (Rd.mono h0_2 (hW.o 1 0))) (fun v9 m9 hv9=>?_)
 obtain ⟨rfl,rfl⟩:=hv9
 refine VO.k7 0 1 3 4 5 6 11 ?_
 refine VX.cond rfl (fun hc10=>?_) (fun hc10=>?_)
 exact (e1 hc10).elim
 refine VX.skip ?_
 refine Qg ?_
 refine VX.seq ?_
 refine VX.rs ?_
 refine VO.mv (VO.z (.nilp rfl) (VO.z (.fa rfl Qah rfl) (VO.z (.ld1 1 rfl QhA rfl (Qa rfl rfl)) ?_)))
 refine VO.callN 111 rfl fnOk89 rfl (fun W_ hW_=>bw_ok W_ (mf:=Ju (wm W) (Qo g0 (.cells [Value.pointer ((d0.1).map fun g=>⟨g,0,none⟩),Value.bool d0.2.1,Value.slice A0_2 (d0.2.2.length) (c0_2)].toArray E0 (0,0)))) (hW_.at (i:=0) rfl) h0_2) (fun v11 m11 hv11=>?_)
 obtain ⟨ca11,rfl,hit11⟩:=hv11
 refine VO.p7 111 1 108 106 104 102 0 (VO.k8 0 1 3 4 5 6 11 16 ?_)
 refine VX.block ?_
 refine VX.gather (l:=[Qo g7 (.cells [Value.bool false].toArray 4 (0,0)),Qo g5 (.cells [Value.bool false].toArray 4 (0,0)),Qo g3 (.cells [str ([])].toArray 9 (0,0))]) 113 [108,106,104] rfl (fun hg12=>?_)
 refine VX.inv [(111,m11),(113,Zs [Qo g7 (.cells [Value.bool false].toArray 4 (0,0)),Qo g5 (.cells [Value.bool false].toArray 4 (0,0)),Qo g3 (.cells [str ([])].toArray 9 (0,0))]),(1,Qo g0 (.cells [Value.pointer ((d0.1).map fun g=>⟨g,0,none⟩),Value.bool d0.2.1,Value.slice A0_2 (d0.2.2.length) (c0_2)].toArray E0 (0,0))),(102,Qo g1 (.cells [str (d1)].toArray 9 (0,0))),(0,Ju (wm W) (Qo g0 (.cells [Value.pointer ((d0.1).map fun g=>⟨g,0,none⟩),Value.bool d0.2.1,Value.slice A0_2 (d0.2.2.length) (c0_2)].toArray E0 (0,0))))] (fun _ h=>h.sub [111,113,1,102,0]) ?_
 refine VX.rangeR (A:=Int) (G:=(List UInt8) × Bool × Bool) (rest:=[(1,Qo g0 (.cells [Value.pointer ((d0.1).map fun g=>⟨g,0,none⟩),Value.bool d0.2.1,Value.slice A0_2 (d0.2.2.length) (c0_2)].toArray E0 (0,0))),(102,Qo g1 (.cells [str (d1)].toArray 9 (0,0))),(0,Ju (wm W) (Qo g0 (.cells [Value.pointer ((d0.1).map fun g=>⟨g,0,none⟩),Value.bool d0.2.1,Value.slice A0_2 (d0.2.2.length) (c0_2)].toArray E0 (0,0))))]) 113 111 114 115 116 117 (fun g=>Zs [Qo g7 (.cells [Value.bool (g.2.2)].toArray 4 (0,0)),Qo g5 (.cells [Value.bool (g.2.1)].toArray 4 (0,0)),Qo g3 (.cells [str ((g.1))].toArray 9 (0,0))]) (fun at_ g=>(Qif d0.2.2 d1 at_)∧(Qt (Zs [Qo g7 (.cells [Value.bool (g.2.2)].toArray 4 (0,0)),Qo g5 (.cells [Value.bool (g.2.1)].toArray 4 (0,0)),Qo g3 (.cells [str ((g.1))].toArray 9 (0,0))]) [Qo g7 (.cells [Value.bool (g.2.2)].toArray 4 (0,0)),Qo g5 (.cells [Value.bool (g.2.1)].toArray 4 (0,0)),Qo g3 (.cells [str ((g.1))].toArray 9 (0,0))])) (fun e g=>e= .ret∧(Qj7 d0.2.2 d1=((g.1),(g.2.1),(g.2.2)))∧(Qt (Zs [Qo g7 (.cells [Value.bool (g.2.2)].toArray 4 (0,0)),Qo g5 (.cells [Value.bool (g.2.1)].toArray 4 (0,0)),Qo g3 (.cells [str ((g.1))].toArray 9 (0,0))]) [Qo g7 (.cells [Value.bool (g.2.2)].toArray 4 (0,0)),Qo g5 (.cells [Value.bool (g.2.1)].toArray 4 (0,0)),Qo g3 (.cells [str ((g.1))].toArray 9 (0,0))])) ([],false,false) ⟨by exact QqL _ _,hg12⟩ (fun _ _=>hit11) (.inr ⟨0,(.tail _ (.tail _ (.head _)))⟩) rfl rfl rfl (fun _ _ _ h=>by obtain ⟨_,_,_,_,_,_,rfl,_⟩:=h;rfl) (Bx:=Nat) (fun args B=>[(8,Vp B),(0,Vp g0),(1,str (d1)),(3,Vp g1),(4,Vp g3),(5,Vp g5),(6,Vp g7),(11,Value.bool (decide (d0.1=none)))]) (fun args B=>[(118,Qo B (.cells (aggC (args.getD 1 undef)) 92 (0,0)))]) ?_ ?_ ?_ ?_
 · intro w1_ lr_ at_ args_ mr_ Ω_ hE_
   obtain ⟨hE0_,hE1_,rfl,x_,cs_,hxa_,rfl,hrx_⟩:=hE_
   have hrx0_:=hrx_
   obtain ⟨xA_,xc_,rfl,hxf_,hxu_,hro_⟩:=ZX (x0:=x_.1) (x1:=x_.2.1) (x2:=x_.2.2) hrx_
   simp only [inK] at hxf_ hxu_
   have hxr_:=Rd.room hro_
   have hxc_:=JP (QaT e0 x_ (List.mem_of_getElem? hxa_))
   have hup_:=hxc_.2.2.2.2
   refine VX.reg ?_
   refine VO.alloc 118 rfl QbA (fun gB_=>?_)
   refine VO.store (k:=3) (c':=[.int .i64 (x_.1),.int .i64 (x_.2.1),.slice xA_ (x_.2.2.length) (xc_)]) 118 rfl rfl (.inl XI) rfl rfl rfl rfl rfl ?_
   refine VO.nil ?_
   exact ⟨rfl,rfl,gB_,esn,fun W_ hW_=>Inv.rot hW_⟩
 rintro w1_ lr_ Dr_ at_ ⟨val,met,th⟩ args_ mr_ ml_ mo_ gB_ ⟨hg,hSep_⟩ hE_
 replace hg:Qif d0.2.2 d1 at_:=hg
 replace hSep_:Qt (Zs [Qo g7 (.cells [Value.bool th].toArray 4 (0,0)),Qo g5 (.cells [Value.bool met].toArray 4 (0,0)),Qo g3 (.cells [str (val)].toArray 9 (0,0))]) [Qo g7 (.cells [Value.bool th].toArray 4 (0,0)),Qo g5 (.cells [Value.bool met].toArray 4 (0,0)),Qo g3 (.cells [str (val)].toArray 9 (0,0))]:=hSep_
 obtain ⟨hE0_,hE1_,rfl,x_,cs_,hxa_,rfl,hrx_⟩:=hE_
 have hrx0_:=hrx_
 obtain ⟨xA_,xc_,rfl,hxf_,hxu_,hro_⟩:=ZX (x0:=x_.1) (x1:=x_.2.1) (x2:=x_.2.2) hrx_
 simp only [inK] at hxf_ hxu_
 have hxr_:=Rd.room hro_
 have hxc_:=JP (QaT e0 x_ (List.mem_of_getElem? hxa_))
 have hup_:=hxc_.2.2.2.2
 refine VX.parts 113 [108,106,104] rfl hSep_ ?_
 show VX _ _ _ _ _ _ _ [(8,Vp gB_),(0,Vp g0),(1,str (d1)),(3,Vp g1),(4,Vp g3),(5,Vp g5),(6,Vp g7),(11,.bool (decide (d0.1=none)))] [(108,Qo g7 (.cells #[.bool th] 4 (0,0))),(106,Qo g5 (.cells #[.bool met] 4 (0,0))),(104,Qo g3 (.cells #[str (val)] 9 (0,0))),(116,mnil),(117,mo_),(115,ml_),(114,Qo Dr_ (.deferred (some []))),(1,Qo g0 (.cells #[.pointer ((d0.1).map fun g=>⟨g,0,none⟩),.bool d0.2.1,.slice A0_2 (d0.2.2.length) (c0_2)] E0 (0,0))),(102,Qo g1 (.cells #[str (d1)] 9 (0,0))),(0,Ju (wm W) (Qo g0 (.cells #[.pointer ((d0.1).map fun g=>⟨g,0,none⟩),.bool d0.2.1,.slice A0_2 (d0.2.2.length) (c0_2)] E0 (0,0)))),(118,Qo gB_ (.cells #[.int .i64 (x_.1),.int .i64 (x_.2.1),.slice xA_ (x_.2.2.length) (xc_)] 92 (0,0)))]
 refine VX.block ?_
 refine VX.rs ?_
 refine VO.z (.fa rfl J2 rfl) (VO.z (.ld1 118 rfl Jw rfl (Qa rfl rfl)) (VO.z (.lenS rfl QX) (VO.z (.mkf rfl) ?_)))
 refine VO.callN 119 rfl fnOk90 rfl (fun W_ hW_=>QlS (p1:=geK x_.2.2 d1) W_ x_.2.2.length bd fnOk91 (fun W2_ hW2_ i_ hi_=>QqM W2_ i_ Qp (d1:=x_) (Rd.mono hrx_ ((hW_.at (i:=0) rfl).trans hW2_)) ((hW_.at (i:=118) rfl).trans hW2_) (d2:=d1) (v2:=[str d1]) ⟨rfl,h1⟩ ((hW_.at (i:=102) rfl).trans hW2_) hi_) Qp) (fun v19 m19 hv19=>?_)
 obtain ⟨kq19,rfl,hq1_19,hq2_19,hq3_19⟩:=hv19
 refine VO.as (VO.k9 0 1 3 4 5 6 8 9 11 ?_)
 refine VX.seq ?_
 refine VX.regD _ 13 [(0,true),(1,true),(2,true),(3,true),(4,true),(5,true),(6,true),(7,true),(8,true),(9,true),(10,true),(11,true),(12,true)] follows (by kernel_rfl) (fun _ h=>h.sub [119,108,106,104,116,117,115,114,1,102,0,118]) ?_
 refine VD.z rfl (.mv rfl) (VD.z rfl (.fa rfl J2 rfl) (VD.z rfl (.ld1 118 rfl Jw rfl (Qa rfl rfl)) (VD.z rfl (.lenS rfl QX) (VD.z rfl (.lss rfl rfl) (VD.z rfl (.mv rfl) ?_)))))
 refine VD.dec (s:=29) rfl (fun hc20=>?_) (fun hc20=>?_)
 refine VD.w rfl (.fa rfl J2 rfl) (VD.w rfl (.ld1 118 rfl Jw rfl (Qa rfl rfl)) (VD.w rfl (.mv rfl) ?_))
 obtain ⟨x21,hx21⟩:∃ z_,(x_.2.2)[kq19]? =some z_:=⟨_,List.getElem?_eq_getElem bd⟩
 obtain ⟨gg21,oo21,ec21,ea21,hce21,hre21⟩:=hro_.elem hx21
 cases ea21
 obtain ⟨rfl,q21_1,q21_2⟩:=Jr (x0:=x21.1) (x1:=x21.2.1) (x2:=x21.2.2) hre21
 simp only [maxLen] at q21_1
 simp only [maxLen] at q21_2
 refine VD.w rfl (.ixI kq19 rfl rfl QX rfl bd) ?_
 refine VD.w rfl (.fa rfl JG rfl) ?_
 refine VD.w rfl (.ld1 0 rfl tk9 rfl (hce21.at1 (j:=1) rfl)) ?_
 refine VD.w rfl (.ld1 102 rfl tk9 rfl (Qa rfl rfl)) ?_
 refine VD.nil rfl ?_ rfl
 refine VO.w (.seql rfl rfl) (VO.z (.pT rfl rfl) (VO.k10 0 1 3 4 5 6 8 9 11 38 (Qg ?_)))
 refine VX.cond rfl (fun hc22=>?_) (fun hc22=>?_)
 refine VX.seq ?_
 refine VX.inv _ (fun _ h=>Inv.num h 106 2106 rfl) ?_
 refine VX.inv _ (fun _ h=>Inv.num h 104 2104 rfl) ?_
 refine VX.regD _ 14 [(0,true),(1,true),(2,true),(3,true),(4,true),(5,true),(6,true),(7,true),(8,true),(9,true),(10,true),(11,true),(12,false),(13,false)] follows (by kernel_rfl) (fun _ h=>h.sub [119,108,2106,2104,116,117,115,114,1,102,0,118]) ?_
 refine VD.z rfl (.fa rfl J2 rfl) (VD.z rfl (.ld1 118 rfl Jw rfl (Qa rfl rfl)) (VD.z rfl (.mv rfl) ?_))
 refine VD.z rfl (.ixI kq19 rfl rfl QX rfl bd) ?_
 refine VD.z rfl (.fa rfl JG rfl) ?_
 refine VD.z rfl (.ld1 0 rfl tk9 rfl (hce21.at1 (j:=2) rfl)) ?_
 refine VD.z rfl (.fa rfl J2 rfl) (VD.z rfl (.ld1 118 rfl Jw rfl (Qa rfl rfl)) (VD.z rfl (.mv rfl) ?_))
 refine VD.z rfl (.ixI kq19 rfl rfl QX rfl bd) ?_
 refine VD.z rfl (.fa rfl JG rfl) ?_
 refine VD.z rfl (.ld1 0 rfl tk4 rfl (hce21.at1 (j:=0) rfl)) ?_
 refine VD.storeH (k:=1) (c':=[str (x21.2.2)]) 2104 rfl rfl rfl (.inr ⟨tk9,rfl⟩) rfl rfl rfl rfl rfl (fun _ h=>h.sub [119,108,116,117,115,114,1,102,0,118]) ?_
 refine VD.storeH (k:=1) (c':=[Value.bool true]) 2106 rfl rfl rfl (.inr ⟨tk4,rfl⟩) rfl rfl rfl rfl rfl (fun _ h=>h.sub [119,108,116,117,115,114,1,102,0,118]) ?_
 refine VD.nil rfl ?_ rfl
 refine VO.store (k:=1) (c':=[.bool x21.1]) 108 rfl rfl (.inr ⟨tk4,rfl⟩) rfl rfl rfl rfl rfl ?_
 refine VO.kp [108,2106,2104,117,115,114,1,102,0,118] [(108,Qo g7 (.cells #[.bool x21.1] 4 (0,0))),(2106,Qo g5 (.cells #[.bool true] 4 (0,0))),(2104,Qo g3 (.cells #[str (x21.2.2)] 9 (0,0))),(117,mo_),(115,ml_),(114,Qo Dr_ (.deferred (some []))),(1,Qo g0 (.cells #[.pointer ((d0.1).map fun g=>⟨g,0,none⟩),.bool d0.2.1,.slice A0_2 (d0.2.2.length) (c0_2)] E0 (0,0))),(102,Qo g1 (.cells #[str (d1)] 9 (0,0))),(0,Ju (wm W) (Qo g0 (.cells #[.pointer ((d0.1).map fun g=>⟨g,0,none⟩),.bool d0.2.1,.slice A0_2 (d0.2.2.length) (c0_2)] E0 (0,0)))),(118,Qo gB_ (.cells #[.int .i64 (x_.1),.int .i64 (x_.2.1),.slice (some ⟨gg21,oo21,none⟩) (x_.2.2.length) (xc_)] 92 (0,0)))] ?_
 refine VO.k10 0 1 3 4 5 6 8 9 11 38 (Qg ?_)
 refine VX.ret ?_
 refine Jf ?_
 exact ⟨rfl,fun W_ hW_=>⟨⟨x21.2.2,true,x21.1⟩,(hW_.gather (ids:=[108,2106,2104]) 113 rfl).1.sub [117,115,113,114,1,102,0],.inr ⟨rfl,rfl,by exact QmN hg hE0_ hxa_ (Qrm hup_ ‹x_.2.2[kq19]? =some _› Qf),(hW_.gather (ids:=[108,2106,2104]) 113 rfl).2⟩⟩⟩
 refine VX.skip ?_
 refine Jh ?_
 exact ⟨rfl,fun W_ hW_=>⟨⟨val,met,th⟩,(hW_.gather (ids:=[108,106,104]) 113 rfl).1.sub [117,115,113,114,1,102,0],.inl ⟨rfl,by exact Qgj hg hE0_ hxa_ (Qkf hup_ hq1_19 hq2_19 hq3_19 (by intro y_ hy_;first | (exfalso;have h_:=(List.getElem?_eq_some_iff.1 hy_).1;omega) | (rw [hx21] at hy_;cases hy_;assumption))),(hW_.gather (ids:=[108,106,104]) 113 rfl).2⟩⟩⟩
 refine VD.gN rfl (VD.gN rfl (VD.gN rfl (VD.gN rfl (VD.gN rfl (VD.gN rfl (VD.gN rfl ?_))))))
 refine VD.nil rfl ?_ rfl
 refine VO.gN (VO.z (.pF rfl rfl) (VO.k10 0 1 3 4 5 6 8 9 11 38 (Qg ?_)))
 refine VX.condF rfl ?_
 refine VX.skip ?_
 refine Jh ?_
 exact ⟨rfl,fun W_ hW_=>⟨⟨val,met,th⟩,(hW_.gather (ids:=[108,106,104]) 113 rfl).1.sub [117,115,113,114,1,102,0],.inl ⟨rfl,by exact Qgj hg hE0_ hxa_ (Qkf hup_ hq1_19 hq2_19 hq3_19 (by intro y_ hy_;first | (exfalso;have h_:=(List.getElem?_eq_some_iff.1 hy_).1;omega) | (rw [hx21] at hy_;cases hy_;assumption))),(hW_.gather (ids:=[108,106,104]) 113 rfl).2⟩⟩⟩
 · rintro Dr_ at_ ⟨val,met,th⟩ ⟨hg,hSep_⟩ hDn_
   replace hg:Qif d0.2.2 d1 at_:=hg
   replace hSep_:Qt (Zs [Qo g7 (.cells [Value.bool th].toArray 4 (0,0)),Qo g5 (.cells [Value.bool met].toArray 4 (0,0)),Qo g3 (.cells [str (val)].toArray 9 (0,0))]) [Qo g7 (.cells [Value.bool th].toArray 4 (0,0)),Qo g5 (.cells [Value.bool met].toArray 4 (0,0)),Qo g3 (.cells [str (val)].toArray 9 (0,0))]:=hSep_
   refine Jh (Qg ?_)
   refine VX.parts 113 [108,106,104] rfl hSep_ ?_
   show VX _ _ _ _ _ _ _ [(0,Vp g0),(1,str (d1)),(3,Vp g1),(4,Vp g3),(5,Vp g5),(6,Vp g7),(11,.bool (decide (d0.1=none))),(16,.func (.func 129) #[] ca11.toArray)] [(108,Qo g7 (.cells #[.bool th] 4 (0,0))),(106,Qo g5 (.cells #[.bool met] 4 (0,0))),(104,Qo g3 (.cells #[str (val)] 9 (0,0))),(114,Qo Dr_ (.deferred (some []))),(1,Qo g0 (.cells #[.pointer ((d0.1).map fun g=>⟨g,0,none⟩),.bool d0.2.1,.slice A0_2 (d0.2.2.length) (c0_2)] E0 (0,0))),(102,Qo g1 (.cells #[str (d1)] 9 (0,0))),(0,Ju (wm W) (Qo g0 (.cells #[.pointer ((d0.1).map fun g=>⟨g,0,none⟩),.bool d0.2.1,.slice A0_2 (d0.2.2.length) (c0_2)] E0 (0,0))))]
   refine VX.rs ?_
   refine VO.store (k:=1) (c':=[str ([])]) 104 rfl rfl (.inr ⟨tk9,rfl⟩) rfl rfl rfl rfl rfl ?_
   refine VO.store (k:=1) (c':=[.bool false]) 106 rfl rfl (.inr ⟨tk4,rfl⟩) rfl rfl rfl rfl rfl ?_
   refine VO.store (k:=1) (c':=[.bool false]) 108 rfl rfl (.inr ⟨tk4,rfl⟩) rfl rfl rfl rfl rfl ?_
   refine VO.k8 0 1 3 4 5 6 11 16 ?_
   refine VX.ret ?_
   refine ⟨114,rfl,?_⟩
   refine ⟨_,_,QE (rs:=[.cell 4 9,.cell 5 4,.cell 6 4]) rfl (.one 104 rfl tk9 rfl ⟨_,_,_,Qn _ _,rfl⟩ (.one 106 rfl tk4 rfl ⟨_,_,_,Qn _ _,rfl⟩ (.one 108 rfl tk4 rfl ⟨_,_,_,Qn _ _,rfl⟩ .nil))),fun W_ hI=>Q2 (l:=[Qo g0 (.cells #[.pointer ((d0.1).map fun g=>⟨g,0,none⟩),.bool d0.2.1,.slice A0_2 (d0.2.2.length) (c0_2)] E0 (0,0))]) hI [1] rfl rfl (Qb _) (fun hS_=>?_)⟩
   dsimp only [Qu]
   refine ⟨?_,?_⟩
   rotate_left
   · rw [ZA]
   all_goals (first | rfl | (first | (rw [hs] <;> first | done | rfl) | (rw [Qie hg hDn_] <;> first | done | rfl)))
 · rintro Dr_ _ ⟨val,met,th⟩ ⟨rfl,hs,hSep_⟩ _
   replace hs:Qj7 d0.2.2 d1=(val,met,th):=hs
   replace hSep_:Qt (Zs [Qo g7 (.cells [Value.bool th].toArray 4 (0,0)),Qo g5 (.cells [Value.bool met].toArray 4 (0,0)),Qo g3 (.cells [str (val)].toArray 9 (0,0))]) [Qo g7 (.cells [Value.bool th].toArray 4 (0,0)),Qo g5 (.cells [Value.bool met].toArray 4 (0,0)),Qo g3 (.cells [str (val)].toArray 9 (0,0))]:=hSep_
   refine Jf (QK ?_)
   refine ⟨114,rfl,?_⟩
   refine ⟨_,_,QE (rs:=[.cell 4 9,.cell 5 4,.cell 6 4]) rfl (.one 113 rfl tk9 rfl ⟨_,_,_,hSep_.1 _ (.tail _ (.tail _ (.head _))) _ _ (Qn _ _),rfl⟩ (.one 113 rfl tk4 rfl ⟨_,_,_,hSep_.1 _ (.tail _ (.head _)) _ _ (Qn _ _),rfl⟩ (.one 113 rfl tk4 rfl ⟨_,_,_,hSep_.1 _ (.head _) _ _ (Qn _ _),rfl⟩ .nil))),fun W_ hI=>Q2 (l:=[Qo g0 (.cells #[.pointer ((d0.1).map fun g=>⟨g,0,none⟩),.bool d0.2.1,.slice A0_2 (d0.2.2.length) (c0_2)] E0 (0,0))]) hI [1] rfl rfl (Qb _) (fun hS_=>?_)⟩
   dsimp only [Qu]
   refine ⟨?_,?_⟩
   rotate_left
   · rw [ZA]
   all_goals (first | rfl | (first | (rw [hs] <;> first | done | rfl) | (rw [Qie hg hDn_] <;> first | done | rfl)))
abbrev QO : Ty := .tmap
abbrev QI := Xm
theorem Qeb {m:Mem} {cs:List Value} {x0:Xm} (h:Ow QO m cs x0):∃ (r0:Nat),∃ (n0:Mem),cs=[(.map (some r0):Value)]∧Qt m [n0]∧Ow .tmap n0 [.map (some r0)] x0:=by
 have z1:=h
 obtain ⟨r1,rfl⟩:=Ow.map1 h
 exact ⟨r1,_,rfl,Qt.one (Qb _),z1⟩
theorem QfI {m:Mem} {n0:Mem} (x0:Xm) (hS:Qt m [n0]) {v0:Value} (h0:Ow .tmap n0 [v0] x0):Ow QO m [v0] x0:=by
 exact (h0.up (hS.1 _ (.head _)))
theorem ZS {m:Mem} {cs:List Value} {g:Nat} {x0:Xm} (h:Ow (.ptr QO) m cs (g,x0)):∃ (E:TypeId),∃ (r0:Nat),∃ (n0:Mem),cs=[.pointer (some ⟨g,0,none⟩)]∧Qt m [Qo g (.cells [(.map (some r0):Value)].toArray E (0,0)),n0]∧Ow .tmap n0 [.map (some r0)] x0:=by
 obtain ⟨rfl,rc,E,m1,hd,l0,l1,h1⟩:=Ow.opnP h
 obtain ⟨r0,n0,rfl,hS,f0⟩:=Qeb h1
 exact ⟨E,r0,n0,rfl,Qt.app hd l0 l1 (Qt.one (Qb _)) hS,f0⟩
theorem Z3 {m:Mem} {g:Nat} {E:TypeId} {n0:Mem}{v0:Value} (x0:Xm) (hS:Qt m [Qo g (.cells [v0].toArray E (0,0)),n0]) (h0:Ow .tmap n0 [v0] x0):Ow (.ptr QO) m [.pointer (some ⟨g,0,none⟩)] (g,x0):=
 Ow.clsP hS fun hS=>QfI x0 hS h0
section
variable {l m all : List Jv} {r x : Jv} {B s : Qr} {n : Nat}
theorem QcL:QaQ (l++m)=QaQ l++QaQ m:=by simp [QaQ]
theorem QcK:QaQ [r]=XF r:=by simp [QaQ]
end
section
variable {d : QS} {B b : Qr} {n : Int} {l all sure : List Jv} {x : Jv} {k t : Int}
def Ku (d : QS) (l : List Jv) : Prop := d.2.1 = false ∧ okU l ∧ ∃ A, Pg d A A ∧ Qbv A 2 = QaQ l
def Kq (d : QS) (all sure : List Jv) : Prop := okU all ∧ sure <+: all ∧ ∃ A S, Pg d A S ∧ Qbv A 2 <+: QaQ all ∧ Qbv S 2 = QaQ sure
theorem ku_new:Ku Qe9 []:=⟨rfl,QaS,([],[],[],[]),Qqu ⟨QdG,rfl,rfl,rfl⟩ rfl,rfl⟩
theorem ku_on (h:Ku d l):onD d:=by
 obtain ⟨h1,h2,A,h4,h5⟩:=h
 exact ⟨h4.made,h1⟩
theorem Qoz (h:Ku d l) (hc:QP x=0) (hx:x.1=Qy l+1):
  ((QJ d false l x).2=0∧Ku (QJ d false l x).1.1 (l++[x])∧(QJ d false l x).1.2=(false,l++[x]))∨((QJ d false l x).2=6∧Kq (QJ d false l x).1.1 (l++[x]) l∧(QJ d false l x).1.2=(true,l)):=by
 have ho:=ku_on h
 obtain ⟨o1,o2,A,o4,o5⟩:=h
 have hl:=Qen o2 hc hx
 have e0:∀ (br:Bool),¬ (false=true∨¬ onD d):=fun _ q=>q.elim (by decide) (· ho)
 unfold QJ
 rw [if_neg (e0 false),if_neg (not_not_intro hc),if_neg (not_not_intro hx)]
 obtain ⟨p,p1,p2,p3⟩:=Qom (f:=2) (b:=XF x) o4 o1 (by decide)
 have e:Qbv (Qf3 A 2 (Qbv A 2++p)) 2=QaQ l++p:=by rw [Qha (by decide) (by decide),if_pos rfl,o5]
 rcases p3 with ⟨q1,q2,q3⟩ | ⟨q1,q2⟩
 ·rw [if_neg (not_not_intro q1)]
  subst q2
  rcases Qqt p2 q3 with ⟨r1,r2,r3,r4⟩ | ⟨r1,r2,r3⟩
  ·rw [if_neg (not_not_intro r1)]
   left;exact ⟨rfl,⟨r3,hl,_,r2,by rw [e,QcL,QcK]⟩,rfl⟩
  ·rw [if_pos (by rw [r1];decide)]
   right;exact ⟨r1,⟨hl,List.prefix_append _ _,_,A,r2,by rw [e,QcL,QcK];exact List.prefix_refl _,o5⟩,rfl⟩
 ·rw [if_pos (by rw [q1];decide)]
  right;exact ⟨q1,⟨hl,List.prefix_append _ _,_,A,p2,by rw [e,QcL,QcK];exact (List.prefix_append_right_inj _).2 p1,o5⟩,rfl⟩
end
def Yl (put : Bool) : List DOp → DOp → List DOp
  | [], o => if put then [] else [o]
  | x :: t, o => (if put = false ∧ ¬ kl x.2.1 o.2.1 then [o] else []) ++ ((if ¬ x.2.1 = o.2.1 then [x] else []) ++ Yl (put || decide (¬ kl x.2.1 o.2.1)) t o)
def Qax (t : List DOp) (o : DOp) : List DOp := Yl false t o
section
variable {t l : List DOp} {o x : DOp} {k : Nat}
theorem QdI : ∀ {t : List DOp}, (∀ x ∈ t, ¬ x.2.1 = o.2.1) → Yl true t o = t
  | [], _ => rfl
  | x :: t, h => by
    rw [Yl, if_neg (fun q => by cases q.1), if_pos (h x (.head _)), Bool.true_or, QdI fun y hy => h y (.tail _ hy)]; rfl
theorem Qj4 (h:kl x.2.1 o.2.1):Yl false (x::t) o=x::Yl false t o:=by
 rw [Yl,if_neg (fun q=>q.2 h),if_pos (QfM h),decide_eq_false (not_not_intro h)];rfl
theorem Qev (h:Ya (x::t)) (hk:¬ kl x.2.1 o.2.1):∀ y∈t,kl o.2.1 y.2.1:=fun y hy=>QoA hk ((List.pairwise_cons.1 h.2).1 y hy)
theorem Qj6 (h:Ya (x::t)) (hk:x.2.1=o.2.1):Yl false (x::t) o=o::t:=by
 have hn:¬ kl x.2.1 o.2.1:=by rw [hk];exact Y4 _
 rw [Yl,if_pos ⟨rfl,hn⟩,if_neg (not_not_intro hk),decide_eq_true hn,Bool.or_true,QdI fun y hy e=>QfM (Qev h hn y hy) e.symm];rfl
theorem Qj5 (h:Ya (x::t)) (hk:¬ kl x.2.1 o.2.1) (hne:¬ x.2.1=o.2.1):Yl false (x::t) o=o::x::t:=by
 rw [Yl,if_pos ⟨rfl,hk⟩,if_pos hne,decide_eq_true hk,Bool.or_true,QdI fun y hy e=>QfM (Qev h hk y hy) e.symm];rfl
theorem Yi (h:Ya (x::t)):Ya t:=⟨fun y hy=>h.1 y (.tail _ hy),(List.pairwise_cons.1 h.2).2⟩
theorem QaB (hc:Q4 x=0) (h:Ya t) (hl:∀ y∈t,kl x.2.1 y.2.1):Ya (x::t):=⟨fun y hy=>by
 rcases List.mem_cons.1 hy with rfl | hy
 ·exact hc
 ·exact h.1 y hy,List.pairwise_cons.2 ⟨hl,h.2⟩⟩
theorem QlH : ∀ {t : List DOp}, Ya t → Q4 o = 0 → Ya (Qax t o) ∧ (Qax t o).length ≤ t.length + 1 ∧ ∀ y ∈ Qax t o, y = o ∨ y ∈ t
  | [], h, hc => ⟨QaB hc QgJ (fun y hy => by cases hy), Nat.le_refl _, fun y hy => .inl (by simpa [Qax, Yl] using hy)⟩
  | x :: t, h, hc => by
    have hx := h.1 x (.head _)
    by_cases hk : kl x.2.1 o.2.1
    · obtain ⟨i1, i2, i3⟩ := QlH (Yi h) hc
      have e : Qax (x :: t) o = x :: Qax t o := Qj4 hk
      rw [e]
      refine ⟨QaB hx i1 fun y hy => ?_, by simp only [List.length_cons]; omega, fun y hy => ?_⟩
      · rcases i3 y hy with rfl | hy
        · exact hk
        · exact (List.pairwise_cons.1 h.2).1 y hy
      · rcases List.mem_cons.1 hy with rfl | hy
        · exact .inr (.head _)
        · exact (i3 y hy).imp id (.tail _)
    · by_cases hq : x.2.1 = o.2.1
      · have e : Qax (x :: t) o = o :: t := Qj6 h hq
        rw [e]
        exact ⟨QaB hc (Yi h) (Qev h hk), by simp, fun y hy => (List.mem_cons.1 hy).imp id (.tail _)⟩
      · have e : Qax (x :: t) o = o :: x :: t := Qj5 h hk hq
        rw [e]
        refine ⟨QaB hc h fun y hy => ?_, by simp, fun y hy => (List.mem_cons.1 hy).imp id id⟩
        rcases List.mem_cons.1 hy with rfl | hy
        · exact kl_of hk (fun q => hq q.symm)
        · exact Qev h hk y hy
theorem Qdb {out:List DOp} {put:Bool} (h:Qax t o=out++Yl put (t.drop k) o) (hx:t[k]? =some x):Qax t o=out++((if put=false∧¬ kl x.2.1 o.2.1 then [o] else [])++((if ¬ x.2.1=o.2.1 then [x] else [])++Yl (put || decide (¬ kl x.2.1 o.2.1)) (t.drop (k+1)) o)):=by
 rw [h,Z2 hx,Yl]
end
abbrev QR : Ty := .pair .bool (.sl TOp)
abbrev JL := Bool × (List DOp)
instance QoF : DecidableEq JL := (@instDecidableEqProd _ _ inferInstance inferInstance)
theorem Qee {m:Mem} {cs:List Value} {x0:Bool} {x1:List DOp} (h:Ow QR m cs (x0,x1)):∃ (A1:Option Addr),∃ (c1:Nat),∃ (n1:Mem),cs=[(.bool x0:Value),.slice A1 x1.length c1]∧Qt m [n1]∧Ow (.sl TOp) n1 [.slice A1 x1.length c1] x1:=by
 obtain ⟨p1,q1,ma1,mb1,rfl,dj1,la1,lb1,u1,w1⟩:=Ow.pair h
 obtain rfl:=(show _=_ from u1)
 have z3:=w1
 obtain ⟨A3,c3,rfl,_⟩:=Ow.slice1 w1
 exact ⟨A3,c3,_,rfl,(Qt.app dj1 la1 lb1 (Qt.nil _) (Qt.one (Qb _))),z3⟩
theorem QfL {m:Mem} {n1:Mem} (x0:Bool) (x1:List DOp) (hS:Qt m [n1]) {v1:Value} (h1:Ow (.sl TOp) n1 [v1] x1):Ow QR m [.bool x0,v1] (x0,x1):=by
 obtain ⟨e1,la1,lb1,Sa1,Sb1⟩:=Qt.cut (l:=[]) (r:=[n1]) hS
 exact (Ow.mkPair (c1:=[_]) e1 la1 lb1 (show Ow .bool _ [_] _ from rfl) (h1.up (Sb1.1 _ (.head _))))
theorem XU {m:Mem} {cs:List Value} {g:Nat} {x0:Bool} {x1:List DOp} (h:Ow (.ptr QR) m cs (g,(x0,x1))):∃ (E:TypeId),∃ (A1:Option Addr),∃ (c1:Nat),∃ (n1:Mem),cs=[.pointer (some ⟨g,0,none⟩)]∧Qt m [Qo g (.cells [(.bool x0:Value),.slice A1 x1.length c1].toArray E (0,0)),n1]∧Ow (.sl TOp) n1 [.slice A1 x1.length c1] x1:=by
 obtain ⟨rfl,rc,E,m1,hd,l0,l1,h1⟩:=Ow.opnP h
 obtain ⟨A1,c1,n1,rfl,hS,f1⟩:=Qee h1
 exact ⟨E,A1,c1,n1,rfl,Qt.app hd l0 l1 (Qt.one (Qb _)) hS,f1⟩
theorem Q3 {m:Mem} {cs:List Value} {g:Nat} {x:JL} (h:Ow (.ptr QR) m cs (g,x)):type_of% (XU (x0:=x.1) (x1:=x.2) h):=XU (x0:=x.1) (x1:=x.2) h
theorem Y1 {m:Mem} {g:Nat} {E:TypeId} {n1:Mem}{v1:Value} (x0:Bool) (x1:List DOp) (hS:Qt m [Qo g (.cells [.bool x0,v1].toArray E (0,0)),n1]) (h1:Ow (.sl TOp) n1 [v1] x1):Ow (.ptr QR) m [.pointer (some ⟨g,0,none⟩)] (g,(x0,x1)):=
 Ow.clsP hS fun hS=>QfL x0 x1 hS h1
theorem Jo {m:Mem} {g:Nat} {E:TypeId} {n1:Mem}{v1:Value} (x:JL) (hS:Qt m [Qo g (.cells [.bool x.1,v1].toArray E (0,0)),n1]) (h1:Ow (.sl TOp) n1 [v1] x.2):Ow (.ptr QR) m [.pointer (some ⟨g,0,none⟩)] (g,x):=Y1 (x.1) (x.2) hS h1
def Qbt (t : JL) (l : List DOp) : JL × Int := if t.1 = false then (t, 1) else if ∀ o ∈ l, Q4 o = 0 then ((true, l.foldl Qax t.2), 0) else (t, 2)
section
variable {t : JL} {l tl : List DOp} {o x : DOp} {k : Nat}
theorem Qfg : ∀ (put : Bool) (t : List DOp), (Yl put t o).length ≤ t.length + 1
  | put, [] => by unfold Yl; split <;> simp
  | true, x :: t => by
    have := Qfg true t
    have h2 : (Yl true t o).length ≤ t.length := by
      clear this
      induction t with
      | nil => simp [Yl]
      | cons y t ih => rw [Yl, if_neg (fun q => by cases q.1), Bool.true_or]; split <;> (simp only [List.nil_append, List.length_append, List.length_cons, List.length_nil]; omega)
    rw [Yl, if_neg (fun q => by cases q.1), Bool.true_or]; split <;> (simp only [List.nil_append, List.length_append, List.length_cons, List.length_nil]; omega)
  | false, x :: t => by
    rw [Yl]
    by_cases hk : kl x.2.1 o.2.1
    · have := Qfg false t
      rw [if_neg (fun q => q.2 hk), decide_eq_false (not_not_intro hk), Bool.false_or]; split <;> (simp only [List.nil_append, List.length_append, List.length_cons, List.length_nil]; omega)
    · have h2 : (Yl true t o).length ≤ t.length := by
        induction t with
        | nil => simp [Yl]
        | cons y t ih => rw [Yl, if_neg (fun q => by cases q.1), Bool.true_or]; split <;> (simp only [List.nil_append, List.length_append, List.length_cons, List.length_nil]; omega)
      rw [if_pos ⟨rfl, hk⟩, decide_eq_true hk, Bool.or_true]; split <;> (simp only [List.nil_append, List.length_append, List.length_cons, List.length_nil]; omega)
theorem QnY (t:List DOp) (o:DOp):(Qax t o).length≤t.length+1:=Qfg false t
theorem QbJ : ∀ (l t : List DOp), (l.foldl Qax t).length ≤ t.length + l.length
  | [], t => Nat.le_refl _
  | o :: l, t => by
    have h1 := QnY t o
    have h2 := QbJ l (Qax t o)
    rw [List.foldl_cons, List.length_cons]; omega
theorem Qb5 (h:t.1=true) (hx:l[k]? =some x) (hc:¬ Q4 x=0):Qbt t l=(t,2):=by
 unfold Qbt;rw [if_neg (by rw [h];decide),if_neg fun q=>hc (q x (List.mem_of_getElem? hx))]
theorem Xc (h:t.1=true) (hc:∀ o∈l,Q4 o=0):Qbt t l=((true,l.foldl Qax t.2),0):=by
 unfold Qbt;rw [if_neg (by rw [h];decide),if_pos hc]
theorem QlE (hx:l[k]? =some x):(l.take (k+1)).foldl Qax tl=Qax ((l.take k).foldl Qax tl) x:=by rw [Zc hx,List.foldl_append];rfl
theorem QnA {k:Nat} (ha:∀ o∈l.take k,Q4 o=0) (hx:l[k]? =some x) (hc:¬ ¬ Q4 x=0):∀ o∈l.take (k+1),Q4 o=0:=fun o ho=>by
 rw [Zc hx] at ho
 rcases List.mem_append.1 ho with ho | ho
 ·exact ha o ho
 ·rw [List.mem_singleton.1 ho];exact Decidable.not_not.1 hc
section
variable {out : List DOp} {put : Bool} {u : List DOp} {y z : DOp}
theorem QkV (h:Qax u o=out++Yl put (u.drop k) o) (hp:put=false) (hk:¬ kl x.2.1 o.2.1) (hx:u[k]? =some x) (hn:¬ y.2.1=o.2.1) (hy:u[k]? =some y) (hz:u[k]? =some z):Qax u o=((out++[o])++[z])++Yl true (u.drop (k+1)) o  :=by
 obtain rfl:y=z:=Option.some.inj (hy.symm.trans hz)
 obtain rfl:x=y:=Option.some.inj (hx.symm.trans hy)
 rw [Qdb h hx,if_pos ⟨hp,hk⟩,if_pos hn,decide_eq_true hk,Bool.or_true];simp
theorem QkU (h:Qax u o=out++Yl put (u.drop k) o) (hp:put=false) (hk:¬ kl x.2.1 o.2.1) (hx:u[k]? =some x) (hn:¬ ¬ y.2.1=o.2.1) (hy:u[k]? =some y):Qax u o=(out++[o])++Yl true (u.drop (k+1)) o:=by
 obtain rfl:x=y:=Option.some.inj (hx.symm.trans hy)
 rw [Qdb h hx,if_pos ⟨hp,hk⟩,if_neg hn,decide_eq_true hk,Bool.or_true];simp
theorem QkT (h:Qax u o=out++Yl put (u.drop k) o) (hp:put=false) (hk:¬ ¬ kl x.2.1 o.2.1) (hx:u[k]? =some x) (hn:¬ y.2.1=o.2.1) (hy:u[k]? =some y) (hz:u[k]? =some z):Qax u o=(out++[z])++Yl put (u.drop (k+1)) o  :=by
 obtain rfl:y=z:=Option.some.inj (hy.symm.trans hz)
 obtain rfl:x=y:=Option.some.inj (hx.symm.trans hy)
 rw [Qdb h hx,if_neg fun q=>hk q.2,if_pos hn,decide_eq_false hk,Bool.or_false];simp
theorem QkQ (hk:¬ ¬ kl x.2.1 o.2.1) (hx:u[k]? =some x) (hn:¬ ¬ y.2.1=o.2.1) (hy:u[k]? =some y):False:=by
 obtain rfl:x=y:=Option.some.inj (hx.symm.trans hy)
 exact QfM (Decidable.not_not.1 hk) (Decidable.not_not.1 hn)
theorem QkS (h:Qax u o=out++Yl put (u.drop k) o) (hp:put=true) (hn:¬ y.2.1=o.2.1) (hy:u[k]? =some y) (hz:u[k]? =some z):Qax u o=(out++[z])++Yl put (u.drop (k+1)) o  :=by
 obtain rfl:y=z:=Option.some.inj (hy.symm.trans hz)
 subst hp
 rw [Qdb h hy,if_neg (fun q=>by cases q.1),if_pos hn,Bool.true_or];simp
theorem QkR (h:Qax u o=out++Yl put (u.drop k) o) (hp:put=true) (hn:¬ ¬ y.2.1=o.2.1) (hy:u[k]? =some y):Qax u o=out++Yl put (u.drop (k+1)) o:=by
 subst hp
 rw [Qdb h hy,if_neg (fun q=>by cases q.1),if_neg hn,Bool.true_or];simp
end
end
def Y3 (t : Xm) (o : DOp) : Xm := Qdq t o.2.1 (o.2.2, o.1)
def Xr (t : Xm) (l : List DOp) : Xm × Int := if ∀ o ∈ l, Q4 o = 0 then (l.foldl Y3 t, 0) else (t, 2)
section
variable {t : Xm} {l : List DOp} {x : DOp} {k : Nat}
theorem QkW (hx:l[k]? =some x):(l.take (k+1)).foldl Y3 t=Qdq ((l.take k).foldl Y3 t) x.2.1 (x.2.2,x.1):=by rw [Zc hx,List.foldl_append];rfl
theorem Qcl (hx:l[k]? =some x) (hc:¬ Q4 x=0):Xr t l=(t,2):=if_neg fun q=>hc (q x (List.mem_of_getElem? hx))
theorem Xd (hc:∀ o∈l,Q4 o=0):Xr t l=(l.foldl Y3 t,0):=if_pos hc
theorem Qhb (t : Xm) (k q : List UInt8) (v : List UInt8 × Bool) : YH (Qdq t k v) q = if k = q then some v else YH t q := by
  induction t with
  | nil => by_cases h : k = q <;> simp [Qdq, YH, h]
  | cons x t ih =>
    rw [Qdq]
    by_cases hx : x.1 = k
    · rw [if_pos hx]
      by_cases h : k = q
      · simp [YH, h]
      · have : ¬ x.1 = q := by rw [hx]; exact h
        simp [YH, h, this]
    · rw [if_neg hx]
      by_cases hq : x.1 = q
      · have : ¬ k = q := fun e => hx (hq.trans e.symm)
        simp [YH, hq, this]
      · have e1 : YH (x :: Qdq t k v) q = YH (Qdq t k v) q := by simp [YH, List.find?_cons, hq]
        have e2 : YH (x :: t) q = YH t q := by simp [YH, List.find?_cons, hq]
        rw [e1, e2, ih]
end
def Qe5 (o : DOp) : List UInt8 × Bool := (o.2.2, o.1)
def QlF (t : Xm) (u : List Jv) : Prop := ∀ q, YH t q = (Qdg u.reverse q).map Qe5
section
variable {t : Xm} {u : List Jv} {l y : List DOp} {q : Qr} {d : QS} {br : Bool} {i : Nat} {x : Jv}
theorem Qh8 : ∀ {l : List DOp} {t : Xm}, Ya l → YH (l.foldl Y3 t) q = (match ZH l q with | some o => some (Qe5 o) | none => YH t q)
  | [], t, _ => rfl
  | x :: l, t, h => by
    rw [List.foldl_cons, Qh8 (Yi h)]
    have hg := Qhb t x.2.1 q (x.2.2, x.1)
    by_cases hx : x.2.1 = q
    · have e1 : ZH (x :: l) q = some x := by unfold ZH; simp [List.find?_cons, hx]
      have e2 : ZH l q = none := by
        unfold ZH
        refine List.find?_eq_none.2 fun y hy => ?_
        have := (List.pairwise_cons.1 h.2).1 y hy
        simp only [decide_eq_true_eq]
        intro e; rw [hx, e] at this; exact Y4 _ this
      rw [e1, e2]; dsimp only
      rw [show Y3 t x = Qdq t x.2.1 (x.2.2, x.1) from rfl, hg, if_pos hx]; rfl
    · have e1 : ZH (x :: l) q = ZH l q := by unfold ZH; simp [List.find?_cons, hx]
      rw [e1, show Y3 t x = Qdq t x.2.1 (x.2.2, x.1) from rfl, hg, if_neg hx]
theorem Qp6:QlF [] []:=fun q=>rfl
theorem QnX (h:QlF t u) (hx:Ya x.2.2):QlF (x.2.2.foldl Y3 t) (u++[x]):=fun q=>by
 rw [Qh8 hx,List.reverse_append]
 show _=Option.map Qe5 (match ZH x.2.2 q with | some o=>some o | none=>Qdg u.reverse q)
 cases ZH x.2.2 q with
 | some o=>rfl
 | none=>exact h q
def Kz (d : QS) (u : List Jv) : Prop := Onn d ∧ Ku d u
theorem Qpf:Kz Qe9 []:=⟨⟨QdG,rfl,rfl,rfl⟩,ku_new⟩
theorem Qg7 (h:Kz d u) (hc:QP x=0) (hx:x.1=Qy u+1):(QJ d false u x).2=0∧Kz (QJ d false u x).1.1 (u++[x])∧(QJ d false u x).1.2=(false,u++[x]):=by
 obtain ⟨w1,w2,_⟩:=Qos (f:=2) (b:=XF x) h.1 (by decide)
 obtain ⟨s1,s2,_⟩:=Qqx w2
 have e:QJ d false u x=(((Zh (Q7 d 2 (XF x)).1).1,false,u++[x]),0):=by
  unfold QJ
  rw [if_neg (fun q=>q.elim (by decide) (· (ku_on h.2))),if_neg (not_not_intro hc),if_neg (not_not_intro hx),if_neg (not_not_intro w1),if_neg (not_not_intro s1)]
 rcases Qoz h.2 hc hx with ⟨a,b,c⟩ | ⟨a,_⟩
 ·exact ⟨a,⟨by rw [e];exact s2,b⟩,c⟩
 ·rw [e] at a;cases a
end
theorem Qkb:JE Tryz.prog 56=true:=by kernel_rfl
theorem QkB:tk Tryz.prog 108=some none:=by kernel_rfl
theorem tk113:tk Tryz.prog 113=some (some 2):=by kernel_rfl
theorem QeJ:tst Tryz.prog 110=some [(0,1)]:=by kernel_rfl
theorem Qhz:tst Tryz.prog 113=some [(0,1),(1,1)]:=by kernel_rfl
theorem tz110:tz Tryz.prog 110=some [.map none]:=by kernel_rfl
theorem Qp0:tz Tryz.prog 113=some [.string ⟨#[]⟩,.bool false]:=by kernel_rfl
theorem QgT (W:World):Qc Tryz.prog 23 [] W (mnil) (fun v m'=>∃ (s0:Nat),v=Vp s0∧Ow (.ptr QO) m' [Vp s0] (s0,([]:Xm))):=by
 refine Qc.ofA (n:=4) Tryz.func23 rfl rfl rfl ?_
 refine VC.rs (VO.as (VO.k1 0 (VC.rs ?_)))
 refine VO.mkmap 101 rfl (fun gm1 mm1 hm1=>?_)
 refine VO.z (.bst (cs:=[Value.map (some gm1)]) rfl QeJ tz110 rfl) ?_
 refine VO.box (cs:=[Value.map (some gm1)]) 103 rfl rfl rfl (fun g2=>?_)
 refine VO.as (VO.k1 0 (VC.ret ?_))
 refine XC 0 [103,101] fun hS_=>?_
 dsimp only [Qu]
 have he0:(([]:Xm):QI)=[]:=by first | rfl | (simp [*];done)
 refine ⟨g2,?_,?_⟩
 rotate_left
 ·rw [he0];exact (Z3 _ hS_ hm1)
 all_goals (first | rfl | (simp [*];done))
theorem Qeh (W:World) {m0:Mem} (hm:mle (m0) (wm W)) {g0:Nat} {d0:QI} (h0:Ow (.ptr QO) m0 [Vp g0] (g0,d0)):Qc Tryz.prog 56 [Vp g0] W (m0) (fun v m'=>v= .bool (decide (False))∧Ow (.ptr QO) m' [Vp g0] (g0,d0)):=by
 refine Qc.ofB (n:=12) hm Tryz.func56 rfl rfl rfl ?_
 refine VC.rs (VO.as (VO.k2 0 2 (VC.rs (VO.mv ?_))))
 refine VO.z (.pnil rfl rfl Tryz.underlying37 rfl) ?_
 refine VO.mv (VO.w (.mv rfl) (VO.w (.nilp rfl) (VO.w (.fa rfl QeJ rfl) ?_)))
 obtain ⟨q1_E,q1_r0,q1_n0,_,q1_S,q1_0⟩:=ZS (x0:=d0) h0
 refine VO.inv _ (fun _ h=>h.parts (i:=1) rfl q1_S [103,102]) ?_
 refine VO.w (.ld1 103 rfl QkB rfl (Qa rfl rfl)) ?_
 refine VO.w (.mnil rfl rfl Tryz.underlying108) ?_
 refine VO.z (.pF rfl rfl) (VO.as ?_)
 refine VO.clsP 104 [103,102] rfl (fun hg4=>(Z3 _ hg4 q1_0)) (fun mc4 ho4=>?_)
 refine VO.k2 0 2 (VC.ret ?_)
 exact ZD 2 104 rfl ho4 (by first | rfl | (simp [*];done)) (by first | rfl | (rfl))
theorem QeN (W:World) {m0:Mem} (hm:mle (m0) (wm W)) {g0:Nat} {d0:QI} (h0:Ow (.ptr QO) m0 [Vp g0] (g0,d0)) {v1:Value} {d1:List DOp} (h1:Rd (.sl TOp) (Ju (wm W) (m0)) [v1] d1):Qc Tryz.prog 24 [Vp g0,v1] W (m0) (fun v m'=>v= .int .i64 ((Xr d0 d1).2)∧Ow (.ptr QO) m' [Vp g0] (g0,(Xr d0 d1).1)):=by
 obtain ⟨A1,c1,rfl,l1,k1⟩:=h1.slc
 refine Qc.ofB (n:=39) hm Tryz.func24 rfl rfl rfl ?_
 refine VC.rs (VO.as (VO.k3 0 1 4 (VC.seq (VC.rs (VO.mv ?_)))))
 refine VO.call 1 rfl Qkb rfl rfl (fun W hW=>Qeh W (hW.t 1) h0) (fun v1 m1 hv1=>?_)
 obtain ⟨rfl,w1_0⟩:=hv1
 refine VO.k4 0 1 4 10 ?_
 refine VC.cond rfl (fun hc2=>?_) (fun hc2=>?_)
 exact hc2.elim
 refine VC.skip (Qg (VC.seq (VC.rs (VO.mv (VO.z (.lenS rfl QX) (VO.mv (VO.p2 1 0 (VO.k7 0 1 4 10 11 12 13 (VC.block ?_)))))))))
 refine VC.loop (G:=Nat) (fun k=>[(13,.int .i64 (((k:Nat):Int))),(0,Vp g0),(1,.slice A1 (d1.length) (c1)),(10,.bool (decide (False))),(11,.slice A1 (d1.length) (c1)),(12,.int .i64 (((d1.length:Nat):Int)))]) (fun k=>[(1,m1),(0,Ju (wm W) (m0))]) (fun k=>(k≤d1.length)∧(∀ o∈d1.take k,Q4 o=0)) (fun k=>d1.length - k) 0 (⟨by omega,by simp⟩) ⟨esn,fun _ h=>h.sub [1,0]⟩ ?_
 rintro k ⟨hk,ha⟩
 refine VC.rs (VO.z (.lss rfl rfl) (VO.k7 0 1 10 11 12 13 14 (VC.seq ?_)))
 refine VC.cond rfl (fun hc3=>?_) (fun hc3=>?_)
 refine VC.skip (Qg (VC.seq (VC.block (VC.rs ?_))))
 obtain ⟨x4,hx4⟩:∃ z_,(d1)[k]? =some z_:=⟨_,List.getElem?_eq_getElem bd⟩
 obtain ⟨gg4,oo4,ec4,ea4,hce4,hre4⟩:=h1.elem hx4
 cases ea4
 obtain ⟨rfl,q4_1,q4_2⟩:=Jr (x0:=x4.1) (x1:=x4.2.1) (x2:=x4.2.2) hre4
 simp only [maxLen] at q4_1
 simp only [maxLen] at q4_2
 refine VO.z (.ixI k rfl rfl QX rfl bd) ?_
 refine VO.z (.ldA 0 rfl Yx rfl hce4) ?_
 refine VO.alloc 106 rfl YX (fun g5=>?_)
 refine VO.store (k:=3) (c':=[.bool x4.1,str (x4.2.1),str (x4.2.2)]) 106 rfl rfl (.inl Yx) rfl rfl rfl rfl rfl ?_
 refine VO.k8 0 1 6 10 11 12 13 14 (VC.rs (VO.z (.ldA 106 rfl Yx rfl (Qa rfl rfl)) ?_))
 refine VO.callN 107 rfl Qgm rfl (fun W hW=>Qae W (Rd.mono hre4 (hW.t 0))) (fun v7 m7 hv7=>?_)
 subst hv7
 refine VO.z (.neq rfl rfl) (VO.p3 106 1 0 (VO.k9 0 1 6 10 11 12 13 14 19 ?_))
 refine VC.cond rfl (fun hc8=>?_) (fun hc8=>?_)
 ·refine VC.rs (VO.as (VO.k10 0 1 4 6 10 11 12 13 14 19 (VC.ret (Jf (QK (QK (Jf (QK ?_))))))))
  exact ZD 4 1 rfl w1_0 (by first | rfl | (first | exact congrArg Prod.fst (Qcl ‹d1[k]? =some _› Qf) | (rw [Xd (by have h_:=ha;rw [List.take_of_length_le Qp] at h_;exact h_),ht,List.take_of_length_le Qp];done))) (by first | rfl | (first | exact congrArg (Value.int _) (congrArg Prod.snd (Qcl ‹d1[k]? =some _› Qf)).symm | exact congrArg (Value.int _) (congrArg Prod.snd (Xd (by have h_:=ha;rw [List.take_of_length_le Qp] at h_;exact h_))).symm))
 refine VC.skip (Jh (Qg ?_))
 refine VC.reg ?_
 refine VO.z (.add (c:=((k+1:Nat):Int)) rfl rfl Qp ⟨bd,bd⟩) ?_
 refine VO.mv (VO.k9 0 1 6 10 11 12 13 14 19 ?_)
 exact Qg ⟨k+1,⟨by omega,by exact QnA ha ‹d1[k]? =some _› Qf⟩,bd,⟨esn,fun _ h=>Inv.sub h [1,0]⟩⟩
 refine VC.exit (JU (JU (JT (Qg (VC.seq (VC.rs (VO.mv (VO.z (.lenS rfl QX) (VO.mv (VO.k10 0 1 10 11 12 13 14 21 22 23 (VC.block ?_)))))))))))
 refine VC.loop (G:=Nat × QI × Mem) (fun g=>[(23,.int .i64 ((((g.1):Nat):Int))),(0,Vp g0),(1,.slice A1 (d1.length) (c1)),(10,.bool (decide (False))),(11,.slice A1 (d1.length) (c1)),(12,.int .i64 (((d1.length:Nat):Int))),(13,.int .i64 (((k:Nat):Int))),(14,.bool (decide (((k:Nat):Int) < ((d1.length:Nat):Int)))),(21,.slice A1 (d1.length) (c1)),(22,.int .i64 (((d1.length:Nat):Int)))]) (fun g=>[(1,(g.2.2)),(0,Ju (wm W) (m0))]) (fun g=>((g.1)≤d1.length)∧((g.2.1)=(d1.take (g.1)).foldl Y3 d0)∧(Ow (.ptr QO) (g.2.2) [Vp g0] (g0,(g.2.1)))) (fun g=>d1.length - (g.1)) (0,d0,m1) (⟨by omega,by rfl,w1_0⟩) ⟨esn,fun _ h=>h.sub [1,0]⟩ ?_
 rintro ⟨j,t,t_m⟩ ⟨hj,ht,h_t⟩
 replace hj:j≤d1.length:=hj
 replace ht:t=(d1.take j).foldl Y3 d0:=ht
 replace h_t:Ow (.ptr QO) t_m [Vp g0] (g0,t):=h_t
 show VC _ _ _ _ _ [(23,.int .i64 (((j:Nat):Int))),(0,Vp g0),(1,.slice A1 (d1.length) (c1)),(10,.bool (decide (False))),(11,.slice A1 (d1.length) (c1)),(12,.int .i64 (((d1.length:Nat):Int))),(13,.int .i64 (((k:Nat):Int))),(14,.bool (decide (((k:Nat):Int) < ((d1.length:Nat):Int)))),(21,.slice A1 (d1.length) (c1)),(22,.int .i64 (((d1.length:Nat):Int)))] [(1,t_m),(0,Ju (wm W) (m0))]
 refine VC.rs (VO.z (.lss rfl rfl) (VO.p2 1 0 (VO.k11 0 1 10 11 12 13 14 21 22 23 24 (VC.seq ?_))))
 refine VC.cond rfl (fun hc9=>?_) (fun hc9=>?_)
 ·refine VC.skip (Qg (VC.seq (VC.block (VC.rs ?_))))
  obtain ⟨x10,hx10⟩:∃ z_,(d1)[j]? =some z_:=⟨_,List.getElem?_eq_getElem bd⟩
  obtain ⟨gg10,oo10,ec10,ea10,hce10,hre10⟩:=h1.elem hx10
  cases ea10
  obtain ⟨rfl,q10_1,q10_2⟩:=Jr (x0:=x10.1) (x1:=x10.2.1) (x2:=x10.2.2) hre10
  simp only [maxLen] at q10_1
  simp only [maxLen] at q10_2
  refine VO.z (.ixI j rfl rfl QX rfl bd) ?_
  refine VO.z (.ldA 0 rfl Yx rfl hce10) ?_
  refine VO.alloc 112 rfl YX (fun g11=>?_)
  refine VO.store (k:=3) (c':=[.bool x10.1,str (x10.2.1),str (x10.2.2)]) 112 rfl rfl (.inl Yx) rfl rfl rfl rfl rfl ?_
  refine VO.k12 0 1 8 10 11 12 13 14 21 22 23 24 ?_
  obtain ⟨q13_E,q13_r0,q13_n0,_,q13_S,q13_0⟩:=ZS (x0:=t) h_t
  refine VC.inv _ (fun _ h=>h.parts (i:=1) rfl q13_S [115,114]) ?_
  refine VC.regD _ 11 [(0,true),(1,true),(2,true),(3,true),(4,true),(5,true),(6,true),(7,true),(8,true),(9,true),(10,true)] follows (by kernel_rfl) (fun _ h=>h.sub [115,114,112,0]) ?_
  refine VD.z rfl (.mv rfl) (VD.z rfl (.nilp rfl) (VD.z rfl (.fa rfl QeJ rfl) (VD.z rfl (.ld1 115 rfl QkB rfl (Qa rfl rfl)) (VD.z rfl (.fa rfl JG rfl) (VD.z rfl (.ld1 112 rfl tk9 rfl (Qa rfl rfl)) (VD.z rfl (.fa rfl JG rfl) (VD.z rfl (.ld1 112 rfl tk9 rfl (Qa rfl rfl)) (VD.z rfl (.fa rfl JG rfl) (VD.z rfl (.ld1 112 rfl tk4 rfl (Qa rfl rfl)) ?_)))))))))
  refine VD.z rfl (.bst (cs:=[str (x10.2.2),.bool x10.1]) rfl Qhz Qp0 rfl) ?_
  refine VD.nil rfl ?_ rfl
  refine VO.mupd (v:=(x10.2.2,x10.1)) 114 rfl rfl rfl Tryz.underlying108 Tryz.underlying9 rfl q13_0 bdm bdm (fun mu16 hu16=>?_)
  refine VO.clsP 117 [115,114] rfl (fun hg17=>(Z3 _ hg17 hu16)) (fun mc17 ho17=>?_)
  refine VO.k12 0 1 8 10 11 12 13 14 21 22 23 24 (Jh (Qg ?_))
  refine VC.reg ?_
  refine VO.z (.add (c:=((j+1:Nat):Int)) rfl rfl Qp ⟨bd,bd⟩) ?_
  refine VO.mv (VO.p3 117 112 0 (VO.k12 0 1 8 10 11 12 13 14 21 22 23 24 ?_))
  exact Qg ⟨⟨j+1,Qdq t x10.2.1 (x10.2.2,x10.1),mc17⟩,⟨by omega,by (rw [ht,QkW ‹d1[j]? =some _›];done),ho17⟩,bd,⟨esn,fun _ h=>Inv.sub (Inv.num h 117 1 rfl) [1,0]⟩⟩
 ·refine VC.exit (JU (JU (JT (Qg (VC.rs (VO.as (VO.k12 0 1 4 10 11 12 13 14 21 22 23 24 (VC.ret ?_))))))))
  exact ZD 4 1 rfl h_t (by first | rfl | (first | exact congrArg Prod.fst (Qcl ‹d1[k]? =some _› Qf) | (rw [Xd (by have h_:=ha;rw [List.take_of_length_le Qp] at h_;exact h_),ht,List.take_of_length_le Qp];done))) (by first | rfl | (first | exact congrArg (Value.int _) (congrArg Prod.snd (Qcl ‹d1[k]? =some _› Qf)).symm | exact congrArg (Value.int _) (congrArg Prod.snd (Xd (by have h_:=ha;rw [List.take_of_length_le Qp] at h_;exact h_))).symm))
theorem Qp9 (W:World) {m0:Mem} (hm:mle (m0) (wm W)) {g0:Nat} {d0:QI} (h0:Ow (.ptr QO) m0 [Vp g0] (g0,d0)) (d1:List UInt8) (h1:d1.length≤maxLen):Qc Tryz.prog 26 [Vp g0,str d1] W (m0) (fun v m'=>v= .tuple #[str (((YH d0 d1).getD ([],false)).1),.bool ((YH d0 d1).isSome),.bool (((YH d0 d1).getD ([],false)).2)]∧Ow (.ptr QO) m' [Vp g0] (g0,d0)):=by
 have h1':=h1;simp only [maxLen] at h1'
 refine Qc.ofB (n:=25) hm Tryz.func26 rfl rfl rfl ?_
 refine VC.rs (VO.as (VO.as (VO.as (VO.k5 0 1 4 5 6 (VC.seq (VC.rs (VO.mv ?_)))))))
 refine VO.call 1 rfl Qkb rfl rfl (fun W hW=>Qeh W (hW.t 1) h0) (fun v1 m1 hv1=>?_)
 obtain ⟨rfl,w1_0⟩:=hv1
 refine VO.k6 0 1 4 5 6 10 ?_
 refine VC.cond rfl (fun hc2=>?_) (fun hc2=>?_)
 exact hc2.elim
 ·refine VC.skip (Qg (VC.rs (VO.mv (VO.z (.nilp rfl) (VO.z (.fa rfl QeJ rfl) ?_)))))
  obtain ⟨q3_E,q3_r0,q3_n0,_,q3_S,q3_0⟩:=ZS (x0:=d0) w1_0
  refine VO.inv _ (fun _ h=>h.parts (i:=1) rfl q3_S [105,104]) ?_
  refine VO.z (.ld1 105 rfl QkB rfl (Qa rfl rfl)) (VO.mv ?_)
  have hgl6:=QjZ (Ow.mapB q3_0) d1;simp only [maxLen] at hgl6
  refine VO.z (.mlook 104 rfl rfl Tryz.underlying108 Tryz.underlying9 (QoV (by kernel_rfl)) rfl (Ow.rd q3_0 (Qb _))) ?_
  refine VO.mv (VO.z (.ext rfl rfl) (VO.z (.ext rfl rfl) ?_))
  refine VO.alloc 108 rfl Qp0 (fun g7=>?_)
  refine VO.store (k:=2) (c':=[str (((YH d0 d1).getD ([],false)).1),.bool (((YH d0 d1).getD ([],false)).2)]) 108 rfl rfl (.inl tk113) rfl rfl rfl rfl rfl ?_
  refine VO.as ?_
  refine VO.clsP 109 [105,104] rfl (fun hg9=>(Z3 _ hg9 q3_0)) (fun mc9 ho9=>?_)
  refine VO.p3 109 108 0 (VO.k8 0 1 4 5 6 7 8 10 (VC.seq ?_))
  refine VC.regD _ 7 [(0,true),(1,true),(2,true),(3,true),(4,true),(5,true),(6,true)] follows (by kernel_rfl) (fun _ h=>h.sub [109,108,0]) ?_
  refine VD.z rfl (.fa rfl Qhz rfl) (VD.z rfl (.ld1 108 rfl tk9 rfl (Qa rfl rfl)) (VD.z rfl (.mv rfl) (VD.z rfl (.fa rfl Qhz rfl) (VD.z rfl (.ld1 108 rfl tk4 rfl (Qa rfl rfl)) (VD.z rfl (.as rfl) (VD.z rfl (.as rfl) ?_))))))
  refine VD.nil rfl ?_ rfl
  refine VO.as (VO.k8 0 1 4 5 6 7 8 10 (Qg (VC.ret ?_)))
  refine Qcf 4 5 6 [109] fun hS_=>?_
  dsimp only [Qu]
  exact ⟨(by first | rfl | (simp [*];done)),(Ow.cgP (Ow.up ho9 (hS_.1 _ (.head _))))⟩
def kOp (d : Xm) (k : List UInt8) : DOp := (((YH d k).getD ([], false)).2, k, ((YH d k).getD ([], false)).1)
def tL (d : Xm) : List DOp := (XB (d.map (·.1))).map (kOp d)
def Qp7 (d : Xm) : List DOp := (tL d).filter (·.1)
def QfD (d : Xm) (L : List DOp) : Prop := Ya L ∧ ∀ q, YH d q = (ZH L q).map Qe5
theorem Qpg:∀ x y:List UInt8,kl x y↔x < y
 | [],[]=>⟨fun h=>absurd h Qh9,fun h=>absurd h (List.lt_irrefl _)⟩
 | [],b::y=>⟨fun _=>List.nil_lt_cons b y,fun _=>Qbp b y⟩
 | a::x,[]=>⟨fun h=>absurd h Qh9,fun h=>absurd h (List.not_lt_nil _)⟩
 | a::x,b::y=>by rw [XW,List.cons_lt_cons_iff,Qpg x y,UInt8.lt_iff_toNat_lt]
theorem QqI {x y:List UInt8}:x≤y↔¬ kl y x:=by rw [Qpg];exact List.not_lt.symm
theorem QlM {l L:List (List UInt8)} (hn:l.Nodup) (hL:L.Pairwise kl) (hm:∀ x,x∈l↔x∈L):XB l=L:=by
 have hLn:L.Nodup:=hL.imp fun h=>QfM h
 have hp:l.Perm L:=(List.perm_ext_iff_of_nodup hn hLn).2 hm
 have h1:XB l=XB L:=mergeSort_of_perm hp
 rw [h1]
 exact List.mergeSort_of_pairwise (hL.imp fun h=>by rw [decide_eq_true_eq,QqI];exact Qg8 h)
section
variable {d : Xm} {L t l : List DOp} {o x : DOp} {q : List UInt8}
theorem Zl:ZH (x::t) q=if x.2.1=q then some x else ZH t q:=by
 unfold ZH;by_cases h:x.2.1=q <;> simp [List.find?_cons,h]
theorem Qim : ∀ {t : List DOp}, Ya t → ZH (Qax t o) q = if o.2.1 = q then some o else ZH t q
  | [], h => by rw [show Qax [] o = [o] from rfl, Zl]
  | x :: t, h => by
    by_cases hk : kl x.2.1 o.2.1
    · rw [show Qax (x :: t) o = x :: Qax t o from Qj4 hk, Zl, Qim (Yi h), Zl]
      by_cases h1 : x.2.1 = q
      · have h2 : ¬ o.2.1 = q := fun e => QfM hk (h1.trans e.symm)
        rw [if_pos h1, if_neg h2, if_pos h1]
      · rw [if_neg h1, if_neg h1]
    · by_cases hq : x.2.1 = o.2.1
      · rw [show Qax (x :: t) o = o :: t from Qj6 h hq, Zl, Zl, hq]
        by_cases h1 : o.2.1 = q
        · rw [if_pos h1, if_pos h1]
        · rw [if_neg h1, if_neg h1, if_neg h1]
      · rw [show Qax (x :: t) o = o :: x :: t from Qj5 h hk hq, Zl]
theorem QhC:(XB (d.map (·.1))).length=d.length:=by unfold XB;rw [List.length_mergeSort,List.length_map]
theorem JO:(tL d).length=d.length:=by unfold tL;rw [List.length_map,QhC]
theorem QcW:QfD [] []:=⟨QgJ,fun _=>rfl⟩
theorem QlG (h:QfD d L) (hc:Q4 o=0):QfD (Y3 d o) (Qax L o):=⟨(QlH h.1 hc).1,fun q=>by
 rw [Qim h.1,show Y3 d o=Qdq d o.2.1 (o.2.2,o.1) from rfl,Qhb,h.2 q]
 by_cases e:o.2.1=q
 ·rw [if_pos e,if_pos e];rfl
 ·rw [if_neg e,if_neg e]⟩
theorem Qb4:∀ {l:List DOp} {d:Xm} {L:List DOp},QfD d L→(∀ o∈l,Q4 o=0)→QfD (l.foldl Y3 d) (l.foldl Qax L)
 | [],_,_,h,_=>h
 | o::l,_,_,h,hc=>Qb4 (l:=l) (QlG h (hc o (.head _))) fun x hx=>hc x (.tail _ hx)
theorem QqC:q∈d.map (·.1)↔(YH d q).isSome:=by
 unfold YH
 rw [Option.isSome_map,List.find?_isSome,List.mem_map]
 constructor
 ·rintro ⟨x,hx,rfl⟩;exact ⟨x,hx,by simp⟩
 ·rintro ⟨x,hx,h⟩;exact ⟨x,hx,by simpa using h⟩
theorem Qnd (h : Ya L) (hx : x ∈ L) : ZH L x.2.1 = some x := by
  induction L with
  | nil => cases hx
  | cons y L ih =>
    rw [Zl]
    rcases List.mem_cons.1 hx with rfl | hx
    · rw [if_pos rfl]
    · rw [if_neg fun e => QfM ((List.pairwise_cons.1 h.2).1 x hx) e, ih (Yi h) hx]
theorem Qmx:q∈L.map (·.2.1)↔(ZH L q).isSome:=by
 unfold ZH
 rw [List.find?_isSome,List.mem_map]
 constructor
 ·rintro ⟨x,hx,rfl⟩;exact ⟨x,hx,by simp⟩
 ·rintro ⟨x,hx,h⟩;exact ⟨x,hx,by simpa using h⟩
theorem QiJ (hn:(d.map (·.1)).Nodup) (h:QfD d L):tL d=L∧d.length=L.length:=by
 have hk:XB (d.map (·.1))=L.map (·.2.1):=QlM hn (List.pairwise_map.2 h.1.2) fun x=>by
  rw [QqC,Qmx,h.2 x,Option.isSome_map]
 have h1:tL d=L:=by
  unfold tL;rw [hk,List.map_map]
  conv=>rhs;rw [← List.map_id L]
  refine List.map_congr_left fun x hx=>?_
  show kOp d x.2.1=x
  unfold kOp;rw [h.2,Qnd h.1 hx];rfl
 refine ⟨h1,?_⟩
 have h2:(tL d).length=d.length:=by unfold tL XB;rw [List.length_map,List.length_mergeSort,List.length_map]
 rw [← h2,h1]
end
def vsE (l : List DOp) (a : Int) (args : List Value) (mr : Mem) : Prop := 0 ≤ a ∧ a < l.length ∧ mr = mnil ∧ ∃ x, l[a.toNat]? = some x ∧ x.2.1.length ≤ maxLen ∧ x.2.2.length ≤ maxLen ∧ args = [.agg [.bool x.1, str x.2.1, str x.2.2].toArray]
def vsN (a : Int) : Int := a + 1
def vsD (l : List DOp) (a : Int) : Prop := (l.length : Int) ≤ a
def lvE (l : List DOp) (a : Int) (args : List Value) (mr : Mem) : Prop := 0 ≤ a ∧ a < (l.filter (·.1)).length ∧ mr = mnil ∧ ∃ x, (l.filter (·.1))[a.toNat]? = some x ∧ x.2.1.length ≤ maxLen ∧ x.2.2.length ≤ maxLen ∧ args = [str x.2.1, str x.2.2]
def lvD (l : List DOp) (a : Int) : Prop := ((l.filter (·.1)).length : Int) ≤ a
theorem QnO {l:List DOp} {gc:Nat} {A:Option Addr} {c:Nat} {mL:Mem} (hL:Ow (.sl TOp) mL [.slice A l.length c] l) (hd:mdj (Qo gc (.cells [(.slice A l.length c:Value)].toArray 34 (0,0))) mL) (hlen:l.length≤1000000000):
  Qby Tryz.prog 128 [Vp gc] (mun (Qo gc (.cells [(.slice A l.length c:Value)].toArray 34 (0,0))) mL) (vsE l) vsN 0 (vsD l):=by
 intro G M I X lp W g0 h0 hm hdj hy
 obtain ⟨lB,kB⟩:=Ow.rm hL
 have d1:mdj (M g0) (Qo gc (.cells [(.slice A l.length c:Value)].toArray 34 (0,0))):=hdj.mono (Qb _) (Js _ _)
 have d2:mdj (M g0) mL:=hdj.mono (Qb _) (Jn hd)
 refine Qc.ofX (n:=16) Tryz.func128 rfl rfl rfl hm ?_
 refine VX.parts 1 [1,2,3] (l:=[M g0,Qo gc (.cells [(.slice A l.length c:Value)].toArray 34 (0,0)),mL]) rfl ⟨fun x hx=>?_,List.pairwise_cons.2 ⟨fun x hx=>?_,List.pairwise_cons.2 ⟨fun x hx=>?_,List.pairwise_singleton _ _⟩⟩⟩ ?_
 ·simp only [List.mem_cons,List.not_mem_nil,or_false] at hx
  rcases hx with rfl | rfl | rfl
  ·exact Js _ _
  ·exact (Js _ _).trans (Jn hdj)
  ·exact (Jn hd).trans (Jn hdj)
 ·simp only [List.mem_cons,List.not_mem_nil,or_false] at hx
  rcases hx with rfl | rfl
  ·exact d1
  ·exact d2
 ·simp only [List.mem_cons,List.not_mem_nil,or_false] at hx
  subst hx;exact hd
 refine VX.rs ?_
 refine VO.z (.ld1 2 rfl (by kernel_rfl) rfl (Qa rfl rfl)) ?_
 refine VO.z (.lenS rfl QX) ?_
 refine VO.mv ?_
 refine VO.k5 0 1 5 6 7 ?_
 refine VX.block ?_
 refine VX.loop (G:=Int × G) (fun s=>[(0,.func (.yield lp) #[] #[]),(1,Vp gc),(5,.slice A l.length c),(6,.int .i64 (l.length:Int)),(7,.int .i64 s.1)]) (fun s=>[(1,M s.2),(2,Qo gc (.cells [(.slice A l.length c:Value)].toArray 34 (0,0))),(3,mL),(0,Ju (wm W) (mun (M g0) (mun (Qo gc (.cells [(.slice A l.length c:Value)].toArray 34 (0,0))) mL)))]) (fun s=>I s.1 s.2∧0≤s.1∧s.1≤l.length) (fun s=>(l.length - s.1).toNat) ((0:Int),g0) ⟨h0,by dsimp only;omega,by dsimp only;omega⟩ ⟨esn,fun _ h=>h.sub [1,2,3,0]⟩ ?_
 rintro ⟨a,g⟩ ⟨hI,ha,hal⟩
 dsimp only at hI ha hal
 show VX _ _ _ _ _ _ _ [(0,.func (.yield lp) #[] #[]),(1,Vp gc),(5,.slice A l.length c),(6,.int .i64 (l.length:Int)),(7,.int .i64 a)] [(1,M g),(2,Qo gc (.cells [(.slice A l.length c:Value)].toArray 34 (0,0))),(3,mL),(0,Ju (wm W) (mun (M g0) (mun (Qo gc (.cells [(.slice A l.length c:Value)].toArray 34 (0,0))) mL)))]
 refine VX.rs ?_
 refine VO.z (.lss rfl rfl) ?_
 refine VO.k6 0 1 5 6 7 8 ?_
 refine VX.seq ?_
 refine VX.cond rfl (fun hc=>?_) (fun hc=>?_)
 ·refine VX.skip (Qg ?_)
  refine VX.seq (VX.block ?_)
  obtain ⟨x,hx⟩:∃ x,l[a.toNat]? =some x:=⟨_,List.getElem?_eq_getElem Qp⟩
  obtain ⟨gg,oo,ec,ea,hce,hre⟩:=(hL.rd (Qb _)).elem hx
  cases ea
  obtain ⟨rfl,q1,q2⟩:=Jr (x0:=x.1) (x1:=x.2.1) (x2:=x.2.2) hre
  refine VX.rs ?_
  refine VO.z (.ixI a.toNat rfl rfl QX Qp Qp) ?_
  refine VO.z (.ldA 3 rfl (by kernel_rfl) rfl hce) ?_
  refine VO.alloc 9 rfl (show tz Tryz.prog 64=some [.bool false,str [],str []] by kernel_rfl) (fun gB=>?_)
  refine VO.store (k:=3) (c':=[.bool x.1,str x.2.1,str x.2.2]) 9 rfl rfl (.inl (by kernel_rfl)) rfl rfl rfl rfl rfl ?_
  refine VO.k6 0 1 5 6 7 4 ?_
  refine VX.seq ?_
  refine VX.regL _ (hix:=?_) (VL.pre (r:=[2,3]) 2 (by kernel_rfl) ?_)
  ·kernel_rfl
  refine VO.mv ?_
  refine VO.z (.ldA 9 rfl (by kernel_rfl) rfl (Qa (k:=3) (cs:=[.bool x.1,str x.2.1,str x.2.2]) rfl rfl)) ?_
  refine VO.nil ?_
  refine VL.yield 1 rfl rfl (.inl rfl) rfl rfl rfl (fun W' hW=>by have h_:=hy a g _ mnil W' hI ⟨ha,hc,rfl,x,hx,q1,q2,rfl⟩ ((hW.nilc 12).sub [0,1,12]).three;rw [Yv] at h_;exact h_) (fun v m' hv=>?_)
  obtain ⟨g',rfl,hv⟩:=hv
  rcases hv with ⟨rfl,hI'⟩ | ⟨rfl,hX⟩
  ·refine VL.post 3 rfl (by kernel_rfl) ?_
   refine VO.z (.not rfl) ?_
   refine VO.k6 0 1 5 6 7 14 ?_
   refine Qg (VX.condF rfl ?_)
   refine VX.skip (Jh (Qg ?_))
   refine VX.reg ?_
   refine VO.z (.add (c:=vsN a) rfl rfl rfl ⟨by unfold vsN;omega,by unfold vsN;omega⟩) ?_
   refine VO.mv ?_
   refine VO.nil ?_
   refine Qg ⟨rfl,(vsN a,g'),⟨hI',by unfold vsN;dsimp only;omega,by unfold vsN;dsimp only;omega⟩,by unfold vsN;dsimp only;omega,⟨esn,fun _ h=>h.sub [1,2,3,0]⟩⟩
  ·refine VL.post 3 rfl (by kernel_rfl) ?_
   refine VO.z (.not rfl) ?_
   refine VO.k6 0 1 5 6 7 14 ?_
   refine Qg (VX.condT rfl ?_)
   refine VX.ret ?_
   refine Jf (QK (QK (Jf ?_)))
   refine ⟨_,_,QE (rs:=[]) rfl .nil,fun W_ hI_=>Q2 (l:=[M g']) hI_ [1] rfl rfl (Qb _) (fun hS_=>⟨g',Yv _,.inl hX⟩)⟩
 ·refine VX.exit (JU (JU (JT ?_)))
  refine ⟨_,_,QE (rs:=[]) rfl .nil,fun W_ hI_=>Q2 (l:=[M g]) hI_ [1] rfl rfl (Qb _) (fun hS_=>⟨g,Yv _,.inr ⟨a,hI,by unfold vsD;omega⟩⟩)⟩
theorem Qrf:JE Tryz.prog 104=true:=by kernel_rfl
theorem Qre:JE Tryz.prog 105=true:=by kernel_rfl
theorem QkA:tsl Tryz.prog 57=some (9,1,16):=by kernel_rfl
theorem Qp8 (W:World) {m0:Mem} (hm:mle (m0) (wm W)) {g0:Nat} {d0:QI} (h0:Ow (.ptr QO) m0 [Vp g0] (g0,d0)):Qc Tryz.prog 41 [Vp g0] W (m0) (fun v m'=>v= .int .i64 ((d0.length:Nat):Int)∧Ow (.ptr QO) m' [Vp g0] (g0,d0)):=by
 refine Qc.ofB (n:=10) hm Tryz.func41 rfl rfl rfl ?_
 refine VC.rs (VO.as (VO.k2 0 2 (VC.seq (VC.rs (VO.mv ?_)))))
 refine VO.call 1 rfl Qkb rfl rfl (fun W hW=>Qeh W (hW.t 1) h0) (fun v1 m1 hv1=>?_)
 obtain ⟨rfl,w1_0⟩:=hv1
 refine VO.k3 0 2 4 ?_
 refine VC.cond rfl (fun hc2=>?_) (fun hc2=>?_)
 exact hc2.elim
 ·refine VC.skip (Qg (VC.rs (VO.mv (VO.z (.nilp rfl) (VO.z (.fa rfl QeJ rfl) ?_)))))
  obtain ⟨q3_E,q3_r0,q3_n0,_,q3_S,q3_0⟩:=ZS (x0:=d0) w1_0
  refine VO.inv _ (fun _ h=>h.parts (i:=1) rfl q3_S [105,104]) ?_
  refine VO.z (.ld1 105 rfl QkB rfl (Qa rfl rfl)) ?_
  refine VO.z (.mlen 104 rfl Tryz.underlying108 rfl (Ow.rd q3_0 (Qb _))) ?_
  refine VO.as ?_
  refine VO.clsP 106 [105,104] rfl (fun hg6=>(Z3 _ hg6 q3_0)) (fun mc6 ho6=>?_)
  refine VO.p2 106 0 (VO.k3 0 2 4 (VC.ret ?_))
  exact ZD 2 106 rfl ho6 (by first | rfl | (simp [*];done)) (by first | rfl | (simp [*];done))
theorem QnZ (W:World) {m0:Mem} (hm:mle (m0) (wm W)) {g0:Nat} {d0:QI} (h0:Ow (.ptr QO) m0 [Vp g0] (g0,d0)) (e0:d0.length≤1000000):Qc Tryz.prog 58 [Vp g0] W (m0) (fun v m'=>∃ (s0:Value),∃ (p0:Mem),∃ (p1:Mem),v=s0∧Qt m' [p0,p1]∧Ow (.sl TOp) p0 [s0] (tL d0)∧Ow (.ptr QO) p1 [Vp g0] (g0,d0)):=by
 refine Qc.ofB (n:=37) hm Tryz.func58 rfl rfl rfl ?_
 refine VC.rs (VO.as (VO.k2 0 2 (VC.seq (VC.rs (VO.mv ?_)))))
 refine VO.call 1 rfl Qkb rfl rfl (fun W hW=>Qeh W (hW.t 1) h0) (fun v1 m1 hv1=>?_)
 obtain ⟨rfl,w1_0⟩:=hv1
 refine VO.k3 0 2 8 ?_
 refine VC.cond rfl (fun hc2=>?_) (fun hc2=>?_)
 exact hc2.elim
 refine VC.skip (Qg (VC.rs (VO.as (VO.p2 1 0 (VO.k4 0 2 3 8 (VC.seq (VC.rs (VO.mv (VO.z (.nilp rfl) (VO.z (.fa rfl QeJ rfl) ?_))))))))))
 obtain ⟨q3_E,q3_r0,q3_n0,_,q3_S,q3_0⟩:=ZS (x0:=d0) w1_0
 refine VO.inv _ (fun _ h=>h.parts (i:=1) rfl q3_S [105,104]) ?_
 refine VO.z (.ld1 105 rfl QkB rfl (Qa rfl rfl)) ?_
 refine VO.callN 106 rfl Qre rfl (fun W_ hW_=>QqK W_ (some q3_r0)) (fun v6 m6 hv6=>?_)
 obtain ⟨gk6,rfl,rfl⟩:=hv6
 refine VO.callN 107 rfl Qrf rfl (fun W_ hW_=>Qqa W_ (hW_.at (i:=106) rfl) (hW_.at (i:=104) rfl) (Ow.rd q3_0 (Qb _)) bd) (fun v7 m7 hv7=>?_)
 obtain ⟨A7,c7,rfl,l7,k7⟩:=hv7.slc
 have hsl:=QhC (d:=d0)
 refine VO.z (.lenS rfl QkA) (VO.mv ?_)
 refine VO.clsP 108 [105,104] rfl (fun hg8=>(Z3 _ hg8 q3_0)) (fun mc8 ho8=>?_)
 refine VO.k7 0 2 3 8 14 15 16 (VC.block ?_)
 refine VC.inv ((109,mnil)::_) (fun _ h=>h.nilc 109) ?_
 refine VC.loop (G:=Nat × (List DOp) × (Option Addr) × Nat × Mem × Mem) (fun g=>[(3,.slice (g.2.2.1) ((g.2.1).length) ((g.2.2.2.1))),(16,.int .i64 ((((g.1):Nat):Int))),(0,Vp g0),(2,.slice none (0) (0)),(8,.bool (decide (False))),(14,.slice A7 ((XB (d0.map (·.1))).length) (c7)),(15,.int .i64 ((((XB (d0.map (·.1))).length:Nat):Int)))]) (fun g=>[(109,(g.2.2.2.2.1)),(108,(g.2.2.2.2.2)),(107,m7),(0,Ju (wm W) (m0))]) (fun g=>((g.1)≤(XB (d0.map (·.1))).length)∧((g.2.1)=((XB (d0.map (·.1))).take (g.1)).map (kOp d0))∧(Qz TOp (g.2.2.2.2.1) mnil (.slice (g.2.2.1) (g.2.1).length (g.2.2.2.1)) (g.2.1))∧(Ow (.ptr QO) (g.2.2.2.2.2) [Vp g0] (g0,d0))) (fun g=>(XB (d0.map (·.1))).length - (g.1)) (0,[],none,0,mnil,mc8) (⟨by omega,by rfl,(Qz.nil TOp mnil mnil),ho8⟩) ⟨esn,fun _ h=>h.sub [109,108,107,0]⟩ ?_
 rintro ⟨k,out,out_A,out_c,out_m,t_m⟩ ⟨hk,ho,h_out,h_t⟩
 replace hk:k≤(XB (d0.map (·.1))).length:=hk
 replace ho:out=((XB (d0.map (·.1))).take k).map (kOp d0):=ho
 replace h_out:Qz TOp out_m mnil (.slice out_A out.length out_c) out:=h_out
 replace h_t:Ow (.ptr QO) t_m [Vp g0] (g0,d0):=h_t
 show VC _ _ _ _ _ [(3,.slice out_A (out.length) (out_c)),(16,.int .i64 (((k:Nat):Int))),(0,Vp g0),(2,.slice none (0) (0)),(8,.bool (decide (False))),(14,.slice A7 ((XB (d0.map (·.1))).length) (c7)),(15,.int .i64 ((((XB (d0.map (·.1))).length:Nat):Int)))] [(109,out_m),(108,t_m),(107,m7),(0,Ju (wm W) (m0))]
 have l_out:out.length≤out_c:=by obtain ⟨_,_,he,hl,_⟩:=h_out.slice;simp only [Value.slice.injEq] at he;omega
 have k_out:out_c≤9223372036854775807:=by obtain ⟨_,_,he,_,hl⟩:=h_out.slice;simp only [Value.slice.injEq,maxLen] at he hl;omega
 have hlo:out.length=k:=by rw [ho,List.length_map,List.length_take];omega
 refine VC.rs (VO.z (.lss rfl rfl) (VO.k8 0 2 3 8 14 15 16 17 (VC.seq ?_)))
 refine VC.cond rfl (fun hc10=>?_) (fun hc10=>?_)
 ·refine VC.skip (Qg (VC.seq (VC.block (VC.rs ?_))))
  obtain ⟨x11,hx11⟩:∃ z_,((XB (d0.map (·.1))))[k]? =some z_:=⟨_,List.getElem?_eq_getElem bd⟩
  obtain ⟨gg11,oo11,ec11,ea11,hce11,hre11⟩:=(Ow.rd hv7 (Qb _)).elem hx11
  cases ea11
  obtain ⟨rfl,q11⟩:=hre11
  have q11':=q11;simp only [maxLen] at q11'
  refine VO.z (.ixI k rfl rfl QkA rfl bd) ?_
  refine VO.z (.ld1 107 rfl tk9 rfl hce11) ?_
  refine VO.as (VO.p4 109 108 107 0 (VO.k9 0 2 3 5 8 14 15 16 17 (VC.rs (VO.mv (VO.z (.nilp rfl) (VO.z (.fa rfl QeJ rfl) ?_))))))
  obtain ⟨q12_E,q12_r0,q12_n0,_,q12_S,q12_0⟩:=ZS (x0:=d0) h_t
  refine VO.inv _ (fun _ h=>h.parts (i:=108) rfl q12_S [114,113]) ?_
  refine VO.z (.ld1 114 rfl QkB rfl (Qa rfl rfl)) (VO.mv ?_)
  have hgl15:=QjZ (Ow.mapB q12_0) x11;simp only [maxLen] at hgl15
  refine VO.z (.mlook1 113 rfl rfl Tryz.underlying108 Tryz.underlying9 (QoV (by kernel_rfl)) rfl (Ow.rd q12_0 (Qb _))) ?_
  refine VO.alloc 117 rfl Qp0 (fun g16=>?_)
  refine VO.store (k:=2) (c':=[str (((YH d0 x11).getD ([],false)).1),.bool (((YH d0 x11).getD ([],false)).2)]) 117 rfl rfl (.inl tk113) rfl rfl rfl rfl rfl ?_
  refine VO.clsP 118 [114,113] rfl (fun hg18=>(Z3 _ hg18 q12_0)) (fun mc18 ho18=>?_)
  refine VO.k10 0 2 3 5 6 8 14 15 16 17 ?_
  refine VC.reg ?_
  refine VO.mv (VO.z (.fa rfl Qhz rfl) (VO.z (.ld1 117 rfl tk4 rfl (Qa rfl rfl)) (VO.mv (VO.z (.fa rfl Qhz rfl) (VO.z (.ld1 117 rfl tk9 rfl (Qa rfl rfl)) ?_)))))
  refine VO.z (.bst (cs:=[.bool (((YH d0 x11).getD ([],false)).2),str (x11),str (((YH d0 x11).getD ([],false)).1)]) rfl JG YX rfl) ?_
  refine VO.bsl (cs:=[.bool (((YH d0 x11).getD ([],false)).2),str (x11),str (((YH d0 x11).getD ([],false)).1)]) 120 rfl rfl QX YX rfl rfl (fun g19=>?_)
  obtain ⟨mo21,cs21,hM21,hA21,hC21⟩:=h_out
  refine VO.app 109 rfl rfl rfl QX YX rfl rfl hM21 hA21 (.row 120 _ _ _ 1 1 _ _ Tryz.underlying34 rfl (Qa rfl rfl)) (by simp [Value.oneCell']) bdm bd (by decide) (fun v21 m21 hN21=>?_)
  have ho21:Qz TOp m21 mnil v21 (out++[(((YH d0 x11).getD ([],false)).2,x11,((YH d0 x11).getD ([],false)).1)]):=Qz.one hC21 hN21 (Xl (m:=_) (((YH d0 x11).getD ([],false)).2) x11 (((YH d0 x11).getD ([],false)).1) bdm bdm)
  obtain ⟨A21,c21,rfl,l21,k21⟩:=ho21.slc
  refine VO.as (VO.k10 0 2 3 5 6 8 14 15 16 17 (Jh (Qg ?_)))
  refine VC.reg ?_
  refine VO.z (.add (c:=((k+1:Nat):Int)) rfl rfl Qp ⟨bd,bd⟩) ?_
  refine VO.mv (VO.p5 118 117 109 107 0 (VO.k10 0 2 3 5 6 8 14 15 16 17 ?_))
  exact Qg ⟨⟨k+1,out++[(((YH d0 x11).getD ([],false)).2,x11,((YH d0 x11).getD ([],false)).1)],A21,c21,m21,mc18⟩,⟨by omega,by (rw [ho,Zc ‹(XB (d0.map (·.1)))[k]? =some _›,List.map_append];rfl),ho21,ho18⟩,bd,⟨esn,fun _ h=>Inv.sub (Inv.num h 118 108 rfl) [109,108,107,0]⟩⟩
 ·refine VC.exit (JU (JU (JT (Qg (VC.rs (VO.mv (VO.as (VO.p4 109 108 107 0 (VO.k8 0 2 3 8 14 15 16 17 (VC.ret ?_))))))))))
  refine ⟨_,_,QE (rs:=[.tmp 2]) rfl (.tmp rfl .nil),fun W_ hI=>Q2 (l:=[out_m,t_m]) hI [109,108] rfl rfl (Qb _) (fun hS_=>?_)⟩
  dsimp only [Qu]
  refine ⟨.slice out_A (out.length) (out_c),Zs [out_m],Zs [t_m],?_,?_,?_,?_⟩
  rotate_left
  ·exact Qt.grp (ls:=[[out_m],[t_m]]) hS_
  ·exact Ow.cg (Ow.up (Qz.ow h_out rfl) ((Qt.self hS_ (List.Sublist.cons_cons _ (List.Sublist.cons _ List.Sublist.slnil))).1 _ (.head _))) (by first | rfl | ((rw [ho,List.take_of_length_le Qp];rfl)))
  ·exact Ow.cgP (Ow.up h_t ((Qt.self hS_ (List.Sublist.cons _ (List.Sublist.cons_cons _ List.Sublist.slnil))).1 _ (.head _))) (by first | rfl | ((rw [ho,List.take_of_length_le Qp];rfl)))
  all_goals (first | rfl | (simp [*];done))
theorem QpU (W:World) {m0:Mem} (hm:mle m0 (wm W)) {v0:Value} {d0:List DOp} (h0:Ow (.sl TOp) m0 [v0] d0) (e0:d0.length≤1000000):Qc Tryz.prog 87 [v0] W m0 (fun v m'=>∃ caps,v= .func (.func 128) #[] (List.toArray caps)∧Qby Tryz.prog 128 caps m' (vsE d0) vsN 0 (vsD d0)):=by
 obtain ⟨A0,c0,rfl,l0,k0⟩:=h0.slice
 refine Qc.ofB (n:=4) hm Tryz.func87 rfl rfl rfl ?_
 refine VC.rs ?_
 refine VO.box (cs:=[(.slice A0 d0.length c0:Value)]) 101 rfl rfl rfl (fun g1=>?_)
 refine VO.as (VO.k1 1 (VC.rs (VO.z (.mkf rfl) (VO.as (VO.k1 2 (VC.ret ?_))))))
 refine ⟨_,_,QE (rs:=[.tmp 2]) rfl (.tmp rfl .nil),fun W_ hI=>Q2 (l:=[Qo g1 (.cells #[(.slice A0 d0.length c0:Value)] 34 (0,0)),m0]) hI [101,1] rfl rfl (Qb _) (fun hS_=>⟨[Vp g1],rfl,?_⟩)⟩
 show Qby _ _ _ (mun _ (mun m0 mnil)) _ _ _ _
 rw [Yv]
 exact QnO h0 ((List.pairwise_cons.1 hS_.2).1 _ (.head _)) Qp
theorem JA (W:World) {m0:Mem} (hm:mle (m0) (wm W)) {g0:Nat} {d0:QI} (h0:Ow (.ptr QO) m0 [Vp g0] (g0,d0)) (e0:d0.length≤1000000):Qc Tryz.prog 44 [Vp g0] W m0 (fun v m'=>∃ caps p0 p1,v= .func (.func 128) #[] (List.toArray caps)∧Qt m' [p0,p1]∧Qby Tryz.prog 128 caps p0 (vsE (tL d0)) vsN 0 (vsD (tL d0))∧Ow (.ptr QO) p1 [Vp g0] (g0,d0)):=by
 refine Qc.ofB (n:=6) hm Tryz.func44 rfl rfl rfl ?_
 refine VC.rs (VO.as (VO.k2 0 2 (VC.rs (VO.mv ?_))))
 refine VO.call 1 rfl (by kernel_rfl) rfl rfl (fun W hW=>QnZ W (hW.t 1) h0 e0) (fun v1 m1 hv1=>?_)
 obtain ⟨s1,p0,p1,rfl,hS1,f1,w1⟩:=hv1
 refine VO.inv _ (fun _ h=>h.parts (i:=1) rfl hS1 [10,11]) ?_
 refine VO.call 10 rfl (by kernel_rfl) rfl rfl (fun W hW=>QpU W (hW.t 10) f1 (by rw [JO];exact e0)) (fun v2 m2 hv2=>?_)
 obtain ⟨caps,rfl,hit⟩:=hv2
 refine VO.as (VO.k2 0 2 (VC.ret ?_))
 refine ⟨_,_,QE (rs:=[.tmp 2]) rfl (.tmp rfl .nil),fun W_ hI=>Q2 (l:=[m2,p1]) hI [10,11] rfl rfl (Qb _) (fun hS_=>⟨caps,m2,p1,rfl,hS_,hit,w1⟩)⟩
abbrev Qs : Ty := .pair (.ptr QO) (.pair (.ptr JN) (.sl QA))
abbrev QfA := (Nat × QI) × (Nat × QaN) × (List Qe)
theorem Qan {m:Mem} {cs:List Value} {x0:Nat × QI} {x1:Nat × QaN} {x2:List Qe} (h:Rd Qs m cs (x0,x1,x2)):∃ (A2:Option Addr),∃ (c2:Nat),cs=[(.pointer (some ⟨x0.1,0,none⟩):Value),.pointer (some ⟨x1.1,0,none⟩),.slice A2 x2.length c2]∧Rd (.ptr QO) m [.pointer (some ⟨x0.1,0,none⟩)] x0∧Rd (.ptr JN) m [.pointer (some ⟨x1.1,0,none⟩)] x1∧Rd (.sl QA) m [.slice A2 x2.length c2] x2:=by
 obtain ⟨p1,q1,rfl,u1,w1⟩:=Rd.pair h
 have z2:=u1
 obtain ⟨rfl,_⟩:=u1
 obtain ⟨p3,q3,rfl,u3,w3⟩:=Rd.pair w1
 have z4:=u3
 obtain ⟨rfl,_⟩:=u3
 have z5:=w3
 obtain ⟨A5,c5,rfl,_⟩:=Rd.slice1 w3
 exact ⟨A5,c5,rfl,z2,z4,z5⟩
theorem YT {m:Mem} (x0:Nat × QI) (x1:Nat × QaN) (x2:List Qe) {v0:Value} (h0:Rd (.ptr QO) m [v0] x0) {v1:Value} (h1:Rd (.ptr JN) m [v1] x1) {v2:Value} (h2:Rd (.sl QA) m [v2] x2):Rd Qs m [v0,v1,v2] (x0,x1,x2):=(Rd.mkPair (c1:=[_]) h0 (Rd.mkPair (c1:=[_]) h1 h2))
theorem Qec {m:Mem} {cs:List Value} {x0:Nat × QI} {x1:Nat × QaN} {x2:List Qe} (h:Ow Qs m cs (x0,x1,x2)):∃ (A2:Option Addr),∃ (c2:Nat),∃ (n0:Mem),∃ (n1:Mem),∃ (n2:Mem),cs=[(.pointer (some ⟨x0.1,0,none⟩):Value),.pointer (some ⟨x1.1,0,none⟩),.slice A2 x2.length c2]∧Qt m [n0,n1,n2]∧Ow (.ptr QO) n0 [.pointer (some ⟨x0.1,0,none⟩)] x0∧Ow (.ptr JN) n1 [.pointer (some ⟨x1.1,0,none⟩)] x1∧Ow (.sl QA) n2 [.slice A2 x2.length c2] x2:=by
 obtain ⟨p1,q1,ma1,mb1,rfl,dj1,la1,lb1,u1,w1⟩:=Ow.pair h
 have z2:=u1
 obtain ⟨rfl,_⟩:=u1
 obtain ⟨p3,q3,ma3,mb3,rfl,dj3,la3,lb3,u3,w3⟩:=Ow.pair w1
 have z4:=u3
 obtain ⟨rfl,_⟩:=u3
 have z5:=w3
 obtain ⟨A5,c5,rfl,_⟩:=Ow.slice1 w3
 exact ⟨A5,c5,_,_,_,rfl,(Qt.app dj1 la1 lb1 (Qt.one (Qb _)) (Qt.app dj3 la3 lb3 (Qt.one (Qb _)) (Qt.one (Qb _)))),z2,z4,z5⟩
theorem QfJ {m:Mem} {n0 n1 n2:Mem} (x0:Nat × QI) (x1:Nat × QaN) (x2:List Qe) (hS:Qt m [n0,n1,n2]) {v0:Value} (h0:Ow (.ptr QO) n0 [v0] x0) {v1:Value} (h1:Ow (.ptr JN) n1 [v1] x1) {v2:Value} (h2:Ow (.sl QA) n2 [v2] x2):Ow Qs m [v0,v1,v2] (x0,x1,x2):=by
 obtain ⟨e1,la1,lb1,Sa1,Sb1⟩:=Qt.cut (l:=[n0]) (r:=[n1,n2]) hS
 obtain ⟨e2,la2,lb2,Sa2,Sb2⟩:=Qt.cut (l:=[n1]) (r:=[n2]) Sb1
 exact (Ow.mkPair (c1:=[_]) e1 la1 lb1 (h0.up (Sa1.1 _ (.head _))) (Ow.mkPair (c1:=[_]) e2 la2 lb2 (h1.up (Sa2.1 _ (.head _))) (h2.up (Sb2.1 _ (.head _)))))
theorem Jl {m:Mem} {cs:List Value} {g:Nat} {x0:Nat × QI} {x1:Nat × QaN} {x2:List Qe} (h:Ow (.ptr Qs) m cs (g,(x0,x1,x2))):∃ (E:TypeId),∃ (A2:Option Addr),∃ (c2:Nat),∃ (n0:Mem),∃ (n1:Mem),∃ (n2:Mem),cs=[.pointer (some ⟨g,0,none⟩)]∧Qt m [Qo g (.cells [(.pointer (some ⟨x0.1,0,none⟩):Value),.pointer (some ⟨x1.1,0,none⟩),.slice A2 x2.length c2].toArray E (0,0)),n0,n1,n2]∧Ow (.ptr QO) n0 [.pointer (some ⟨x0.1,0,none⟩)] x0∧Ow (.ptr JN) n1 [.pointer (some ⟨x1.1,0,none⟩)] x1∧Ow (.sl QA) n2 [.slice A2 x2.length c2] x2:=by
 obtain ⟨rfl,rc,E,m1,hd,l0,l1,h1⟩:=Ow.opnP h
 obtain ⟨A2,c2,n0,n1,n2,rfl,hS,f0,f1,f2⟩:=Qec h1
 exact ⟨E,A2,c2,n0,n1,n2,rfl,Qt.app hd l0 l1 (Qt.one (Qb _)) hS,f0,f1,f2⟩
theorem Qd {m:Mem} {g:Nat} {E:TypeId} {n0 n1 n2:Mem}{v0:Value}{v1:Value}{v2:Value} (x0:Nat × QI) (x1:Nat × QaN) (x2:List Qe) (hS:Qt m [Qo g (.cells [v0,v1,v2].toArray E (0,0)),n0,n1,n2]) (h0:Ow (.ptr QO) n0 [v0] x0) (h1:Ow (.ptr JN) n1 [v1] x1) (h2:Ow (.sl QA) n2 [v2] x2):Ow (.ptr Qs) m [.pointer (some ⟨g,0,none⟩)] (g,(x0,x1,x2)):=
 Ow.clsP hS fun hS=>QfJ x0 x1 x2 hS h0 h1 h2
def sT (r : List Qe) : Xm := r.foldl (fun t c => (Xr t c.2.2).1) []
def Zm (l : List Jv) : Xm := l.foldl (fun t x => (Xr t x.2.2).1) []
abbrev okS (l : List Jv) (r : List Qe) : Prop := (Qi 1 (Qy l) r).1 = 0
def QjJ (l : List Jv) (r : List Qe) (q : Qr) : Qr × Bool := match YH (sT r) q with
  | some p => p
  | none => ((Qj7 l q).1, (Qj7 l q).2.2)
def Qpe (o : DOp) (k : List DOp → List DOp) : List DOp → List DOp
  | [] => o :: k []
  | x :: t => if kl x.2.1 o.2.1 then x :: Qpe o k t else if x.2.1 = o.2.1 then o :: k t else o :: k (x :: t)
def mrg : List DOp → List DOp → List DOp
  | [], old => old
  | o :: y, old => Qpe o (mrg y) old
def XJ (l : List Jv) (r : List Qe) : List DOp := mrg (tL (sT r)) (tL (Zm l))
def ZQ (l : List Jv) (r : List Qe) (c : Qe) : List Qe × Int :=
  if ¬ Q0 c = 0 then (r, Q0 c) else if ¬ c.2.1 - 1 = Qy l + r.length ∨ (0 < (r.length : Int) ∧ c.1 < Qat 1 r) then (r, 15) else (r ++ [c], 0)
abbrev SSt := USt × List Qe
def QeS (l : List Jv) (r : List Qe) (u : Int) : List Qe := r.take (u - Qy l).toNat
def QgU (l : List Jv) (r : List Qe) (u : Int) : Jv := (Qy l + 1, u, tL (sT (QeS l r u)))
def QU (d : QS) (br : Bool) (l : List Jv) (r : List Qe) (u : Int) : SSt × Int :=
  if u < Qy l ∨ Qy l + (r.length : Int) < u then (((d, br, l), r), 2) else if u = Qy l then (((d, br, l), r), 0)
  else if (1024 : Int) < ((sT (QeS l r u)).length : Int) then (((d, br, l), r), 3)
  else if ¬ (QJ d br l (QgU l r u)).2 = 0 then (((QJ d br l (QgU l r u)).1, r), (QJ d br l (QgU l r u)).2)
  else (((QJ d br l (QgU l r u)).1, r.drop (u - Qy l).toNat), 0)
section
variable {d : QS} {br : Bool} {l : List Jv} {r : List Qe} {c x : Qe} {u : Int} {k : Nat} {q : Qr} {t : Xm} {y : List DOp}
theorem QlU:sT (r++[c])=(Xr (sT r) c.2.2).1:=by unfold sT;rw [List.foldl_append];rfl
theorem Qqb (hx:r[k]? =some x):sT (r.take (k+1))=(Xr (sT (r.take k)) x.2.2).1:=by rw [Zc hx,QlU]
theorem QhL {x:Jv} (hx:l[k]? =some x):Zm (l.take (k+1))=(Xr (Zm (l.take k)) x.2.2).1:=by unfold Zm;rw [Zc hx,List.foldl_append];rfl
theorem Qox (t:Xm) (k:List UInt8) (v:List UInt8 × Bool):(Qdq t k v).length≤t.length+1:=by
 induction t with
 | nil=>simp [Qdq]
 | cons x t ih=>rw [Qdq];split <;> simp only [List.length_cons] <;> omega
theorem Qh7 : ∀ (y : List DOp) (t : Xm), (y.foldl Y3 t).length ≤ t.length + y.length
  | [], t => by simp
  | o :: y, t => by
    have h1 := Qox t o.2.1 (o.2.2, o.1)
    have h2 := Qh7 y (Y3 t o)
    rw [List.foldl_cons, List.length_cons]
    unfold Y3 at h2 ⊢
    omega
theorem Qgh (t:Xm) (y:List DOp):(Xr t y).1.length≤t.length+y.length:=by
 unfold Xr;split
 ·exact Qh7 y t
 ·dsimp only;omega
theorem Qod : ∀ {r : List Qe} {t : Xm} {m : Nat}, (∀ c ∈ r, c.2.2.length ≤ m) → (r.foldl (fun t c => (Xr t c.2.2).1) t).length ≤ t.length + m * r.length
  | [], t, m, _ => by simp
  | c :: r, t, m, h => by
    have h1 := Qgh t c.2.2
    have h2 := Qod (r := r) (t := (Xr t c.2.2).1) fun x hx => h x (.tail _ hx)
    have h3 := h c (.head _)
    rw [List.foldl_cons, List.length_cons, Nat.mul_succ]
    omega
theorem Xq (h:okS l r):∀ c∈r,Q0 c=0:=Qdn h
theorem Qap (h:okS l r):∀ c∈r,c.2.2.length≤8:=fun c hc=>X9 (Xw (Xq h c hc)).2.2.2.2
theorem Qo9 (h:okS l r):(sT r).length≤8*r.length:=by
 have:=Qod (r:=r) (t:=[]) (Qap h);simpa [sT] using this
theorem QiT (h:okS l r) (n:Nat):(sT (r.take n)).length≤8*r.length:=by
 have:=Qod (r:=r.take n) (t:=[]) fun c hc=>Qap h c (List.mem_of_mem_take hc)
 have h2:=List.length_take (i:=n) (l:=r)
 unfold sT;simp only [List.length_nil] at this;omega
theorem QlZ : ∀ {l : List Jv} {t : Xm} {m : Nat}, (∀ c ∈ l, c.2.2.length ≤ m) → (l.foldl (fun t x => (Xr t x.2.2).1) t).length ≤ t.length + m * l.length
  | [], t, m, _ => by simp
  | c :: r, t, m, h => by
    have h1 := Qgh t c.2.2
    have h2 := QlZ (l := r) (t := (Xr t c.2.2).1) fun x hx => h x (.tail _ hx)
    have h3 := h c (.head _)
    rw [List.foldl_cons, List.length_cons, Nat.mul_succ]
    omega
theorem Qbe (h:okU l):(Zm l).length≤1024*l.length:=by
 have:=QlZ (l:=l) (t:=[]) (Qg0 h);simpa [Zm] using this
theorem Ql2 (e:t=sT r) (h:(YH t q).isSome=false):QjJ l r q=((Qj7 l q).1,(Qj7 l q).2.2):=by
 subst e;unfold QjJ;cases e:YH (sT r) q <;> simp_all
theorem QjI (e:t=sT r) (h:(YH t q).isSome=true):QjJ l r q=(((YH t q).getD ([],false)).1,((YH t q).getD ([],false)).2):=by
 subst e;unfold QjJ;cases e:YH (sT r) q <;> simp_all
theorem Qcc (h:¬ Q0 c=0):ZQ l r c=(r,Q0 c):=if_pos h
theorem Qaa (h:¬ ¬ Q0 c=0) (h2:¬ c.2.1 - 1=Qy l+r.length∨(0 < (r.length:Int)∧c.1 < Qat 1 r)):ZQ l r c=(r,15):=by unfold ZQ;rw [if_neg h,if_pos h2]
theorem QcY (h:¬ ¬ Q0 c=0) (h2:¬ ¬ c.2.1 - 1=Qy l+r.length) (h3:¬ (0 < (r.length:Int)∧c.1 < Qat 1 r)):ZQ l r c=(r++[c],0):=by
 unfold ZQ;rw [if_neg h,if_neg (fun q=>q.elim h2 h3)]
theorem Qig : ∀ {r : List Qe} {e e' n i : Int}, (QG e n i r).1 = 0 → e' ≤ e → ∀ j, (QG e' n j r).1 = 0
  | [], _, _, _, _, h, _, _ => h
  | c :: r, _, _, _, _, h, he, j => by
    obtain ⟨h1, h2, h3, h4⟩ := ZI h
    exact Qaf h1 h2 (by omega) (Qau _ h4)
theorem Qot (h:okS l r) (hc:¬ ¬ Q0 c=0) (h2:¬ ¬ c.2.1 - 1=Qy l+r.length) (h3:¬ (0 < (r.length:Int)∧c.1 < Qat 1 r)):okS l (r++[c]):=by
 have h4:=Xw (Decidable.not_not.1 hc)
 refine Qfk (j:=0) h (Qaf (Decidable.not_not.1 hc) (by omega) ?_ rfl)
 rcases Nat.eq_zero_or_pos r.length with h5 | h5
 ·rw [List.eq_nil_of_length_eq_zero h5];exact h4.1
 ·by_cases h6:c.1 < Qat 1 r
  ·exact absurd ⟨by omega,h6⟩ h3
  ·omega
theorem Qmt (h:okS l r):okS l (ZQ l r c).1:=by
 unfold ZQ;split
 ·exact h
 ·split
  ·exact h
  ·rename_i h1 h2
   exact Qot h h1 (fun q=>h2 (.inl q)) (fun q=>h2 (.inr q))
theorem QkI:(ZQ l r c).1.length≤r.length+1:=by
 unfold ZQ;split
 ·dsimp only;omega
 ·split
  ·dsimp only;omega
  ·simp
theorem XK (h:u < Qy l∨Qy l+(r.length:Int) < u):QU d br l r u=(((d,br,l),r),2):=if_pos h
theorem Qbf (h:¬ u < Qy l) (h1:¬ Qy l+(r.length:Int) < u) (h2:u=Qy l):QU d br l r u=(((d,br,l),r),0):=by unfold QU;rw [if_neg (fun q=>q.elim h h1),if_pos h2]
theorem Qbg (h:¬ u < Qy l) (h1:¬ Qy l+(r.length:Int) < u) (h2:¬ u=Qy l) (ht:t=sT (QeS l r u)) (h3:(1024:Int) < (t.length:Int)):QU d br l r u=(((d,br,l),r),3):=by
 unfold QU;rw [if_neg (fun q=>q.elim h h1),if_neg h2,if_pos (by rw [← ht];exact h3)]
theorem Qcb (h:¬ u < Qy l) (h1:¬ Qy l+(r.length:Int) < u) (h2:¬ u=Qy l) (ht:t=sT (QeS l r u)) (h3:¬ (1024:Int) < (t.length:Int)) (h4:¬ (QJ d br l (Qy l+1,u,tL t)).2=0):
  QU d br l r u=(((QJ d br l (Qy l+1,u,tL t)).1,r),(QJ d br l (Qy l+1,u,tL t)).2):=by
 subst ht
 unfold QU;rw [if_neg (fun q=>q.elim h h1),if_neg h2,if_neg h3,if_pos (show ¬ (QJ d br l (QgU l r u)).2=0 from h4)];rfl
theorem Qbh (h:¬ u < Qy l) (h1:¬ Qy l+(r.length:Int) < u) (h2:¬ u=Qy l) (ht:t=sT (QeS l r u)) (h3:¬ (1024:Int) < (t.length:Int)) (h4:¬ ¬ (QJ d br l (Qy l+1,u,tL t)).2=0):
  QU d br l r u=(((QJ d br l (Qy l+1,u,tL t)).1,r.drop (u - Qy l).toNat),0):=by
 subst ht
 unfold QU;rw [if_neg (fun q=>q.elim h h1),if_neg h2,if_neg h3,if_neg (show ¬ ¬ (QJ d br l (QgU l r u)).2=0 from h4)];rfl
end
theorem QmW:JE Tryz.prog 24=true:=by kernel_rfl
theorem Qfl:JE Tryz.prog 40=true:=by kernel_rfl
theorem fnOk88:JE Tryz.prog 88=true:=by kernel_rfl
theorem Qdp:tk Tryz.prog 27=some none:=by kernel_rfl
theorem tk37:tk Tryz.prog 37=some none:=by kernel_rfl
theorem Qo3:tk Tryz.prog 38=some none:=by kernel_rfl
theorem Qai:tst Tryz.prog 40=some [(0,1),(1,1),(2,1)]:=by kernel_rfl
theorem Qo1 (W:World) {l_:List Jv} {br_:Bool} {D_:Qx} {gd_:Nat} {m0:Mem} (hm:mle (m0) (wm W)) {g0:Nat} (h0:Ow (.ptr JN) m0 [Vp g0] (g0,((gd_,D_),br_,l_))):Qc Tryz.prog 47 [Vp g0] W (m0) (fun v m'=>v= .bool (decide (True))∧Ow (.ptr JN) m' [Vp g0] (g0,((gd_,D_),br_,l_))):=by
 refine Qc.ofB (n:=6) hm Tryz.func47 rfl rfl rfl ?_
 refine VC.rs (VO.as (VO.k2 0 2 (VC.rs (VO.mv ?_))))
 refine VO.call 1 rfl Qgn rfl rfl (fun W hW=>QgK W (hW.t 1) h0) (fun v1 m1 hv1=>?_)
 try dsimp only at hv1
 obtain ⟨rfl,w1_0⟩:=hv1
 refine VO.z (.notD rfl) (VO.as (VO.k2 0 2 (VC.ret ?_)))
 exact ZD 2 1 rfl w1_0 (by first | rfl | (simp [*];done)) (by first | rfl | (first | rfl | simp))
theorem Qca (W:World) {r_:List Qe} {l_:List Jv} {br_:Bool} {D_:Qx} {gd_:Nat} {gu_:Nat} {T_:QI} {gt_:Nat} {m0:Mem} (hm:mle (m0) (wm W)) {g0:Nat} (h0:Ow (.ptr Qs) m0 [Vp g0] (g0,((gt_,T_),(gu_,((gd_,D_),br_,l_)),r_))):Qc Tryz.prog 40 [Vp g0] W (m0) (fun v m'=>v= .bool (decide (False))∧Ow (.ptr Qs) m' [Vp g0] (g0,((gt_,T_),(gu_,((gd_,D_),br_,l_)),r_))):=by
 refine Qc.ofB (n:=12) hm Tryz.func40 rfl rfl rfl ?_
 refine VC.rs (VO.as (VO.k2 0 2 (VC.rs (VO.mv ?_))))
 refine VO.z (.pnil rfl rfl Tryz.underlying23 rfl) ?_
 refine VO.mv (VO.w (.mv rfl) (VO.w (.nilp rfl) (VO.w (.fa rfl Qai rfl) ?_)))
 obtain ⟨q1_E,q1_A2,q1_c2,q1_n0,q1_n1,q1_n2,_,q1_S,q1_0,q1_1,q1_2⟩:=Jl (x0:=(gt_,T_)) (x1:=(gu_,((gd_,D_),br_,l_))) (x2:=r_) h0
 dsimp only at q1_0
 dsimp only at q1_1
 refine VO.inv _ (fun _ h=>h.parts (i:=1) rfl q1_S [105,102,103,104]) ?_
 refine VO.w (.ld1 105 rfl Qo3 rfl (Qa rfl rfl)) ?_
 refine VO.w (.pnil rfl rfl Tryz.underlying38 rfl) ?_
 refine VO.z (.pF rfl rfl) (VO.as ?_)
 refine VO.clsP 106 [105,102,103,104] rfl (fun hg6=>(Qd _ _ _ hg6 q1_0 q1_1 q1_2)) (fun mc6 ho6=>?_)
 refine VO.k2 0 2 (VC.ret ?_)
 exact ZD 2 106 rfl ho6 (by first | rfl | (simp [*];done)) (by first | rfl | (rfl))
theorem QiW (W:World) {r_:List Qe} {l_:List Jv} {br_:Bool} {D_:Qx} {gd_:Nat} {gu_:Nat} {T_:QI} {gt_:Nat} {m0:Mem} (hm:mle (m0) (wm W)) {g0:Nat} (h0:Ow (.ptr Qs) m0 [Vp g0] (g0,((gt_,T_),(gu_,((gd_,D_),br_,l_)),r_))) (e0:okU l_) (e1:r_.length≤2000000):Qc Tryz.prog 16 [Vp g0] W (m0) (fun v m'=>v= .int .i64 (Qy l_+((r_.length:Nat):Int))∧Ow (.ptr Qs) m' [Vp g0] (g0,((gt_,T_),(gu_,((gd_,D_),br_,l_)),r_))):=by
 have hll:=Za e0
 refine Qc.ofB (n:=16) hm Tryz.func16 rfl rfl rfl ?_
 refine VC.rs (VO.as (VO.k2 0 2 (VC.seq (VC.rs (VO.mv ?_)))))
 refine VO.call 1 rfl Qfl rfl rfl (fun W hW=>Qca W (hW.t 1) h0) (fun v1 m1 hv1=>?_)
 try dsimp only at hv1
 obtain ⟨rfl,w1_0⟩:=hv1
 refine VO.k3 0 2 4 ?_
 refine VC.cond rfl (fun hc2=>?_) (fun hc2=>?_)
 exact hc2.elim
 ·refine VC.skip (Qg (VC.seq ?_))
  obtain ⟨q3_E,q3_A2,q3_c2,q3_n0,q3_n1,q3_n2,_,q3_S,q3_0,q3_1,q3_2⟩:=Jl (x0:=(gt_,T_)) (x1:=(gu_,((gd_,D_),br_,l_))) (x2:=r_) w1_0
  dsimp only at q3_0
  dsimp only at q3_1
  refine VC.inv _ (fun _ h=>h.parts (i:=1) rfl q3_S [107,104,105,106]) ?_
  refine VC.regD _ 10 [(0,true),(1,true),(2,true),(3,true),(5,true),(6,true),(7,true),(8,true),(9,true),(4,false)] follows (by kernel_rfl) (fun _ h=>h.sub [107,104,106,0]) ?_
  refine VD.z rfl (.mv rfl) (VD.z rfl (.nilp rfl) (VD.z rfl (.fa rfl Qai rfl) (VD.z rfl (.ld1 107 rfl Qo3 rfl (Qa rfl rfl)) (VD.z rfl (.mv rfl) (VD.z rfl (.nilp rfl) (VD.z rfl (.fa rfl Qai rfl) (VD.z rfl (.ld1 107 rfl Qdp rfl (Qa rfl rfl)) (VD.z rfl (.lenS rfl JS) ?_))))))))
  refine VD.call 105 rfl rfl (.inl rfl) Qgo rfl rfl (fun _ _ h=>h.sub [107,104,106,0]) (fun W hW=>QeG W (hW.t 105) q3_1 Qf) (fun v8 m8 hv8=>?_)
  try dsimp only at hv8
  obtain ⟨rfl,w8_0⟩:=hv8
  refine VD.nil rfl ?_ rfl
  refine VO.z (.add rfl rfl rfl ⟨bd,bd⟩) ?_
  refine VO.as ?_
  refine VO.clsP 109 [107,104,105,106] rfl (fun hg9=>(Qd _ _ _ hg9 q3_0 w8_0 q3_2)) (fun mc9 ho9=>?_)
  refine VO.p2 109 0 (VO.k3 0 2 4 (Qg (VC.ret ?_)))
  exact ZD 2 109 rfl ho9 (by first | rfl | (simp [*];done)) (by first | rfl | (simp [*];done))
theorem QjF (W:World) {r_:List Qe} {l_:List Jv} {br_:Bool} {D_:Qx} {gd_:Nat} {gu_:Nat} {T_:QI} {gt_:Nat} {m0:Mem} (hm:mle (m0) (wm W)) {g0:Nat} (h0:Ow (.ptr Qs) m0 [Vp g0] (g0,((gt_,T_),(gu_,((gd_,D_),br_,l_)),r_))):Qc Tryz.prog 12 [Vp g0] W (m0) (fun v m'=>v= .int .i64 ((r_.length:Nat):Int)∧Ow (.ptr Qs) m' [Vp g0] (g0,((gt_,T_),(gu_,((gd_,D_),br_,l_)),r_))):=by
 refine Qc.ofB (n:=10) hm Tryz.func12 rfl rfl rfl ?_
 refine VC.rs (VO.as (VO.k2 0 2 (VC.seq (VC.rs (VO.mv ?_)))))
 refine VO.call 1 rfl Qfl rfl rfl (fun W hW=>Qca W (hW.t 1) h0) (fun v1 m1 hv1=>?_)
 try dsimp only at hv1
 obtain ⟨rfl,w1_0⟩:=hv1
 refine VO.k3 0 2 4 ?_
 refine VC.cond rfl (fun hc2=>?_) (fun hc2=>?_)
 exact hc2.elim
 ·refine VC.skip (Qg (VC.rs (VO.mv (VO.z (.nilp rfl) (VO.z (.fa rfl Qai rfl) ?_)))))
  obtain ⟨q3_E,q3_A2,q3_c2,q3_n0,q3_n1,q3_n2,_,q3_S,q3_0,q3_1,q3_2⟩:=Jl (x0:=(gt_,T_)) (x1:=(gu_,((gd_,D_),br_,l_))) (x2:=r_) w1_0
  dsimp only at q3_0
  dsimp only at q3_1
  refine VO.inv _ (fun _ h=>h.parts (i:=1) rfl q3_S [107,104,105,106]) ?_
  refine VO.z (.ld1 107 rfl Qdp rfl (Qa rfl rfl)) (VO.z (.lenS rfl JS) (VO.as ?_))
  refine VO.clsP 108 [107,104,105,106] rfl (fun hg8=>(Qd _ _ _ hg8 q3_0 q3_1 q3_2)) (fun mc8 ho8=>?_)
  refine VO.p2 108 0 (VO.k3 0 2 4 (VC.ret ?_))
  exact ZD 2 108 rfl ho8 (by first | rfl | (simp [*];done)) (by first | rfl | (simp [*];done))
theorem Qei (W:World) {r_:List Qe} {l_:List Jv} {br_:Bool} {D_:Qx} {gd_:Nat} {gu_:Nat} {T_:QI} {gt_:Nat} {m0:Mem} (hm:mle (m0) (wm W)) {g0:Nat} (h0:Ow (.ptr Qs) m0 [Vp g0] (g0,((gt_,T_),(gu_,((gd_,D_),br_,l_)),r_))) {v1:List Value} {d1:Qe} (h1:Rd QA (Ju (wm W) (m0)) v1 d1) (e0:T_=sT r_) (e1:r_.length≤2000000) (e2:d1.2.2.length≤8):Qc Tryz.prog 45 [Vp g0,.agg v1.toArray] W (m0) (fun v m'=>v= .tuple #[]∧Ow (.ptr Qs) m' [Vp g0] (g0,((gt_,(sT (r_++[d1]))),(gu_,((gd_,D_),br_,l_)),r_++[d1]))):=by
 obtain ⟨p1_A2,p1_c2,rfl,p1_0,p1_1,p1_2⟩:=Jc (x0:=d1.1) (x1:=d1.2.1) (x2:=d1.2.2) h1
 simp only [inK] at p1_0 p1_1
 refine Qc.ofB (n:=22) hm Tryz.func45 rfl rfl rfl ?_
 refine VC.rs ?_
 refine VO.box (cs:=[.int .i64 (d1.1),.int .i64 (d1.2.1),.slice p1_A2 (d1.2.2.length) (p1_c2)]) 102 rfl rfl rfl (fun g1=>?_)
 refine VO.k3 0 1 3 (VC.seq ?_)
 obtain ⟨q3_E,q3_A2,q3_c2,q3_n0,q3_n1,q3_n2,_,q3_S,q3_0,q3_1,q3_2⟩:=Jl (x0:=(gt_,T_)) (x1:=(gu_,((gd_,D_),br_,l_))) (x2:=r_) h0
 dsimp only at q3_0
 dsimp only at q3_1
 refine VC.inv _ (fun _ h=>h.parts (i:=1) rfl q3_S [107,104,105,106]) ?_
 refine VC.regD _ 9 [(0,true),(1,true),(2,true),(3,true),(4,true),(5,true),(6,false),(7,false),(8,false)] follows (by kernel_rfl) (fun _ h=>h.sub [107,104,105,102,0]) ?_
 refine VD.z rfl (.mv rfl) (VD.z rfl (.mv rfl) (VD.z rfl (.nilp rfl) (VD.z rfl (.fa rfl Qai rfl) (VD.z rfl (.ld1 107 rfl Qdp rfl (Qa rfl rfl)) (VD.z rfl (.ldA 102 rfl XN rfl (Qa rfl rfl)) ?_)))))
 refine VD.callN 108 rfl rfl (.inl rfl) fnOk88 rfl (fun _ h=>h.sub [107,104,105,102,0]) (fun W hW=>QoS W (Rd.mono h1 (hW.t 0)) bd) (fun v8 m8 hv8=>?_)
 obtain ⟨s8_0,rfl,f8_0⟩:=hv8
 obtain ⟨q8_0_A2,q8_0_c2,q8_0_n2,rfl,q8_0_S,q8_0_0,q8_0_1,q8_0_2⟩:=Xh (x0:=d1.1) (x1:=d1.2.1) (x2:=d1.2.2) f8_0
 simp only [inK] at q8_0_0 q8_0_1
 refine VD.inv _ (fun _ h=>h.parts (i:=108) rfl q8_0_S [109]) ?_
 refine VD.bsl (cs:=[.int .i64 (d1.1),.int .i64 (d1.2.1),.slice q8_0_A2 (d1.2.2.length) (q8_0_c2)]) 111 rfl rfl rfl JS Qba rfl rfl (fun _ h=>h.sub [107,104,105,102,0]) (fun g10=>?_)
 refine VD.appO (e:=QA) 106 109 111 rfl rfl rfl rfl JS Qba rfl rfl rfl rfl q3_2 (show Ow QA _ _ d1 from (Yr d1.1 d1.2.1 d1.2.2 (Qt.one (Qb _)) bdk bdk q8_0_2)) Tryz.underlying27 (Qa rfl rfl) bdm bd (by decide) (fun _ _ h=>h.sub [107,104,105,102,0]) (fun v12 m12 ho12=>?_)
 obtain ⟨A12,c12,rfl,l12,k12⟩:=ho12.slc
 refine VD.nil rfl ?_ rfl
 refine VO.z (.nilp rfl) (VO.z (.fa rfl Qai rfl) ?_)
 refine VO.store (k:=1) (c':=[Vp gt_,Vp gu_,.slice A12 ((r_++[d1]).length) (c12)]) 107 rfl rfl (.inr ⟨Qdp,rfl⟩) rfl rfl rfl rfl rfl ?_
 refine VO.clsP 113 [107,104,105,106] rfl (fun hg13=>(Qd _ _ _ hg13 q3_0 q3_1 ho12)) (fun mc13 ho13=>?_)
 refine VO.k3 0 1 3 (Qg ?_)
 obtain ⟨q14_E,q14_A2,q14_c2,q14_n0,q14_n1,q14_n2,_,q14_S,q14_0,q14_1,q14_2⟩:=Jl (x0:=(gt_,T_)) (x1:=(gu_,((gd_,D_),br_,l_))) (x2:=r_++[d1]) ho13
 dsimp only at q14_0
 dsimp only at q14_1
 refine VC.inv _ (fun _ h=>h.parts (i:=113) rfl q14_S [118,115,116,117]) ?_
 refine VC.regD _ 6 [(0,true),(1,true),(2,true),(3,true),(4,true),(5,true)] follows (by kernel_rfl) (fun _ h=>h.sub [118,115,116,117,111,102,0]) ?_
 refine VD.z rfl (.mv rfl) (VD.z rfl (.nilp rfl) (VD.z rfl (.fa rfl Qai rfl) (VD.z rfl (.ld1 118 rfl tk37 rfl (Qa rfl rfl)) (VD.z rfl (.fa rfl JV rfl) (VD.z rfl (.ld1 102 rfl Jw rfl (Qa rfl rfl)) ?_)))))
 refine VD.nil rfl ?_ rfl
 refine VO.call 115 rfl QmW rfl rfl (fun W hW=>QeN W (hW.t 115) q14_0 (Rd.mono p1_2 (hW.o 115 0))) (fun v19 m19 hv19=>?_)
 obtain ⟨rfl,w19_0⟩:=hv19
 refine VO.clsP 120 [118,115,116,117] rfl (fun hg20=>(Qd _ _ _ hg20 w19_0 q14_1 q14_2)) (fun mc20 ho20=>?_)
 refine VO.p3 120 102 0 (VO.k3 0 1 3 ?_)
 refine ⟨_,_,QE (rs:=[]) rfl .nil,fun W_ hI=>Q2 (l:=[mc20]) hI [120] rfl rfl (Qb _) (fun hS_=>?_)⟩
 dsimp only [Qu]
 exact ⟨(by first | rfl | (simp [*];done)),(Ow.cgP (Ow.up ho20 (hS_.1 _ (.head _))) (by first | rfl | ((rw [QlU,e0];done))))⟩
theorem Qke:JE Tryz.prog 16=true:=by kernel_rfl
theorem fnOk26:JE Tryz.prog 26=true:=by kernel_rfl
theorem Qkc:JE Tryz.prog 45=true:=by kernel_rfl
theorem fnOk46:JE Tryz.prog 46=true:=by kernel_rfl
theorem Qlr (W:World) {l_:List Jv} {br_:Bool} {D_:Qx} {gd_:Nat} {g0:Nat} (h0:Rd (.ptr JN) (wm W) [Vp g0] (g0,((gd_,D_),br_,l_))):Qc Tryz.prog 55 [Vp g0] W (mnil) (fun v m'=>v= .bool (decide (False))):=by
 have rp0_k:=h0
 obtain ⟨_,rp0_rc,rp0_E,rp0_h,rp0_r⟩:=rp0_k
 obtain ⟨rp0_A2,rp0_c2,rfl,rp0_0,rp0_2⟩:=YE (x0:=(gd_,D_)) (x1:=br_) (x2:=l_) rp0_r
 dsimp only at rp0_0
 have rp0_b:Jp (wm W) g0 0 3 [Vp gd_,Value.bool br_,Value.slice rp0_A2 (l_.length) (rp0_c2)]:=(Qa rfl rfl).mono (Qaq rp0_h)
 refine Qc.ofA (n:=12) Tryz.func55 rfl rfl rfl ?_
 refine VC.rs (VO.as (VO.k2 0 2 (VC.rs (VO.mv ?_))))
 refine VO.z (.pnil rfl rfl Tryz.underlying38 rfl) ?_
 refine VO.mv (VO.w (.mv rfl) (VO.w (.nilp rfl) (VO.w (.fa rfl Qah rfl) ?_)))
 refine VO.w (.ld1 0 rfl Qp2 rfl (rp0_b.at1 (j:=0) rfl)) ?_
 refine VO.w (.pnil rfl rfl Tryz.underlying44 rfl) ?_
 refine VO.z (.pF rfl rfl) (VO.as (VO.k2 0 2 (VC.ret ?_)))
 exact Yu 2 rfl (by first | rfl | (simp [*];done))
theorem QnU (W:World) {l_:List Jv} {br_:Bool} {D_:Qx} {gd_:Nat} {g0:Nat} (h0:Rd (.ptr JN) (wm W) [Vp g0] (g0,((gd_,D_),br_,l_))) (e0:okU l_):Qc Tryz.prog 21 [Vp g0] W (mnil) (fun v m'=>v= .int .i64 (Qy l_)):=by
 have hll:=Za e0
 have rp0_k:=h0
 obtain ⟨_,rp0_rc,rp0_E,rp0_h,rp0_r⟩:=rp0_k
 obtain ⟨rp0_A2,rp0_c2,rfl,rp0_0,rp0_2⟩:=YE (x0:=(gd_,D_)) (x1:=br_) (x2:=l_) rp0_r
 dsimp only at rp0_0
 have rp0_b:Jp (wm W) g0 0 3 [Vp gd_,Value.bool br_,Value.slice rp0_A2 (l_.length) (rp0_c2)]:=(Qa rfl rfl).mono (Qaq rp0_h)
 refine Qc.ofA (n:=26) Tryz.func21 rfl rfl rfl ?_
 refine VC.rs (VO.as (VO.k2 0 2 (VC.seq (VC.rs (VO.mv ?_)))))
 refine VO.callN 101 rfl Qgn rfl (fun W hW=>Qlr W (Rd.mono h0 (hW.t 0))) (fun v1 m1 hv1=>?_)
 try dsimp only at hv1
 subst hv1
 refine VO.mv ?_
 refine VO.dec (t:=5) rfl (fun hc2=>?_) (fun hc2=>?_)
 exact hc2.elim
 refine VO.w (.mv rfl) (VO.w (.nilp rfl) (VO.w (.fa rfl Qah rfl) ?_))
 refine VO.w (.ld1 0 rfl QhA rfl (rp0_b.at1 (j:=2) rfl)) ?_
 refine VO.w (.lenS rfl XH) (VO.w (.eql rfl rfl) (VO.z (.pF rfl rfl) (VO.k3 0 2 12 ?_)))
 refine VC.cond rfl (fun hc3=>?_) (fun hc3=>?_)
 refine VC.rs (VO.as (VO.p1 0 (VO.k3 0 2 12 (VC.ret (QK ?_)))))
 exact Yu 2 rfl (by first | rfl | (first | exact congrArg (Value.int _) (QdK ‹l_[_]? =some _› Qp).symm | exact congrArg (Value.int _) (Xb Qp).symm | exact congrArg (Value.int _) (Xb (not_not_intro Qf)).symm))
 ·refine VC.skip (Qg (VC.seq ?_))
  refine VC.regD _ 10 [(0,true),(1,true),(2,true),(3,true),(4,true),(5,true),(6,true),(7,true),(8,true),(9,true)] follows (by kernel_rfl) (fun _ h=>h.sub [101,0]) ?_
  refine VD.z rfl (.mv rfl) (VD.z rfl (.nilp rfl) (VD.z rfl (.fa rfl Qah rfl) ?_))
  refine VD.z rfl (.ld1 0 rfl QhA rfl (rp0_b.at1 (j:=2) rfl)) ?_
  refine VD.z rfl (.mv rfl) (VD.z rfl (.nilp rfl) (VD.z rfl (.fa rfl Qah rfl) ?_))
  refine VD.z rfl (.ld1 0 rfl QhA rfl (rp0_b.at1 (j:=2) rfl)) ?_
  refine VD.z rfl (.lenS rfl XH) ?_
  refine VD.z rfl (.sub rfl rfl rfl ⟨bd,bd⟩) ?_
  refine VD.nil rfl ?_ rfl
  obtain ⟨x4,hx4⟩:∃ z_,(l_)[(((l_.length:Nat):Int) - 1).toNat]? =some z_:=⟨_,List.getElem?_eq_getElem bd⟩
  obtain ⟨gg4,oo4,ec4,ea4,hce4,hre4⟩:=rp0_2.elem hx4
  cases ea4
  obtain ⟨q4_A2,q4_c2,rfl,q4_0,q4_1,q4_2⟩:=ZX (x0:=x4.1) (x1:=x4.2.1) (x2:=x4.2.2) hre4
  simp only [inK] at q4_0 q4_1
  refine VO.z (.ixI ((((l_.length:Nat):Int) - 1).toNat) rfl rfl XH bd bd) ?_
  refine VO.z (.fa rfl J2 rfl) ?_
  refine VO.z (.ld1 0 rfl tk3 rfl (hce4.at1 (j:=1) rfl)) ?_
  refine VO.as (VO.p1 0 (VO.k3 0 2 12 (Qg (VC.ret ?_))))
  exact Yu 2 rfl (by first | rfl | (first | exact congrArg (Value.int _) (QdK ‹l_[_]? =some _› Qp).symm | exact congrArg (Value.int _) (Xb Qp).symm | exact congrArg (Value.int _) (Xb (not_not_intro Qf)).symm))
theorem Ql0 (W:World) {r_:List Qe} {l_:List Jv} {br_:Bool} {D_:Qx} {gd_:Nat} {gu_:Nat} {T_:QI} {gt_:Nat} {g0:Nat} (h0:Rd (.ptr Qs) (wm W) [Vp g0] (g0,((gt_,T_),(gu_,((gd_,D_),br_,l_)),r_))):Qc Tryz.prog 40 [Vp g0] W (mnil) (fun v m'=>v= .bool (decide (False))):=by
 have rp0_k:=h0
 obtain ⟨_,rp0_rc,rp0_E,rp0_h,rp0_r⟩:=rp0_k
 obtain ⟨rp0_A2,rp0_c2,rfl,rp0_0,rp0_1,rp0_2⟩:=Qan (x0:=(gt_,T_)) (x1:=(gu_,((gd_,D_),br_,l_))) (x2:=r_) rp0_r
 dsimp only at rp0_0
 dsimp only at rp0_1
 have rp0_b:Jp (wm W) g0 0 3 [Vp gt_,Vp gu_,Value.slice rp0_A2 (r_.length) (rp0_c2)]:=(Qa rfl rfl).mono (Qaq rp0_h)
 have rp0_1q_k:=rp0_1
 obtain ⟨_,rp0_1q_rc,rp0_1q_E,rp0_1q_h,rp0_1q_r⟩:=rp0_1q_k
 obtain ⟨rp0_1q_A2,rp0_1q_c2,rfl,rp0_1q_0,rp0_1q_2⟩:=YE (x0:=(gd_,D_)) (x1:=br_) (x2:=l_) rp0_1q_r
 dsimp only at rp0_1q_0
 refine Qc.ofA (n:=12) Tryz.func40 rfl rfl rfl ?_
 refine VC.rs (VO.as (VO.k2 0 2 (VC.rs (VO.mv ?_))))
 refine VO.z (.pnil rfl rfl Tryz.underlying23 rfl) ?_
 refine VO.mv (VO.w (.mv rfl) (VO.w (.nilp rfl) (VO.w (.fa rfl Qai rfl) ?_)))
 refine VO.w (.ld1 0 rfl Qo3 rfl (rp0_b.at1 (j:=1) rfl)) ?_
 refine VO.w (.pnil rfl rfl Tryz.underlying38 rfl) ?_
 refine VO.z (.pF rfl rfl) (VO.as (VO.k2 0 2 (VC.ret ?_)))
 exact Yu 2 rfl (by first | rfl | (simp [*];done))
theorem Qoe (W:World) {r_:List Qe} {l_:List Jv} {br_:Bool} {D_:Qx} {gd_:Nat} {gu_:Nat} {T_:QI} {gt_:Nat} {g0:Nat} (h0:Rd (.ptr Qs) (wm W) [Vp g0] (g0,((gt_,T_),(gu_,((gd_,D_),br_,l_)),r_))) (e0:okU l_) (e1:r_.length≤2000000):Qc Tryz.prog 16 [Vp g0] W (mnil) (fun v m'=>v= .int .i64 (Qy l_+((r_.length:Nat):Int))):=by
 have hll:=Za e0
 have rp0_k:=h0
 obtain ⟨_,rp0_rc,rp0_E,rp0_h,rp0_r⟩:=rp0_k
 obtain ⟨rp0_A2,rp0_c2,rfl,rp0_0,rp0_1,rp0_2⟩:=Qan (x0:=(gt_,T_)) (x1:=(gu_,((gd_,D_),br_,l_))) (x2:=r_) rp0_r
 dsimp only at rp0_0
 dsimp only at rp0_1
 have rp0_b:Jp (wm W) g0 0 3 [Vp gt_,Vp gu_,Value.slice rp0_A2 (r_.length) (rp0_c2)]:=(Qa rfl rfl).mono (Qaq rp0_h)
 have rp0_1q_k:=rp0_1
 obtain ⟨_,rp0_1q_rc,rp0_1q_E,rp0_1q_h,rp0_1q_r⟩:=rp0_1q_k
 obtain ⟨rp0_1q_A2,rp0_1q_c2,rfl,rp0_1q_0,rp0_1q_2⟩:=YE (x0:=(gd_,D_)) (x1:=br_) (x2:=l_) rp0_1q_r
 dsimp only at rp0_1q_0
 refine Qc.ofA (n:=16) Tryz.func16 rfl rfl rfl ?_
 refine VC.rs (VO.as (VO.k2 0 2 (VC.seq (VC.rs (VO.mv ?_)))))
 refine VO.callN 101 rfl Qfl rfl (fun W hW=>Ql0 W (Rd.mono h0 (hW.t 0))) (fun v1 m1 hv1=>?_)
 try dsimp only at hv1
 subst hv1
 refine VO.k3 0 2 4 ?_
 refine VC.cond rfl (fun hc2=>?_) (fun hc2=>?_)
 exact hc2.elim
 ·refine VC.skip (Qg (VC.seq ?_))
  refine VC.regD _ 10 [(0,true),(1,true),(2,true),(3,true),(5,true),(6,true),(7,true),(8,true),(9,true),(4,false)] follows (by kernel_rfl) (fun _ h=>h.sub [101,0]) ?_
  refine VD.z rfl (.mv rfl) (VD.z rfl (.nilp rfl) (VD.z rfl (.fa rfl Qai rfl) ?_))
  refine VD.z rfl (.ld1 0 rfl Qo3 rfl (rp0_b.at1 (j:=1) rfl)) ?_
  refine VD.z rfl (.mv rfl) (VD.z rfl (.nilp rfl) (VD.z rfl (.fa rfl Qai rfl) ?_))
  refine VD.z rfl (.ld1 0 rfl Qdp rfl (rp0_b.at1 (j:=2) rfl)) ?_
  refine VD.z rfl (.lenS rfl JS) ?_
  refine VD.callN 103 rfl rfl (.inl rfl) Qgo rfl (fun _ h=>h.sub [101,0]) (fun W hW=>QnU W (Rd.mono rp0_1 (hW.t 0)) Qf) (fun v3 m3 hv3=>?_)
  try dsimp only at hv3
  subst hv3
  refine VD.nil rfl ?_ rfl
  refine VO.z (.add rfl rfl rfl ⟨bd,bd⟩) ?_
  refine VO.as (VO.p1 0 (VO.k3 0 2 4 (Qg (VC.ret ?_))))
  exact Yu 2 rfl (by first | rfl | (simp [*];done))
theorem YK {P:Prop} (h:P:=by first | (rw [Qcc (by assumption),e0];done) | (rw [Qaa (by assumption) (.inl (by assumption)),e0];done) | (rw [Qaa (by assumption) (.inr ⟨by omega,by rw [Qas ‹r_[_]? =some _› (by omega)];assumption⟩),e0];done) | (rw [QcY (by assumption) (by assumption) (by rintro ⟨q1_,q2_⟩;first | omega | (rw [Qas ‹r_[_]? =some _› (by omega)] at q2_;contradiction))];done)):P:=h
theorem YI {P:Prop} (h:P:=by first | (rw [Qcc (by assumption)]) | (rw [Qaa (by assumption) (.inl (by assumption))]) | (rw [Qaa (by assumption) (.inr ⟨by omega,by rw [Qas ‹r_[_]? =some _› (by omega)];assumption⟩)]) | (rw [QcY (by assumption) (by assumption) (by rintro ⟨q1_,q2_⟩;first | omega | (rw [Qas ‹r_[_]? =some _› (by omega)] at q2_;contradiction))])):P:=h
theorem JH {P:Prop} (h:P:=by first | exact bd | (have h_:=Xw (Decidable.not_not.1 ‹¬ ¬ Q0 d1=0›);have h2_:=X9 h_.2.2.2.2;omega)):P:=h
set_option maxHeartbeats 1000000 in
theorem Qf4 (W:World) {r_:List Qe} {l_:List Jv} {br_:Bool} {D_:Qx} {gd_:Nat} {gu_:Nat} {T_:QI} {gt_:Nat} {m0:Mem} (hm:mle (m0) (wm W)) {g0:Nat} (h0:Ow (.ptr Qs) m0 [Vp g0] (g0,((gt_,T_),(gu_,((gd_,D_),br_,l_)),r_))) {v1:List Value} {d1:Qe} (h1:Rd QA (Ju (wm W) (m0)) v1 d1) (e0:T_=sT r_) (e1:okU l_) (e2:r_.length≤1000000):Qc Tryz.prog 15 [Vp g0,.agg v1.toArray] W (m0) (fun v m'=>v= .int .i64 ((ZQ l_ r_ d1).2)∧Ow (.ptr Qs) m' [Vp g0] (g0,((gt_,(sT (ZQ l_ r_ d1).1)),(gu_,((gd_,D_),br_,l_)),(ZQ l_ r_ d1).1))):=by
 obtain ⟨p1_A2,p1_c2,rfl,p1_0,p1_1,p1_2⟩:=Jc (x0:=d1.1) (x1:=d1.2.1) (x2:=d1.2.2) h1
 simp only [inK] at p1_0 p1_1
 refine Qc.ofB (n:=46) hm Tryz.func15 rfl rfl rfl ?_
 refine VC.rs ?_
 refine VO.box (cs:=[.int .i64 (d1.1),.int .i64 (d1.2.1),.slice p1_A2 (d1.2.2.length) (p1_c2)]) 102 rfl rfl rfl (fun g1=>?_)
 refine VO.as (VO.k4 0 1 3 4 (VC.seq (VC.rs (VO.mv ?_))))
 refine VO.call 1 rfl Qfl rfl rfl (fun W hW=>Qca W (hW.t 1) h0) (fun v3 m3 hv3=>?_)
 try dsimp only at hv3
 obtain ⟨rfl,w3_0⟩:=hv3
 refine VO.k5 0 1 3 4 8 ?_
 refine VC.cond rfl (fun hc4=>?_) (fun hc4=>?_)
 exact hc4.elim
 refine VC.skip (Qg (VC.seq (VC.rs (VO.z (.ldA 102 rfl XN rfl (Qa rfl rfl)) ?_))))
 refine VO.callN 105 rfl Qpr rfl (fun W hW=>Qgy W (Rd.mono h1 (hW.t 0))) (fun v5 m5 hv5=>?_)
 subst hv5
 refine VO.as (VO.p3 1 102 0 (VO.k6 0 1 3 4 5 8 (VC.rs (VO.mv (VO.z (.neq rfl rfl) (VO.k7 0 1 3 4 5 8 12 ?_))))))
 refine VC.cond rfl (fun hc7=>?_) (fun hc7=>?_)
 refine VC.rs (VO.mv (VO.as (VO.k7 0 1 3 4 5 8 12 (VC.ret (QK ?_)))))
 exact ZD 4 1 rfl w3_0 (by first | rfl | exact YK) (by first | rfl | exact YI)
 refine VC.skip (Qg (VC.rs (VO.mv (VO.z (.nilp rfl) (VO.z (.fa rfl Qai rfl) ?_)))))
 obtain ⟨q8_E,q8_A2,q8_c2,q8_n0,q8_n1,q8_n2,_,q8_S,q8_0,q8_1,q8_2⟩:=Jl (x0:=(gt_,T_)) (x1:=(gu_,((gd_,D_),br_,l_))) (x2:=r_) w3_0
 dsimp only at q8_0
 dsimp only at q8_1
 refine VO.inv _ (fun _ h=>h.parts (i:=1) rfl q8_S [112,109,110,111]) ?_
 refine VO.z (.ld1 112 rfl Qdp rfl (Qa rfl rfl)) (VO.z (.lenS rfl JS) (VO.as ?_))
 refine VO.clsP 113 [112,109,110,111] rfl (fun hg13=>(Qd _ _ _ hg13 q8_0 q8_1 q8_2)) (fun mc13 ho13=>?_)
 refine VO.k8 0 1 3 4 5 6 8 12 (VC.seq (VC.seq ?_))
 obtain ⟨q14_E,q14_A2,q14_c2,q14_n0,q14_n1,q14_n2,_,q14_S,q14_0,q14_1,q14_2⟩:=Jl (x0:=(gt_,T_)) (x1:=(gu_,((gd_,D_),br_,l_))) (x2:=r_) ho13
 dsimp only at q14_0
 dsimp only at q14_1
 refine VC.inv _ (fun _ h=>h.parts (i:=113) rfl q14_S [118,115,116,117]) ?_
 refine VC.regD _ 21 [(0,true),(1,true),(2,true),(3,true),(4,false),(5,true),(6,true),(7,true),(8,true),(9,true),(10,true),(11,true),(12,true),(13,true),(14,true),(15,true),(16,true),(17,true),(18,true),(19,true),(20,true)] follows (by kernel_rfl) (fun _ h=>h.sub [118,115,116,117,102,0]) ?_
 refine VD.z rfl (.fa rfl JV rfl) (VD.z rfl (.ld1 102 rfl tk3 rfl (Qa rfl rfl)) ?_)
 refine VD.z rfl (.sub rfl rfl rfl ⟨by exact JH,by exact JH⟩) ?_
 refine VD.z rfl (.mv rfl) ?_
 refine VD.callN 119 rfl rfl (.inl rfl) Qke rfl (fun _ h=>h.sub [118,115,116,117,102,0]) (fun W hW=>Qoe W (show Rd (.ptr Qs) _ _ (g0,((gt_,T_),(gu_,((gd_,D_),br_,l_)),r_)) from ⟨rfl,_,_,(hW.t 118) _ _ (Qn _ _),(YT (m:=wm W) (gt_,T_) (gu_,((gd_,D_),br_,l_)) r_ (Ow.rd q14_0 (hW.t 115)) (Ow.rd q14_1 (hW.t 116)) (Ow.rd q14_2 (hW.t 117)))⟩) Qf JH) (fun v19 m19 hv19=>?_)
 try dsimp only at hv19
 subst hv19
 refine VD.z rfl (.neq rfl rfl) (VD.z rfl (.mv rfl) ?_)
 refine VD.dec (s:=25) rfl (fun hc20=>?_) (fun hc20=>?_)
 refine VD.gN rfl (VD.gN rfl (VD.gN rfl ?_))
 refine VD.gn rfl rfl (.inr ⟨_,rfl,rfl⟩) ?_
 refine VD.gn rfl rfl (.inr ⟨_,rfl,rfl⟩) ?_
 refine VD.gn rfl rfl (.inr ⟨_,rfl,rfl⟩) ?_
 refine VD.gn rfl rfl (.inr ⟨_,rfl,rfl⟩) ?_
 refine VD.gn rfl rfl (.inr ⟨_,rfl,rfl⟩) ?_
 refine VD.gn rfl rfl (.inr ⟨_,rfl,rfl⟩) ?_
 refine VD.gn rfl rfl (.inr ⟨_,rfl,rfl⟩) ?_
 refine VD.gn rfl rfl (.inr ⟨_,rfl,rfl⟩) ?_
 refine VD.gn rfl rfl (.inr ⟨_,rfl,rfl⟩) ?_
 refine VD.gn rfl rfl (.inr ⟨_,rfl,rfl⟩) ?_
 refine VD.gn rfl rfl (.inr ⟨_,rfl,rfl⟩) ?_
 refine VD.nil rfl ?_ rfl
 refine VO.gn rfl (.inr ⟨_,rfl,rfl⟩) ?_
 refine VO.gN (VO.z (.pT rfl rfl) ?_)
 refine VO.clsP 121 [118,115,116,117] rfl (fun hg21=>(Qd _ _ _ hg21 q14_0 q14_1 q14_2)) (fun mc21 ho21=>?_)
 refine VO.p3 121 102 0 (VO.k9 0 1 3 4 5 6 8 12 42 (Qg (VC.condT rfl (VC.rs (VO.as (VO.k9 0 1 3 4 5 6 8 12 42 (VC.ret (QK ?_))))))))
 exact ZD 4 121 rfl ho21 (by first | rfl | exact YK) (by first | rfl | exact YI)
 refine VD.w rfl (.mv rfl) (VD.w rfl (.gtr rfl rfl) (VD.w rfl (.mv rfl) ?_))
 refine VD.dec (s:=28) rfl (fun hc22=>?_) (fun hc22=>?_)
 refine VD.w rfl (.fa rfl JV rfl) (VD.w rfl (.ld1 102 rfl tk3 rfl (Qa rfl rfl)) (VD.w rfl (.mv rfl) (VD.w rfl (.nilp rfl) (VD.w rfl (.fa rfl Qai rfl) (VD.w rfl (.ld1 118 rfl Qdp rfl (Qa rfl rfl)) (VD.w rfl (.mv rfl) ?_))))))
 refine VD.w rfl (.sub rfl rfl rfl ⟨by exact JH,by exact JH⟩) ?_
 obtain ⟨x23,hx23⟩:∃ z_,(r_)[(((r_.length:Nat):Int) - 1).toNat]? =some z_:=⟨_,List.getElem?_eq_getElem JH⟩
 obtain ⟨gg23,oo23,ec23,ea23,hce23,hre23⟩:=(Ow.rd q14_2 (Qb _)).elem hx23
 cases ea23
 obtain ⟨q23_A2,q23_c2,rfl,q23_0,q23_1,q23_2⟩:=Jc (x0:=x23.1) (x1:=x23.2.1) (x2:=x23.2.2) hre23
 simp only [inK] at q23_0 q23_1
 refine VD.w rfl (.ixI ((((r_.length:Nat):Int) - 1).toNat) rfl rfl JS JH JH) ?_
 refine VD.w rfl (.fa rfl JV rfl) ?_
 refine VD.w rfl (.ld1 117 rfl tk3 rfl (hce23.at1 (j:=0) rfl)) ?_
 refine VD.nil rfl ?_ rfl
 refine VO.w (.lss rfl rfl) (VO.w (.pT rfl rfl) (VO.z (.pF rfl rfl) ?_))
 refine VO.clsP 124 [118,115,116,117] rfl (fun hg24=>(Qd _ _ _ hg24 q14_0 q14_1 q14_2)) (fun mc24 ho24=>?_)
 refine VO.p3 124 102 0 (VO.k9 0 1 3 4 5 6 8 12 42 (Qg ?_))
 refine VC.cond rfl (fun hc25=>?_) (fun hc25=>?_)
 refine VC.rs (VO.as (VO.k9 0 1 3 4 5 6 8 12 42 (VC.ret (QK ?_))))
 exact ZD 4 124 rfl ho24 (by first | rfl | exact YK) (by first | rfl | exact YI)
 refine VC.skip (Qg (VC.rs (VO.mv (VO.z (.ldA 102 rfl XN rfl (Qa rfl rfl)) ?_))))
 refine VO.call 124 rfl Qkc rfl rfl (fun W hW=>Qei W (hW.t 124) ho24 (Rd.mono h1 (hW.o 124 0)) (by first | assumption | rfl) JH JH) (fun v26 m26 hv26=>?_)
 try dsimp only at hv26
 obtain ⟨rfl,w26_0⟩:=hv26
 refine VO.k9 0 1 3 4 5 6 8 12 42 (VC.rs (VO.as (VO.k9 0 1 3 4 5 6 8 12 42 (VC.ret ?_))))
 exact ZD 4 124 rfl w26_0 (by first | rfl | exact YK) (by first | rfl | exact YI)
 refine VD.gN rfl (VD.gN rfl (VD.gN rfl (VD.gN rfl (VD.gN rfl (VD.gN rfl (VD.gN rfl (VD.gN rfl (VD.gN rfl (VD.gN rfl (VD.gN rfl ?_))))))))))
 refine VD.nil rfl ?_ rfl
 refine VO.gN (VO.w (.pF rfl rfl) (VO.z (.pF rfl rfl) ?_))
 refine VO.clsP 127 [118,115,116,117] rfl (fun hg27=>(Qd _ _ _ hg27 q14_0 q14_1 q14_2)) (fun mc27 ho27=>?_)
 refine VO.p3 127 102 0 (VO.k9 0 1 3 4 5 6 8 12 42 (Qg (VC.condF rfl (VC.skip (Qg (VC.rs (VO.mv (VO.z (.ldA 102 rfl XN rfl (Qa rfl rfl)) ?_))))))))
 refine VO.call 127 rfl Qkc rfl rfl (fun W hW=>Qei W (hW.t 127) ho27 (Rd.mono h1 (hW.o 127 0)) (by first | assumption | rfl) JH JH) (fun v28 m28 hv28=>?_)
 try dsimp only at hv28
 obtain ⟨rfl,w28_0⟩:=hv28
 refine VO.k9 0 1 3 4 5 6 8 12 42 (VC.rs (VO.as (VO.k9 0 1 3 4 5 6 8 12 42 (VC.ret ?_))))
 exact ZD 4 127 rfl w28_0 (by first | rfl | exact YK) (by first | rfl | exact YI)
theorem QiV (W:World) {r_:List Qe} {l_:List Jv} {br_:Bool} {D_:Qx} {gd_:Nat} {gu_:Nat} {T_:QI} {gt_:Nat} {m0:Mem} (hm:mle (m0) (wm W)) {g0:Nat} (h0:Ow (.ptr Qs) m0 [Vp g0] (g0,((gt_,T_),(gu_,((gd_,D_),br_,l_)),r_))) (d1:List UInt8) (h1:d1.length≤maxLen) (e0:T_=sT r_) (e1:okU l_):Qc Tryz.prog 13 [Vp g0,str d1] W (m0) (fun v m'=>v= .tuple #[str ((QjJ l_ r_ d1).1),.bool ((QjJ l_ r_ d1).2)]∧Ow (.ptr Qs) m' [Vp g0] (g0,((gt_,T_),(gu_,((gd_,D_),br_,l_)),r_))):=by
 have h1':=h1;simp only [maxLen] at h1'
 refine Qc.ofB (n:=35) hm Tryz.func13 rfl rfl rfl ?_
 refine VC.rs (VO.as (VO.as (VO.k4 0 1 4 5 (VC.seq (VC.rs (VO.mv ?_))))))
 refine VO.call 1 rfl Qfl rfl rfl (fun W hW=>Qca W (hW.t 1) h0) (fun v1 m1 hv1=>?_)
 try dsimp only at hv1
 obtain ⟨rfl,w1_0⟩:=hv1
 refine VO.k5 0 1 4 5 10 ?_
 refine VC.cond rfl (fun hc2=>?_) (fun hc2=>?_)
 exact hc2.elim
 refine VC.skip (Qg (VC.rs (VO.mv (VO.z (.nilp rfl) (VO.z (.fa rfl Qai rfl) ?_)))))
 obtain ⟨q3_E,q3_A2,q3_c2,q3_n0,q3_n1,q3_n2,_,q3_S,q3_0,q3_1,q3_2⟩:=Jl (x0:=(gt_,T_)) (x1:=(gu_,((gd_,D_),br_,l_))) (x2:=r_) w1_0
 dsimp only at q3_0
 dsimp only at q3_1
 refine VO.inv _ (fun _ h=>h.parts (i:=1) rfl q3_S [107,104,105,106]) ?_
 refine VO.z (.ld1 107 rfl tk37 rfl (Qa rfl rfl)) (VO.mv ?_)
 refine VO.call 104 rfl fnOk26 rfl rfl (fun W hW=>Qp9 W (hW.t 104) q3_0 d1 bdm) (fun v8 m8 hv8=>?_)
 obtain ⟨rfl,w8_0⟩:=hv8
 refine VO.mv (VO.z (.ext rfl rfl) (VO.z (.ext rfl rfl) (VO.z (.ext rfl rfl) (VO.as (VO.as (VO.as ?_))))))
 refine VO.clsP 109 [107,104,105,106] rfl (fun hg9=>(Qd _ _ _ hg9 w8_0 q3_1 q3_2)) (fun mc9 ho9=>?_)
 refine VO.p2 109 0 (VO.k8 0 1 4 5 6 7 8 10 (VC.seq (VC.rs (VO.mv (VO.z (.not rfl) (VO.k9 0 1 4 5 6 7 8 10 22 ?_))))))
 refine VC.condBN rfl (fun hc10=>?_) (fun hc10=>?_)
 refine VC.reg ?_
 refine VO.mv (VO.z (.nilp rfl) (VO.z (.fa rfl Qai rfl) ?_))
 obtain ⟨q11_E,q11_A2,q11_c2,q11_n0,q11_n1,q11_n2,_,q11_S,q11_0,q11_1,q11_2⟩:=Jl (x0:=(gt_,T_)) (x1:=(gu_,((gd_,D_),br_,l_))) (x2:=r_) ho9
 dsimp only at q11_0
 dsimp only at q11_1
 refine VO.inv _ (fun _ h=>h.parts (i:=109) rfl q11_S [115,112,113,114]) ?_
 refine VO.z (.ld1 115 rfl Qo3 rfl (Qa rfl rfl)) (VO.mv ?_)
 obtain ⟨q17_E,q17_A2,q17_c2,q17_n0,q17_n2,_,q17_S,q17_0,q17_2⟩:=JM (x0:=(gd_,D_)) (x1:=br_) (x2:=l_) q11_1
 dsimp only at q17_0
 refine VO.inv _ (fun _ h=>h.parts (i:=113) rfl q17_S [120,118,119]) ?_
 refine VO.call 120 rfl fnOk46 rfl rfl (fun W hW=>QpY W (d0:=((some gd_),br_,l_)) (hW.t 120) (Ow.rd q17_2 (hW.o 120 119)) d1 bdm Qf (by first | assumption | simp)) (fun v16 m16 hv16=>?_)
 try dsimp only at hv16
 obtain ⟨rfl,rfl⟩:=hv16
 refine VO.mv (VO.z (.ext rfl rfl) (VO.z (.ext rfl rfl) (VO.z (.ext rfl rfl) (VO.as (VO.as ?_)))))
 refine VO.clsP 121 [120,118,119] rfl (fun hg21=>(J1 _ _ _ hg21 q17_0 q17_2)) (fun mc21 ho21=>?_)
 refine VO.clsP 122 [115,112,121,114] rfl (fun hg22=>(Qd _ _ _ hg22 q11_0 ho21 q11_2)) (fun mc22 ho22=>?_)
 refine VO.k9 0 1 4 5 6 7 8 10 22 (Qg (VC.rs (VO.mv (VO.mv (VO.as (VO.as (VO.p2 122 0 (VO.k9 0 1 4 5 6 7 8 10 22 (VC.ret ?_)))))))))
 refine QcA 4 5 [122] fun hS_=>?_
 dsimp only [Qu]
 exact ⟨(by first | rfl | (first | (rw [Ql2 e0 Qf];rfl) | (rw [QjI e0 Qf];rfl))),(Ow.cgP (Ow.up ho22 (hS_.1 _ (.head _))))⟩
 refine VC.skip (Qg (VC.rs (VO.mv (VO.mv (VO.as (VO.as (VO.k9 0 1 4 5 6 7 8 10 22 (VC.ret ?_))))))))
 refine QcA 4 5 [109] fun hS_=>?_
 dsimp only [Qu]
 exact ⟨(by first | rfl | (first | (rw [Ql2 e0 Qf];rfl) | (rw [QjI e0 Qf];rfl))),(Ow.cgP (Ow.up ho9 (hS_.1 _ (.head _))))⟩
theorem Qkd:JE Tryz.prog 23=true:=by kernel_rfl
theorem Qpt:JE Tryz.prog 47=true:=by kernel_rfl
theorem Qps:JE Tryz.prog 48=true:=by kernel_rfl
theorem tz40:tz Tryz.prog 40=some [.pointer none,.pointer none,.slice none 0 0]:=by kernel_rfl
theorem Zz {P:Prop} (h:P:=by first | exact bd | exact Qap e1 _ (List.mem_of_getElem? ‹d1[_]? =some _›)):P:=h
theorem QhK (W:World) {l_:List Jv} {br_:Bool} {D_:Qx} {gd_:Nat} {m0:Mem} (hm:mle (m0) (wm W)) {g0:Nat} (h0:Ow (.ptr JN) m0 [Vp g0] (g0,((gd_,D_),br_,l_))) {v1:Value} {d1:List Qe} (h1:Rd (.sl QA) (Ju (wm W) (m0)) [v1] d1) (e0:okU l_) (e1:(Qi 1 (Qy l_) d1).1=0) (e2:d1.length≤1000000):Qc Tryz.prog 14 [Vp g0,v1] W (m0) (fun v m'=>∃ (s0:Nat),∃ (gt2:Nat),v= .tuple #[Vp s0,.int .i64 (0)]∧Ow (.ptr Qs) m' [Vp s0] (s0,((gt2,(sT d1)),(g0,((gd_,D_),br_,l_)),d1))):=by
 have hll:=Za e0
 obtain ⟨A1,c1,rfl,l1,k1⟩:=h1.slc
 refine Qc.ofB (n:=37) hm Tryz.func14 rfl rfl rfl ?_
 refine VC.rs (VO.as (VO.as (VO.k4 0 1 4 5 (VC.seq (VC.rs (VO.mv ?_))))))
 refine VO.call 1 rfl Qpt rfl rfl (fun W hW=>Qo1 W (hW.t 1) h0) (fun v1 m1 hv1=>?_)
 try dsimp only at hv1
 obtain ⟨rfl,w1_0⟩:=hv1
 refine VO.z (.notD rfl) (VO.k5 0 1 4 5 12 ?_)
 refine VC.cond rfl (fun hc2=>?_) (fun hc2=>?_)
 exact absurd trivial hc2
 refine VC.skip (Qg (VC.seq (VC.rs (VO.mv ?_))))
 refine VO.call 1 rfl Qgo rfl rfl (fun W hW=>QeG W (hW.t 1) w1_0 Qf) (fun v3 m3 hv3=>?_)
 try dsimp only at hv3
 obtain ⟨rfl,w3_0⟩:=hv3
 refine VO.mv ?_
 refine VO.callN 104 rfl Qps rfl (fun W hW=>Qgk W 1 (by simp only [inK];(exact Zz)) (Qy l_) (by simp only [inK];(exact Zz)) (Rd.mono h1 (hW.t 0))) (fun v4 m4 hv4=>?_)
 obtain ⟨s4_0,rfl,f4_0⟩:=hv4
 obtain ⟨rfl,q4_0_0,q4_0_1⟩:=Xg (x0:=(Qi 1 (Qy l_) d1).1) (x1:=(Qi 1 (Qy l_) d1).2) (f4_0.rd (Qb _))
 simp only [inK] at q4_0_0 q4_0_1
 refine VO.alloc 106 rfl QfC (fun g5=>?_)
 refine VO.store (k:=2) (c':=[.int .i64 ((Qi 1 (Qy l_) d1).1),.int .i64 ((Qi 1 (Qy l_) d1).2)]) 106 rfl rfl (.inl Qcr) rfl rfl rfl rfl rfl ?_
 refine VO.p3 106 1 0 (VO.k6 0 1 4 5 6 12 (VC.rs (VO.z (.fa rfl QaO rfl) (VO.z (.ld1 106 rfl Qp3 rfl (Qa rfl rfl)) (VO.z (.neq rfl rfl) (VO.k7 0 1 4 5 6 12 19 ?_))))))
 refine VC.cond rfl (fun hc7=>?_) (fun hc7=>?_)
 exact absurd e1 hc7
 refine VC.skip (Qg (VC.rs ?_))
 refine VO.callN 108 rfl Qkd rfl (fun W hW=>QgT W) (fun v8 m8 hv8=>?_)
 obtain ⟨s8_0,rfl,f8_0⟩:=hv8
 refine VO.mv ?_
 refine VO.z (.bst (cs:=[Vp s8_0,Vp g0,.slice none (0) (0)]) rfl Qai tz40 rfl) ?_
 refine VO.box (cs:=[Vp s8_0,Vp g0,.slice none (0) (0)]) 110 rfl rfl rfl (fun g9=>?_)
 refine VO.as (VO.k8 0 1 4 5 6 7 12 19 (VC.seq (VC.rs (VO.mv (VO.z (.lenS rfl JS) (VO.mv (VO.p5 110 108 106 1 0 (VO.k11 0 1 4 5 6 7 12 19 26 27 28 (VC.block ?_)))))))))
 refine VC.clsP 111 [110,108,1] rfl (fun hg11=>(Qd _ _ _ (Qt.nilAt 3 hg11) f8_0 w3_0 (Ow.nil _ _))) (fun mc11 ho11=>?_)
 refine VC.loop (G:=Nat × QI × (List Qe) × Mem) (fun g=>[(28,.int .i64 ((((g.1):Nat):Int))),(0,Vp g0),(1,.slice A1 (d1.length) (c1)),(4,.pointer none),(5,.int .i64 (0)),(6,Vp g5),(7,Vp g9),(12,.bool (decide (¬ (True)))),(19,.bool (decide (¬ ((Qi 1 (Qy l_) d1).1)=0))),(26,.slice A1 (d1.length) (c1)),(27,.int .i64 (((d1.length:Nat):Int)))]) (fun g=>[(111,(g.2.2.2)),(106,Qo g5 (.cells #[.int .i64 ((Qi 1 (Qy l_) d1).1),.int .i64 ((Qi 1 (Qy l_) d1).2)] 95 (0,0))),(0,Ju (wm W) (m0))]) (fun g=>((g.1)≤d1.length)∧((g.2.2.1)=d1.take (g.1))∧((g.2.1)=sT (g.2.2.1))∧(Ow (.ptr Qs) (g.2.2.2) [Vp g9] (g9,((s8_0,(g.2.1)),(g0,((gd_,D_),br_,l_)),(g.2.2.1))))) (fun g=>d1.length - (g.1)) (0,([]:Xm),[],mc11) (⟨by omega,by rfl,by rfl,ho11⟩) ⟨esn,fun _ h=>h.sub [111,106,0]⟩ ?_
 rintro ⟨k,w_0,w_2,w_m⟩ ⟨hk,hr,ht,h_w⟩
 replace hk:k≤d1.length:=hk
 replace hr:w_2=d1.take k:=hr
 replace ht:w_0=sT w_2:=ht
 replace h_w:Ow (.ptr Qs) w_m [Vp g9] (g9,((s8_0,w_0),(g0,((gd_,D_),br_,l_)),w_2)):=h_w
 show VC _ _ _ _ _ [(28,.int .i64 (((k:Nat):Int))),(0,Vp g0),(1,.slice A1 (d1.length) (c1)),(4,.pointer none),(5,.int .i64 (0)),(6,Vp g5),(7,Vp g9),(12,.bool (decide (¬ (True)))),(19,.bool (decide (¬ ((Qi 1 (Qy l_) d1).1)=0))),(26,.slice A1 (d1.length) (c1)),(27,.int .i64 (((d1.length:Nat):Int)))] [(111,w_m),(106,Qo g5 (.cells #[.int .i64 ((Qi 1 (Qy l_) d1).1),.int .i64 ((Qi 1 (Qy l_) d1).2)] 95 (0,0))),(0,Ju (wm W) (m0))]
 have hlw:w_2.length≤k:=by rw [hr,List.length_take];omega
 refine VC.rs (VO.z (.lss rfl rfl) (VO.k12 0 1 4 5 6 7 12 19 26 27 28 29 (VC.seq ?_)))
 refine VC.cond rfl (fun hc12=>?_) (fun hc12=>?_)
 ·refine VC.skip (Qg (VC.seq (VC.block (VC.rs ?_))))
  obtain ⟨x13,hx13⟩:∃ z_,(d1)[k]? =some z_:=⟨_,List.getElem?_eq_getElem Zz⟩
  obtain ⟨gg13,oo13,ec13,ea13,hce13,hre13⟩:=h1.elem hx13
  cases ea13
  obtain ⟨q13_A2,q13_c2,rfl,q13_0,q13_1,q13_2⟩:=Jc (x0:=x13.1) (x1:=x13.2.1) (x2:=x13.2.2) hre13
  simp only [inK] at q13_0 q13_1
  refine VO.z (.ixI k rfl rfl JS rfl Zz) ?_
  refine VO.z (.ldA 0 rfl XN rfl hce13) ?_
  refine VO.alloc 115 rfl Qba (fun g14=>?_)
  refine VO.store (k:=3) (c':=[.int .i64 (x13.1),.int .i64 (x13.2.1),.slice q13_A2 (x13.2.2.length) (q13_c2)]) 115 rfl rfl (.inl XN) rfl rfl rfl rfl rfl ?_
  refine VO.nil ?_
  refine VC.reg ?_
  refine VO.mv (VO.z (.ldA 115 rfl XN rfl (Qa rfl rfl)) ?_)
  refine VO.call 111 rfl Qkc rfl rfl (fun W hW=>Qei W (hW.t 111) h_w (Rd.mono hre13 (hW.o 111 0)) (by first | assumption | rfl) Zz Zz) (fun v16 m16 hv16=>?_)
  try dsimp only at hv16
  obtain ⟨rfl,w16_0⟩:=hv16
  refine VO.p4 111 115 106 0 (VO.nil (Jh (Qg ?_)))
  refine VC.reg ?_
  refine VO.z (.add (c:=((k+1:Nat):Int)) rfl rfl Qp ⟨by exact Zz,by exact Zz⟩) ?_
  refine VO.mv (VO.nil ?_)
  exact Qg ⟨⟨k+1,(sT (w_2++[x13])),w_2++[x13],m16⟩,⟨by omega,by (rw [hr];exact (Zc ‹d1[k]? =some _›).symm),by rfl,w16_0⟩,by exact Zz,⟨esn,fun _ h=>Inv.sub h [111,106,0]⟩⟩
 ·refine VC.exit (JU (JU (JT (Qg (VC.rs (VO.mv (VO.as (VO.as (VO.k12 0 1 4 5 6 7 12 19 26 27 28 29 (VC.ret ?_))))))))))
  refine QcA 4 5 [111] fun hS_=>?_
  dsimp only [Qu]
  exact ⟨g9,s8_0,(by first | rfl | (simp [*];done)),(Ow.cgP (Ow.up h_w (hS_.1 _ (.head _))) (by first | rfl | ((rw [ht,hr,List.take_of_length_le Qp];done))))⟩
theorem QlY (W:World) {l_:List Jv} {br_:Bool} {D_:Qx} {gd_:Nat} {m0:Mem} (hm:mle (m0) (wm W)) {g0:Nat} (h0:Ow (.ptr JN) m0 [Vp g0] (g0,((gd_,D_),br_,l_))) {v1:Value} {d1:List Qe} (h1:Rd (.sl QA) (Ju (wm W) (m0)) [v1] d1) (e0:okU l_) (e1:¬ (Qi 1 (Qy l_) d1).1=0):Qc Tryz.prog 14 [Vp g0,v1] W (m0) (fun v m'=>v= .tuple #[.pointer none,.int .i64 ((Qi 1 (Qy l_) d1).1)]∧Ow (.ptr JN) m' [Vp g0] (g0,((gd_,D_),br_,l_))):=by
 have hll:=Za e0
 obtain ⟨A1,c1,rfl,l1,k1⟩:=h1.slc
 refine Qc.ofB (n:=37) hm Tryz.func14 rfl rfl rfl ?_
 refine VC.rs (VO.as (VO.as (VO.k4 0 1 4 5 (VC.seq (VC.rs (VO.mv ?_))))))
 refine VO.call 1 rfl Qpt rfl rfl (fun W hW=>Qo1 W (hW.t 1) h0) (fun v1 m1 hv1=>?_)
 try dsimp only at hv1
 obtain ⟨rfl,w1_0⟩:=hv1
 refine VO.z (.notD rfl) (VO.k5 0 1 4 5 12 ?_)
 refine VC.cond rfl (fun hc2=>?_) (fun hc2=>?_)
 exact absurd trivial hc2
 refine VC.skip (Qg (VC.seq (VC.rs (VO.mv ?_))))
 refine VO.call 1 rfl Qgo rfl rfl (fun W hW=>QeG W (hW.t 1) w1_0 Qf) (fun v3 m3 hv3=>?_)
 try dsimp only at hv3
 obtain ⟨rfl,w3_0⟩:=hv3
 refine VO.mv ?_
 refine VO.callN 104 rfl Qps rfl (fun W hW=>Qgk W 1 bdk (Qy l_) bdk (Rd.mono h1 (hW.t 0))) (fun v4 m4 hv4=>?_)
 obtain ⟨s4_0,rfl,f4_0⟩:=hv4
 obtain ⟨rfl,q4_0_0,q4_0_1⟩:=Xg (x0:=(Qi 1 (Qy l_) d1).1) (x1:=(Qi 1 (Qy l_) d1).2) (f4_0.rd (Qb _))
 simp only [inK] at q4_0_0 q4_0_1
 refine VO.alloc 106 rfl QfC (fun g5=>?_)
 refine VO.store (k:=2) (c':=[.int .i64 ((Qi 1 (Qy l_) d1).1),.int .i64 ((Qi 1 (Qy l_) d1).2)]) 106 rfl rfl (.inl Qcr) rfl rfl rfl rfl rfl ?_
 refine VO.p3 106 1 0 (VO.k6 0 1 4 5 6 12 (VC.rs (VO.z (.fa rfl QaO rfl) (VO.z (.ld1 106 rfl Qp3 rfl (Qa rfl rfl)) (VO.z (.neq rfl rfl) (VO.k7 0 1 4 5 6 12 19 ?_))))))
 refine VC.cond rfl (fun hc7=>?_) (fun hc7=>?_)
 ·refine VC.seq ?_
  refine VC.regD _ 3 [(0,true),(1,true),(2,true)] follows (by kernel_rfl) (fun _ h=>h.sub [106,1,0]) ?_
  refine VD.z rfl (.fa rfl QaO rfl) (VD.z rfl (.ld1 106 rfl Qp3 rfl (Qa rfl rfl)) (VD.z rfl (.as rfl) ?_))
  refine VD.nil rfl ?_ rfl
  refine VO.as (VO.k7 0 1 4 5 6 12 19 (Qg (VC.ret (QK ?_))))
  refine QcA 4 5 [1] fun hS_=>?_
  dsimp only [Qu]
  exact ⟨(by first | rfl | (simp [*];done)),(Ow.cgP (Ow.up w3_0 (hS_.1 _ (.head _))))⟩
 exact absurd (Decidable.not_not.1 hc7) e1
def Qkt (l : List DOp) (n : Int) : List DOp := if n < 0 then l else l.take n.toNat
def exT : Xm := [([97], [], false), ([98], [50], true)]
section
variable {l out : List DOp} {n a : Int} {x : DOp}
theorem all_in (ho:out=l.take a.toNat∧0≤a∧a≤l.length∧(n < 0∨a≤n)) (hx:l[a.toNat]? =some x) (hn:¬ (out.length:Int)=n):out++[x]=l.take (vsN a).toNat∧0≤vsN a∧vsN a≤l.length∧(n < 0∨vsN a≤n):=by
 obtain ⟨h1,h2,h3,h4⟩:=ho
 have h5:=(List.getElem?_eq_some_iff.1 hx).1
 have h6:out.length=a.toNat:=by rw [h1,List.length_take];omega
 refine ⟨?_,by unfold vsN;omega,by unfold vsN;omega,by unfold vsN;omega⟩
 rw [show (vsN a).toNat=a.toNat+1 by unfold vsN;omega,Zc hx,h1]
theorem QoT (ho:out=l.take a.toNat∧0≤a∧a≤l.length∧(n < 0∨a≤n)) (hn:(out.length:Int)=n):out=Qkt l n:=by
 obtain ⟨h1,h2,h3,h4⟩:=ho
 have h6:out.length=a.toNat:=by rw [h1,List.length_take];omega
 unfold Qkt;rw [if_neg (by omega),h1];congr 1;omega
theorem QoU (ho:out=l.take a.toNat∧0≤a∧a≤l.length∧(n < 0∨a≤n)) (hd:vsD l a):out=Qkt l n:=by
 obtain ⟨h1,h2,h3,h4⟩:=ho
 unfold vsD at hd
 unfold Qkt;split
 ·rw [h1,List.take_of_length_le (by omega)]
 ·rw [h1,List.take_of_length_le (by omega),List.take_of_length_le (by omega)]
end
theorem ex_up:Ya [((false,[97],[]):DOp),(true,[98],[50])]:=⟨fun o ho=>by
 rcases List.mem_cons.1 ho with rfl | ho
 ·rfl
 ·rw [List.mem_singleton.1 ho];rfl,by simp [kl];decide⟩
theorem Qnj:tL exT=[(false,[97],[]),(true,[98],[50])]:=(QiJ (L:=[(false,[97],[]),(true,[98],[50])]) (by decide) ⟨ex_up,fun q=>by
 unfold exT YH ZH
 by_cases h1:([97]:List UInt8)=q
 ·subst h1;rfl
 ·by_cases h2:([98]:List UInt8)=q
  ·subst h2;rfl
  ·simp [h1,h2]⟩).1
theorem tl_nil:tL []=[]:=(QiJ (by simp) QcW).1
section
variable {l out old y : List DOp} {x o : DOp} {a : Int} {q : Qr}
theorem QpV (ho:out=l.take a.toNat∧0≤a) (hx:l[a.toNat]? =some x):out++[x]=l.take (vsN a).toNat∧0≤vsN a:=by
 refine ⟨?_,by unfold vsN;omega⟩
 rw [show (vsN a).toNat=a.toNat+1 by unfold vsN;omega,Zc hx,ho.1]
theorem Qln (ho:out=l.take a.toNat∧0≤a) (hd:vsD l a):out=l:=by
 unfold vsD at hd
 rw [ho.1,List.take_of_length_le (by omega)]
theorem Qjb:mrg [] old=old:=rfl
theorem Qh1 (h:kl x.2.1 o.2.1):mrg (o::y) (x::old)=x::mrg (o::y) old:=by show Qpe o _ (x::old)=_;unfold Qpe;rw [if_pos h];rfl
theorem Qh3 (h:¬ kl x.2.1 o.2.1) (h2:x.2.1=o.2.1):mrg (o::y) (x::old)=o::mrg y old:=by show Qpe o _ (x::old)=_;unfold Qpe;rw [if_neg h,if_pos h2]
theorem Qh2 (h:¬ kl x.2.1 o.2.1) (h2:¬ x.2.1=o.2.1):mrg (o::y) (x::old)=o::mrg y (x::old):=by show Qpe o _ (x::old)=_;unfold Qpe;rw [if_neg h,if_neg h2]
theorem Qfb:mrg (o::y) []=o::mrg y []:=rfl
theorem Qfa : ∀ (y old : List DOp), (mrg y old).length ≤ y.length + old.length
  | [], old => by rw [Qjb]; simp
  | o :: y, [] => by rw [Qfb, List.length_cons, List.length_cons]; have := Qfa y []; omega
  | o :: y, x :: old => by
    by_cases h : kl x.2.1 o.2.1
    · rw [Qh1 h, List.length_cons]; have := Qfa (o :: y) old; simp only [List.length_cons] at *; omega
    · by_cases h2 : x.2.1 = o.2.1
      · rw [Qh3 h h2]; have := Qfa y old; simp only [List.length_cons] at *; omega
      · rw [Qh2 h h2]; have := Qfa y (x :: old); simp only [List.length_cons] at *; omega
end
def cnt (l : List DOp) : Int := ((l.filter (·.1)).length : Int)
section
variable {L out old young rest : List DOp} {x y : DOp} {i j : Nat}
theorem QqB (h:x.1=false):cnt (out++[x])=cnt out:=by unfold cnt;rw [List.filter_append];simp [h]
theorem Qmw (h:x.1=true):cnt (out++[x])=vsN (cnt out):=by unfold cnt vsN;rw [List.filter_append];simp [h]
theorem mg_E (h:L=out++([x]++rest)) (hp:x.1=true) (h1:x.2.1.length≤maxLen) (h2:x.2.2.length≤maxLen):lvE L (cnt out) [str x.2.1,str x.2.2] mnil:=by
 have e:L.filter (·.1)=out.filter (·.1)++x::rest.filter (·.1):=by rw [h,List.filter_append,List.filter_append];simp [hp]
 refine ⟨by unfold cnt;omega,?_,rfl,x,?_,h1,h2,rfl⟩
 ·rw [e];unfold cnt;simp;omega
 ·rw [e];unfold cnt;simp
theorem mg_lt (h:L=out++mrg (young.drop j) (old.drop i)) (hx:young[j]? =some x) (hy:old[i]? =some y) (hk:kl y.2.1 x.2.1):L=(out++[y])++mrg (young.drop j) (old.drop (i+1)):=by
 rw [h,Z2 hx,Z2 hy,Qh1 hk];simp
theorem mg_eq (h:L=out++mrg (young.drop j) (old.drop i)) (hx:young[j]? =some x) (hy:old[i]? =some y) (hk:¬ kl y.2.1 x.2.1) (he:y.2.1=x.2.1):L=(out++[x])++mrg (young.drop (j+1)) (old.drop (i+1)):=by
 rw [h,Z2 hx,Z2 hy,Qh3 hk he];simp
theorem mg_gt (h:L=out++mrg (young.drop j) (old.drop i)) (hx:young[j]? =some x) (hy:old[i]? =some y) (hk:¬ kl y.2.1 x.2.1) (he:¬ y.2.1=x.2.1):L=(out++[x])++mrg (young.drop (j+1)) (old.drop i):=by
 rw [h,Z2 hx,Z2 hy,Qh2 hk he];simp
theorem mg_nl (h:L=out++mrg (young.drop j) (old.drop i)) (hx:young[j]? =some x) (hi:old.length≤i):L=(out++[x])++mrg (young.drop (j+1)) (old.drop i):=by
 rw [h,Z2 hx,List.drop_of_length_le hi,Qfb];simp
theorem mg_fin (h:L=out++mrg (young.drop j) (old.drop i)) (hj:young.length≤j):L=out++old.drop i:=by
 rw [h,List.drop_of_length_le hj,Qjb]
theorem mg_o (h:L=out++old.drop i) (hy:old[i]? =some y):L=(out++[y])++old.drop (i+1):=by
 rw [h,Z2 hy];simp
theorem mg_end (h:L=out++old.drop i) (hi:old.length≤i):lvD L (cnt out):=by
 rw [h,List.drop_of_length_le hi,List.append_nil];exact Int.le_refl _
end
section
variable {l : List Jv} {r : List Qe} {L out : List DOp} {x : DOp} {a n : Int}
theorem Ql1:((XJ l r).filter (·.1)).length≤(sT r).length+(Zm l).length:=by
 have h1:=List.length_filter_le (fun o:DOp=>o.1) (XJ l r)
 have h2:=Qfa (tL (sT r)) (tL (Zm l))
 rw [JO,JO] at h2
 exact Nat.le_trans h1 h2
theorem QrG (ho:out=(L.filter (·.1)).take a.toNat∧0≤a∧a≤(L.filter (·.1)).length∧(n < 0∨a≤n)) (hx:(L.filter (·.1))[a.toNat]? =some x) (hn:¬ (out.length:Int)=n):out++[(true,x.2.1,x.2.2)]=(L.filter (·.1)).take (vsN a).toNat∧0≤vsN a∧vsN a≤(L.filter (·.1)).length∧(n < 0∨vsN a≤n):=by
 have h1:x.1=true:=by simpa using (List.mem_filter.1 (List.mem_of_getElem? hx)).2
 have e:(true,x.2.1,x.2.2)=x:=by rw [← h1]
 rw [e];exact all_in ho hx hn
theorem Qdo (ho:out=(L.filter (·.1)).take a.toNat∧0≤a∧a≤(L.filter (·.1)).length∧(n < 0∨a≤n)) (hd:lvD L a):out=Qkt (L.filter (·.1)) n:=QoU ho hd
end
theorem fnOk86:JE Tryz.prog 86=true:=by kernel_rfl
theorem QrD (W:World) {m1:Mem} (hm:mle (m1) (wm W)) {ca1:List Value} {l1:List DOp} (h1:Qby Tryz.prog 128 ca1 m1 (vsE l1) vsN 0 (vsD l1)) (e0:l1.length≤10000000):Qc Tryz.prog 86 [.slice none 0 0,.func (.func 128) #[] (List.toArray ca1)] W (m1) (fun v m'=>∃ (s0:Value),v=s0∧Ow (.sl TOp) m' [s0] (l1)):=by
 refine Qc.ofX (n:=13) Tryz.func86 rfl rfl rfl hm ?_
 refine VX.rs ?_
 refine VO.box (cs:=[.slice none (0) (0)]) 102 rfl rfl rfl (fun g1=>?_)
 refine VO.as (VO.k4 0 1 2 4 ?_)
 refine VX.seq ?_
 refine VX.rs ?_
 refine VO.mv (VO.k5 0 1 2 4 6 ?_)
 refine VX.block ?_
 refine VX.inv ((103,mnil)::_) (fun _ h=>h.nilc 103) ?_
 refine VX.gather (l:=[mnil,Qo g1 (.cells [Value.slice none (0) (0)].toArray 34 (0,0))]) 105 [103,102] rfl (fun hg4=>?_)
 refine VX.inv [(1,m1),(105,Zs [mnil,Qo g1 (.cells [Value.slice none (0) (0)].toArray 34 (0,0))]),(0,Ju (wm W) (m1))] (fun _ h=>h.sub [1,105,0]) ?_
 refine VX.rangeR (A:=Int) (G:=(List DOp) × (Option Addr) × Nat × Mem) (rest:=[(0,Ju (wm W) (m1))]) 105 1 106 107 108 109 (fun g=>Zs [(g.2.2.2),Qo g1 (.cells [Value.slice (g.2.1) ((g.1).length) ((g.2.2.1))].toArray 34 (0,0))]) (fun at_ g=>((g.1)=l1.take at_.toNat∧0≤at_)∧(Qz TOp (g.2.2.2) mnil (.slice (g.2.1) (g.1).length (g.2.2.1)) (g.1))∧(Qt (Zs [(g.2.2.2),Qo g1 (.cells [Value.slice (g.2.1) ((g.1).length) ((g.2.2.1))].toArray 34 (0,0))]) [(g.2.2.2),Qo g1 (.cells [Value.slice (g.2.1) ((g.1).length) ((g.2.2.1))].toArray 34 (0,0))])) (fun e g=>e=(.exit 0)∧(False)∧(Qz TOp (g.2.2.2) mnil (.slice (g.2.1) (g.1).length (g.2.2.1)) (g.1))∧(Qt (Zs [(g.2.2.2),Qo g1 (.cells [Value.slice (g.2.1) ((g.1).length) ((g.2.2.1))].toArray 34 (0,0))]) [(g.2.2.2),Qo g1 (.cells [Value.slice (g.2.1) ((g.1).length) ((g.2.2.1))].toArray 34 (0,0))])) ([],none,0,mnil) ⟨by exact ⟨rfl,by omega⟩,(Qz.nil TOp mnil mnil),hg4⟩ (fun _ _=>(Qby.r (mf:=mnil) h1)) (.inl rfl) rfl rfl rfl (fun _ _ _ h=>by obtain ⟨_,_,_,_,_,_,_,rfl⟩:=h;rfl) (Bx:=Nat) (fun args B=>[(5,Vp B),(0,Value.slice none (0) (0)),(1,Value.func (.func 128) #[] ca1.toArray),(2,Vp g1),(4,Value.slice none (0) (0))]) (fun args B=>[(110,Qo B (.cells (aggC (args.getD 0 undef)) 64 (0,0)))]) ?_ ?_ ?_ ?_
 ·intro w1_ lr_ at_ args_ mr_ Ω_ hE_
  obtain ⟨hE0_,hE1_,rfl,x_,hxa_,hxl1_,hxl2_,rfl⟩:=hE_
  simp only [maxLen] at hxl1_ hxl2_
  refine VX.reg ?_
  refine VO.alloc 110 rfl YX (fun gB_=>?_)
  refine VO.store (k:=3) (c':=[.bool x_.1,str (x_.2.1),str (x_.2.2)]) 110 rfl rfl (.inl Yx) rfl rfl rfl rfl rfl ?_
  refine VO.nil ?_
  exact ⟨rfl,rfl,gB_,esn,fun W_ hW_=>Inv.rot hW_⟩
 rintro w1_ lr_ Dr_ at_ ⟨out,out_A,out_c,out_m⟩ args_ mr_ ml_ mo_ gB_ ⟨ho,h_out,hSep_⟩ hE_
 replace ho:out=l1.take at_.toNat∧0≤at_:=ho
 replace h_out:Qz TOp out_m mnil (.slice out_A out.length out_c) out:=h_out
 replace hSep_:Qt (Zs [out_m,Qo g1 (.cells [Value.slice out_A (out.length) (out_c)].toArray 34 (0,0))]) [out_m,Qo g1 (.cells [Value.slice out_A (out.length) (out_c)].toArray 34 (0,0))]:=hSep_
 obtain ⟨hE0_,hE1_,rfl,x_,hxa_,hxl1_,hxl2_,rfl⟩:=hE_
 simp only [maxLen] at hxl1_ hxl2_
 refine VX.parts 105 [103,102] rfl hSep_ ?_
 show VX _ _ _ _ _ _ _ [(5,Vp gB_),(0,.slice none (0) (0)),(1,.func (.func 128) #[] ca1.toArray),(2,Vp g1),(4,.slice none (0) (0))] [(103,out_m),(102,Qo g1 (.cells #[.slice out_A (out.length) (out_c)] 34 (0,0))),(108,mnil),(109,mo_),(107,ml_),(106,Qo Dr_ (.deferred (some []))),(0,Ju (wm W) (m1)),(110,Qo gB_ (.cells #[.bool x_.1,str (x_.2.1),str (x_.2.2)] 64 (0,0)))]
 have l_out:out.length≤out_c:=by obtain ⟨_,_,he,hl,_⟩:=h_out.slice;simp only [Value.slice.injEq] at he;omega
 have k_out:out_c≤9223372036854775807:=by obtain ⟨_,_,he,_,hl⟩:=h_out.slice;simp only [Value.slice.injEq,maxLen] at he hl;omega
 have hlo:out.length≤l1.length:=by rw [ho.1,List.length_take];omega
 refine VX.block ?_
 refine VX.reg ?_
 refine VO.z (.ld1 102 rfl Jw rfl (Qa rfl rfl)) (VO.z (.ldA 110 rfl Yx rfl (Qa rfl rfl)) ?_)
 refine VO.bsl (cs:=[.bool x_.1,str (x_.2.1),str (x_.2.2)]) 112 rfl rfl QX YX rfl rfl (fun g11=>?_)
 obtain ⟨mo13,cs13,hM13,hA13,hC13⟩:=h_out
 refine VO.app 103 rfl rfl rfl QX YX rfl rfl hM13 hA13 (.row 112 _ _ _ 1 1 _ _ Tryz.underlying34 rfl (Qa rfl rfl)) (by simp [Value.oneCell']) bdm bd (by decide) (fun v13 m13 hN13=>?_)
 have ho13:Qz TOp m13 mnil v13 (out++[x_]):=Qz.one hC13 hN13 (show Rd TOp _ _ x_ from (Xl (m:=_) x_.1 x_.2.1 x_.2.2 bdm bdm))
 obtain ⟨A13,c13,rfl,l13,k13⟩:=ho13.slc
 refine VO.store (k:=1) (c':=[.slice A13 ((out++[x_]).length) (c13)]) 102 rfl rfl (.inr ⟨Jw,rfl⟩) rfl rfl rfl rfl rfl ?_
 refine VO.p7 103 102 109 107 106 0 110 (VO.k5 0 1 2 4 5 (Jh ?_))
 exact ⟨rfl,fun W_ hW_=>⟨⟨out++[x_],A13,c13,m13⟩,(hW_.gather (ids:=[103,102]) 105 rfl).1.sub [109,107,105,106,0],.inl ⟨rfl,by exact QpV ho hxa_,ho13,(hW_.gather (ids:=[103,102]) 105 rfl).2⟩⟩⟩
 ·rintro Dr_ at_ ⟨out,out_A,out_c,out_m⟩ ⟨ho,h_out,hSep_⟩ hDn_
  replace ho:out=l1.take at_.toNat∧0≤at_:=ho
  replace h_out:Qz TOp out_m mnil (.slice out_A out.length out_c) out:=h_out
  replace hSep_:Qt (Zs [out_m,Qo g1 (.cells [Value.slice out_A (out.length) (out_c)].toArray 34 (0,0))]) [out_m,Qo g1 (.cells [Value.slice out_A (out.length) (out_c)].toArray 34 (0,0))]:=hSep_
  have l_out:out.length≤out_c:=by obtain ⟨_,_,he,hl,_⟩:=h_out.slice;simp only [Value.slice.injEq] at he;omega
  have k_out:out_c≤9223372036854775807:=by obtain ⟨_,_,he,_,hl⟩:=h_out.slice;simp only [Value.slice.injEq,maxLen] at he hl;omega
  refine Jh (Qg ?_)
  refine VX.parts 105 [103,102] rfl hSep_ ?_
  show VX _ _ _ _ _ _ _ [(0,.slice none (0) (0)),(1,.func (.func 128) #[] ca1.toArray),(2,Vp g1),(4,.slice none (0) (0)),(6,.func (.func 128) #[] ca1.toArray)] [(103,out_m),(102,Qo g1 (.cells #[.slice out_A (out.length) (out_c)] 34 (0,0))),(106,Qo Dr_ (.deferred (some []))),(0,Ju (wm W) (m1))]
  refine VX.rs ?_
  refine VO.z (.ld1 102 rfl Jw rfl (Qa rfl rfl)) (VO.as (VO.p4 103 102 106 0 (VO.k5 0 1 2 4 6 ?_)))
  refine VX.ret ?_
  refine ⟨106,rfl,?_⟩
  refine ⟨_,_,QE (rs:=[.tmp 4]) rfl (.tmp rfl .nil),fun W_ hI=>Q2 (l:=[out_m]) hI [103] rfl rfl (Qb _) (fun hS_=>?_)⟩
  dsimp only [Qu]
  exact ⟨Value.slice out_A (out.length) (out_c),(by first | rfl | (simp [*];done)),(Ow.cg (Ow.up (Qz.ow h_out rfl) (hS_.1 _ (.head _))) (by first | rfl | (first | exact (Qln ho hDn_).symm | exact hs.elim)))⟩
 rintro Dr_ _ ⟨out,out_A,out_c,out_m⟩ ⟨rfl,hs,h_out,hSep_⟩ _
 exact hs.elim
theorem QV (W:World) {m0:Mem} (hm:mle (m0) (wm W)) {ca0:List Value} {l0:List DOp} (h0:Qby Tryz.prog 128 ca0 m0 (vsE l0) vsN 0 (vsD l0)) (e0:l0.length≤10000000):Qc Tryz.prog 43 [.func (.func 128) #[] (List.toArray ca0)] W (m0) (fun v m'=>∃ (s0:Value),v=s0∧Ow (.sl TOp) m' [s0] (l0)):=by
 refine Qc.ofB (n:=5) hm Tryz.func43 rfl rfl rfl ?_
 refine VC.rs (VO.as (VO.k2 0 2 (VC.rs (VO.mv ?_))))
 refine VO.call 1 rfl fnOk86 rfl rfl (fun W hW=>QrD W (hW.t 1) h0 bd) (fun v1 m1 hv1=>?_)
 obtain ⟨s1_0,rfl,f1_0⟩:=hv1
 obtain ⟨A1_0,c1_0,eq1_0,l1_0,k1_0⟩:=f1_0.slc
 subst eq1_0
 refine VO.as (VO.k2 0 2 (VC.ret ?_))
 refine XC 2 [1] fun hS_=>?_
 dsimp only [Qu]
 exact ⟨Value.slice A1_0 (l0.length) (c1_0),(by first | rfl | (simp [*];done)),(Ow.cg (Ow.up f1_0 (hS_.1 _ (.head _))))⟩
theorem Qq4:JE Tryz.prog 130=true:=by kernel_rfl
theorem Qkz (W:World) {l_:List Jv} {br_:Bool} {D_:Qx} {gd_:Nat} {g0:Nat} (h0:Rd (.ptr JN) (wm W) [Vp g0] (g0,((gd_,D_),br_,l_))):Qc Tryz.prog 55 [Vp g0] W (mnil) (fun v m'=>v= .bool (decide (False))):=by
 have rp0_k:=h0
 obtain ⟨_,rp0_rc,rp0_E,rp0_h,rp0_r⟩:=rp0_k
 obtain ⟨rp0_A2,rp0_c2,rfl,rp0_0,rp0_2⟩:=YE (x0:=(gd_,D_)) (x1:=br_) (x2:=l_) rp0_r
 dsimp only at rp0_0
 have rp0_b:Jp (wm W) g0 0 3 [Vp gd_,Value.bool br_,Value.slice rp0_A2 (l_.length) (rp0_c2)]:=(Qa rfl rfl).mono (Qaq rp0_h)
 refine Qc.ofA (n:=12) Tryz.func55 rfl rfl rfl ?_
 refine VC.rs (VO.as (VO.k2 0 2 (VC.rs (VO.mv ?_))))
 refine VO.z (.pnil rfl rfl Tryz.underlying38 rfl) ?_
 refine VO.mv (VO.w (.mv rfl) (VO.w (.nilp rfl) (VO.w (.fa rfl Qah rfl) ?_)))
 refine VO.w (.ld1 0 rfl Qp2 rfl (rp0_b.at1 (j:=0) rfl)) ?_
 refine VO.w (.pnil rfl rfl Tryz.underlying44 rfl) ?_
 refine VO.z (.pF rfl rfl) (VO.as (VO.k2 0 2 (VC.ret ?_)))
 exact Yu 2 rfl (by first | rfl | (simp [*];done))
theorem Ze {P:Prop} (h:P:=by first | exact bd | (have h_:=QbR e0 ‹l_[_]? =some _›;omega)):P:=h
theorem Qlt (W:World) {l_:List Jv} {br_:Bool} {D_:Qx} {gd_:Nat} {g0:Nat} (h0:Rd (.ptr JN) (wm W) [Vp g0] (g0,((gd_,D_),br_,l_))) (e0:okU l_):Qc Tryz.prog 130 [Vp g0] W (mnil) (fun v m'=>∃ (s0:Value),v=s0∧Ow (.sl YB) m' [s0] (l_)):=by
 have hll:=Za e0
 have rp0_k:=h0
 obtain ⟨_,rp0_rc,rp0_E,rp0_h,rp0_r⟩:=rp0_k
 obtain ⟨rp0_A2,rp0_c2,rfl,rp0_0,rp0_2⟩:=YE (x0:=(gd_,D_)) (x1:=br_) (x2:=l_) rp0_r
 dsimp only at rp0_0
 have rp0_b:Jp (wm W) g0 0 3 [Vp gd_,Value.bool br_,Value.slice rp0_A2 (l_.length) (rp0_c2)]:=(Qa rfl rfl).mono (Qaq rp0_h)
 refine Qc.ofA (n:=24) Tryz.func130 rfl rfl rfl ?_
 refine VC.rs (VO.as (VO.k2 0 2 (VC.seq (VC.rs (VO.mv ?_)))))
 refine VO.callN 101 rfl Qgn rfl (fun W hW=>Qkz W (Rd.mono h0 (hW.t 0))) (fun v1 m1 hv1=>?_)
 try dsimp only at hv1
 subst hv1
 refine VO.k3 0 2 7 ?_
 refine VC.cond rfl (fun hc2=>?_) (fun hc2=>?_)
 exact hc2.elim
 refine VC.skip (Qg (VC.rs (VO.as (VO.p1 0 (VO.k4 0 2 3 7 (VC.seq (VC.rs (VO.mv (VO.z (.nilp rfl) (VO.z (.fa rfl Qah rfl) ?_))))))))))
 refine VO.z (.ld1 0 rfl QhA rfl (rp0_b.at1 (j:=2) rfl)) ?_
 refine VO.z (.lenS rfl XH) (VO.mv (VO.k7 0 2 3 7 11 12 13 (VC.block ?_)))
 refine VC.inv ((103,mnil)::_) (fun _ h=>h.nilc 103) ?_
 refine VC.loop (G:=Nat × (List Jv) × (Option Addr) × Nat × Mem) (fun g=>[(3,.slice (g.2.2.1) ((g.2.1).length) ((g.2.2.2.1))),(13,.int .i64 ((((g.1):Nat):Int))),(0,Vp g0),(2,.slice none (0) (0)),(7,.bool (decide (False))),(11,.slice rp0_A2 (l_.length) (rp0_c2)),(12,.int .i64 (((l_.length:Nat):Int)))]) (fun g=>[(103,(g.2.2.2.2)),(0,wm W)]) (fun g=>((g.1)≤l_.length)∧((g.2.1)=l_.take (g.1))∧(Ow (.sl YB) (g.2.2.2.2) [.slice (g.2.2.1) (g.2.1).length (g.2.2.2.1)] (g.2.1))) (fun g=>l_.length - (g.1)) (0,[],none,0,mnil) (⟨by omega,by rfl,(Ow.nil YB mnil)⟩) ⟨esn,fun _ h=>h.sub [103,0]⟩ ?_
 rintro ⟨k,out,out_A,out_c,out_m⟩ ⟨hk,ho,h_out⟩
 replace hk:k≤l_.length:=hk
 replace ho:out=l_.take k:=ho
 replace h_out:Ow (.sl YB) out_m [.slice out_A out.length out_c] out:=h_out
 show VC _ _ _ _ _ [(3,.slice out_A (out.length) (out_c)),(13,.int .i64 (((k:Nat):Int))),(0,Vp g0),(2,.slice none (0) (0)),(7,.bool (decide (False))),(11,.slice rp0_A2 (l_.length) (rp0_c2)),(12,.int .i64 (((l_.length:Nat):Int)))] [(103,out_m),(0,wm W)]
 have l_out:out.length≤out_c:=by obtain ⟨_,_,he,hl,_⟩:=h_out.slice;simp only [Value.slice.injEq] at he;omega
 have k_out:out_c≤9223372036854775807:=by obtain ⟨_,_,he,_,hl⟩:=h_out.slice;simp only [Value.slice.injEq,maxLen] at he hl;omega
 have hlo:out.length≤k:=by rw [ho,List.length_take];omega
 refine VC.rs (VO.z (.lss rfl rfl) (VO.k8 0 2 3 7 11 12 13 14 (VC.seq ?_)))
 refine VC.cond rfl (fun hc4=>?_) (fun hc4=>?_)
 ·refine VC.skip (Qg (VC.seq (VC.block (VC.rs ?_))))
  obtain ⟨x5,hx5⟩:∃ z_,(l_)[k]? =some z_:=⟨_,List.getElem?_eq_getElem Ze⟩
  obtain ⟨gg5,oo5,ec5,ea5,hce5,hre5⟩:=rp0_2.elem hx5
  cases ea5
  obtain ⟨q5_A2,q5_c2,rfl,q5_0,q5_1,q5_2⟩:=ZX (x0:=x5.1) (x1:=x5.2.1) (x2:=x5.2.2) hre5
  simp only [inK] at q5_0 q5_1
  refine VO.z (.ixI k rfl rfl XH rfl Ze) ?_
  refine VO.z (.ldA 0 rfl XI rfl hce5) ?_
  refine VO.alloc 107 rfl QbA (fun g6=>?_)
  refine VO.store (k:=3) (c':=[.int .i64 (x5.1),.int .i64 (x5.2.1),.slice q5_A2 (x5.2.2.length) (q5_c2)]) 107 rfl rfl (.inl XI) rfl rfl rfl rfl rfl ?_
  refine VO.p3 107 103 0 (VO.k9 0 2 3 5 7 11 12 13 14 ?_)
  refine VC.reg ?_
  refine VO.mv (VO.z (.ldA 107 rfl XI rfl (Qa rfl rfl)) ?_)
  refine VO.callN 108 rfl Qpl rfl (fun W hW=>QfV W (Rd.mono hre5 (hW.t 0)) Ze) (fun v8 m8 hv8=>?_)
  obtain ⟨s8_0,rfl,f8_0⟩:=hv8
  obtain ⟨q8_0_A2,q8_0_c2,q8_0_n2,rfl,q8_0_S,q8_0_0,q8_0_1,q8_0_2⟩:=QbQ (x0:=x5.1) (x1:=x5.2.1) (x2:=x5.2.2) f8_0
  simp only [inK] at q8_0_0 q8_0_1
  refine VO.inv _ (fun _ h=>h.parts (i:=108) rfl q8_0_S [109]) ?_
  refine VO.bsl (cs:=[.int .i64 (x5.1),.int .i64 (x5.2.1),.slice q8_0_A2 (x5.2.2.length) (q8_0_c2)]) 111 rfl rfl XH QbA rfl rfl (fun g10=>?_)
  refine VO.appO (e:=YB) 103 109 111 rfl rfl rfl XH QbA rfl rfl rfl rfl h_out (show Ow YB _ _ x5 from (Yb x5.1 x5.2.1 x5.2.2 (Qt.one (Qb _)) (by simp only [inK];(exact Ze)) (by simp only [inK];(exact Ze)) q8_0_2)) Tryz.underlying45 (Qa rfl rfl) (by simp only [maxLen];(exact Ze)) Ze (by decide) (fun v12 m12 ho12=>?_)
  obtain ⟨A12,c12,rfl,l12,k12⟩:=ho12.slc
  refine VO.as (VO.k9 0 2 3 5 7 11 12 13 14 (Jh (Qg ?_)))
  refine VC.reg ?_
  refine VO.z (.add (c:=((k+1:Nat):Int)) rfl rfl Qp ⟨by exact Ze,by exact Ze⟩) ?_
  refine VO.mv (VO.k9 0 2 3 5 7 11 12 13 14 ?_)
  exact Qg ⟨⟨k+1,out++[x5],A12,c12,m12⟩,⟨by omega,by (rw [ho];exact (Zc ‹l_[k]? =some _›).symm),ho12⟩,by exact Ze,⟨esn,fun _ h=>Inv.sub h [103,0]⟩⟩
 ·refine VC.exit (JU (JU (JT (Qg (VC.rs (VO.mv (VO.as (VO.p2 103 0 (VO.k8 0 2 3 7 11 12 13 14 (VC.ret ?_))))))))))
  refine XC 2 [103] fun hS_=>?_
  dsimp only [Qu]
  exact ⟨Value.slice out_A (out.length) (out_c),(by first | rfl | (simp [*];done)),(Ow.cg (Ow.up h_out (hS_.1 _ (.head _))) (by first | rfl | (rw [ho,List.take_of_length_le Qp])))⟩
theorem QaY (W:World) {r_:List Qe} {l_:List Jv} {br_:Bool} {D_:Qx} {gd_:Nat} {gu_:Nat} {T_:QI} {gt_:Nat} {g0:Nat} (h0:Rd (.ptr Qs) (wm W) [Vp g0] (g0,((gt_,T_),(gu_,((gd_,D_),br_,l_)),r_))) (e0:okU l_):Qc Tryz.prog 95 [Vp g0] W (mnil) (fun v m'=>∃ (s0:Nat),v=Vp s0∧Ow (.ptr QO) m' [Vp s0] (s0,Zm l_)):=by
 have rp0_k:=h0
 obtain ⟨_,rp0_rc,rp0_E,rp0_h,rp0_r⟩:=rp0_k
 obtain ⟨rp0_A2,rp0_c2,rfl,rp0_0,rp0_1,rp0_2⟩:=Qan (x0:=(gt_,T_)) (x1:=(gu_,((gd_,D_),br_,l_))) (x2:=r_) rp0_r
 dsimp only at rp0_0
 dsimp only at rp0_1
 have rp0_b:Jp (wm W) g0 0 3 [Vp gt_,Vp gu_,Value.slice rp0_A2 (r_.length) (rp0_c2)]:=(Qa rfl rfl).mono (Qaq rp0_h)
 have rp0_1q_k:=rp0_1
 obtain ⟨_,rp0_1q_rc,rp0_1q_E,rp0_1q_h,rp0_1q_r⟩:=rp0_1q_k
 obtain ⟨rp0_1q_A2,rp0_1q_c2,rfl,rp0_1q_0,rp0_1q_2⟩:=YE (x0:=(gd_,D_)) (x1:=br_) (x2:=l_) rp0_1q_r
 dsimp only at rp0_1q_0
 refine Qc.ofA (n:=23) Tryz.func95 rfl rfl rfl ?_
 refine VC.rs (VO.as (VO.k2 0 2 (VC.rs ?_)))
 refine VO.callN 101 rfl Qkd rfl (fun W hW=>QgT W) (fun v1 m1 hv1=>?_)
 obtain ⟨s1_0,rfl,f1_0⟩:=hv1
 refine VO.as (VO.k3 0 2 3 (VC.seq (VC.rs (VO.mv (VO.z (.nilp rfl) (VO.z (.fa rfl Qai rfl) ?_))))))
 refine VO.z (.ld1 0 rfl Qo3 rfl (rp0_b.at1 (j:=1) rfl)) ?_
 refine VO.callN 102 rfl Qq4 rfl (fun W hW=>Qlt W (Rd.mono rp0_1 (hW.t 0)) Qf) (fun v2 m2 hv2=>?_)
 try dsimp only at hv2
 obtain ⟨s2_0,rfl,f2_0⟩:=hv2
 obtain ⟨A2_0,c2_0,eq2_0,l2_0,k2_0⟩:=f2_0.slc
 subst eq2_0
 refine VO.z (.lenS rfl XH) (VO.mv (VO.p3 102 101 0 (VO.k6 0 2 3 11 12 13 (VC.block ?_))))
 refine VC.loop (G:=Nat × QI × Mem) (fun g=>[(13,.int .i64 ((((g.1):Nat):Int))),(0,Vp g0),(2,.pointer none),(3,Vp s1_0),(11,.slice A2_0 (l_.length) (c2_0)),(12,.int .i64 (((l_.length:Nat):Int)))]) (fun g=>[(102,m2),(101,(g.2.2)),(0,wm W)]) (fun g=>((g.1)≤l_.length)∧((g.2.1)=Zm (l_.take (g.1)))∧(Ow (.ptr QO) (g.2.2) [Vp s1_0] (s1_0,(g.2.1)))) (fun g=>l_.length - (g.1)) (0,([]:Xm),m1) (⟨by omega,by rfl,f1_0⟩) ⟨esn,fun _ h=>h.sub [102,101,0]⟩ ?_
 rintro ⟨k,t,t_m⟩ ⟨hk,ht,h_t⟩
 replace hk:k≤l_.length:=hk
 replace ht:t=Zm (l_.take k):=ht
 replace h_t:Ow (.ptr QO) t_m [Vp s1_0] (s1_0,t):=h_t
 show VC _ _ _ _ _ [(13,.int .i64 (((k:Nat):Int))),(0,Vp g0),(2,.pointer none),(3,Vp s1_0),(11,.slice A2_0 (l_.length) (c2_0)),(12,.int .i64 (((l_.length:Nat):Int)))] [(102,m2),(101,t_m),(0,wm W)]
 refine VC.rs (VO.z (.lss rfl rfl) (VO.k7 0 2 3 11 12 13 14 (VC.seq ?_)))
 refine VC.cond rfl (fun hc3=>?_) (fun hc3=>?_)
 ·refine VC.skip (Qg (VC.seq (VC.block (VC.rs ?_))))
  obtain ⟨x4,hx4⟩:∃ z_,(l_)[k]? =some z_:=⟨_,List.getElem?_eq_getElem bd⟩
  obtain ⟨gg4,oo4,ec4,ea4,hce4,hre4⟩:=(Ow.rd f2_0 (Qb _)).elem hx4
  cases ea4
  obtain ⟨q4_A2,q4_c2,rfl,q4_0,q4_1,q4_2⟩:=ZX (x0:=x4.1) (x1:=x4.2.1) (x2:=x4.2.2) hre4
  simp only [inK] at q4_0 q4_1
  refine VO.z (.ixI k rfl rfl XH rfl bd) ?_
  refine VO.z (.ldA 102 rfl XI rfl hce4) ?_
  refine VO.alloc 106 rfl QbA (fun g5=>?_)
  refine VO.store (k:=3) (c':=[.int .i64 (x4.1),.int .i64 (x4.2.1),.slice q4_A2 (x4.2.2.length) (q4_c2)]) 106 rfl rfl (.inl XI) rfl rfl rfl rfl rfl ?_
  refine VO.k8 0 2 3 5 11 12 13 14 ?_
  refine VC.reg ?_
  refine VO.mv (VO.z (.fa rfl J2 rfl) (VO.z (.ld1 106 rfl Jw rfl (Qa rfl rfl)) ?_))
  refine VO.call 101 rfl QmW rfl rfl (fun W hW=>QeN W (hW.t 101) h_t (Rd.mono q4_2 (hW.o 101 102))) (fun v7 m7 hv7=>?_)
  obtain ⟨rfl,w7_0⟩:=hv7
  refine VO.p4 101 106 102 0 (VO.k8 0 2 3 5 11 12 13 14 (Jh (Qg ?_)))
  refine VC.reg ?_
  refine VO.z (.add (c:=((k+1:Nat):Int)) rfl rfl Qp ⟨bd,bd⟩) ?_
  refine VO.mv (VO.k8 0 2 3 5 11 12 13 14 ?_)
  exact Qg ⟨⟨k+1,(Xr t x4.2.2).1,m7⟩,⟨by omega,by (rw [ht];exact (QhL ‹l_[k]? =some _›).symm),w7_0⟩,bd,⟨esn,fun _ h=>Inv.sub h [102,101,0]⟩⟩
 ·refine VC.exit (JU (JU (JT (Qg (VC.rs (VO.mv (VO.as (VO.k7 0 2 3 11 12 13 14 (VC.ret ?_)))))))))
  refine XC 2 [101] fun hS_=>?_
  dsimp only [Qu]
  exact ⟨s1_0,(by first | rfl | (simp [*];done)),(Ow.cgP (Ow.up h_t (hS_.1 _ (.head _))) (by first | rfl | ((rw [ht,List.take_of_length_le Qp];done))))⟩
theorem Jk:JE Tryz.prog 43=true:=by kernel_rfl
theorem Zb:JE Tryz.prog 44=true:=by kernel_rfl
theorem Qii:JE Tryz.prog 95=true:=by kernel_rfl
theorem QmQ:JE Tryz.prog 97=true:=by kernel_rfl
theorem XG:tz Tryz.prog 34=some [.slice none 0 0]:=by kernel_rfl
theorem Qt.consM {a m:Mem} {l:List Mem} (hd:mdj a m) (h:Qt m l):Qt (mun a m) (a::l):=
 ⟨fun x hx=>by
  rcases List.mem_cons.1 hx with rfl | hx
  ·exact Js _ _
  ·exact (h.1 x hx).trans (Jn hd),List.pairwise_cons.2 ⟨fun x hx=>hd.mono (Qb _) (h.1 x hx),h.2⟩⟩
theorem Inv.thr {w0 W W':World} {Ω:Ctx} {m b:Mem} (h:Inv w0 Ω W) (h0:YA Ω 0=some b) (h1:YA (YZ Ω 0) 1=some m) (h2:Inv W [(0,Ju (wm W) m),(1,m)] W'):Inv w0 [(0,b),(1,m),(2,mnil)] W':=by
 obtain ⟨k1,k2,k3⟩:=own_of 1 h0 h1 W h
 refine ⟨h2.os.trans h.os,h2.tape.trans h.tape,h2.output.trans h.output,Nat.le_trans h.size h2.size,fun p hp=>?_,List.pairwise_cons.2 ⟨fun p hp=>?_,List.pairwise_cons.2 ⟨fun p hp=>?_,List.pairwise_singleton _ _⟩⟩⟩
 ·simp only [List.mem_cons,List.not_mem_nil,or_false] at hp
  rcases hp with rfl | rfl | rfl
  ·exact (Qbn k1 k3.symm).trans (h2.at (i:=0) rfl)
  ·exact h2.at (i:=1) rfl
  ·exact JW _
 ·simp only [List.mem_cons,List.not_mem_nil,or_false] at hp
  rcases hp with rfl | rfl
  ·exact k3.symm
  ·exact Qbo _
 ·simp only [List.mem_cons,List.not_mem_nil,or_false] at hp
  subst hp;exact Qbo _
theorem QiM (W:World) {o:DOp} {gY EY lp:Nat} {m:Mem} {Post:Value→Mem→Prop} (hm:mle m (wm W)) (hb:mle (Qo gY (.cells [(.func (.yield lp) #[] #[]:Value)].toArray EY (0,0))) (Ju (wm W) m)) (hn:o.1=false→Post (.bool true) m)
  (hy:o.1=true→∀ W',Inv W [(0,Ju (wm W) m),(1,m)] W'→YldR Tryz.prog lp [str o.2.1,str o.2.2] W' m Post):Qc Tryz.prog 97 [.agg [.bool o.1,str o.2.1,str o.2.2].toArray,Vp gY] W m Post:=by
 have hcb:Jp (Ju (wm W) m) gY 0 1 [(.func (.yield lp) #[] #[]:Value)]:=(Qa rfl rfl).mono hb
 refine Qc.ofX (n:=15) Tryz.func97 rfl rfl rfl hm ?_
 refine VX.rs ?_
 refine VO.box (cs:=[.bool o.1,str o.2.1,str o.2.2]) 102 rfl rfl rfl (fun g1=>?_)
 refine VO.as ?_
 refine VO.nil ?_
 refine VX.seq ?_
 refine VX.regL _ (hix:=?_) (VL.pre (r:=[9,10,11]) 9 (by kernel_rfl) ?_)
 ·kernel_rfl
 refine VO.z (.fa rfl JG rfl) ?_
 refine VO.z (.ld1 102 rfl tk4 rfl (Qa rfl rfl)) ?_
 refine VO.z (.not rfl) ?_
 refine VO.mv ?_
 refine VO.decBN (t:=7) rfl (fun hp=>?_) (fun hp=>?_)
 ·refine VO.gN ?_
  refine VO.gN ?_
  refine VO.gN ?_
  refine VO.gN ?_
  refine VO.gN ?_
  refine VO.nil ?_
  refine VL.skip rfl rfl ⟨_,rfl,rfl⟩ ?_
  refine VL.post 10 rfl (by kernel_rfl) ?_
  refine VO.z (.pT rfl rfl) ?_
  refine VO.as ?_
  refine VO.nil ?_
  refine Qg (VX.ret ?_)
  refine ⟨_,_,QE (rs:=[.tmp 3]) rfl (.tmp rfl .nil),fun W_ hI_=>Q2 (l:=[m]) hI_ [1] rfl rfl (Qb _) (fun hS_=>?_)⟩
  show Post (.bool true) (mun m mnil)
  rw [Yv];exact hn hp
 ·refine VO.w (.ld1 0 rfl (by kernel_rfl) rfl hcb) ?_
  refine VO.w (.fa rfl JG rfl) ?_
  refine VO.w (.ld1 102 rfl tk9 rfl (Qa rfl rfl)) ?_
  refine VO.w (.fa rfl JG rfl) ?_
  refine VO.w (.ld1 102 rfl tk9 rfl (Qa rfl rfl)) ?_
  refine VO.nil ?_
  refine VL.yield 1 rfl rfl (.inr ⟨_,_,rfl,_,rfl,rfl⟩) rfl rfl rfl (fun W' hW=>hy hp W' (hW.sub [0,1])) (fun v m' hv=>?_)
  refine VL.post 10 rfl (by kernel_rfl) ?_
  refine VO.z (.pF rfl rfl) ?_
  refine VO.as ?_
  refine VO.nil ?_
  refine Qg (VX.ret ?_)
  refine ⟨_,_,QE (rs:=[.tmp 3]) rfl (.tmp rfl .nil),fun W_ hI_=>Q2 (l:=[m']) hI_ [1] rfl rfl (Qb _) (fun hS_=>?_)⟩
  show Post v (mun m' mnil)
  rw [Yv];exact hv
theorem VX.later {P:Program} {n:Nat} {w0:World} {ρ d:Option Nat} {c:Code} {R:Option Nat→Exit→Env→Ctx→Prop} {S:Type} {J:S→Prop} (Sf:S→Env) (Cf:S→Ctx) {Goal:Prop} (main:(∀ s,J s→VX P n w0 ρ c R d (Sf s) (Cf s))→Goal) (rest:∀ s,J s→VX P n w0 ρ c R d (Sf s) (Cf s)):Goal:=main rest
abbrev a2E (go gB : Nat) (Ay : Option Addr) (ny cy i j : Nat) : Env := [(2, .pointer (some ⟨go, 0, none⟩)), (4, .int .i64 (i : Int)), (5, .func (.func 97) #[] #[.pointer (some ⟨gB, 0, none⟩)]), (9, .slice Ay ny cy), (10, .int .i64 (ny : Int)), (11, .int .i64 (j : Int))]
abbrev a2O (gO : Nat) (x : DOp) : Mem := Qo gO (.cells [.bool x.1, str x.2.1, str x.2.2].toArray 64 (0, 0))
set_option maxHeartbeats 1000000 in
theorem QrH {old young:List DOp} {gy go:Nat} {Ay Ao:Option Addr} {cy co:Nat} {m mY mO:Mem} (hS:Qt m [Qo gy (.cells [(.slice Ay young.length cy:Value)].toArray 34 (0,0)),Qo go (.cells [(.slice Ao old.length co:Value)].toArray 34 (0,0)),mY,mO])
    (hY:Ow (.sl TOp) mY [.slice Ay young.length cy] young) (hO:Ow (.sl TOp) mO [.slice Ao old.length co] old) (hly:young.length≤1000000000) (hlo:old.length≤1000000000):
    Qby Tryz.prog 96 [Vp gy,Vp go] m (lvE (mrg young old)) vsN 0 (lvD (mrg young old)):=by
  intro G M I X lp W g0 h0 hm hdj hy
  obtain ⟨lY,kY⟩:=Ow.rm hY
  obtain ⟨lO,kO⟩:=Ow.rm hO
  obtain ⟨L,hL⟩:∃ L,L=mrg young old:=⟨_,rfl⟩
  rw [← hL] at hy ⊢
  refine Qc.ofX (n:=72) Tryz.func96 rfl rfl rfl hm ?_
  refine VX.parts 1 [1,2,3,4,5] rfl (Qt.consM hdj hS) ?_
  refine VX.rs ?_
  refine VO.box (cs:=[.func (.yield lp) #[] #[]]) 6 rfl rfl rfl (fun gB=>?_)
  refine VO.nil ?_
  refine VX.rs ?_
  refine VO.as ?_
  refine VO.nil ?_
  refine VX.rs ?_
  refine VO.z (.mkf rfl) ?_
  refine VO.as ?_
  refine VO.nil ?_
  refine VX.seq ?_
  refine VX.rs ?_
  refine VO.z (.ld1 2 rfl Jw rfl (Qa rfl rfl)) ?_
  refine VO.z (.lenS rfl QX) ?_
  refine VO.mv ?_
  refine VO.k6 2 4 5 9 10 11 ?_
  refine VX.block ?_
  refine VX.loop (G:=Nat × Nat × List DOp × G) (fun s=>a2E go gB Ay young.length cy s.1 s.2.1) (fun s=>[(1,M s.2.2.2),(2,Qo gy (.cells [(.slice Ay young.length cy:Value)].toArray 34 (0,0))),(3,Qo go (.cells [(.slice Ao old.length co:Value)].toArray 34 (0,0))),(4,mY),(5,mO),(6,Qo gB (.cells [(.func (.yield lp) #[] #[]:Value)].toArray 114 (0,0))),(0,Ju (wm W) (mun (M g0) m))])
    (fun s=>L=s.2.2.1++mrg (young.drop s.2.1) (old.drop s.1)∧I (cnt s.2.2.1) s.2.2.2∧s.1≤old.length∧s.2.1≤young.length) (fun s=>young.length - s.2.1) (0,0,[],g0) ⟨by rw [hL];rfl,h0,Nat.zero_le _,Nat.zero_le _⟩ ⟨esn,fun _ h=>h.sub [1,2,3,4,5,6,0]⟩ ?_
  rintro ⟨i,j,out,g⟩ ⟨hl,hI,hi,hj⟩
  dsimp only at hl hI hi hj
  show VX _ _ _ _ _ _ _ (a2E go gB Ay young.length cy i j) [(1,M g),(2,Qo gy (.cells [(.slice Ay young.length cy:Value)].toArray 34 (0,0))),(3,Qo go (.cells [(.slice Ao old.length co:Value)].toArray 34 (0,0))),(4,mY),(5,mO),(6,Qo gB (.cells [(.func (.yield lp) #[] #[]:Value)].toArray 114 (0,0))),(0,Ju (wm W) (mun (M g0) m))]
  refine VX.rs ?_
  refine VO.z (.lss rfl rfl) ?_
  refine VO.nil ?_
  refine VX.seq ?_
  refine VX.cond rfl (fun hc=>?_) (fun hc=>?_)
  · refine VX.skip (Qg ?_)
    refine VX.seq (VX.block ?_)
    obtain ⟨x,hx⟩:∃ x,young[j]? =some x:=⟨_,List.getElem?_eq_getElem Qp⟩
    obtain ⟨gg,oo,ec,ea,hce,hre⟩:=(hY.rd (Qb _)).elem hx
    cases ea
    obtain ⟨rfl,q1,q2⟩:=Jr (x0:=x.1) (x1:=x.2.1) (x2:=x.2.2) hre
    refine VX.rs ?_
    refine VO.z (.ixI j rfl rfl QX rfl Qp) ?_
    refine VO.z (.ldA 4 rfl (by kernel_rfl) rfl hce) ?_
    refine VO.alloc 7 rfl (show tz Tryz.prog 64=some [.bool false,str [],str []] by kernel_rfl) (fun gO=>?_)
    refine VO.store (k:=3) (c':=[.bool x.1,str x.2.1,str x.2.2]) 7 rfl rfl (.inl (by kernel_rfl)) rfl rfl rfl rfl rfl ?_
    refine VO.k7 2 4 5 9 10 11 7 ?_
    apply VX.later (P:=Tryz.prog) (n:=72) (w0:=W) (ρ:=none) (d:=none) (S:=Nat × List DOp × G) (J:=fun s=>L=s.2.1++mrg (young.drop j) (old.drop s.1)∧I (cnt s.2.1) s.2.2∧s.1≤old.length∧∀ y,old[s.1]? =some y→¬ kl y.2.1 x.2.1) (fun s=>((7,Vp gO)::a2E go gB (some ⟨gg,oo,none⟩) young.length cy s.1 j)) (fun s=>[(1,M s.2.2),(7,a2O gO x),(2,Qo gy (.cells [(.slice (some ⟨gg,oo,none⟩) young.length cy:Value)].toArray 34 (0,0))),(3,Qo go (.cells [(.slice Ao old.length co:Value)].toArray 34 (0,0))),(4,mY),(5,mO),(6,Qo gB (.cells [(.func (.yield lp) #[] #[]:Value)].toArray 114 (0,0))),(0,Ju (wm W) (mun (M g0) m))])
    · intro rest
      refine VX.seq (VX.block ?_)
      refine VX.loop (G:=Nat × List DOp × G) (fun s=>(7,Vp gO)::a2E go gB (some ⟨gg,oo,none⟩) young.length cy s.1 j) (fun s=>[(1,M s.2.2),(7,a2O gO x),(2,Qo gy (.cells [(.slice (some ⟨gg,oo,none⟩) young.length cy:Value)].toArray 34 (0,0))),(3,Qo go (.cells [(.slice Ao old.length co:Value)].toArray 34 (0,0))),(4,mY),(5,mO),(6,Qo gB (.cells [(.func (.yield lp) #[] #[]:Value)].toArray 114 (0,0))),(0,Ju (wm W) (mun (M g0) m))])
        (fun s=>L=s.2.1++mrg (young.drop j) (old.drop s.1)∧I (cnt s.2.1) s.2.2∧s.1≤old.length) (fun s=>old.length - s.1) (i,out,g) ⟨hl,hI,hi⟩ ⟨esn,fun _ h=>h.sub [1,7,2,3,4,5,6,0]⟩ ?_
      rintro ⟨i,out,g⟩ ⟨hl,hI,hi⟩
      dsimp only at hl hI hi
      show VX _ _ _ _ _ _ _ ((7,Vp gO)::a2E go gB (some ⟨gg,oo,none⟩) young.length cy i j) [(1,M g),(7,a2O gO x),(2,Qo gy (.cells [(.slice (some ⟨gg,oo,none⟩) young.length cy:Value)].toArray 34 (0,0))),(3,Qo go (.cells [(.slice Ao old.length co:Value)].toArray 34 (0,0))),(4,mY),(5,mO),(6,Qo gB (.cells [(.func (.yield lp) #[] #[]:Value)].toArray 114 (0,0))),(0,Ju (wm W) (mun (M g0) m))]
      refine VX.seq (VX.seq ?_)
      refine VX.regD _ 14 [(0,true),(1,true),(2,true),(3,true),(4,true),(5,true),(6,true),(7,true),(8,true),(9,true),(10,true),(11,true),(12,true),(13,true)] follows (by kernel_rfl) (fun _ h=>h.sub [7,3,5]) ?_
      refine VD.z rfl (.mv rfl) ?_
      refine VD.z rfl (.ld1 3 rfl Jw rfl (Qa rfl rfl)) ?_
      refine VD.z rfl (.lenS rfl QX) ?_
      refine VD.z rfl (.lss rfl rfl) ?_
      refine VD.z rfl (.mv rfl) ?_
      refine VD.dec (s:=19) rfl (fun hb=>?_) (fun hb=>?_)
      · obtain ⟨y,hyy⟩:∃ y,old[i]? =some y:=⟨_,List.getElem?_eq_getElem Qp⟩
        obtain ⟨g2,o2,ec2,ea2,hce2,hre2⟩:=(hO.rd (Qb _)).elem hyy
        obtain ⟨rfl,z1,z2⟩:=Jr (x0:=y.1) (x1:=y.2.1) (x2:=y.2.2) hre2
        refine VD.w rfl (.ld1 3 rfl Jw rfl (Qa rfl rfl)) ?_
        refine VD.w rfl (.mv rfl) ?_
        refine VD.w rfl (.ixI i (by rw [← ea2];rfl) rfl QX rfl Qp) ?_
        refine VD.w rfl (.fa rfl JG rfl) ?_
        refine VD.w rfl (.ld1 5 rfl tk9 rfl (hce2.at1 (j:=1) rfl)) ?_
        refine VD.w rfl (.fa rfl JG rfl) ?_
        refine VD.w rfl (.ld1 7 rfl tk9 rfl (Qa rfl rfl)) ?_
        refine VD.w rfl (.slss rfl rfl) ?_
        refine VD.z rfl (.pT rfl rfl) ?_
        refine VD.nil rfl ?_ rfl
        refine VO.nil ?_
        refine Qg (VX.cond rfl (fun hk=>?_) (fun hk=>?_))
        · refine VX.skip (Qg ?_)
          refine VX.seq (VX.block ?_)
          have hl2:=mg_lt hl hx hyy hk
          refine VX.rs ?_
          refine VO.mv ?_
          refine VO.z (.ld1 3 rfl Jw rfl (Qa rfl rfl)) ?_
          refine VO.mv ?_
          refine VO.z (.ixI i (by rw [← ea2];rfl) rfl QX rfl Qp) ?_
          refine VO.z (.ldA 5 rfl (by kernel_rfl) rfl hce2) ?_
          refine VO.callV 1 rfl rfl QmQ rfl rfl (fun W' hW'=>QiM W' (o:=y) (Post:=fun v m'=>∃ g',m'=M g'∧((v= .bool true∧I (cnt (out++[y])) g')∨(v= .bool false∧X g'))) (hW'.at (i:=1) rfl) (hW'.out (i:=1) (j:=6) rfl rfl) (fun hp=>⟨g,rfl,.inl ⟨rfl,by rw [QqB hp];exact hI⟩⟩) (fun hp W2 hW2=>by have h_:=hy (cnt out) g _ mnil W2 hI (mg_E (List.append_assoc _ _ _ ▸ hl2) hp z1 z2) (hW'.thr rfl rfl hW2);rw [Yv,← Qmw hp] at h_;exact h_)) (fun v m' hv=>?_)
          obtain ⟨g',rfl,hv⟩:=hv
          rcases hv with ⟨rfl,hI'⟩ | ⟨rfl,hX⟩
          · refine VO.z (.not rfl) ?_
            refine VO.nil ?_
            refine VX.condF rfl ?_
            refine VX.skip (Jh (Qg ?_))
            refine VX.reg ?_
            refine VO.mv ?_
            refine VO.z (.add (c:=((i+1:Nat):Int)) rfl rfl Qp ⟨by omega,by omega⟩) ?_
            refine VO.as ?_
            refine VO.nil ?_
            exact Qg ⟨rfl,(i+1,out++[y],g'),⟨hl2,hI',by dsimp only;omega⟩,by dsimp only;omega,⟨esn,fun _ h=>h.sub [1,7,2,3,4,5,6,0]⟩⟩
          · refine VO.z (.not rfl) ?_
            refine VO.nil ?_
            refine VX.condT rfl ?_
            refine VX.ret (Jf (QK (QK (Jf (QK (Jf (QK (QK (Jf (QK ?_))))))))))
            exact ⟨_,_,QE (rs:=[]) rfl .nil,fun W_ hI_=>Q2 (l:=[M g']) hI_ [1] rfl rfl (Qb _) (fun hS_=>⟨g',Yv _,.inl hX⟩)⟩
        · refine VX.exit (JU (JU (JT (Qg ?_))))
          exact VX.esub _ (by exact esn) (VX.inv _ (fun _ h=>h.sub [1,7,2,3,4,5,6,0]) (rest (i,out,g) ⟨hl,hI,hi,fun y' hy'=>by rw [hyy] at hy';cases hy';exact hk⟩))
      · refine VD.gN rfl ?_
        refine VD.gN rfl ?_
        refine VD.gN rfl ?_
        refine VD.gN rfl ?_
        refine VD.gN rfl ?_
        refine VD.gN rfl ?_
        refine VD.gN rfl ?_
        refine VD.gN rfl ?_
        refine VD.z rfl (.pF rfl rfl) ?_
        refine VD.nil rfl ?_ rfl
        refine VO.nil ?_
        refine Qg (VX.condF rfl ?_)
        refine VX.exit (JU (JU (JT (Qg ?_))))
        exact VX.esub _ (by exact esn) (VX.inv _ (fun _ h=>h.sub [1,7,2,3,4,5,6,0]) (rest (i,out,g) ⟨hl,hI,hi,fun y' hy'=>by have h_:=(List.getElem?_eq_some_iff.1 hy').1;omega⟩))
    · rintro ⟨i,out,g⟩ ⟨hl,hI,hi,hE⟩
      dsimp only at hl hI hi hE
      refine VX.seq (VX.seq ?_)
      apply VX.later (P:=Tryz.prog) (n:=72) (w0:=W) (ρ:=none) (d:=none) (S:=Nat) (J:=fun s=>L=(out++[x])++mrg (young.drop (j+1)) (old.drop s)∧s≤old.length) (fun s=>((7,Vp gO)::a2E go gB (some ⟨gg,oo,none⟩) young.length cy s j)) (fun s=>[(1,M g),(7,a2O gO x),(2,Qo gy (.cells [(.slice (some ⟨gg,oo,none⟩) young.length cy:Value)].toArray 34 (0,0))),(3,Qo go (.cells [(.slice Ao old.length co:Value)].toArray 34 (0,0))),(4,mY),(5,mO),(6,Qo gB (.cells [(.func (.yield lp) #[] #[]:Value)].toArray 114 (0,0))),(0,Ju (wm W) (mun (M g0) m))])
      · intro rest2
        refine VX.regD _ 14 [(0,true),(1,true),(2,true),(3,true),(4,true),(5,true),(6,true),(7,true),(8,true),(9,true),(10,true),(11,true),(12,true),(13,true)] follows (by kernel_rfl) (fun _ h=>h.sub [7,3,5]) ?_
        refine VD.z rfl (.mv rfl) ?_
        refine VD.z rfl (.ld1 3 rfl Jw rfl (Qa rfl rfl)) ?_
        refine VD.z rfl (.lenS rfl QX) ?_
        refine VD.z rfl (.lss rfl rfl) ?_
        refine VD.z rfl (.mv rfl) ?_
        refine VD.dec (s:=42) rfl (fun hb=>?_) (fun hb=>?_)
        · obtain ⟨y,hyy⟩:∃ y,old[i]? =some y:=⟨_,List.getElem?_eq_getElem Qp⟩
          obtain ⟨g2,o2,ec2,ea2,hce2,hre2⟩:=(hO.rd (Qb _)).elem hyy
          obtain ⟨rfl,z1,z2⟩:=Jr (x0:=y.1) (x1:=y.2.1) (x2:=y.2.2) hre2
          refine VD.w rfl (.ld1 3 rfl Jw rfl (Qa rfl rfl)) ?_
          refine VD.w rfl (.mv rfl) ?_
          refine VD.w rfl (.ixI i (by rw [← ea2];rfl) rfl QX rfl Qp) ?_
          refine VD.w rfl (.fa rfl JG rfl) ?_
          refine VD.w rfl (.ld1 5 rfl tk9 rfl (hce2.at1 (j:=1) rfl)) ?_
          refine VD.w rfl (.fa rfl JG rfl) ?_
          refine VD.w rfl (.ld1 7 rfl tk9 rfl (Qa rfl rfl)) ?_
          refine VD.w rfl (.seql rfl rfl) ?_
          refine VD.z rfl (.pT rfl rfl) ?_
          refine VD.nil rfl ?_ rfl
          refine VO.nil ?_
          refine Qg (VX.cond rfl (fun hk=>?_) (fun hk=>?_))
          · refine VX.reg ?_
            refine VO.mv ?_
            refine VO.z (.add (c:=((i+1:Nat):Int)) rfl rfl Qp ⟨by omega,by omega⟩) ?_
            refine VO.as ?_
            refine VO.nil ?_
            exact Qg (VX.esub _ (by exact esn) (VX.inv _ (fun _ h=>h.sub [1,7,2,3,4,5,6,0]) (rest2 (i+1) ⟨mg_eq hl hx hyy (hE y hyy) hk,by omega⟩)))
          · exact VX.skip (Qg (VX.esub _ (by exact esn) (VX.inv _ (fun _ h=>h.sub [1,7,2,3,4,5,6,0]) (rest2 i ⟨mg_gt hl hx hyy (hE y hyy) hk,hi⟩))))
        · refine VD.gN rfl ?_
          refine VD.gN rfl ?_
          refine VD.gN rfl ?_
          refine VD.gN rfl ?_
          refine VD.gN rfl ?_
          refine VD.gN rfl ?_
          refine VD.gN rfl ?_
          refine VD.gN rfl ?_
          refine VD.z rfl (.pF rfl rfl) ?_
          refine VD.nil rfl ?_ rfl
          refine VO.nil ?_
          refine Qg (VX.condF rfl ?_)
          exact VX.skip (Qg (VX.esub _ (by exact esn) (VX.inv _ (fun _ h=>h.sub [1,7,2,3,4,5,6,0]) (rest2 i ⟨mg_nl hl hx Qp,hi⟩))))
      · rintro i ⟨hl2,hi⟩
        refine VX.rs ?_
        refine VO.mv ?_
        refine VO.z (.ldA 7 rfl (by kernel_rfl) rfl (Qa (k:=3) (cs:=[.bool x.1,str x.2.1,str x.2.2]) rfl rfl)) ?_
        refine VO.callV 1 rfl rfl QmQ rfl rfl (fun W' hW'=>QiM W' (o:=x) (Post:=fun v m'=>∃ g',m'=M g'∧((v= .bool true∧I (cnt (out++[x])) g')∨(v= .bool false∧X g'))) (hW'.at (i:=1) rfl) (hW'.out (i:=1) (j:=6) rfl rfl) (fun hp=>⟨g,rfl,.inl ⟨rfl,by rw [QqB hp];exact hI⟩⟩) (fun hp W2 hW2=>by have h_:=hy (cnt out) g _ mnil W2 hI (mg_E (List.append_assoc _ _ _ ▸ hl2) hp q1 q2) (hW'.thr rfl rfl hW2);rw [Yv,← Qmw hp] at h_;exact h_)) (fun v m' hv=>?_)
        obtain ⟨g',rfl,hv⟩:=hv
        rcases hv with ⟨rfl,hI'⟩ | ⟨rfl,hX⟩
        · refine VO.z (.not rfl) ?_
          refine VO.nil ?_
          refine VX.condF rfl ?_
          refine VX.skip (Jh (Qg ?_))
          refine VX.reg ?_
          refine VO.z (.add (c:=((j+1:Nat):Int)) rfl rfl Qp ⟨by omega,by omega⟩) ?_
          refine VO.mv ?_
          refine VO.nil ?_
          exact Qg ⟨rfl,(i,j+1,out++[x],g'),⟨hl2,hI',hi,by dsimp only;omega⟩,by dsimp only;omega,⟨esn,fun _ h=>h.sub [1,2,3,4,5,6,0]⟩⟩
        · refine VO.z (.not rfl) ?_
          refine VO.nil ?_
          refine VX.condT rfl ?_
          refine VX.ret (Jf (QK (QK (Jf (QK ?_)))))
          exact ⟨_,_,QE (rs:=[]) rfl .nil,fun W_ hI_=>Q2 (l:=[M g']) hI_ [1] rfl rfl (Qb _) (fun hS_=>⟨g',Yv _,.inl hX⟩)⟩
  · refine VX.exit (JU (JU (JT (Qg ?_))))
    refine VX.block ?_
    refine VX.loop (G:=Nat × List DOp × G) (fun s=>a2E go gB Ay young.length cy s.1 j) (fun s=>[(1,M s.2.2),(3,Qo go (.cells [(.slice Ao old.length co:Value)].toArray 34 (0,0))),(5,mO),(6,Qo gB (.cells [(.func (.yield lp) #[] #[]:Value)].toArray 114 (0,0))),(0,Ju (wm W) (mun (M g0) m))])
      (fun s=>L=s.2.1++old.drop s.1∧I (cnt s.2.1) s.2.2∧s.1≤old.length) (fun s=>old.length - s.1) (i,out,g) ⟨mg_fin hl Qp,hI,hi⟩ ⟨esn,fun _ h=>h.sub [1,3,5,6,0]⟩ ?_
    rintro ⟨i,out,g⟩ ⟨hl,hI,hi⟩
    dsimp only at hl hI hi
    show VX _ _ _ _ _ _ _ (a2E go gB Ay young.length cy i j) [(1,M g),(3,Qo go (.cells [(.slice Ao old.length co:Value)].toArray 34 (0,0))),(5,mO),(6,Qo gB (.cells [(.func (.yield lp) #[] #[]:Value)].toArray 114 (0,0))),(0,Ju (wm W) (mun (M g0) m))]
    refine VX.seq (VX.rs ?_)
    refine VO.mv ?_
    refine VO.z (.ld1 3 rfl Jw rfl (Qa rfl rfl)) ?_
    refine VO.z (.lenS rfl QX) ?_
    refine VO.z (.lss rfl rfl) ?_
    refine VO.nil ?_
    refine VX.cond rfl (fun hc=>?_) (fun hc=>?_)
    · refine VX.skip (Qg ?_)
      refine VX.seq (VX.block ?_)
      obtain ⟨y,hyy⟩:∃ y,old[i]? =some y:=⟨_,List.getElem?_eq_getElem Qp⟩
      obtain ⟨g2,o2,ec2,ea2,hce2,hre2⟩:=(hO.rd (Qb _)).elem hyy
      obtain ⟨rfl,z1,z2⟩:=Jr (x0:=y.1) (x1:=y.2.1) (x2:=y.2.2) hre2
      have hl2:=mg_o hl hyy
      refine VX.rs ?_
      refine VO.mv ?_
      refine VO.z (.ld1 3 rfl Jw rfl (Qa rfl rfl)) ?_
      refine VO.mv ?_
      refine VO.z (.ixI i (by rw [← ea2];rfl) rfl QX rfl Qp) ?_
      refine VO.z (.ldA 5 rfl (by kernel_rfl) rfl hce2) ?_
      refine VO.callV 1 rfl rfl QmQ rfl rfl (fun W' hW'=>QiM W' (o:=y) (Post:=fun v m'=>∃ g',m'=M g'∧((v= .bool true∧I (cnt (out++[y])) g')∨(v= .bool false∧X g'))) (hW'.at (i:=1) rfl) (hW'.out (i:=1) (j:=6) rfl rfl) (fun hp=>⟨g,rfl,.inl ⟨rfl,by rw [QqB hp];exact hI⟩⟩) (fun hp W2 hW2=>by have h_:=hy (cnt out) g _ mnil W2 hI (mg_E (List.append_assoc _ _ _ ▸ hl2) hp z1 z2) (hW'.thr rfl rfl hW2);rw [Yv,← Qmw hp] at h_;exact h_)) (fun v m' hv=>?_)
      obtain ⟨g',rfl,hv⟩:=hv
      rcases hv with ⟨rfl,hI'⟩ | ⟨rfl,hX⟩
      · refine VO.z (.not rfl) ?_
        refine VO.nil ?_
        refine VX.condF rfl ?_
        refine VX.skip (Jh (Qg ?_))
        refine VX.reg ?_
        refine VO.mv ?_
        refine VO.z (.add (c:=((i+1:Nat):Int)) rfl rfl Qp ⟨by omega,by omega⟩) ?_
        refine VO.as ?_
        refine VO.nil ?_
        exact Qg ⟨rfl,(i+1,out++[y],g'),⟨hl2,hI',by dsimp only;omega⟩,by dsimp only;omega,⟨esn,fun _ h=>h.sub [1,3,5,6,0]⟩⟩
      · refine VO.z (.not rfl) ?_
        refine VO.nil ?_
        refine VX.condT rfl ?_
        refine VX.ret (Jf (QK (QK (Jf ?_))))
        exact ⟨_,_,QE (rs:=[]) rfl .nil,fun W_ hI_=>Q2 (l:=[M g']) hI_ [1] rfl rfl (Qb _) (fun hS_=>⟨g',Yv _,.inl hX⟩)⟩
    · refine VX.exit (JU (JU (JT ?_)))
      exact ⟨_,_,QE (rs:=[]) rfl .nil,fun W_ hI_=>Q2 (l:=[M g]) hI_ [1] rfl rfl (Qb _) (fun hS_=>⟨g,Yv _,.inr ⟨_,hI,mg_end hl Qp⟩⟩)⟩
set_option maxHeartbeats 8000000 in
theorem Qqd (W:World) {r_:List Qe} {l_:List Jv} {br_:Bool} {D_:Qx} {gd_:Nat} {gu_:Nat} {T_:QI} {gt_:Nat} {m0:Mem} (hm:mle (m0) (wm W)) {g0:Nat} (h0:Ow (.ptr Qs) m0 [Vp g0] (g0,((gt_,T_),(gu_,((gd_,D_),br_,l_)),r_))) (e0:T_=sT r_) (e1:okU l_) (e2:okS l_ r_) (e3:l_.length≤900) (e4:r_.length≤100000):Qc Tryz.prog 50 [Vp g0] W (m0) (fun v m'=>∃ (s0:List Value),∃ (p0:Mem),∃ (p1:Mem),v= .func (.func 96) #[] (List.toArray s0)∧Qt m' [p0,p1]∧Qby Tryz.prog 96 s0 p0 (lvE (XJ l_ r_)) vsN 0 (lvD (XJ l_ r_))∧Ow (.ptr Qs) p1 [Vp g0] (g0,((gt_,T_),(gu_,((gd_,D_),br_,l_)),r_))):=by
 have hll:=Za e1;have hsl:=Qo9 e2;rw [← e0] at hsl
 refine Qc.ofB (n:=18) hm Tryz.func50 rfl rfl rfl ?_
 refine VC.rs (VO.as (VO.k2 0 2 (VC.seq (VC.rs (VO.mv ?_)))))
 refine VO.call 1 rfl Qfl rfl rfl (fun W hW=>Qca W (hW.t 1) h0) (fun v1 m1 hv1=>?_)
 try dsimp only at hv1
 obtain ⟨rfl,w1_0⟩:=hv1
 refine VO.k3 0 2 6 ?_
 refine VC.cond rfl (fun hc2=>?_) (fun hc2=>?_)
 exact hc2.elim
 refine VC.skip (Qg ?_)
 refine VC.seqJ (G:=Nat × Nat × (List DOp) × (Option Addr) × Nat × Mem × (List DOp) × (Option Addr) × Nat × Mem × Mem) (fun g=>[(3,.pointer (some ⟨(g.1),0,none⟩)),(4,.pointer (some ⟨(g.2.1),0,none⟩)),(0,Vp g0),(2,Value.nilFunc)]) (fun g=>[(124,(g.2.2.2.2.2.2.2.2.2.2)),(123,Qo (g.2.1) (.cells #[.slice (g.2.2.2.2.2.2.2.1) ((g.2.2.2.2.2.2.1).length) ((g.2.2.2.2.2.2.2.2.1))] 34 (0,0))),(121,Qo (g.1) (.cells #[.slice (g.2.2.2.1) ((g.2.2.1).length) ((g.2.2.2.2.1))] 34 (0,0))),(116,(g.2.2.2.2.2.2.2.2.2.1)),(111,(g.2.2.2.2.2.1)),(0,Ju (wm W) (m0))]) (fun g=>((g.2.2.1)=tL (Zm l_))∧((g.2.2.2.2.2.2.1)=tL T_)∧(Qz TOp (g.2.2.2.2.2.1) mnil (.slice (g.2.2.2.1) (g.2.2.1).length (g.2.2.2.2.1)) (g.2.2.1))∧(Qz TOp (g.2.2.2.2.2.2.2.2.2.1) mnil (.slice (g.2.2.2.2.2.2.2.1) (g.2.2.2.2.2.2.1).length (g.2.2.2.2.2.2.2.2.1)) (g.2.2.2.2.2.2.1))∧(Ow (.ptr Qs) (g.2.2.2.2.2.2.2.2.2.2) [Vp g0] (g0,((gt_,T_),(gu_,((gd_,D_),br_,l_)),r_)))) ?_ ?_
 · rintro ⟨jo,jy,old,old_A,old_c,old_m,young,young_A,young_c,young_m,w_m⟩ ⟨hjo,hjy,h_old,h_young,h_w⟩
   replace hjo:old=tL (Zm l_):=hjo
   replace hjy:young=tL T_:=hjy
   replace h_old:Qz TOp old_m mnil (.slice old_A old.length old_c) old:=h_old
   replace h_young:Qz TOp young_m mnil (.slice young_A young.length young_c) young:=h_young
   replace h_w:Ow (.ptr Qs) w_m [Vp g0] (g0,((gt_,T_),(gu_,((gd_,D_),br_,l_)),r_)):=h_w
   show VC _ _ _ _ _ [(3,Vp jo),(4,Vp jy),(0,Vp g0),(2,Value.nilFunc)] [(124,w_m),(123,Qo jy (.cells #[.slice young_A (young.length) (young_c)] 34 (0,0))),(121,Qo jo (.cells #[.slice old_A (old.length) (old_c)] 34 (0,0))),(116,young_m),(111,old_m),(0,Ju (wm W) (m0))]
   have l_old:old.length≤old_c:=by obtain ⟨_,_,he,hl,_⟩:=h_old.slice;simp only [Value.slice.injEq] at he;omega
   have k_old:old_c≤9223372036854775807:=by obtain ⟨_,_,he,_,hl⟩:=h_old.slice;simp only [Value.slice.injEq,maxLen] at he hl;omega
   have l_young:young.length≤young_c:=by obtain ⟨_,_,he,hl,_⟩:=h_young.slice;simp only [Value.slice.injEq] at he;omega
   have k_young:young_c≤9223372036854775807:=by obtain ⟨_,_,he,_,hl⟩:=h_young.slice;simp only [Value.slice.injEq,maxLen] at he hl;omega
   have hyl:young.length=T_.length:=by rw [hjy,JO]
   have hol:old.length=(Zm l_).length:=by rw [hjo,JO]
   have hsl2:=Qbe e1
   refine VC.rs (VO.z (.mkf rfl) (VO.as (VO.k4 0 2 3 4 (VC.ret ?_))))
   refine XC 2 [123,121,116,111,124] fun hS_=>?_
   dsimp only [Qu]
   refine ⟨[Vp jy,Vp jo],Zs [Qo jy (.cells [Value.slice young_A (young.length) (young_c)].toArray 34 (0,0)),Qo jo (.cells [Value.slice old_A (old.length) (old_c)].toArray 34 (0,0)),young_m,old_m],Zs [w_m],?_,?_,?_,?_⟩
   rotate_left
   · exact Qt.grp (ls:=[[Qo jy (.cells [Value.slice young_A (young.length) (young_c)].toArray 34 (0,0)),Qo jo (.cells [Value.slice old_A (old.length) (old_c)].toArray 34 (0,0)),young_m,old_m],[w_m]]) hS_
   · exact (by have h_:=QrH (Qt.self hS_ (List.Sublist.cons_cons _ (List.Sublist.cons_cons _ (List.Sublist.cons_cons _ (List.Sublist.cons_cons _ (List.Sublist.cons _ List.Sublist.slnil)))))) (Qz.ow h_young rfl) (Qz.ow h_old rfl) bd bd;have e_:mrg young old=XJ l_ r_:=(by rw [hjy,hjo,e0];rfl);rw [e_] at h_;exact h_)
   · exact Ow.cgP (Ow.up h_w ((Qt.self hS_ (List.Sublist.cons _ (List.Sublist.cons _ (List.Sublist.cons _ (List.Sublist.cons _ (List.Sublist.cons_cons _ List.Sublist.slnil)))))).1 _ (.head _)))
   all_goals (first | rfl | (simp [*];done))
 intro hJ2
 obtain ⟨q25_E,q25_A2,q25_c2,q25_n0,q25_n1,q25_n2,_,q25_S,q25_0,q25_1,q25_2⟩:=Jl (x0:=(gt_,T_)) (x1:=(gu_,((gd_,D_),br_,l_))) (x2:=r_) w1_0
 dsimp only at q25_0
 dsimp only at q25_1
 refine VC.inv _ (fun _ h=>h.parts (i:=1) rfl q25_S [129,126,127,128]) ?_
 refine VC.regE [(129,Qo g0 (.cells #[Vp gt_,Vp gu_,.slice q25_A2 (r_.length) (q25_c2)] q25_E (0,0))),(127,q25_n1),(128,q25_n2),(0,Ju (wm W) (m0))] 12 follows (by kernel_rfl) (fun _ h=>h.sub [129,127,128,0]) ?_
 refine VE.y 0 rfl rfl (.inl rfl) (by kernel_rfl) (.mv rfl) ?_
 refine VE.y 4 rfl rfl (.inl rfl) (by kernel_rfl) (.mv rfl) ?_
 refine VE.y 5 rfl rfl (.inl rfl) (by kernel_rfl) (.nilp rfl) ?_
 refine VE.y 6 rfl rfl (.inl rfl) (by kernel_rfl) (.fa rfl Qai rfl) ?_
 refine VE.y 7 rfl rfl (.inl rfl) (by kernel_rfl) (.ld1 129 rfl tk37 rfl (Qa rfl rfl)) ?_
 refine VE.tree [1,10,11] (by kernel_rfl) ⟨?_,?_,?_,trivial⟩
 refine VI.callN 130 rfl rfl (.inl rfl) Qii rfl (fun _ h=>Inv.sbK [129,127,128,0] h) (fun W hW=>QaY W (show Rd (.ptr Qs) _ _ (g0,((gt_,T_),(gu_,((gd_,D_),br_,l_)),r_)) from ⟨rfl,_,_,(hW.t 129) _ _ (Qn _ _),(YT (m:=wm W) (gt_,T_) (gu_,((gd_,D_),br_,l_)) r_ (Ow.rd q25_0 (hW.t 126)) (Ow.rd q25_1 (hW.t 127)) (Ow.rd q25_2 (hW.t 128)))⟩) Qf) (fun v30 m30 hv30=>?_)
 try dsimp only at hv30
 obtain ⟨s30_0,rfl,f30_0⟩:=hv30
 have hfa31:=(Qbe (show okU l_ by assumption))
 refine VE.tree [2,10,11] (by kernel_rfl) ⟨?_,?_,?_,trivial⟩
 refine VI.call 130 rfl rfl (.inl rfl) Zb rfl rfl (fun _ _ h=>Inv.sbK [129,127,128,0] h) (fun W hW=>JA W (hW.t 130) f30_0 bd) (fun v32 m32 hv32=>?_)
 obtain ⟨s32_0,p32_0,p32_1,rfl,hS32,f32_0,w32_0⟩:=hv32
 refine VE.inv _ (fun _ h=>h.parts (i:=130) rfl hS32 [133,134]) ?_
 have hfa35:=JO (d:=(Zm l_))
 refine VE.inv [(133,p32_0),(129,Qo g0 (.cells [Vp gt_,Vp gu_,Value.slice q25_A2 (r_.length) (q25_c2)].toArray q25_E (0,0))),(126,q25_n0),(127,q25_n1),(128,q25_n2),(0,Ju (wm W) (m0))] (fun _ h=>Inv.sbK [133,129,126,127,128,0] h) ?_
 refine VE.tree [3,10,11] (by kernel_rfl) ⟨?_,?_,?_,trivial⟩
 refine VI.call 133 rfl rfl (.inl rfl) Jk rfl rfl (fun _ _ h=>Inv.sbK [129,127,128,0] h) (fun W hW=>QV W (hW.t 133) f32_0 bd) (fun v36 m36 hv36=>?_)
 obtain ⟨s36_0,rfl,f36_0⟩:=hv36
 obtain ⟨A36_0,c36_0,eq36_0,l36_0,k36_0⟩:=f36_0.slc
 subst eq36_0
 refine VE.tree [8,10,11] (by kernel_rfl) ⟨?_,?_,?_,trivial⟩
 refine VI.call 126 rfl rfl (.inl rfl) Zb rfl rfl (fun _ _ h=>Inv.sbK [129,127,128,0] h) (fun W hW=>JA W (hW.t 126) q25_0 bd) (fun v37 m37 hv37=>?_)
 obtain ⟨s37_0,p37_0,p37_1,rfl,hS37,f37_0,w37_0⟩:=hv37
 refine VE.inv _ (fun _ h=>h.parts (i:=126) rfl hS37 [138,139]) ?_
 have hfa40:=JO (d:=T_)
 refine VE.tree [9,10,11] (by kernel_rfl) ⟨?_,?_,?_,trivial⟩
 refine VI.call 138 rfl rfl (.inl rfl) Jk rfl rfl (fun _ _ h=>Inv.sbK [129,127,128,0] h) (fun W hW=>QV W (hW.t 138) f37_0 bd) (fun v41 m41 hv41=>?_)
 obtain ⟨s41_0,rfl,f41_0⟩:=hv41
 obtain ⟨A41_0,c41_0,eq41_0,l41_0,k41_0⟩:=f41_0.slc
 subst eq41_0
 refine VE.tree [10,11] (by kernel_rfl) ⟨?_,?_,trivial⟩
 refine VI.alloc 143 rfl rfl XG (fun _ _ h=>Inv.sbK [129,127,128,0] h) (fun g42=>?_)
 refine VE.tree [11] (by kernel_rfl) ⟨?_,trivial⟩
 refine VI.alloc 145 rfl rfl XG (fun _ _ h=>Inv.sbK [129,127,128,0] h) (fun g44=>?_)
 refine VE.nil (by kernel_rfl) rfl ?_ rfl
 refine VO.store (k:=1) (c':=[.slice A36_0 ((tL (Zm l_)).length) (c36_0)]) 143 rfl rfl (.inr ⟨Jw,rfl⟩) rfl rfl rfl rfl rfl ?_
 refine VO.store (k:=1) (c':=[.slice A41_0 ((tL T_).length) (c41_0)]) 145 rfl rfl (.inr ⟨Jw,rfl⟩) rfl rfl rfl rfl rfl ?_
 refine VO.clsP 146 [129,139,127,128] rfl (fun hg46=>(Qd _ _ _ hg46 w37_0 q25_1 q25_2)) (fun mc46 ho46=>?_)
 refine VO.p6 146 145 143 138 133 0 (VO.k5 0 2 3 4 6 ?_)
 exact Qg (hJ2 ⟨g42,g44,(tL (Zm l_)),A36_0,c36_0,m36,(tL T_),A41_0,c41_0,m41,mc46⟩ _ _ ⟨by rfl,by rfl,(Ow.ownl f36_0 rfl mnil),(Ow.ownl f41_0 rfl mnil),ho46⟩ ⟨esn,fun _ h=>Inv.sub (Inv.num (Inv.num (Inv.num (Inv.num (Inv.num h 133 111 rfl) 138 116 rfl) 146 124 rfl) 145 123 rfl) 143 121 rfl) [124,123,121,116,111,0]⟩)
 refine VI.alloc 148 rfl rfl XG (fun _ _ h=>Inv.sbK [129,127,128,0] h) (fun g47=>?_)
 refine VE.tree [10] (by kernel_rfl) ⟨?_,trivial⟩
 refine VI.alloc 150 rfl rfl XG (fun _ _ h=>Inv.sbK [129,127,128,0] h) (fun g49=>?_)
 refine VE.nil (by kernel_rfl) rfl ?_ rfl
 refine VO.store (k:=1) (c':=[.slice A36_0 ((tL (Zm l_)).length) (c36_0)]) 150 rfl rfl (.inr ⟨Jw,rfl⟩) rfl rfl rfl rfl rfl ?_
 refine VO.store (k:=1) (c':=[.slice A41_0 ((tL T_).length) (c41_0)]) 148 rfl rfl (.inr ⟨Jw,rfl⟩) rfl rfl rfl rfl rfl ?_
 refine VO.clsP 151 [129,139,127,128] rfl (fun hg51=>(Qd _ _ _ hg51 w37_0 q25_1 q25_2)) (fun mc51 ho51=>?_)
 refine VO.p6 151 150 148 138 133 0 (VO.k5 0 2 3 4 6 ?_)
 exact Qg (hJ2 ⟨g49,g47,(tL (Zm l_)),A36_0,c36_0,m36,(tL T_),A41_0,c41_0,m41,mc51⟩ _ _ ⟨by rfl,by rfl,(Ow.ownl f36_0 rfl mnil),(Ow.ownl f41_0 rfl mnil),ho51⟩ ⟨esn,fun _ h=>Inv.sub (Inv.num (Inv.num (Inv.num (Inv.num (Inv.num h 133 111 rfl) 138 116 rfl) 151 124 rfl) 148 123 rfl) 150 121 rfl) [124,123,121,116,111,0]⟩)
 refine VI.alloc 153 rfl rfl XG (fun _ _ h=>Inv.sbK [129,127,128,0] h) (fun g52=>?_)
 refine VE.tree [9,11] (by kernel_rfl) ⟨?_,?_,trivial⟩
 refine VI.call 138 rfl rfl (.inl rfl) Jk rfl rfl (fun _ _ h=>Inv.sbK [129,127,128,0] h) (fun W hW=>QV W (hW.t 138) f37_0 bd) (fun v54 m54 hv54=>?_)
 obtain ⟨s54_0,rfl,f54_0⟩:=hv54
 obtain ⟨A54_0,c54_0,eq54_0,l54_0,k54_0⟩:=f54_0.slc
 subst eq54_0
 refine VE.tree [11] (by kernel_rfl) ⟨?_,trivial⟩
 refine VI.alloc 156 rfl rfl XG (fun _ _ h=>Inv.sbK [129,127,128,0] h) (fun g55=>?_)
 refine VE.nil (by kernel_rfl) rfl ?_ rfl
 refine VO.store (k:=1) (c':=[.slice A36_0 ((tL (Zm l_)).length) (c36_0)]) 153 rfl rfl (.inr ⟨Jw,rfl⟩) rfl rfl rfl rfl rfl ?_
 refine VO.store (k:=1) (c':=[.slice A54_0 ((tL T_).length) (c54_0)]) 156 rfl rfl (.inr ⟨Jw,rfl⟩) rfl rfl rfl rfl rfl ?_
 refine VO.clsP 157 [129,139,127,128] rfl (fun hg57=>(Qd _ _ _ hg57 w37_0 q25_1 q25_2)) (fun mc57 ho57=>?_)
 refine VO.p6 157 156 138 153 133 0 (VO.k5 0 2 3 4 6 ?_)
 exact Qg (hJ2 ⟨g52,g55,(tL (Zm l_)),A36_0,c36_0,m36,(tL T_),A54_0,c54_0,m54,mc57⟩ _ _ ⟨by rfl,by rfl,(Ow.ownl f36_0 rfl mnil),(Ow.ownl f54_0 rfl mnil),ho57⟩ ⟨esn,fun _ h=>Inv.sub (Inv.num (Inv.num (Inv.num (Inv.num (Inv.num h 133 111 rfl) 138 116 rfl) 157 124 rfl) 156 123 rfl) 153 121 rfl) [124,123,121,116,111,0]⟩)
 refine VI.alloc 159 rfl rfl XG (fun _ _ h=>Inv.sbK [129,127,128,0] h) (fun g58=>?_)
 refine VE.tree [9] (by kernel_rfl) ⟨?_,trivial⟩
 refine VI.call 138 rfl rfl (.inl rfl) Jk rfl rfl (fun _ _ h=>Inv.sbK [129,127,128,0] h) (fun W hW=>QV W (hW.t 138) f37_0 bd) (fun v60 m60 hv60=>?_)
 obtain ⟨s60_0,rfl,f60_0⟩:=hv60
 obtain ⟨A60_0,c60_0,eq60_0,l60_0,k60_0⟩:=f60_0.slc
 subst eq60_0
 refine VE.nil (by kernel_rfl) rfl ?_ rfl
 refine VO.store (k:=1) (c':=[.slice A36_0 ((tL (Zm l_)).length) (c36_0)]) 153 rfl rfl (.inr ⟨Jw,rfl⟩) rfl rfl rfl rfl rfl ?_
 refine VO.store (k:=1) (c':=[.slice A60_0 ((tL T_).length) (c60_0)]) 159 rfl rfl (.inr ⟨Jw,rfl⟩) rfl rfl rfl rfl rfl ?_
 refine VO.clsP 161 [129,139,127,128] rfl (fun hg61=>(Qd _ _ _ hg61 w37_0 q25_1 q25_2)) (fun mc61 ho61=>?_)
 refine VO.p6 161 138 159 153 133 0 (VO.k5 0 2 3 4 6 ?_)
 exact Qg (hJ2 ⟨g52,g58,(tL (Zm l_)),A36_0,c36_0,m36,(tL T_),A60_0,c60_0,m60,mc61⟩ _ _ ⟨by rfl,by rfl,(Ow.ownl f36_0 rfl mnil),(Ow.ownl f60_0 rfl mnil),ho61⟩ ⟨esn,fun _ h=>Inv.sub (Inv.num (Inv.num (Inv.num (Inv.num (Inv.num h 133 111 rfl) 138 116 rfl) 161 124 rfl) 159 123 rfl) 153 121 rfl) [124,123,121,116,111,0]⟩)
 refine VI.alloc 163 rfl rfl XG (fun _ _ h=>Inv.sbK [129,127,128,0] h) (fun g62=>?_)
 refine VE.tree [9,10] (by kernel_rfl) ⟨?_,?_,trivial⟩
 refine VI.call 138 rfl rfl (.inl rfl) Jk rfl rfl (fun _ _ h=>Inv.sbK [129,127,128,0] h) (fun W hW=>QV W (hW.t 138) f37_0 bd) (fun v64 m64 hv64=>?_)
 obtain ⟨s64_0,rfl,f64_0⟩:=hv64
 obtain ⟨A64_0,c64_0,eq64_0,l64_0,k64_0⟩:=f64_0.slc
 subst eq64_0
 refine VE.tree [10] (by kernel_rfl) ⟨?_,trivial⟩
 refine VI.alloc 166 rfl rfl XG (fun _ _ h=>Inv.sbK [129,127,128,0] h) (fun g65=>?_)
 refine VE.nil (by kernel_rfl) rfl ?_ rfl
 refine VO.store (k:=1) (c':=[.slice A36_0 ((tL (Zm l_)).length) (c36_0)]) 166 rfl rfl (.inr ⟨Jw,rfl⟩) rfl rfl rfl rfl rfl ?_
 refine VO.store (k:=1) (c':=[.slice A64_0 ((tL T_).length) (c64_0)]) 163 rfl rfl (.inr ⟨Jw,rfl⟩) rfl rfl rfl rfl rfl ?_
 refine VO.clsP 167 [129,139,127,128] rfl (fun hg67=>(Qd _ _ _ hg67 w37_0 q25_1 q25_2)) (fun mc67 ho67=>?_)
 refine VO.p6 167 166 138 163 133 0 (VO.k5 0 2 3 4 6 ?_)
 exact Qg (hJ2 ⟨g65,g62,(tL (Zm l_)),A36_0,c36_0,m36,(tL T_),A64_0,c64_0,m64,mc67⟩ _ _ ⟨by rfl,by rfl,(Ow.ownl f36_0 rfl mnil),(Ow.ownl f64_0 rfl mnil),ho67⟩ ⟨esn,fun _ h=>Inv.sub (Inv.num (Inv.num (Inv.num (Inv.num (Inv.num h 133 111 rfl) 138 116 rfl) 167 124 rfl) 163 123 rfl) 166 121 rfl) [124,123,121,116,111,0]⟩)
 refine VI.alloc 169 rfl rfl XG (fun _ _ h=>Inv.sbK [129,127,128,0] h) (fun g68=>?_)
 refine VE.tree [9] (by kernel_rfl) ⟨?_,trivial⟩
 refine VI.call 138 rfl rfl (.inl rfl) Jk rfl rfl (fun _ _ h=>Inv.sbK [129,127,128,0] h) (fun W hW=>QV W (hW.t 138) f37_0 bd) (fun v70 m70 hv70=>?_)
 obtain ⟨s70_0,rfl,f70_0⟩:=hv70
 obtain ⟨A70_0,c70_0,eq70_0,l70_0,k70_0⟩:=f70_0.slc
 subst eq70_0
 refine VE.nil (by kernel_rfl) rfl ?_ rfl
 refine VO.store (k:=1) (c':=[.slice A36_0 ((tL (Zm l_)).length) (c36_0)]) 169 rfl rfl (.inr ⟨Jw,rfl⟩) rfl rfl rfl rfl rfl ?_
 refine VO.store (k:=1) (c':=[.slice A70_0 ((tL T_).length) (c70_0)]) 163 rfl rfl (.inr ⟨Jw,rfl⟩) rfl rfl rfl rfl rfl ?_
 refine VO.clsP 171 [129,139,127,128] rfl (fun hg71=>(Qd _ _ _ hg71 w37_0 q25_1 q25_2)) (fun mc71 ho71=>?_)
 refine VO.p6 171 138 169 163 133 0 (VO.k5 0 2 3 4 6 ?_)
 exact Qg (hJ2 ⟨g68,g62,(tL (Zm l_)),A36_0,c36_0,m36,(tL T_),A70_0,c70_0,m70,mc71⟩ _ _ ⟨by rfl,by rfl,(Ow.ownl f36_0 rfl mnil),(Ow.ownl f70_0 rfl mnil),ho71⟩ ⟨esn,fun _ h=>Inv.sub (Inv.num (Inv.num (Inv.num (Inv.num (Inv.num h 133 111 rfl) 138 116 rfl) 171 124 rfl) 163 123 rfl) 169 121 rfl) [124,123,121,116,111,0]⟩)
 refine VI.alloc 173 rfl rfl XG (fun _ _ h=>Inv.sbK [129,127,128,0] h) (fun g72=>?_)
 refine VE.tree [8,11] (by kernel_rfl) ⟨?_,?_,trivial⟩
 refine VI.call 126 rfl rfl (.inl rfl) Zb rfl rfl (fun _ _ h=>Inv.sbK [129,127,128,0] h) (fun W hW=>JA W (hW.t 126) q25_0 bd) (fun v74 m74 hv74=>?_)
 obtain ⟨s74_0,p74_0,p74_1,rfl,hS74,f74_0,w74_0⟩:=hv74
 refine VE.inv _ (fun _ h=>h.parts (i:=126) rfl hS74 [175,176]) ?_
 have hfa77:=JO (d:=T_)
 refine VE.tree [9,11] (by kernel_rfl) ⟨?_,?_,trivial⟩
 refine VI.call 175 rfl rfl (.inl rfl) Jk rfl rfl (fun _ _ h=>Inv.sbK [129,127,128,0] h) (fun W hW=>QV W (hW.t 175) f74_0 bd) (fun v78 m78 hv78=>?_)
 obtain ⟨s78_0,rfl,f78_0⟩:=hv78
 obtain ⟨A78_0,c78_0,eq78_0,l78_0,k78_0⟩:=f78_0.slc
 subst eq78_0
 refine VE.tree [11] (by kernel_rfl) ⟨?_,trivial⟩
 refine VI.alloc 180 rfl rfl XG (fun _ _ h=>Inv.sbK [129,127,128,0] h) (fun g79=>?_)
 refine VE.nil (by kernel_rfl) rfl ?_ rfl
 refine VO.store (k:=1) (c':=[.slice A36_0 ((tL (Zm l_)).length) (c36_0)]) 173 rfl rfl (.inr ⟨Jw,rfl⟩) rfl rfl rfl rfl rfl ?_
 refine VO.store (k:=1) (c':=[.slice A78_0 ((tL T_).length) (c78_0)]) 180 rfl rfl (.inr ⟨Jw,rfl⟩) rfl rfl rfl rfl rfl ?_
 refine VO.clsP 181 [129,176,127,128] rfl (fun hg81=>(Qd _ _ _ hg81 w74_0 q25_1 q25_2)) (fun mc81 ho81=>?_)
 refine VO.p6 181 180 175 173 133 0 (VO.k5 0 2 3 4 6 ?_)
 exact Qg (hJ2 ⟨g72,g79,(tL (Zm l_)),A36_0,c36_0,m36,(tL T_),A78_0,c78_0,m78,mc81⟩ _ _ ⟨by rfl,by rfl,(Ow.ownl f36_0 rfl mnil),(Ow.ownl f78_0 rfl mnil),ho81⟩ ⟨esn,fun _ h=>Inv.sub (Inv.num (Inv.num (Inv.num (Inv.num (Inv.num h 133 111 rfl) 175 116 rfl) 181 124 rfl) 180 123 rfl) 173 121 rfl) [124,123,121,116,111,0]⟩)
 refine VI.alloc 183 rfl rfl XG (fun _ _ h=>Inv.sbK [129,127,128,0] h) (fun g82=>?_)
 refine VE.tree [9] (by kernel_rfl) ⟨?_,trivial⟩
 refine VI.call 175 rfl rfl (.inl rfl) Jk rfl rfl (fun _ _ h=>Inv.sbK [129,127,128,0] h) (fun W hW=>QV W (hW.t 175) f74_0 bd) (fun v84 m84 hv84=>?_)
 obtain ⟨s84_0,rfl,f84_0⟩:=hv84
 obtain ⟨A84_0,c84_0,eq84_0,l84_0,k84_0⟩:=f84_0.slc
 subst eq84_0
 refine VE.nil (by kernel_rfl) rfl ?_ rfl
 refine VO.store (k:=1) (c':=[.slice A36_0 ((tL (Zm l_)).length) (c36_0)]) 173 rfl rfl (.inr ⟨Jw,rfl⟩) rfl rfl rfl rfl rfl ?_
 refine VO.store (k:=1) (c':=[.slice A84_0 ((tL T_).length) (c84_0)]) 183 rfl rfl (.inr ⟨Jw,rfl⟩) rfl rfl rfl rfl rfl ?_
 refine VO.clsP 185 [129,176,127,128] rfl (fun hg85=>(Qd _ _ _ hg85 w74_0 q25_1 q25_2)) (fun mc85 ho85=>?_)
 refine VO.p6 185 175 183 173 133 0 (VO.k5 0 2 3 4 6 ?_)
 exact Qg (hJ2 ⟨g72,g82,(tL (Zm l_)),A36_0,c36_0,m36,(tL T_),A84_0,c84_0,m84,mc85⟩ _ _ ⟨by rfl,by rfl,(Ow.ownl f36_0 rfl mnil),(Ow.ownl f84_0 rfl mnil),ho85⟩ ⟨esn,fun _ h=>Inv.sub (Inv.num (Inv.num (Inv.num (Inv.num (Inv.num h 133 111 rfl) 175 116 rfl) 185 124 rfl) 183 123 rfl) 173 121 rfl) [124,123,121,116,111,0]⟩)
 refine VI.alloc 187 rfl rfl XG (fun _ _ h=>Inv.sbK [129,127,128,0] h) (fun g86=>?_)
 refine VE.tree [8] (by kernel_rfl) ⟨?_,trivial⟩
 refine VI.call 126 rfl rfl (.inl rfl) Zb rfl rfl (fun _ _ h=>Inv.sbK [129,127,128,0] h) (fun W hW=>JA W (hW.t 126) q25_0 bd) (fun v88 m88 hv88=>?_)
 obtain ⟨s88_0,p88_0,p88_1,rfl,hS88,f88_0,w88_0⟩:=hv88
 refine VE.inv _ (fun _ h=>h.parts (i:=126) rfl hS88 [189,190]) ?_
 have hfa91:=JO (d:=T_)
 refine VE.tree [9] (by kernel_rfl) ⟨?_,trivial⟩
 refine VI.call 189 rfl rfl (.inl rfl) Jk rfl rfl (fun _ _ h=>Inv.sbK [129,127,128,0] h) (fun W hW=>QV W (hW.t 189) f88_0 bd) (fun v92 m92 hv92=>?_)
 obtain ⟨s92_0,rfl,f92_0⟩:=hv92
 obtain ⟨A92_0,c92_0,eq92_0,l92_0,k92_0⟩:=f92_0.slc
 subst eq92_0
 refine VE.nil (by kernel_rfl) rfl ?_ rfl
 refine VO.store (k:=1) (c':=[.slice A36_0 ((tL (Zm l_)).length) (c36_0)]) 173 rfl rfl (.inr ⟨Jw,rfl⟩) rfl rfl rfl rfl rfl ?_
 refine VO.store (k:=1) (c':=[.slice A92_0 ((tL T_).length) (c92_0)]) 187 rfl rfl (.inr ⟨Jw,rfl⟩) rfl rfl rfl rfl rfl ?_
 refine VO.clsP 193 [129,190,127,128] rfl (fun hg93=>(Qd _ _ _ hg93 w88_0 q25_1 q25_2)) (fun mc93 ho93=>?_)
 refine VO.p6 193 189 187 173 133 0 (VO.k5 0 2 3 4 6 ?_)
 exact Qg (hJ2 ⟨g72,g86,(tL (Zm l_)),A36_0,c36_0,m36,(tL T_),A92_0,c92_0,m92,mc93⟩ _ _ ⟨by rfl,by rfl,(Ow.ownl f36_0 rfl mnil),(Ow.ownl f92_0 rfl mnil),ho93⟩ ⟨esn,fun _ h=>Inv.sub (Inv.num (Inv.num (Inv.num (Inv.num (Inv.num h 133 111 rfl) 189 116 rfl) 193 124 rfl) 187 123 rfl) 173 121 rfl) [124,123,121,116,111,0]⟩)
 refine VI.alloc 195 rfl rfl XG (fun _ _ h=>Inv.sbK [129,127,128,0] h) (fun g94=>?_)
 refine VE.tree [8,10] (by kernel_rfl) ⟨?_,?_,trivial⟩
 refine VI.call 126 rfl rfl (.inl rfl) Zb rfl rfl (fun _ _ h=>Inv.sbK [129,127,128,0] h) (fun W hW=>JA W (hW.t 126) q25_0 bd) (fun v96 m96 hv96=>?_)
 obtain ⟨s96_0,p96_0,p96_1,rfl,hS96,f96_0,w96_0⟩:=hv96
 refine VE.inv _ (fun _ h=>h.parts (i:=126) rfl hS96 [197,198]) ?_
 have hfa99:=JO (d:=T_)
 refine VE.tree [9,10] (by kernel_rfl) ⟨?_,?_,trivial⟩
 refine VI.call 197 rfl rfl (.inl rfl) Jk rfl rfl (fun _ _ h=>Inv.sbK [129,127,128,0] h) (fun W hW=>QV W (hW.t 197) f96_0 bd) (fun v100 m100 hv100=>?_)
 obtain ⟨s100_0,rfl,f100_0⟩:=hv100
 obtain ⟨A100_0,c100_0,eq100_0,l100_0,k100_0⟩:=f100_0.slc
 subst eq100_0
 refine VE.tree [10] (by kernel_rfl) ⟨?_,trivial⟩
 refine VI.alloc 202 rfl rfl XG (fun _ _ h=>Inv.sbK [129,127,128,0] h) (fun g101=>?_)
 refine VE.nil (by kernel_rfl) rfl ?_ rfl
 refine VO.store (k:=1) (c':=[.slice A36_0 ((tL (Zm l_)).length) (c36_0)]) 202 rfl rfl (.inr ⟨Jw,rfl⟩) rfl rfl rfl rfl rfl ?_
 refine VO.store (k:=1) (c':=[.slice A100_0 ((tL T_).length) (c100_0)]) 195 rfl rfl (.inr ⟨Jw,rfl⟩) rfl rfl rfl rfl rfl ?_
 refine VO.clsP 203 [129,198,127,128] rfl (fun hg103=>(Qd _ _ _ hg103 w96_0 q25_1 q25_2)) (fun mc103 ho103=>?_)
 refine VO.p6 203 202 197 195 133 0 (VO.k5 0 2 3 4 6 ?_)
 exact Qg (hJ2 ⟨g101,g94,(tL (Zm l_)),A36_0,c36_0,m36,(tL T_),A100_0,c100_0,m100,mc103⟩ _ _ ⟨by rfl,by rfl,(Ow.ownl f36_0 rfl mnil),(Ow.ownl f100_0 rfl mnil),ho103⟩ ⟨esn,fun _ h=>Inv.sub (Inv.num (Inv.num (Inv.num (Inv.num (Inv.num h 133 111 rfl) 197 116 rfl) 203 124 rfl) 195 123 rfl) 202 121 rfl) [124,123,121,116,111,0]⟩)
 refine VI.alloc 205 rfl rfl XG (fun _ _ h=>Inv.sbK [129,127,128,0] h) (fun g104=>?_)
 refine VE.tree [9] (by kernel_rfl) ⟨?_,trivial⟩
 refine VI.call 197 rfl rfl (.inl rfl) Jk rfl rfl (fun _ _ h=>Inv.sbK [129,127,128,0] h) (fun W hW=>QV W (hW.t 197) f96_0 bd) (fun v106 m106 hv106=>?_)
 obtain ⟨s106_0,rfl,f106_0⟩:=hv106
 obtain ⟨A106_0,c106_0,eq106_0,l106_0,k106_0⟩:=f106_0.slc
 subst eq106_0
 refine VE.nil (by kernel_rfl) rfl ?_ rfl
 refine VO.store (k:=1) (c':=[.slice A36_0 ((tL (Zm l_)).length) (c36_0)]) 205 rfl rfl (.inr ⟨Jw,rfl⟩) rfl rfl rfl rfl rfl ?_
 refine VO.store (k:=1) (c':=[.slice A106_0 ((tL T_).length) (c106_0)]) 195 rfl rfl (.inr ⟨Jw,rfl⟩) rfl rfl rfl rfl rfl ?_
 refine VO.clsP 207 [129,198,127,128] rfl (fun hg107=>(Qd _ _ _ hg107 w96_0 q25_1 q25_2)) (fun mc107 ho107=>?_)
 refine VO.p6 207 197 205 195 133 0 (VO.k5 0 2 3 4 6 ?_)
 exact Qg (hJ2 ⟨g104,g94,(tL (Zm l_)),A36_0,c36_0,m36,(tL T_),A106_0,c106_0,m106,mc107⟩ _ _ ⟨by rfl,by rfl,(Ow.ownl f36_0 rfl mnil),(Ow.ownl f106_0 rfl mnil),ho107⟩ ⟨esn,fun _ h=>Inv.sub (Inv.num (Inv.num (Inv.num (Inv.num (Inv.num h 133 111 rfl) 197 116 rfl) 207 124 rfl) 195 123 rfl) 205 121 rfl) [124,123,121,116,111,0]⟩)
 refine VI.alloc 209 rfl rfl XG (fun _ _ h=>Inv.sbK [129,127,128,0] h) (fun g108=>?_)
 refine VE.tree [8] (by kernel_rfl) ⟨?_,trivial⟩
 refine VI.call 126 rfl rfl (.inl rfl) Zb rfl rfl (fun _ _ h=>Inv.sbK [129,127,128,0] h) (fun W hW=>JA W (hW.t 126) q25_0 bd) (fun v110 m110 hv110=>?_)
 obtain ⟨s110_0,p110_0,p110_1,rfl,hS110,f110_0,w110_0⟩:=hv110
 refine VE.inv _ (fun _ h=>h.parts (i:=126) rfl hS110 [211,212]) ?_
 have hfa113:=JO (d:=T_)
 refine VE.tree [9] (by kernel_rfl) ⟨?_,trivial⟩
 refine VI.call 211 rfl rfl (.inl rfl) Jk rfl rfl (fun _ _ h=>Inv.sbK [129,127,128,0] h) (fun W hW=>QV W (hW.t 211) f110_0 bd) (fun v114 m114 hv114=>?_)
 obtain ⟨s114_0,rfl,f114_0⟩:=hv114
 obtain ⟨A114_0,c114_0,eq114_0,l114_0,k114_0⟩:=f114_0.slc
 subst eq114_0
 refine VE.nil (by kernel_rfl) rfl ?_ rfl
 refine VO.store (k:=1) (c':=[.slice A36_0 ((tL (Zm l_)).length) (c36_0)]) 209 rfl rfl (.inr ⟨Jw,rfl⟩) rfl rfl rfl rfl rfl ?_
 refine VO.store (k:=1) (c':=[.slice A114_0 ((tL T_).length) (c114_0)]) 195 rfl rfl (.inr ⟨Jw,rfl⟩) rfl rfl rfl rfl rfl ?_
 refine VO.clsP 215 [129,212,127,128] rfl (fun hg115=>(Qd _ _ _ hg115 w110_0 q25_1 q25_2)) (fun mc115 ho115=>?_)
 refine VO.p6 215 211 209 195 133 0 (VO.k5 0 2 3 4 6 ?_)
 exact Qg (hJ2 ⟨g108,g94,(tL (Zm l_)),A36_0,c36_0,m36,(tL T_),A114_0,c114_0,m114,mc115⟩ _ _ ⟨by rfl,by rfl,(Ow.ownl f36_0 rfl mnil),(Ow.ownl f114_0 rfl mnil),ho115⟩ ⟨esn,fun _ h=>Inv.sub (Inv.num (Inv.num (Inv.num (Inv.num (Inv.num h 133 111 rfl) 211 116 rfl) 215 124 rfl) 195 123 rfl) 209 121 rfl) [124,123,121,116,111,0]⟩)
 refine VI.alloc 217 rfl rfl XG (fun _ _ h=>Inv.sbK [129,127,128,0] h) (fun g116=>?_)
 refine VE.tree [3,11] (by kernel_rfl) ⟨?_,?_,trivial⟩
 refine VI.call 133 rfl rfl (.inl rfl) Jk rfl rfl (fun _ _ h=>Inv.sbK [129,127,128,0] h) (fun W hW=>QV W (hW.t 133) f32_0 bd) (fun v118 m118 hv118=>?_)
 obtain ⟨s118_0,rfl,f118_0⟩:=hv118
 obtain ⟨A118_0,c118_0,eq118_0,l118_0,k118_0⟩:=f118_0.slc
 subst eq118_0
 refine VE.tree [8,11] (by kernel_rfl) ⟨?_,?_,trivial⟩
 refine VI.call 126 rfl rfl (.inl rfl) Zb rfl rfl (fun _ _ h=>Inv.sbK [129,127,128,0] h) (fun W hW=>JA W (hW.t 126) q25_0 bd) (fun v119 m119 hv119=>?_)
 obtain ⟨s119_0,p119_0,p119_1,rfl,hS119,f119_0,w119_0⟩:=hv119
 refine VE.inv _ (fun _ h=>h.parts (i:=126) rfl hS119 [220,221]) ?_
 have hfa122:=JO (d:=T_)
 refine VE.tree [9,11] (by kernel_rfl) ⟨?_,?_,trivial⟩
 refine VI.call 220 rfl rfl (.inl rfl) Jk rfl rfl (fun _ _ h=>Inv.sbK [129,127,128,0] h) (fun W hW=>QV W (hW.t 220) f119_0 bd) (fun v123 m123 hv123=>?_)
 obtain ⟨s123_0,rfl,f123_0⟩:=hv123
 obtain ⟨A123_0,c123_0,eq123_0,l123_0,k123_0⟩:=f123_0.slc
 subst eq123_0
 refine VE.tree [11] (by kernel_rfl) ⟨?_,trivial⟩
 refine VI.alloc 225 rfl rfl XG (fun _ _ h=>Inv.sbK [129,127,128,0] h) (fun g124=>?_)
 refine VE.nil (by kernel_rfl) rfl ?_ rfl
 refine VO.store (k:=1) (c':=[.slice A118_0 ((tL (Zm l_)).length) (c118_0)]) 217 rfl rfl (.inr ⟨Jw,rfl⟩) rfl rfl rfl rfl rfl ?_
 refine VO.store (k:=1) (c':=[.slice A123_0 ((tL T_).length) (c123_0)]) 225 rfl rfl (.inr ⟨Jw,rfl⟩) rfl rfl rfl rfl rfl ?_
 refine VO.clsP 226 [129,221,127,128] rfl (fun hg126=>(Qd _ _ _ hg126 w119_0 q25_1 q25_2)) (fun mc126 ho126=>?_)
 refine VO.p6 226 225 220 133 217 0 (VO.k5 0 2 3 4 6 ?_)
 exact Qg (hJ2 ⟨g116,g124,(tL (Zm l_)),A118_0,c118_0,m118,(tL T_),A123_0,c123_0,m123,mc126⟩ _ _ ⟨by rfl,by rfl,(Ow.ownl f118_0 rfl mnil),(Ow.ownl f123_0 rfl mnil),ho126⟩ ⟨esn,fun _ h=>Inv.sub (Inv.num (Inv.num (Inv.num (Inv.num (Inv.num h 133 111 rfl) 220 116 rfl) 226 124 rfl) 225 123 rfl) 217 121 rfl) [124,123,121,116,111,0]⟩)
 refine VI.alloc 228 rfl rfl XG (fun _ _ h=>Inv.sbK [129,127,128,0] h) (fun g127=>?_)
 refine VE.tree [9] (by kernel_rfl) ⟨?_,trivial⟩
 refine VI.call 220 rfl rfl (.inl rfl) Jk rfl rfl (fun _ _ h=>Inv.sbK [129,127,128,0] h) (fun W hW=>QV W (hW.t 220) f119_0 bd) (fun v129 m129 hv129=>?_)
 obtain ⟨s129_0,rfl,f129_0⟩:=hv129
 obtain ⟨A129_0,c129_0,eq129_0,l129_0,k129_0⟩:=f129_0.slc
 subst eq129_0
 refine VE.nil (by kernel_rfl) rfl ?_ rfl
 refine VO.store (k:=1) (c':=[.slice A118_0 ((tL (Zm l_)).length) (c118_0)]) 217 rfl rfl (.inr ⟨Jw,rfl⟩) rfl rfl rfl rfl rfl ?_
 refine VO.store (k:=1) (c':=[.slice A129_0 ((tL T_).length) (c129_0)]) 228 rfl rfl (.inr ⟨Jw,rfl⟩) rfl rfl rfl rfl rfl ?_
 refine VO.clsP 230 [129,221,127,128] rfl (fun hg130=>(Qd _ _ _ hg130 w119_0 q25_1 q25_2)) (fun mc130 ho130=>?_)
 refine VO.p6 230 220 228 133 217 0 (VO.k5 0 2 3 4 6 ?_)
 exact Qg (hJ2 ⟨g116,g127,(tL (Zm l_)),A118_0,c118_0,m118,(tL T_),A129_0,c129_0,m129,mc130⟩ _ _ ⟨by rfl,by rfl,(Ow.ownl f118_0 rfl mnil),(Ow.ownl f129_0 rfl mnil),ho130⟩ ⟨esn,fun _ h=>Inv.sub (Inv.num (Inv.num (Inv.num (Inv.num (Inv.num h 133 111 rfl) 220 116 rfl) 230 124 rfl) 228 123 rfl) 217 121 rfl) [124,123,121,116,111,0]⟩)
 refine VI.alloc 232 rfl rfl XG (fun _ _ h=>Inv.sbK [129,127,128,0] h) (fun g131=>?_)
 refine VE.tree [8] (by kernel_rfl) ⟨?_,trivial⟩
 refine VI.call 126 rfl rfl (.inl rfl) Zb rfl rfl (fun _ _ h=>Inv.sbK [129,127,128,0] h) (fun W hW=>JA W (hW.t 126) q25_0 bd) (fun v133 m133 hv133=>?_)
 obtain ⟨s133_0,p133_0,p133_1,rfl,hS133,f133_0,w133_0⟩:=hv133
 refine VE.inv _ (fun _ h=>h.parts (i:=126) rfl hS133 [234,235]) ?_
 have hfa136:=JO (d:=T_)
 refine VE.tree [9] (by kernel_rfl) ⟨?_,trivial⟩
 refine VI.call 234 rfl rfl (.inl rfl) Jk rfl rfl (fun _ _ h=>Inv.sbK [129,127,128,0] h) (fun W hW=>QV W (hW.t 234) f133_0 bd) (fun v137 m137 hv137=>?_)
 obtain ⟨s137_0,rfl,f137_0⟩:=hv137
 obtain ⟨A137_0,c137_0,eq137_0,l137_0,k137_0⟩:=f137_0.slc
 subst eq137_0
 refine VE.nil (by kernel_rfl) rfl ?_ rfl
 refine VO.store (k:=1) (c':=[.slice A118_0 ((tL (Zm l_)).length) (c118_0)]) 217 rfl rfl (.inr ⟨Jw,rfl⟩) rfl rfl rfl rfl rfl ?_
 refine VO.store (k:=1) (c':=[.slice A137_0 ((tL T_).length) (c137_0)]) 232 rfl rfl (.inr ⟨Jw,rfl⟩) rfl rfl rfl rfl rfl ?_
 refine VO.clsP 238 [129,235,127,128] rfl (fun hg138=>(Qd _ _ _ hg138 w133_0 q25_1 q25_2)) (fun mc138 ho138=>?_)
 refine VO.p6 238 234 232 133 217 0 (VO.k5 0 2 3 4 6 ?_)
 exact Qg (hJ2 ⟨g116,g131,(tL (Zm l_)),A118_0,c118_0,m118,(tL T_),A137_0,c137_0,m137,mc138⟩ _ _ ⟨by rfl,by rfl,(Ow.ownl f118_0 rfl mnil),(Ow.ownl f137_0 rfl mnil),ho138⟩ ⟨esn,fun _ h=>Inv.sub (Inv.num (Inv.num (Inv.num (Inv.num (Inv.num h 133 111 rfl) 234 116 rfl) 238 124 rfl) 232 123 rfl) 217 121 rfl) [124,123,121,116,111,0]⟩)
 refine VI.alloc 240 rfl rfl XG (fun _ _ h=>Inv.sbK [129,127,128,0] h) (fun g139=>?_)
 refine VE.tree [3] (by kernel_rfl) ⟨?_,trivial⟩
 refine VI.call 133 rfl rfl (.inl rfl) Jk rfl rfl (fun _ _ h=>Inv.sbK [129,127,128,0] h) (fun W hW=>QV W (hW.t 133) f32_0 bd) (fun v141 m141 hv141=>?_)
 obtain ⟨s141_0,rfl,f141_0⟩:=hv141
 obtain ⟨A141_0,c141_0,eq141_0,l141_0,k141_0⟩:=f141_0.slc
 subst eq141_0
 refine VE.tree [8] (by kernel_rfl) ⟨?_,trivial⟩
 refine VI.call 126 rfl rfl (.inl rfl) Zb rfl rfl (fun _ _ h=>Inv.sbK [129,127,128,0] h) (fun W hW=>JA W (hW.t 126) q25_0 bd) (fun v142 m142 hv142=>?_)
 obtain ⟨s142_0,p142_0,p142_1,rfl,hS142,f142_0,w142_0⟩:=hv142
 refine VE.inv _ (fun _ h=>h.parts (i:=126) rfl hS142 [243,244]) ?_
 have hfa145:=JO (d:=T_)
 refine VE.tree [9] (by kernel_rfl) ⟨?_,trivial⟩
 refine VI.call 243 rfl rfl (.inl rfl) Jk rfl rfl (fun _ _ h=>Inv.sbK [129,127,128,0] h) (fun W hW=>QV W (hW.t 243) f142_0 bd) (fun v146 m146 hv146=>?_)
 obtain ⟨s146_0,rfl,f146_0⟩:=hv146
 obtain ⟨A146_0,c146_0,eq146_0,l146_0,k146_0⟩:=f146_0.slc
 subst eq146_0
 refine VE.nil (by kernel_rfl) rfl ?_ rfl
 refine VO.store (k:=1) (c':=[.slice A141_0 ((tL (Zm l_)).length) (c141_0)]) 217 rfl rfl (.inr ⟨Jw,rfl⟩) rfl rfl rfl rfl rfl ?_
 refine VO.store (k:=1) (c':=[.slice A146_0 ((tL T_).length) (c146_0)]) 240 rfl rfl (.inr ⟨Jw,rfl⟩) rfl rfl rfl rfl rfl ?_
 refine VO.clsP 247 [129,244,127,128] rfl (fun hg147=>(Qd _ _ _ hg147 w142_0 q25_1 q25_2)) (fun mc147 ho147=>?_)
 refine VO.p6 247 243 133 240 217 0 (VO.k5 0 2 3 4 6 ?_)
 exact Qg (hJ2 ⟨g116,g139,(tL (Zm l_)),A141_0,c141_0,m141,(tL T_),A146_0,c146_0,m146,mc147⟩ _ _ ⟨by rfl,by rfl,(Ow.ownl f141_0 rfl mnil),(Ow.ownl f146_0 rfl mnil),ho147⟩ ⟨esn,fun _ h=>Inv.sub (Inv.num (Inv.num (Inv.num (Inv.num (Inv.num h 133 111 rfl) 243 116 rfl) 247 124 rfl) 240 123 rfl) 217 121 rfl) [124,123,121,116,111,0]⟩)
 refine VI.alloc 249 rfl rfl XG (fun _ _ h=>Inv.sbK [129,127,128,0] h) (fun g148=>?_)
 refine VE.tree [3,10] (by kernel_rfl) ⟨?_,?_,trivial⟩
 refine VI.call 133 rfl rfl (.inl rfl) Jk rfl rfl (fun _ _ h=>Inv.sbK [129,127,128,0] h) (fun W hW=>QV W (hW.t 133) f32_0 bd) (fun v150 m150 hv150=>?_)
 obtain ⟨s150_0,rfl,f150_0⟩:=hv150
 obtain ⟨A150_0,c150_0,eq150_0,l150_0,k150_0⟩:=f150_0.slc
 subst eq150_0
 refine VE.tree [8,10] (by kernel_rfl) ⟨?_,?_,trivial⟩
 refine VI.call 126 rfl rfl (.inl rfl) Zb rfl rfl (fun _ _ h=>Inv.sbK [129,127,128,0] h) (fun W hW=>JA W (hW.t 126) q25_0 bd) (fun v151 m151 hv151=>?_)
 obtain ⟨s151_0,p151_0,p151_1,rfl,hS151,f151_0,w151_0⟩:=hv151
 refine VE.inv _ (fun _ h=>h.parts (i:=126) rfl hS151 [252,253]) ?_
 have hfa154:=JO (d:=T_)
 refine VE.tree [9,10] (by kernel_rfl) ⟨?_,?_,trivial⟩
 refine VI.call 252 rfl rfl (.inl rfl) Jk rfl rfl (fun _ _ h=>Inv.sbK [129,127,128,0] h) (fun W hW=>QV W (hW.t 252) f151_0 bd) (fun v155 m155 hv155=>?_)
 obtain ⟨s155_0,rfl,f155_0⟩:=hv155
 obtain ⟨A155_0,c155_0,eq155_0,l155_0,k155_0⟩:=f155_0.slc
 subst eq155_0
 refine VE.tree [10] (by kernel_rfl) ⟨?_,trivial⟩
 refine VI.alloc 257 rfl rfl XG (fun _ _ h=>Inv.sbK [129,127,128,0] h) (fun g156=>?_)
 refine VE.nil (by kernel_rfl) rfl ?_ rfl
 refine VO.store (k:=1) (c':=[.slice A150_0 ((tL (Zm l_)).length) (c150_0)]) 257 rfl rfl (.inr ⟨Jw,rfl⟩) rfl rfl rfl rfl rfl ?_
 refine VO.store (k:=1) (c':=[.slice A155_0 ((tL T_).length) (c155_0)]) 249 rfl rfl (.inr ⟨Jw,rfl⟩) rfl rfl rfl rfl rfl ?_
 refine VO.clsP 258 [129,253,127,128] rfl (fun hg158=>(Qd _ _ _ hg158 w151_0 q25_1 q25_2)) (fun mc158 ho158=>?_)
 refine VO.p6 258 257 252 133 249 0 (VO.k5 0 2 3 4 6 ?_)
 exact Qg (hJ2 ⟨g156,g148,(tL (Zm l_)),A150_0,c150_0,m150,(tL T_),A155_0,c155_0,m155,mc158⟩ _ _ ⟨by rfl,by rfl,(Ow.ownl f150_0 rfl mnil),(Ow.ownl f155_0 rfl mnil),ho158⟩ ⟨esn,fun _ h=>Inv.sub (Inv.num (Inv.num (Inv.num (Inv.num (Inv.num h 133 111 rfl) 252 116 rfl) 258 124 rfl) 249 123 rfl) 257 121 rfl) [124,123,121,116,111,0]⟩)
 refine VI.alloc 260 rfl rfl XG (fun _ _ h=>Inv.sbK [129,127,128,0] h) (fun g159=>?_)
 refine VE.tree [9] (by kernel_rfl) ⟨?_,trivial⟩
 refine VI.call 252 rfl rfl (.inl rfl) Jk rfl rfl (fun _ _ h=>Inv.sbK [129,127,128,0] h) (fun W hW=>QV W (hW.t 252) f151_0 bd) (fun v161 m161 hv161=>?_)
 obtain ⟨s161_0,rfl,f161_0⟩:=hv161
 obtain ⟨A161_0,c161_0,eq161_0,l161_0,k161_0⟩:=f161_0.slc
 subst eq161_0
 refine VE.nil (by kernel_rfl) rfl ?_ rfl
 refine VO.store (k:=1) (c':=[.slice A150_0 ((tL (Zm l_)).length) (c150_0)]) 260 rfl rfl (.inr ⟨Jw,rfl⟩) rfl rfl rfl rfl rfl ?_
 refine VO.store (k:=1) (c':=[.slice A161_0 ((tL T_).length) (c161_0)]) 249 rfl rfl (.inr ⟨Jw,rfl⟩) rfl rfl rfl rfl rfl ?_
 refine VO.clsP 262 [129,253,127,128] rfl (fun hg162=>(Qd _ _ _ hg162 w151_0 q25_1 q25_2)) (fun mc162 ho162=>?_)
 refine VO.p6 262 252 260 133 249 0 (VO.k5 0 2 3 4 6 ?_)
 exact Qg (hJ2 ⟨g159,g148,(tL (Zm l_)),A150_0,c150_0,m150,(tL T_),A161_0,c161_0,m161,mc162⟩ _ _ ⟨by rfl,by rfl,(Ow.ownl f150_0 rfl mnil),(Ow.ownl f161_0 rfl mnil),ho162⟩ ⟨esn,fun _ h=>Inv.sub (Inv.num (Inv.num (Inv.num (Inv.num (Inv.num h 133 111 rfl) 252 116 rfl) 262 124 rfl) 249 123 rfl) 260 121 rfl) [124,123,121,116,111,0]⟩)
 refine VI.alloc 264 rfl rfl XG (fun _ _ h=>Inv.sbK [129,127,128,0] h) (fun g163=>?_)
 refine VE.tree [8] (by kernel_rfl) ⟨?_,trivial⟩
 refine VI.call 126 rfl rfl (.inl rfl) Zb rfl rfl (fun _ _ h=>Inv.sbK [129,127,128,0] h) (fun W hW=>JA W (hW.t 126) q25_0 bd) (fun v165 m165 hv165=>?_)
 obtain ⟨s165_0,p165_0,p165_1,rfl,hS165,f165_0,w165_0⟩:=hv165
 refine VE.inv _ (fun _ h=>h.parts (i:=126) rfl hS165 [266,267]) ?_
 have hfa168:=JO (d:=T_)
 refine VE.tree [9] (by kernel_rfl) ⟨?_,trivial⟩
 refine VI.call 266 rfl rfl (.inl rfl) Jk rfl rfl (fun _ _ h=>Inv.sbK [129,127,128,0] h) (fun W hW=>QV W (hW.t 266) f165_0 bd) (fun v169 m169 hv169=>?_)
 obtain ⟨s169_0,rfl,f169_0⟩:=hv169
 obtain ⟨A169_0,c169_0,eq169_0,l169_0,k169_0⟩:=f169_0.slc
 subst eq169_0
 refine VE.nil (by kernel_rfl) rfl ?_ rfl
 refine VO.store (k:=1) (c':=[.slice A150_0 ((tL (Zm l_)).length) (c150_0)]) 264 rfl rfl (.inr ⟨Jw,rfl⟩) rfl rfl rfl rfl rfl ?_
 refine VO.store (k:=1) (c':=[.slice A169_0 ((tL T_).length) (c169_0)]) 249 rfl rfl (.inr ⟨Jw,rfl⟩) rfl rfl rfl rfl rfl ?_
 refine VO.clsP 270 [129,267,127,128] rfl (fun hg170=>(Qd _ _ _ hg170 w165_0 q25_1 q25_2)) (fun mc170 ho170=>?_)
 refine VO.p6 270 266 264 133 249 0 (VO.k5 0 2 3 4 6 ?_)
 exact Qg (hJ2 ⟨g163,g148,(tL (Zm l_)),A150_0,c150_0,m150,(tL T_),A169_0,c169_0,m169,mc170⟩ _ _ ⟨by rfl,by rfl,(Ow.ownl f150_0 rfl mnil),(Ow.ownl f169_0 rfl mnil),ho170⟩ ⟨esn,fun _ h=>Inv.sub (Inv.num (Inv.num (Inv.num (Inv.num (Inv.num h 133 111 rfl) 266 116 rfl) 270 124 rfl) 249 123 rfl) 264 121 rfl) [124,123,121,116,111,0]⟩)
 refine VI.alloc 272 rfl rfl XG (fun _ _ h=>Inv.sbK [129,127,128,0] h) (fun g171=>?_)
 refine VE.tree [3] (by kernel_rfl) ⟨?_,trivial⟩
 refine VI.call 133 rfl rfl (.inl rfl) Jk rfl rfl (fun _ _ h=>Inv.sbK [129,127,128,0] h) (fun W hW=>QV W (hW.t 133) f32_0 bd) (fun v173 m173 hv173=>?_)
 obtain ⟨s173_0,rfl,f173_0⟩:=hv173
 obtain ⟨A173_0,c173_0,eq173_0,l173_0,k173_0⟩:=f173_0.slc
 subst eq173_0
 refine VE.tree [8] (by kernel_rfl) ⟨?_,trivial⟩
 refine VI.call 126 rfl rfl (.inl rfl) Zb rfl rfl (fun _ _ h=>Inv.sbK [129,127,128,0] h) (fun W hW=>JA W (hW.t 126) q25_0 bd) (fun v174 m174 hv174=>?_)
 obtain ⟨s174_0,p174_0,p174_1,rfl,hS174,f174_0,w174_0⟩:=hv174
 refine VE.inv _ (fun _ h=>h.parts (i:=126) rfl hS174 [275,276]) ?_
 have hfa177:=JO (d:=T_)
 refine VE.tree [9] (by kernel_rfl) ⟨?_,trivial⟩
 refine VI.call 275 rfl rfl (.inl rfl) Jk rfl rfl (fun _ _ h=>Inv.sbK [129,127,128,0] h) (fun W hW=>QV W (hW.t 275) f174_0 bd) (fun v178 m178 hv178=>?_)
 obtain ⟨s178_0,rfl,f178_0⟩:=hv178
 obtain ⟨A178_0,c178_0,eq178_0,l178_0,k178_0⟩:=f178_0.slc
 subst eq178_0
 refine VE.nil (by kernel_rfl) rfl ?_ rfl
 refine VO.store (k:=1) (c':=[.slice A173_0 ((tL (Zm l_)).length) (c173_0)]) 272 rfl rfl (.inr ⟨Jw,rfl⟩) rfl rfl rfl rfl rfl ?_
 refine VO.store (k:=1) (c':=[.slice A178_0 ((tL T_).length) (c178_0)]) 249 rfl rfl (.inr ⟨Jw,rfl⟩) rfl rfl rfl rfl rfl ?_
 refine VO.clsP 279 [129,276,127,128] rfl (fun hg179=>(Qd _ _ _ hg179 w174_0 q25_1 q25_2)) (fun mc179 ho179=>?_)
 refine VO.p6 279 275 133 272 249 0 (VO.k5 0 2 3 4 6 ?_)
 exact Qg (hJ2 ⟨g171,g148,(tL (Zm l_)),A173_0,c173_0,m173,(tL T_),A178_0,c178_0,m178,mc179⟩ _ _ ⟨by rfl,by rfl,(Ow.ownl f173_0 rfl mnil),(Ow.ownl f178_0 rfl mnil),ho179⟩ ⟨esn,fun _ h=>Inv.sub (Inv.num (Inv.num (Inv.num (Inv.num (Inv.num h 133 111 rfl) 275 116 rfl) 279 124 rfl) 249 123 rfl) 272 121 rfl) [124,123,121,116,111,0]⟩)
 refine VI.alloc 281 rfl rfl XG (fun _ _ h=>Inv.sbK [129,127,128,0] h) (fun g180=>?_)
 refine VE.tree [2,11] (by kernel_rfl) ⟨?_,?_,trivial⟩
 refine VI.call 130 rfl rfl (.inl rfl) Zb rfl rfl (fun _ _ h=>Inv.sbK [129,127,128,0] h) (fun W hW=>JA W (hW.t 130) f30_0 bd) (fun v182 m182 hv182=>?_)
 obtain ⟨s182_0,p182_0,p182_1,rfl,hS182,f182_0,w182_0⟩:=hv182
 refine VE.inv _ (fun _ h=>h.parts (i:=130) rfl hS182 [283,284]) ?_
 have hfa185:=JO (d:=(Zm l_))
 refine VE.inv [(283,p182_0),(281,Qo g180 (.cells [Value.slice none (0) (0)].toArray 34 (0,0))),(129,Qo g0 (.cells [Vp gt_,Vp gu_,Value.slice q25_A2 (r_.length) (q25_c2)].toArray q25_E (0,0))),(126,q25_n0),(127,q25_n1),(128,q25_n2),(0,Ju (wm W) (m0))] (fun _ h=>Inv.sbK [283,281,129,126,127,128,0] h) ?_
 refine VE.tree [3,11] (by kernel_rfl) ⟨?_,?_,trivial⟩
 refine VI.call 283 rfl rfl (.inl rfl) Jk rfl rfl (fun _ _ h=>Inv.sbK [129,127,128,0] h) (fun W hW=>QV W (hW.t 283) f182_0 bd) (fun v186 m186 hv186=>?_)
 obtain ⟨s186_0,rfl,f186_0⟩:=hv186
 obtain ⟨A186_0,c186_0,eq186_0,l186_0,k186_0⟩:=f186_0.slc
 subst eq186_0
 refine VE.tree [8,11] (by kernel_rfl) ⟨?_,?_,trivial⟩
 refine VI.call 126 rfl rfl (.inl rfl) Zb rfl rfl (fun _ _ h=>Inv.sbK [129,127,128,0] h) (fun W hW=>JA W (hW.t 126) q25_0 bd) (fun v187 m187 hv187=>?_)
 obtain ⟨s187_0,p187_0,p187_1,rfl,hS187,f187_0,w187_0⟩:=hv187
 refine VE.inv _ (fun _ h=>h.parts (i:=126) rfl hS187 [288,289]) ?_
 have hfa190:=JO (d:=T_)
 refine VE.tree [9,11] (by kernel_rfl) ⟨?_,?_,trivial⟩
 refine VI.call 288 rfl rfl (.inl rfl) Jk rfl rfl (fun _ _ h=>Inv.sbK [129,127,128,0] h) (fun W hW=>QV W (hW.t 288) f187_0 bd) (fun v191 m191 hv191=>?_)
 obtain ⟨s191_0,rfl,f191_0⟩:=hv191
 obtain ⟨A191_0,c191_0,eq191_0,l191_0,k191_0⟩:=f191_0.slc
 subst eq191_0
 refine VE.tree [11] (by kernel_rfl) ⟨?_,trivial⟩
 refine VI.alloc 293 rfl rfl XG (fun _ _ h=>Inv.sbK [129,127,128,0] h) (fun g192=>?_)
 refine VE.nil (by kernel_rfl) rfl ?_ rfl
 refine VO.store (k:=1) (c':=[.slice A186_0 ((tL (Zm l_)).length) (c186_0)]) 281 rfl rfl (.inr ⟨Jw,rfl⟩) rfl rfl rfl rfl rfl ?_
 refine VO.store (k:=1) (c':=[.slice A191_0 ((tL T_).length) (c191_0)]) 293 rfl rfl (.inr ⟨Jw,rfl⟩) rfl rfl rfl rfl rfl ?_
 refine VO.clsP 294 [129,289,127,128] rfl (fun hg194=>(Qd _ _ _ hg194 w187_0 q25_1 q25_2)) (fun mc194 ho194=>?_)
 refine VO.p6 294 293 288 283 281 0 (VO.k5 0 2 3 4 6 ?_)
 exact Qg (hJ2 ⟨g180,g192,(tL (Zm l_)),A186_0,c186_0,m186,(tL T_),A191_0,c191_0,m191,mc194⟩ _ _ ⟨by rfl,by rfl,(Ow.ownl f186_0 rfl mnil),(Ow.ownl f191_0 rfl mnil),ho194⟩ ⟨esn,fun _ h=>Inv.sub (Inv.num (Inv.num (Inv.num (Inv.num (Inv.num h 283 111 rfl) 288 116 rfl) 294 124 rfl) 293 123 rfl) 281 121 rfl) [124,123,121,116,111,0]⟩)
 refine VI.alloc 296 rfl rfl XG (fun _ _ h=>Inv.sbK [129,127,128,0] h) (fun g195=>?_)
 refine VE.tree [9] (by kernel_rfl) ⟨?_,trivial⟩
 refine VI.call 288 rfl rfl (.inl rfl) Jk rfl rfl (fun _ _ h=>Inv.sbK [129,127,128,0] h) (fun W hW=>QV W (hW.t 288) f187_0 bd) (fun v197 m197 hv197=>?_)
 obtain ⟨s197_0,rfl,f197_0⟩:=hv197
 obtain ⟨A197_0,c197_0,eq197_0,l197_0,k197_0⟩:=f197_0.slc
 subst eq197_0
 refine VE.nil (by kernel_rfl) rfl ?_ rfl
 refine VO.store (k:=1) (c':=[.slice A186_0 ((tL (Zm l_)).length) (c186_0)]) 281 rfl rfl (.inr ⟨Jw,rfl⟩) rfl rfl rfl rfl rfl ?_
 refine VO.store (k:=1) (c':=[.slice A197_0 ((tL T_).length) (c197_0)]) 296 rfl rfl (.inr ⟨Jw,rfl⟩) rfl rfl rfl rfl rfl ?_
 refine VO.clsP 298 [129,289,127,128] rfl (fun hg198=>(Qd _ _ _ hg198 w187_0 q25_1 q25_2)) (fun mc198 ho198=>?_)
 refine VO.p6 298 288 296 283 281 0 (VO.k5 0 2 3 4 6 ?_)
 exact Qg (hJ2 ⟨g180,g195,(tL (Zm l_)),A186_0,c186_0,m186,(tL T_),A197_0,c197_0,m197,mc198⟩ _ _ ⟨by rfl,by rfl,(Ow.ownl f186_0 rfl mnil),(Ow.ownl f197_0 rfl mnil),ho198⟩ ⟨esn,fun _ h=>Inv.sub (Inv.num (Inv.num (Inv.num (Inv.num (Inv.num h 283 111 rfl) 288 116 rfl) 298 124 rfl) 296 123 rfl) 281 121 rfl) [124,123,121,116,111,0]⟩)
 refine VI.alloc 300 rfl rfl XG (fun _ _ h=>Inv.sbK [129,127,128,0] h) (fun g199=>?_)
 refine VE.tree [8] (by kernel_rfl) ⟨?_,trivial⟩
 refine VI.call 126 rfl rfl (.inl rfl) Zb rfl rfl (fun _ _ h=>Inv.sbK [129,127,128,0] h) (fun W hW=>JA W (hW.t 126) q25_0 bd) (fun v201 m201 hv201=>?_)
 obtain ⟨s201_0,p201_0,p201_1,rfl,hS201,f201_0,w201_0⟩:=hv201
 refine VE.inv _ (fun _ h=>h.parts (i:=126) rfl hS201 [302,303]) ?_
 have hfa204:=JO (d:=T_)
 refine VE.tree [9] (by kernel_rfl) ⟨?_,trivial⟩
 refine VI.call 302 rfl rfl (.inl rfl) Jk rfl rfl (fun _ _ h=>Inv.sbK [129,127,128,0] h) (fun W hW=>QV W (hW.t 302) f201_0 bd) (fun v205 m205 hv205=>?_)
 obtain ⟨s205_0,rfl,f205_0⟩:=hv205
 obtain ⟨A205_0,c205_0,eq205_0,l205_0,k205_0⟩:=f205_0.slc
 subst eq205_0
 refine VE.nil (by kernel_rfl) rfl ?_ rfl
 refine VO.store (k:=1) (c':=[.slice A186_0 ((tL (Zm l_)).length) (c186_0)]) 281 rfl rfl (.inr ⟨Jw,rfl⟩) rfl rfl rfl rfl rfl ?_
 refine VO.store (k:=1) (c':=[.slice A205_0 ((tL T_).length) (c205_0)]) 300 rfl rfl (.inr ⟨Jw,rfl⟩) rfl rfl rfl rfl rfl ?_
 refine VO.clsP 306 [129,303,127,128] rfl (fun hg206=>(Qd _ _ _ hg206 w201_0 q25_1 q25_2)) (fun mc206 ho206=>?_)
 refine VO.p6 306 302 300 283 281 0 (VO.k5 0 2 3 4 6 ?_)
 exact Qg (hJ2 ⟨g180,g199,(tL (Zm l_)),A186_0,c186_0,m186,(tL T_),A205_0,c205_0,m205,mc206⟩ _ _ ⟨by rfl,by rfl,(Ow.ownl f186_0 rfl mnil),(Ow.ownl f205_0 rfl mnil),ho206⟩ ⟨esn,fun _ h=>Inv.sub (Inv.num (Inv.num (Inv.num (Inv.num (Inv.num h 283 111 rfl) 302 116 rfl) 306 124 rfl) 300 123 rfl) 281 121 rfl) [124,123,121,116,111,0]⟩)
 refine VI.alloc 308 rfl rfl XG (fun _ _ h=>Inv.sbK [129,127,128,0] h) (fun g207=>?_)
 refine VE.tree [3] (by kernel_rfl) ⟨?_,trivial⟩
 refine VI.call 283 rfl rfl (.inl rfl) Jk rfl rfl (fun _ _ h=>Inv.sbK [129,127,128,0] h) (fun W hW=>QV W (hW.t 283) f182_0 bd) (fun v209 m209 hv209=>?_)
 obtain ⟨s209_0,rfl,f209_0⟩:=hv209
 obtain ⟨A209_0,c209_0,eq209_0,l209_0,k209_0⟩:=f209_0.slc
 subst eq209_0
 refine VE.tree [8] (by kernel_rfl) ⟨?_,trivial⟩
 refine VI.call 126 rfl rfl (.inl rfl) Zb rfl rfl (fun _ _ h=>Inv.sbK [129,127,128,0] h) (fun W hW=>JA W (hW.t 126) q25_0 bd) (fun v210 m210 hv210=>?_)
 obtain ⟨s210_0,p210_0,p210_1,rfl,hS210,f210_0,w210_0⟩:=hv210
 refine VE.inv _ (fun _ h=>h.parts (i:=126) rfl hS210 [311,312]) ?_
 have hfa213:=JO (d:=T_)
 refine VE.tree [9] (by kernel_rfl) ⟨?_,trivial⟩
 refine VI.call 311 rfl rfl (.inl rfl) Jk rfl rfl (fun _ _ h=>Inv.sbK [129,127,128,0] h) (fun W hW=>QV W (hW.t 311) f210_0 bd) (fun v214 m214 hv214=>?_)
 obtain ⟨s214_0,rfl,f214_0⟩:=hv214
 obtain ⟨A214_0,c214_0,eq214_0,l214_0,k214_0⟩:=f214_0.slc
 subst eq214_0
 refine VE.nil (by kernel_rfl) rfl ?_ rfl
 refine VO.store (k:=1) (c':=[.slice A209_0 ((tL (Zm l_)).length) (c209_0)]) 281 rfl rfl (.inr ⟨Jw,rfl⟩) rfl rfl rfl rfl rfl ?_
 refine VO.store (k:=1) (c':=[.slice A214_0 ((tL T_).length) (c214_0)]) 308 rfl rfl (.inr ⟨Jw,rfl⟩) rfl rfl rfl rfl rfl ?_
 refine VO.clsP 315 [129,312,127,128] rfl (fun hg215=>(Qd _ _ _ hg215 w210_0 q25_1 q25_2)) (fun mc215 ho215=>?_)
 refine VO.p6 315 311 283 308 281 0 (VO.k5 0 2 3 4 6 ?_)
 exact Qg (hJ2 ⟨g180,g207,(tL (Zm l_)),A209_0,c209_0,m209,(tL T_),A214_0,c214_0,m214,mc215⟩ _ _ ⟨by rfl,by rfl,(Ow.ownl f209_0 rfl mnil),(Ow.ownl f214_0 rfl mnil),ho215⟩ ⟨esn,fun _ h=>Inv.sub (Inv.num (Inv.num (Inv.num (Inv.num (Inv.num h 283 111 rfl) 311 116 rfl) 315 124 rfl) 308 123 rfl) 281 121 rfl) [124,123,121,116,111,0]⟩)
 refine VI.alloc 317 rfl rfl XG (fun _ _ h=>Inv.sbK [129,127,128,0] h) (fun g216=>?_)
 refine VE.tree [2] (by kernel_rfl) ⟨?_,trivial⟩
 refine VI.call 130 rfl rfl (.inl rfl) Zb rfl rfl (fun _ _ h=>Inv.sbK [129,127,128,0] h) (fun W hW=>JA W (hW.t 130) f30_0 bd) (fun v218 m218 hv218=>?_)
 obtain ⟨s218_0,p218_0,p218_1,rfl,hS218,f218_0,w218_0⟩:=hv218
 refine VE.inv _ (fun _ h=>h.parts (i:=130) rfl hS218 [319,320]) ?_
 have hfa221:=JO (d:=(Zm l_))
 refine VE.inv [(319,p218_0),(317,Qo g216 (.cells [Value.slice none (0) (0)].toArray 34 (0,0))),(281,Qo g180 (.cells [Value.slice none (0) (0)].toArray 34 (0,0))),(129,Qo g0 (.cells [Vp gt_,Vp gu_,Value.slice q25_A2 (r_.length) (q25_c2)].toArray q25_E (0,0))),(126,q25_n0),(127,q25_n1),(128,q25_n2),(0,Ju (wm W) (m0))] (fun _ h=>Inv.sbK [319,317,281,129,126,127,128,0] h) ?_
 refine VE.tree [3] (by kernel_rfl) ⟨?_,trivial⟩
 refine VI.call 319 rfl rfl (.inl rfl) Jk rfl rfl (fun _ _ h=>Inv.sbK [129,127,128,0] h) (fun W hW=>QV W (hW.t 319) f218_0 bd) (fun v222 m222 hv222=>?_)
 obtain ⟨s222_0,rfl,f222_0⟩:=hv222
 obtain ⟨A222_0,c222_0,eq222_0,l222_0,k222_0⟩:=f222_0.slc
 subst eq222_0
 refine VE.tree [8] (by kernel_rfl) ⟨?_,trivial⟩
 refine VI.call 126 rfl rfl (.inl rfl) Zb rfl rfl (fun _ _ h=>Inv.sbK [129,127,128,0] h) (fun W hW=>JA W (hW.t 126) q25_0 bd) (fun v223 m223 hv223=>?_)
 obtain ⟨s223_0,p223_0,p223_1,rfl,hS223,f223_0,w223_0⟩:=hv223
 refine VE.inv _ (fun _ h=>h.parts (i:=126) rfl hS223 [324,325]) ?_
 have hfa226:=JO (d:=T_)
 refine VE.tree [9] (by kernel_rfl) ⟨?_,trivial⟩
 refine VI.call 324 rfl rfl (.inl rfl) Jk rfl rfl (fun _ _ h=>Inv.sbK [129,127,128,0] h) (fun W hW=>QV W (hW.t 324) f223_0 bd) (fun v227 m227 hv227=>?_)
 obtain ⟨s227_0,rfl,f227_0⟩:=hv227
 obtain ⟨A227_0,c227_0,eq227_0,l227_0,k227_0⟩:=f227_0.slc
 subst eq227_0
 refine VE.nil (by kernel_rfl) rfl ?_ rfl
 refine VO.store (k:=1) (c':=[.slice A222_0 ((tL (Zm l_)).length) (c222_0)]) 281 rfl rfl (.inr ⟨Jw,rfl⟩) rfl rfl rfl rfl rfl ?_
 refine VO.store (k:=1) (c':=[.slice A227_0 ((tL T_).length) (c227_0)]) 317 rfl rfl (.inr ⟨Jw,rfl⟩) rfl rfl rfl rfl rfl ?_
 refine VO.clsP 328 [129,325,127,128] rfl (fun hg228=>(Qd _ _ _ hg228 w223_0 q25_1 q25_2)) (fun mc228 ho228=>?_)
 refine VO.p6 328 324 319 317 281 0 (VO.k5 0 2 3 4 6 ?_)
 exact Qg (hJ2 ⟨g180,g216,(tL (Zm l_)),A222_0,c222_0,m222,(tL T_),A227_0,c227_0,m227,mc228⟩ _ _ ⟨by rfl,by rfl,(Ow.ownl f222_0 rfl mnil),(Ow.ownl f227_0 rfl mnil),ho228⟩ ⟨esn,fun _ h=>Inv.sub (Inv.num (Inv.num (Inv.num (Inv.num (Inv.num h 319 111 rfl) 324 116 rfl) 328 124 rfl) 317 123 rfl) 281 121 rfl) [124,123,121,116,111,0]⟩)
 refine VI.alloc 330 rfl rfl XG (fun _ _ h=>Inv.sbK [129,127,128,0] h) (fun g229=>?_)
 refine VE.tree [2,10] (by kernel_rfl) ⟨?_,?_,trivial⟩
 refine VI.call 130 rfl rfl (.inl rfl) Zb rfl rfl (fun _ _ h=>Inv.sbK [129,127,128,0] h) (fun W hW=>JA W (hW.t 130) f30_0 bd) (fun v231 m231 hv231=>?_)
 obtain ⟨s231_0,p231_0,p231_1,rfl,hS231,f231_0,w231_0⟩:=hv231
 refine VE.inv _ (fun _ h=>h.parts (i:=130) rfl hS231 [332,333]) ?_
 have hfa234:=JO (d:=(Zm l_))
 refine VE.inv [(332,p231_0),(330,Qo g229 (.cells [Value.slice none (0) (0)].toArray 34 (0,0))),(129,Qo g0 (.cells [Vp gt_,Vp gu_,Value.slice q25_A2 (r_.length) (q25_c2)].toArray q25_E (0,0))),(126,q25_n0),(127,q25_n1),(128,q25_n2),(0,Ju (wm W) (m0))] (fun _ h=>Inv.sbK [332,330,129,126,127,128,0] h) ?_
 refine VE.tree [3,10] (by kernel_rfl) ⟨?_,?_,trivial⟩
 refine VI.call 332 rfl rfl (.inl rfl) Jk rfl rfl (fun _ _ h=>Inv.sbK [129,127,128,0] h) (fun W hW=>QV W (hW.t 332) f231_0 bd) (fun v235 m235 hv235=>?_)
 obtain ⟨s235_0,rfl,f235_0⟩:=hv235
 obtain ⟨A235_0,c235_0,eq235_0,l235_0,k235_0⟩:=f235_0.slc
 subst eq235_0
 refine VE.tree [8,10] (by kernel_rfl) ⟨?_,?_,trivial⟩
 refine VI.call 126 rfl rfl (.inl rfl) Zb rfl rfl (fun _ _ h=>Inv.sbK [129,127,128,0] h) (fun W hW=>JA W (hW.t 126) q25_0 bd) (fun v236 m236 hv236=>?_)
 obtain ⟨s236_0,p236_0,p236_1,rfl,hS236,f236_0,w236_0⟩:=hv236
 refine VE.inv _ (fun _ h=>h.parts (i:=126) rfl hS236 [337,338]) ?_
 have hfa239:=JO (d:=T_)
 refine VE.tree [9,10] (by kernel_rfl) ⟨?_,?_,trivial⟩
 refine VI.call 337 rfl rfl (.inl rfl) Jk rfl rfl (fun _ _ h=>Inv.sbK [129,127,128,0] h) (fun W hW=>QV W (hW.t 337) f236_0 bd) (fun v240 m240 hv240=>?_)
 obtain ⟨s240_0,rfl,f240_0⟩:=hv240
 obtain ⟨A240_0,c240_0,eq240_0,l240_0,k240_0⟩:=f240_0.slc
 subst eq240_0
 refine VE.tree [10] (by kernel_rfl) ⟨?_,trivial⟩
 refine VI.alloc 342 rfl rfl XG (fun _ _ h=>Inv.sbK [129,127,128,0] h) (fun g241=>?_)
 refine VE.nil (by kernel_rfl) rfl ?_ rfl
 refine VO.store (k:=1) (c':=[.slice A235_0 ((tL (Zm l_)).length) (c235_0)]) 342 rfl rfl (.inr ⟨Jw,rfl⟩) rfl rfl rfl rfl rfl ?_
 refine VO.store (k:=1) (c':=[.slice A240_0 ((tL T_).length) (c240_0)]) 330 rfl rfl (.inr ⟨Jw,rfl⟩) rfl rfl rfl rfl rfl ?_
 refine VO.clsP 343 [129,338,127,128] rfl (fun hg243=>(Qd _ _ _ hg243 w236_0 q25_1 q25_2)) (fun mc243 ho243=>?_)
 refine VO.p6 343 342 337 332 330 0 (VO.k5 0 2 3 4 6 ?_)
 exact Qg (hJ2 ⟨g241,g229,(tL (Zm l_)),A235_0,c235_0,m235,(tL T_),A240_0,c240_0,m240,mc243⟩ _ _ ⟨by rfl,by rfl,(Ow.ownl f235_0 rfl mnil),(Ow.ownl f240_0 rfl mnil),ho243⟩ ⟨esn,fun _ h=>Inv.sub (Inv.num (Inv.num (Inv.num (Inv.num (Inv.num h 332 111 rfl) 337 116 rfl) 343 124 rfl) 330 123 rfl) 342 121 rfl) [124,123,121,116,111,0]⟩)
 refine VI.alloc 345 rfl rfl XG (fun _ _ h=>Inv.sbK [129,127,128,0] h) (fun g244=>?_)
 refine VE.tree [9] (by kernel_rfl) ⟨?_,trivial⟩
 refine VI.call 337 rfl rfl (.inl rfl) Jk rfl rfl (fun _ _ h=>Inv.sbK [129,127,128,0] h) (fun W hW=>QV W (hW.t 337) f236_0 bd) (fun v246 m246 hv246=>?_)
 obtain ⟨s246_0,rfl,f246_0⟩:=hv246
 obtain ⟨A246_0,c246_0,eq246_0,l246_0,k246_0⟩:=f246_0.slc
 subst eq246_0
 refine VE.nil (by kernel_rfl) rfl ?_ rfl
 refine VO.store (k:=1) (c':=[.slice A235_0 ((tL (Zm l_)).length) (c235_0)]) 345 rfl rfl (.inr ⟨Jw,rfl⟩) rfl rfl rfl rfl rfl ?_
 refine VO.store (k:=1) (c':=[.slice A246_0 ((tL T_).length) (c246_0)]) 330 rfl rfl (.inr ⟨Jw,rfl⟩) rfl rfl rfl rfl rfl ?_
 refine VO.clsP 347 [129,338,127,128] rfl (fun hg247=>(Qd _ _ _ hg247 w236_0 q25_1 q25_2)) (fun mc247 ho247=>?_)
 refine VO.p6 347 337 345 332 330 0 (VO.k5 0 2 3 4 6 ?_)
 exact Qg (hJ2 ⟨g244,g229,(tL (Zm l_)),A235_0,c235_0,m235,(tL T_),A246_0,c246_0,m246,mc247⟩ _ _ ⟨by rfl,by rfl,(Ow.ownl f235_0 rfl mnil),(Ow.ownl f246_0 rfl mnil),ho247⟩ ⟨esn,fun _ h=>Inv.sub (Inv.num (Inv.num (Inv.num (Inv.num (Inv.num h 332 111 rfl) 337 116 rfl) 347 124 rfl) 330 123 rfl) 345 121 rfl) [124,123,121,116,111,0]⟩)
 refine VI.alloc 349 rfl rfl XG (fun _ _ h=>Inv.sbK [129,127,128,0] h) (fun g248=>?_)
 refine VE.tree [8] (by kernel_rfl) ⟨?_,trivial⟩
 refine VI.call 126 rfl rfl (.inl rfl) Zb rfl rfl (fun _ _ h=>Inv.sbK [129,127,128,0] h) (fun W hW=>JA W (hW.t 126) q25_0 bd) (fun v250 m250 hv250=>?_)
 obtain ⟨s250_0,p250_0,p250_1,rfl,hS250,f250_0,w250_0⟩:=hv250
 refine VE.inv _ (fun _ h=>h.parts (i:=126) rfl hS250 [351,352]) ?_
 have hfa253:=JO (d:=T_)
 refine VE.tree [9] (by kernel_rfl) ⟨?_,trivial⟩
 refine VI.call 351 rfl rfl (.inl rfl) Jk rfl rfl (fun _ _ h=>Inv.sbK [129,127,128,0] h) (fun W hW=>QV W (hW.t 351) f250_0 bd) (fun v254 m254 hv254=>?_)
 obtain ⟨s254_0,rfl,f254_0⟩:=hv254
 obtain ⟨A254_0,c254_0,eq254_0,l254_0,k254_0⟩:=f254_0.slc
 subst eq254_0
 refine VE.nil (by kernel_rfl) rfl ?_ rfl
 refine VO.store (k:=1) (c':=[.slice A235_0 ((tL (Zm l_)).length) (c235_0)]) 349 rfl rfl (.inr ⟨Jw,rfl⟩) rfl rfl rfl rfl rfl ?_
 refine VO.store (k:=1) (c':=[.slice A254_0 ((tL T_).length) (c254_0)]) 330 rfl rfl (.inr ⟨Jw,rfl⟩) rfl rfl rfl rfl rfl ?_
 refine VO.clsP 355 [129,352,127,128] rfl (fun hg255=>(Qd _ _ _ hg255 w250_0 q25_1 q25_2)) (fun mc255 ho255=>?_)
 refine VO.p6 355 351 349 332 330 0 (VO.k5 0 2 3 4 6 ?_)
 exact Qg (hJ2 ⟨g248,g229,(tL (Zm l_)),A235_0,c235_0,m235,(tL T_),A254_0,c254_0,m254,mc255⟩ _ _ ⟨by rfl,by rfl,(Ow.ownl f235_0 rfl mnil),(Ow.ownl f254_0 rfl mnil),ho255⟩ ⟨esn,fun _ h=>Inv.sub (Inv.num (Inv.num (Inv.num (Inv.num (Inv.num h 332 111 rfl) 351 116 rfl) 355 124 rfl) 330 123 rfl) 349 121 rfl) [124,123,121,116,111,0]⟩)
 refine VI.alloc 357 rfl rfl XG (fun _ _ h=>Inv.sbK [129,127,128,0] h) (fun g256=>?_)
 refine VE.tree [3] (by kernel_rfl) ⟨?_,trivial⟩
 refine VI.call 332 rfl rfl (.inl rfl) Jk rfl rfl (fun _ _ h=>Inv.sbK [129,127,128,0] h) (fun W hW=>QV W (hW.t 332) f231_0 bd) (fun v258 m258 hv258=>?_)
 obtain ⟨s258_0,rfl,f258_0⟩:=hv258
 obtain ⟨A258_0,c258_0,eq258_0,l258_0,k258_0⟩:=f258_0.slc
 subst eq258_0
 refine VE.tree [8] (by kernel_rfl) ⟨?_,trivial⟩
 refine VI.call 126 rfl rfl (.inl rfl) Zb rfl rfl (fun _ _ h=>Inv.sbK [129,127,128,0] h) (fun W hW=>JA W (hW.t 126) q25_0 bd) (fun v259 m259 hv259=>?_)
 obtain ⟨s259_0,p259_0,p259_1,rfl,hS259,f259_0,w259_0⟩:=hv259
 refine VE.inv _ (fun _ h=>h.parts (i:=126) rfl hS259 [360,361]) ?_
 have hfa262:=JO (d:=T_)
 refine VE.tree [9] (by kernel_rfl) ⟨?_,trivial⟩
 refine VI.call 360 rfl rfl (.inl rfl) Jk rfl rfl (fun _ _ h=>Inv.sbK [129,127,128,0] h) (fun W hW=>QV W (hW.t 360) f259_0 bd) (fun v263 m263 hv263=>?_)
 obtain ⟨s263_0,rfl,f263_0⟩:=hv263
 obtain ⟨A263_0,c263_0,eq263_0,l263_0,k263_0⟩:=f263_0.slc
 subst eq263_0
 refine VE.nil (by kernel_rfl) rfl ?_ rfl
 refine VO.store (k:=1) (c':=[.slice A258_0 ((tL (Zm l_)).length) (c258_0)]) 357 rfl rfl (.inr ⟨Jw,rfl⟩) rfl rfl rfl rfl rfl ?_
 refine VO.store (k:=1) (c':=[.slice A263_0 ((tL T_).length) (c263_0)]) 330 rfl rfl (.inr ⟨Jw,rfl⟩) rfl rfl rfl rfl rfl ?_
 refine VO.clsP 364 [129,361,127,128] rfl (fun hg264=>(Qd _ _ _ hg264 w259_0 q25_1 q25_2)) (fun mc264 ho264=>?_)
 refine VO.p6 364 360 332 357 330 0 (VO.k5 0 2 3 4 6 ?_)
 exact Qg (hJ2 ⟨g256,g229,(tL (Zm l_)),A258_0,c258_0,m258,(tL T_),A263_0,c263_0,m263,mc264⟩ _ _ ⟨by rfl,by rfl,(Ow.ownl f258_0 rfl mnil),(Ow.ownl f263_0 rfl mnil),ho264⟩ ⟨esn,fun _ h=>Inv.sub (Inv.num (Inv.num (Inv.num (Inv.num (Inv.num h 332 111 rfl) 360 116 rfl) 364 124 rfl) 330 123 rfl) 357 121 rfl) [124,123,121,116,111,0]⟩)
 refine VI.alloc 366 rfl rfl XG (fun _ _ h=>Inv.sbK [129,127,128,0] h) (fun g265=>?_)
 refine VE.tree [2] (by kernel_rfl) ⟨?_,trivial⟩
 refine VI.call 130 rfl rfl (.inl rfl) Zb rfl rfl (fun _ _ h=>Inv.sbK [129,127,128,0] h) (fun W hW=>JA W (hW.t 130) f30_0 bd) (fun v267 m267 hv267=>?_)
 obtain ⟨s267_0,p267_0,p267_1,rfl,hS267,f267_0,w267_0⟩:=hv267
 refine VE.inv _ (fun _ h=>h.parts (i:=130) rfl hS267 [368,369]) ?_
 have hfa270:=JO (d:=(Zm l_))
 refine VE.inv [(368,p267_0),(366,Qo g265 (.cells [Value.slice none (0) (0)].toArray 34 (0,0))),(330,Qo g229 (.cells [Value.slice none (0) (0)].toArray 34 (0,0))),(129,Qo g0 (.cells [Vp gt_,Vp gu_,Value.slice q25_A2 (r_.length) (q25_c2)].toArray q25_E (0,0))),(126,q25_n0),(127,q25_n1),(128,q25_n2),(0,Ju (wm W) (m0))] (fun _ h=>Inv.sbK [368,366,330,129,126,127,128,0] h) ?_
 refine VE.tree [3] (by kernel_rfl) ⟨?_,trivial⟩
 refine VI.call 368 rfl rfl (.inl rfl) Jk rfl rfl (fun _ _ h=>Inv.sbK [129,127,128,0] h) (fun W hW=>QV W (hW.t 368) f267_0 bd) (fun v271 m271 hv271=>?_)
 obtain ⟨s271_0,rfl,f271_0⟩:=hv271
 obtain ⟨A271_0,c271_0,eq271_0,l271_0,k271_0⟩:=f271_0.slc
 subst eq271_0
 refine VE.tree [8] (by kernel_rfl) ⟨?_,trivial⟩
 refine VI.call 126 rfl rfl (.inl rfl) Zb rfl rfl (fun _ _ h=>Inv.sbK [129,127,128,0] h) (fun W hW=>JA W (hW.t 126) q25_0 bd) (fun v272 m272 hv272=>?_)
 obtain ⟨s272_0,p272_0,p272_1,rfl,hS272,f272_0,w272_0⟩:=hv272
 refine VE.inv _ (fun _ h=>h.parts (i:=126) rfl hS272 [373,374]) ?_
 have hfa275:=JO (d:=T_)
 refine VE.tree [9] (by kernel_rfl) ⟨?_,trivial⟩
 refine VI.call 373 rfl rfl (.inl rfl) Jk rfl rfl (fun _ _ h=>Inv.sbK [129,127,128,0] h) (fun W hW=>QV W (hW.t 373) f272_0 bd) (fun v276 m276 hv276=>?_)
 obtain ⟨s276_0,rfl,f276_0⟩:=hv276
 obtain ⟨A276_0,c276_0,eq276_0,l276_0,k276_0⟩:=f276_0.slc
 subst eq276_0
 refine VE.nil (by kernel_rfl) rfl ?_ rfl
 refine VO.store (k:=1) (c':=[.slice A271_0 ((tL (Zm l_)).length) (c271_0)]) 366 rfl rfl (.inr ⟨Jw,rfl⟩) rfl rfl rfl rfl rfl ?_
 refine VO.store (k:=1) (c':=[.slice A276_0 ((tL T_).length) (c276_0)]) 330 rfl rfl (.inr ⟨Jw,rfl⟩) rfl rfl rfl rfl rfl ?_
 refine VO.clsP 377 [129,374,127,128] rfl (fun hg277=>(Qd _ _ _ hg277 w272_0 q25_1 q25_2)) (fun mc277 ho277=>?_)
 refine VO.p6 377 373 368 366 330 0 (VO.k5 0 2 3 4 6 ?_)
 exact Qg (hJ2 ⟨g265,g229,(tL (Zm l_)),A271_0,c271_0,m271,(tL T_),A276_0,c276_0,m276,mc277⟩ _ _ ⟨by rfl,by rfl,(Ow.ownl f271_0 rfl mnil),(Ow.ownl f276_0 rfl mnil),ho277⟩ ⟨esn,fun _ h=>Inv.sub (Inv.num (Inv.num (Inv.num (Inv.num (Inv.num h 368 111 rfl) 373 116 rfl) 377 124 rfl) 330 123 rfl) 366 121 rfl) [124,123,121,116,111,0]⟩)
 refine VI.alloc 379 rfl rfl XG (fun _ _ h=>Inv.sbK [129,127,128,0] h) (fun g278=>?_)
 refine VE.tree [1,11] (by kernel_rfl) ⟨?_,?_,trivial⟩
 refine VI.callN 380 rfl rfl (.inl rfl) Qii rfl (fun _ h=>Inv.sbK [129,127,128,0] h) (fun W hW=>QaY W (show Rd (.ptr Qs) _ _ (g0,((gt_,T_),(gu_,((gd_,D_),br_,l_)),r_)) from ⟨rfl,_,_,(hW.t 129) _ _ (Qn _ _),(YT (m:=wm W) (gt_,T_) (gu_,((gd_,D_),br_,l_)) r_ (Ow.rd q25_0 (hW.t 126)) (Ow.rd q25_1 (hW.t 127)) (Ow.rd q25_2 (hW.t 128)))⟩) Qf) (fun v280 m280 hv280=>?_)
 try dsimp only at hv280
 obtain ⟨s280_0,rfl,f280_0⟩:=hv280
 have hfa281:=(Qbe (show okU l_ by assumption))
 refine VE.tree [2,11] (by kernel_rfl) ⟨?_,?_,trivial⟩
 refine VI.call 380 rfl rfl (.inl rfl) Zb rfl rfl (fun _ _ h=>Inv.sbK [129,127,128,0] h) (fun W hW=>JA W (hW.t 380) f280_0 bd) (fun v282 m282 hv282=>?_)
 obtain ⟨s282_0,p282_0,p282_1,rfl,hS282,f282_0,w282_0⟩:=hv282
 refine VE.inv _ (fun _ h=>h.parts (i:=380) rfl hS282 [383,384]) ?_
 have hfa285:=JO (d:=(Zm l_))
 refine VE.inv [(383,p282_0),(379,Qo g278 (.cells [Value.slice none (0) (0)].toArray 34 (0,0))),(129,Qo g0 (.cells [Vp gt_,Vp gu_,Value.slice q25_A2 (r_.length) (q25_c2)].toArray q25_E (0,0))),(126,q25_n0),(127,q25_n1),(128,q25_n2),(0,Ju (wm W) (m0))] (fun _ h=>Inv.sbK [383,379,129,126,127,128,0] h) ?_
 refine VE.tree [3,11] (by kernel_rfl) ⟨?_,?_,trivial⟩
 refine VI.call 383 rfl rfl (.inl rfl) Jk rfl rfl (fun _ _ h=>Inv.sbK [129,127,128,0] h) (fun W hW=>QV W (hW.t 383) f282_0 bd) (fun v286 m286 hv286=>?_)
 obtain ⟨s286_0,rfl,f286_0⟩:=hv286
 obtain ⟨A286_0,c286_0,eq286_0,l286_0,k286_0⟩:=f286_0.slc
 subst eq286_0
 refine VE.tree [8,11] (by kernel_rfl) ⟨?_,?_,trivial⟩
 refine VI.call 126 rfl rfl (.inl rfl) Zb rfl rfl (fun _ _ h=>Inv.sbK [129,127,128,0] h) (fun W hW=>JA W (hW.t 126) q25_0 bd) (fun v287 m287 hv287=>?_)
 obtain ⟨s287_0,p287_0,p287_1,rfl,hS287,f287_0,w287_0⟩:=hv287
 refine VE.inv _ (fun _ h=>h.parts (i:=126) rfl hS287 [388,389]) ?_
 have hfa290:=JO (d:=T_)
 refine VE.tree [9,11] (by kernel_rfl) ⟨?_,?_,trivial⟩
 refine VI.call 388 rfl rfl (.inl rfl) Jk rfl rfl (fun _ _ h=>Inv.sbK [129,127,128,0] h) (fun W hW=>QV W (hW.t 388) f287_0 bd) (fun v291 m291 hv291=>?_)
 obtain ⟨s291_0,rfl,f291_0⟩:=hv291
 obtain ⟨A291_0,c291_0,eq291_0,l291_0,k291_0⟩:=f291_0.slc
 subst eq291_0
 refine VE.tree [11] (by kernel_rfl) ⟨?_,trivial⟩
 refine VI.alloc 393 rfl rfl XG (fun _ _ h=>Inv.sbK [129,127,128,0] h) (fun g292=>?_)
 refine VE.nil (by kernel_rfl) rfl ?_ rfl
 refine VO.store (k:=1) (c':=[.slice A286_0 ((tL (Zm l_)).length) (c286_0)]) 379 rfl rfl (.inr ⟨Jw,rfl⟩) rfl rfl rfl rfl rfl ?_
 refine VO.store (k:=1) (c':=[.slice A291_0 ((tL T_).length) (c291_0)]) 393 rfl rfl (.inr ⟨Jw,rfl⟩) rfl rfl rfl rfl rfl ?_
 refine VO.clsP 394 [129,389,127,128] rfl (fun hg294=>(Qd _ _ _ hg294 w287_0 q25_1 q25_2)) (fun mc294 ho294=>?_)
 refine VO.p6 394 393 388 383 379 0 (VO.k5 0 2 3 4 6 ?_)
 exact Qg (hJ2 ⟨g278,g292,(tL (Zm l_)),A286_0,c286_0,m286,(tL T_),A291_0,c291_0,m291,mc294⟩ _ _ ⟨by rfl,by rfl,(Ow.ownl f286_0 rfl mnil),(Ow.ownl f291_0 rfl mnil),ho294⟩ ⟨esn,fun _ h=>Inv.sub (Inv.num (Inv.num (Inv.num (Inv.num (Inv.num h 383 111 rfl) 388 116 rfl) 394 124 rfl) 393 123 rfl) 379 121 rfl) [124,123,121,116,111,0]⟩)
 refine VI.alloc 396 rfl rfl XG (fun _ _ h=>Inv.sbK [129,127,128,0] h) (fun g295=>?_)
 refine VE.tree [9] (by kernel_rfl) ⟨?_,trivial⟩
 refine VI.call 388 rfl rfl (.inl rfl) Jk rfl rfl (fun _ _ h=>Inv.sbK [129,127,128,0] h) (fun W hW=>QV W (hW.t 388) f287_0 bd) (fun v297 m297 hv297=>?_)
 obtain ⟨s297_0,rfl,f297_0⟩:=hv297
 obtain ⟨A297_0,c297_0,eq297_0,l297_0,k297_0⟩:=f297_0.slc
 subst eq297_0
 refine VE.nil (by kernel_rfl) rfl ?_ rfl
 refine VO.store (k:=1) (c':=[.slice A286_0 ((tL (Zm l_)).length) (c286_0)]) 379 rfl rfl (.inr ⟨Jw,rfl⟩) rfl rfl rfl rfl rfl ?_
 refine VO.store (k:=1) (c':=[.slice A297_0 ((tL T_).length) (c297_0)]) 396 rfl rfl (.inr ⟨Jw,rfl⟩) rfl rfl rfl rfl rfl ?_
 refine VO.clsP 398 [129,389,127,128] rfl (fun hg298=>(Qd _ _ _ hg298 w287_0 q25_1 q25_2)) (fun mc298 ho298=>?_)
 refine VO.p6 398 388 396 383 379 0 (VO.k5 0 2 3 4 6 ?_)
 exact Qg (hJ2 ⟨g278,g295,(tL (Zm l_)),A286_0,c286_0,m286,(tL T_),A297_0,c297_0,m297,mc298⟩ _ _ ⟨by rfl,by rfl,(Ow.ownl f286_0 rfl mnil),(Ow.ownl f297_0 rfl mnil),ho298⟩ ⟨esn,fun _ h=>Inv.sub (Inv.num (Inv.num (Inv.num (Inv.num (Inv.num h 383 111 rfl) 388 116 rfl) 398 124 rfl) 396 123 rfl) 379 121 rfl) [124,123,121,116,111,0]⟩)
 refine VI.alloc 400 rfl rfl XG (fun _ _ h=>Inv.sbK [129,127,128,0] h) (fun g299=>?_)
 refine VE.tree [8] (by kernel_rfl) ⟨?_,trivial⟩
 refine VI.call 126 rfl rfl (.inl rfl) Zb rfl rfl (fun _ _ h=>Inv.sbK [129,127,128,0] h) (fun W hW=>JA W (hW.t 126) q25_0 bd) (fun v301 m301 hv301=>?_)
 obtain ⟨s301_0,p301_0,p301_1,rfl,hS301,f301_0,w301_0⟩:=hv301
 refine VE.inv _ (fun _ h=>h.parts (i:=126) rfl hS301 [402,403]) ?_
 have hfa304:=JO (d:=T_)
 refine VE.tree [9] (by kernel_rfl) ⟨?_,trivial⟩
 refine VI.call 402 rfl rfl (.inl rfl) Jk rfl rfl (fun _ _ h=>Inv.sbK [129,127,128,0] h) (fun W hW=>QV W (hW.t 402) f301_0 bd) (fun v305 m305 hv305=>?_)
 obtain ⟨s305_0,rfl,f305_0⟩:=hv305
 obtain ⟨A305_0,c305_0,eq305_0,l305_0,k305_0⟩:=f305_0.slc
 subst eq305_0
 refine VE.nil (by kernel_rfl) rfl ?_ rfl
 refine VO.store (k:=1) (c':=[.slice A286_0 ((tL (Zm l_)).length) (c286_0)]) 379 rfl rfl (.inr ⟨Jw,rfl⟩) rfl rfl rfl rfl rfl ?_
 refine VO.store (k:=1) (c':=[.slice A305_0 ((tL T_).length) (c305_0)]) 400 rfl rfl (.inr ⟨Jw,rfl⟩) rfl rfl rfl rfl rfl ?_
 refine VO.clsP 406 [129,403,127,128] rfl (fun hg306=>(Qd _ _ _ hg306 w301_0 q25_1 q25_2)) (fun mc306 ho306=>?_)
 refine VO.p6 406 402 400 383 379 0 (VO.k5 0 2 3 4 6 ?_)
 exact Qg (hJ2 ⟨g278,g299,(tL (Zm l_)),A286_0,c286_0,m286,(tL T_),A305_0,c305_0,m305,mc306⟩ _ _ ⟨by rfl,by rfl,(Ow.ownl f286_0 rfl mnil),(Ow.ownl f305_0 rfl mnil),ho306⟩ ⟨esn,fun _ h=>Inv.sub (Inv.num (Inv.num (Inv.num (Inv.num (Inv.num h 383 111 rfl) 402 116 rfl) 406 124 rfl) 400 123 rfl) 379 121 rfl) [124,123,121,116,111,0]⟩)
 refine VI.alloc 408 rfl rfl XG (fun _ _ h=>Inv.sbK [129,127,128,0] h) (fun g307=>?_)
 refine VE.tree [3] (by kernel_rfl) ⟨?_,trivial⟩
 refine VI.call 383 rfl rfl (.inl rfl) Jk rfl rfl (fun _ _ h=>Inv.sbK [129,127,128,0] h) (fun W hW=>QV W (hW.t 383) f282_0 bd) (fun v309 m309 hv309=>?_)
 obtain ⟨s309_0,rfl,f309_0⟩:=hv309
 obtain ⟨A309_0,c309_0,eq309_0,l309_0,k309_0⟩:=f309_0.slc
 subst eq309_0
 refine VE.tree [8] (by kernel_rfl) ⟨?_,trivial⟩
 refine VI.call 126 rfl rfl (.inl rfl) Zb rfl rfl (fun _ _ h=>Inv.sbK [129,127,128,0] h) (fun W hW=>JA W (hW.t 126) q25_0 bd) (fun v310 m310 hv310=>?_)
 obtain ⟨s310_0,p310_0,p310_1,rfl,hS310,f310_0,w310_0⟩:=hv310
 refine VE.inv _ (fun _ h=>h.parts (i:=126) rfl hS310 [411,412]) ?_
 have hfa313:=JO (d:=T_)
 refine VE.tree [9] (by kernel_rfl) ⟨?_,trivial⟩
 refine VI.call 411 rfl rfl (.inl rfl) Jk rfl rfl (fun _ _ h=>Inv.sbK [129,127,128,0] h) (fun W hW=>QV W (hW.t 411) f310_0 bd) (fun v314 m314 hv314=>?_)
 obtain ⟨s314_0,rfl,f314_0⟩:=hv314
 obtain ⟨A314_0,c314_0,eq314_0,l314_0,k314_0⟩:=f314_0.slc
 subst eq314_0
 refine VE.nil (by kernel_rfl) rfl ?_ rfl
 refine VO.store (k:=1) (c':=[.slice A309_0 ((tL (Zm l_)).length) (c309_0)]) 379 rfl rfl (.inr ⟨Jw,rfl⟩) rfl rfl rfl rfl rfl ?_
 refine VO.store (k:=1) (c':=[.slice A314_0 ((tL T_).length) (c314_0)]) 408 rfl rfl (.inr ⟨Jw,rfl⟩) rfl rfl rfl rfl rfl ?_
 refine VO.clsP 415 [129,412,127,128] rfl (fun hg315=>(Qd _ _ _ hg315 w310_0 q25_1 q25_2)) (fun mc315 ho315=>?_)
 refine VO.p6 415 411 383 408 379 0 (VO.k5 0 2 3 4 6 ?_)
 exact Qg (hJ2 ⟨g278,g307,(tL (Zm l_)),A309_0,c309_0,m309,(tL T_),A314_0,c314_0,m314,mc315⟩ _ _ ⟨by rfl,by rfl,(Ow.ownl f309_0 rfl mnil),(Ow.ownl f314_0 rfl mnil),ho315⟩ ⟨esn,fun _ h=>Inv.sub (Inv.num (Inv.num (Inv.num (Inv.num (Inv.num h 383 111 rfl) 411 116 rfl) 415 124 rfl) 408 123 rfl) 379 121 rfl) [124,123,121,116,111,0]⟩)
 refine VI.alloc 417 rfl rfl XG (fun _ _ h=>Inv.sbK [129,127,128,0] h) (fun g316=>?_)
 refine VE.tree [2] (by kernel_rfl) ⟨?_,trivial⟩
 refine VI.call 380 rfl rfl (.inl rfl) Zb rfl rfl (fun _ _ h=>Inv.sbK [129,127,128,0] h) (fun W hW=>JA W (hW.t 380) f280_0 bd) (fun v318 m318 hv318=>?_)
 obtain ⟨s318_0,p318_0,p318_1,rfl,hS318,f318_0,w318_0⟩:=hv318
 refine VE.inv _ (fun _ h=>h.parts (i:=380) rfl hS318 [419,420]) ?_
 have hfa321:=JO (d:=(Zm l_))
 refine VE.inv [(419,p318_0),(417,Qo g316 (.cells [Value.slice none (0) (0)].toArray 34 (0,0))),(379,Qo g278 (.cells [Value.slice none (0) (0)].toArray 34 (0,0))),(129,Qo g0 (.cells [Vp gt_,Vp gu_,Value.slice q25_A2 (r_.length) (q25_c2)].toArray q25_E (0,0))),(126,q25_n0),(127,q25_n1),(128,q25_n2),(0,Ju (wm W) (m0))] (fun _ h=>Inv.sbK [419,417,379,129,126,127,128,0] h) ?_
 refine VE.tree [3] (by kernel_rfl) ⟨?_,trivial⟩
 refine VI.call 419 rfl rfl (.inl rfl) Jk rfl rfl (fun _ _ h=>Inv.sbK [129,127,128,0] h) (fun W hW=>QV W (hW.t 419) f318_0 bd) (fun v322 m322 hv322=>?_)
 obtain ⟨s322_0,rfl,f322_0⟩:=hv322
 obtain ⟨A322_0,c322_0,eq322_0,l322_0,k322_0⟩:=f322_0.slc
 subst eq322_0
 refine VE.tree [8] (by kernel_rfl) ⟨?_,trivial⟩
 refine VI.call 126 rfl rfl (.inl rfl) Zb rfl rfl (fun _ _ h=>Inv.sbK [129,127,128,0] h) (fun W hW=>JA W (hW.t 126) q25_0 bd) (fun v323 m323 hv323=>?_)
 obtain ⟨s323_0,p323_0,p323_1,rfl,hS323,f323_0,w323_0⟩:=hv323
 refine VE.inv _ (fun _ h=>h.parts (i:=126) rfl hS323 [424,425]) ?_
 have hfa326:=JO (d:=T_)
 refine VE.tree [9] (by kernel_rfl) ⟨?_,trivial⟩
 refine VI.call 424 rfl rfl (.inl rfl) Jk rfl rfl (fun _ _ h=>Inv.sbK [129,127,128,0] h) (fun W hW=>QV W (hW.t 424) f323_0 bd) (fun v327 m327 hv327=>?_)
 obtain ⟨s327_0,rfl,f327_0⟩:=hv327
 obtain ⟨A327_0,c327_0,eq327_0,l327_0,k327_0⟩:=f327_0.slc
 subst eq327_0
 refine VE.nil (by kernel_rfl) rfl ?_ rfl
 refine VO.store (k:=1) (c':=[.slice A322_0 ((tL (Zm l_)).length) (c322_0)]) 379 rfl rfl (.inr ⟨Jw,rfl⟩) rfl rfl rfl rfl rfl ?_
 refine VO.store (k:=1) (c':=[.slice A327_0 ((tL T_).length) (c327_0)]) 417 rfl rfl (.inr ⟨Jw,rfl⟩) rfl rfl rfl rfl rfl ?_
 refine VO.clsP 428 [129,425,127,128] rfl (fun hg328=>(Qd _ _ _ hg328 w323_0 q25_1 q25_2)) (fun mc328 ho328=>?_)
 refine VO.p6 428 424 419 417 379 0 (VO.k5 0 2 3 4 6 ?_)
 exact Qg (hJ2 ⟨g278,g316,(tL (Zm l_)),A322_0,c322_0,m322,(tL T_),A327_0,c327_0,m327,mc328⟩ _ _ ⟨by rfl,by rfl,(Ow.ownl f322_0 rfl mnil),(Ow.ownl f327_0 rfl mnil),ho328⟩ ⟨esn,fun _ h=>Inv.sub (Inv.num (Inv.num (Inv.num (Inv.num (Inv.num h 419 111 rfl) 424 116 rfl) 428 124 rfl) 417 123 rfl) 379 121 rfl) [124,123,121,116,111,0]⟩)
 refine VI.alloc 430 rfl rfl XG (fun _ _ h=>Inv.sbK [129,127,128,0] h) (fun g329=>?_)
 refine VE.tree [1] (by kernel_rfl) ⟨?_,trivial⟩
 refine VI.callN 431 rfl rfl (.inl rfl) Qii rfl (fun _ h=>Inv.sbK [129,127,128,0] h) (fun W hW=>QaY W (show Rd (.ptr Qs) _ _ (g0,((gt_,T_),(gu_,((gd_,D_),br_,l_)),r_)) from ⟨rfl,_,_,(hW.t 129) _ _ (Qn _ _),(YT (m:=wm W) (gt_,T_) (gu_,((gd_,D_),br_,l_)) r_ (Ow.rd q25_0 (hW.t 126)) (Ow.rd q25_1 (hW.t 127)) (Ow.rd q25_2 (hW.t 128)))⟩) Qf) (fun v331 m331 hv331=>?_)
 try dsimp only at hv331
 obtain ⟨s331_0,rfl,f331_0⟩:=hv331
 have hfa332:=(Qbe (show okU l_ by assumption))
 refine VE.tree [2] (by kernel_rfl) ⟨?_,trivial⟩
 refine VI.call 431 rfl rfl (.inl rfl) Zb rfl rfl (fun _ _ h=>Inv.sbK [129,127,128,0] h) (fun W hW=>JA W (hW.t 431) f331_0 bd) (fun v333 m333 hv333=>?_)
 obtain ⟨s333_0,p333_0,p333_1,rfl,hS333,f333_0,w333_0⟩:=hv333
 refine VE.inv _ (fun _ h=>h.parts (i:=431) rfl hS333 [434,435]) ?_
 have hfa336:=JO (d:=(Zm l_))
 refine VE.inv [(434,p333_0),(430,Qo g329 (.cells [Value.slice none (0) (0)].toArray 34 (0,0))),(379,Qo g278 (.cells [Value.slice none (0) (0)].toArray 34 (0,0))),(129,Qo g0 (.cells [Vp gt_,Vp gu_,Value.slice q25_A2 (r_.length) (q25_c2)].toArray q25_E (0,0))),(126,q25_n0),(127,q25_n1),(128,q25_n2),(0,Ju (wm W) (m0))] (fun _ h=>Inv.sbK [434,430,379,129,126,127,128,0] h) ?_
 refine VE.tree [3] (by kernel_rfl) ⟨?_,trivial⟩
 refine VI.call 434 rfl rfl (.inl rfl) Jk rfl rfl (fun _ _ h=>Inv.sbK [129,127,128,0] h) (fun W hW=>QV W (hW.t 434) f333_0 bd) (fun v337 m337 hv337=>?_)
 obtain ⟨s337_0,rfl,f337_0⟩:=hv337
 obtain ⟨A337_0,c337_0,eq337_0,l337_0,k337_0⟩:=f337_0.slc
 subst eq337_0
 refine VE.tree [8] (by kernel_rfl) ⟨?_,trivial⟩
 refine VI.call 126 rfl rfl (.inl rfl) Zb rfl rfl (fun _ _ h=>Inv.sbK [129,127,128,0] h) (fun W hW=>JA W (hW.t 126) q25_0 bd) (fun v338 m338 hv338=>?_)
 obtain ⟨s338_0,p338_0,p338_1,rfl,hS338,f338_0,w338_0⟩:=hv338
 refine VE.inv _ (fun _ h=>h.parts (i:=126) rfl hS338 [439,440]) ?_
 have hfa341:=JO (d:=T_)
 refine VE.tree [9] (by kernel_rfl) ⟨?_,trivial⟩
 refine VI.call 439 rfl rfl (.inl rfl) Jk rfl rfl (fun _ _ h=>Inv.sbK [129,127,128,0] h) (fun W hW=>QV W (hW.t 439) f338_0 bd) (fun v342 m342 hv342=>?_)
 obtain ⟨s342_0,rfl,f342_0⟩:=hv342
 obtain ⟨A342_0,c342_0,eq342_0,l342_0,k342_0⟩:=f342_0.slc
 subst eq342_0
 refine VE.nil (by kernel_rfl) rfl ?_ rfl
 refine VO.store (k:=1) (c':=[.slice A337_0 ((tL (Zm l_)).length) (c337_0)]) 379 rfl rfl (.inr ⟨Jw,rfl⟩) rfl rfl rfl rfl rfl ?_
 refine VO.store (k:=1) (c':=[.slice A342_0 ((tL T_).length) (c342_0)]) 430 rfl rfl (.inr ⟨Jw,rfl⟩) rfl rfl rfl rfl rfl ?_
 refine VO.clsP 443 [129,440,127,128] rfl (fun hg343=>(Qd _ _ _ hg343 w338_0 q25_1 q25_2)) (fun mc343 ho343=>?_)
 refine VO.p6 443 439 434 430 379 0 (VO.k5 0 2 3 4 6 ?_)
 exact Qg (hJ2 ⟨g278,g329,(tL (Zm l_)),A337_0,c337_0,m337,(tL T_),A342_0,c342_0,m342,mc343⟩ _ _ ⟨by rfl,by rfl,(Ow.ownl f337_0 rfl mnil),(Ow.ownl f342_0 rfl mnil),ho343⟩ ⟨esn,fun _ h=>Inv.sub (Inv.num (Inv.num (Inv.num (Inv.num (Inv.num h 434 111 rfl) 439 116 rfl) 443 124 rfl) 430 123 rfl) 379 121 rfl) [124,123,121,116,111,0]⟩)
 refine VI.alloc 445 rfl rfl XG (fun _ _ h=>Inv.sbK [129,127,128,0] h) (fun g344=>?_)
 refine VE.tree [1,10] (by kernel_rfl) ⟨?_,?_,trivial⟩
 refine VI.callN 446 rfl rfl (.inl rfl) Qii rfl (fun _ h=>Inv.sbK [129,127,128,0] h) (fun W hW=>QaY W (show Rd (.ptr Qs) _ _ (g0,((gt_,T_),(gu_,((gd_,D_),br_,l_)),r_)) from ⟨rfl,_,_,(hW.t 129) _ _ (Qn _ _),(YT (m:=wm W) (gt_,T_) (gu_,((gd_,D_),br_,l_)) r_ (Ow.rd q25_0 (hW.t 126)) (Ow.rd q25_1 (hW.t 127)) (Ow.rd q25_2 (hW.t 128)))⟩) Qf) (fun v346 m346 hv346=>?_)
 try dsimp only at hv346
 obtain ⟨s346_0,rfl,f346_0⟩:=hv346
 have hfa347:=(Qbe (show okU l_ by assumption))
 refine VE.tree [2,10] (by kernel_rfl) ⟨?_,?_,trivial⟩
 refine VI.call 446 rfl rfl (.inl rfl) Zb rfl rfl (fun _ _ h=>Inv.sbK [129,127,128,0] h) (fun W hW=>JA W (hW.t 446) f346_0 bd) (fun v348 m348 hv348=>?_)
 obtain ⟨s348_0,p348_0,p348_1,rfl,hS348,f348_0,w348_0⟩:=hv348
 refine VE.inv _ (fun _ h=>h.parts (i:=446) rfl hS348 [449,450]) ?_
 have hfa351:=JO (d:=(Zm l_))
 refine VE.inv [(449,p348_0),(445,Qo g344 (.cells [Value.slice none (0) (0)].toArray 34 (0,0))),(129,Qo g0 (.cells [Vp gt_,Vp gu_,Value.slice q25_A2 (r_.length) (q25_c2)].toArray q25_E (0,0))),(126,q25_n0),(127,q25_n1),(128,q25_n2),(0,Ju (wm W) (m0))] (fun _ h=>Inv.sbK [449,445,129,126,127,128,0] h) ?_
 refine VE.tree [3,10] (by kernel_rfl) ⟨?_,?_,trivial⟩
 refine VI.call 449 rfl rfl (.inl rfl) Jk rfl rfl (fun _ _ h=>Inv.sbK [129,127,128,0] h) (fun W hW=>QV W (hW.t 449) f348_0 bd) (fun v352 m352 hv352=>?_)
 obtain ⟨s352_0,rfl,f352_0⟩:=hv352
 obtain ⟨A352_0,c352_0,eq352_0,l352_0,k352_0⟩:=f352_0.slc
 subst eq352_0
 refine VE.tree [8,10] (by kernel_rfl) ⟨?_,?_,trivial⟩
 refine VI.call 126 rfl rfl (.inl rfl) Zb rfl rfl (fun _ _ h=>Inv.sbK [129,127,128,0] h) (fun W hW=>JA W (hW.t 126) q25_0 bd) (fun v353 m353 hv353=>?_)
 obtain ⟨s353_0,p353_0,p353_1,rfl,hS353,f353_0,w353_0⟩:=hv353
 refine VE.inv _ (fun _ h=>h.parts (i:=126) rfl hS353 [454,455]) ?_
 have hfa356:=JO (d:=T_)
 refine VE.tree [9,10] (by kernel_rfl) ⟨?_,?_,trivial⟩
 refine VI.call 454 rfl rfl (.inl rfl) Jk rfl rfl (fun _ _ h=>Inv.sbK [129,127,128,0] h) (fun W hW=>QV W (hW.t 454) f353_0 bd) (fun v357 m357 hv357=>?_)
 obtain ⟨s357_0,rfl,f357_0⟩:=hv357
 obtain ⟨A357_0,c357_0,eq357_0,l357_0,k357_0⟩:=f357_0.slc
 subst eq357_0
 refine VE.tree [10] (by kernel_rfl) ⟨?_,trivial⟩
 refine VI.alloc 459 rfl rfl XG (fun _ _ h=>Inv.sbK [129,127,128,0] h) (fun g358=>?_)
 refine VE.nil (by kernel_rfl) rfl ?_ rfl
 refine VO.store (k:=1) (c':=[.slice A352_0 ((tL (Zm l_)).length) (c352_0)]) 459 rfl rfl (.inr ⟨Jw,rfl⟩) rfl rfl rfl rfl rfl ?_
 refine VO.store (k:=1) (c':=[.slice A357_0 ((tL T_).length) (c357_0)]) 445 rfl rfl (.inr ⟨Jw,rfl⟩) rfl rfl rfl rfl rfl ?_
 refine VO.clsP 460 [129,455,127,128] rfl (fun hg360=>(Qd _ _ _ hg360 w353_0 q25_1 q25_2)) (fun mc360 ho360=>?_)
 refine VO.p6 460 459 454 449 445 0 (VO.k5 0 2 3 4 6 ?_)
 exact Qg (hJ2 ⟨g358,g344,(tL (Zm l_)),A352_0,c352_0,m352,(tL T_),A357_0,c357_0,m357,mc360⟩ _ _ ⟨by rfl,by rfl,(Ow.ownl f352_0 rfl mnil),(Ow.ownl f357_0 rfl mnil),ho360⟩ ⟨esn,fun _ h=>Inv.sub (Inv.num (Inv.num (Inv.num (Inv.num (Inv.num h 449 111 rfl) 454 116 rfl) 460 124 rfl) 445 123 rfl) 459 121 rfl) [124,123,121,116,111,0]⟩)
 refine VI.alloc 462 rfl rfl XG (fun _ _ h=>Inv.sbK [129,127,128,0] h) (fun g361=>?_)
 refine VE.tree [9] (by kernel_rfl) ⟨?_,trivial⟩
 refine VI.call 454 rfl rfl (.inl rfl) Jk rfl rfl (fun _ _ h=>Inv.sbK [129,127,128,0] h) (fun W hW=>QV W (hW.t 454) f353_0 bd) (fun v363 m363 hv363=>?_)
 obtain ⟨s363_0,rfl,f363_0⟩:=hv363
 obtain ⟨A363_0,c363_0,eq363_0,l363_0,k363_0⟩:=f363_0.slc
 subst eq363_0
 refine VE.nil (by kernel_rfl) rfl ?_ rfl
 refine VO.store (k:=1) (c':=[.slice A352_0 ((tL (Zm l_)).length) (c352_0)]) 462 rfl rfl (.inr ⟨Jw,rfl⟩) rfl rfl rfl rfl rfl ?_
 refine VO.store (k:=1) (c':=[.slice A363_0 ((tL T_).length) (c363_0)]) 445 rfl rfl (.inr ⟨Jw,rfl⟩) rfl rfl rfl rfl rfl ?_
 refine VO.clsP 464 [129,455,127,128] rfl (fun hg364=>(Qd _ _ _ hg364 w353_0 q25_1 q25_2)) (fun mc364 ho364=>?_)
 refine VO.p6 464 454 462 449 445 0 (VO.k5 0 2 3 4 6 ?_)
 exact Qg (hJ2 ⟨g361,g344,(tL (Zm l_)),A352_0,c352_0,m352,(tL T_),A363_0,c363_0,m363,mc364⟩ _ _ ⟨by rfl,by rfl,(Ow.ownl f352_0 rfl mnil),(Ow.ownl f363_0 rfl mnil),ho364⟩ ⟨esn,fun _ h=>Inv.sub (Inv.num (Inv.num (Inv.num (Inv.num (Inv.num h 449 111 rfl) 454 116 rfl) 464 124 rfl) 445 123 rfl) 462 121 rfl) [124,123,121,116,111,0]⟩)
 refine VI.alloc 466 rfl rfl XG (fun _ _ h=>Inv.sbK [129,127,128,0] h) (fun g365=>?_)
 refine VE.tree [8] (by kernel_rfl) ⟨?_,trivial⟩
 refine VI.call 126 rfl rfl (.inl rfl) Zb rfl rfl (fun _ _ h=>Inv.sbK [129,127,128,0] h) (fun W hW=>JA W (hW.t 126) q25_0 bd) (fun v367 m367 hv367=>?_)
 obtain ⟨s367_0,p367_0,p367_1,rfl,hS367,f367_0,w367_0⟩:=hv367
 refine VE.inv _ (fun _ h=>h.parts (i:=126) rfl hS367 [468,469]) ?_
 have hfa370:=JO (d:=T_)
 refine VE.tree [9] (by kernel_rfl) ⟨?_,trivial⟩
 refine VI.call 468 rfl rfl (.inl rfl) Jk rfl rfl (fun _ _ h=>Inv.sbK [129,127,128,0] h) (fun W hW=>QV W (hW.t 468) f367_0 bd) (fun v371 m371 hv371=>?_)
 obtain ⟨s371_0,rfl,f371_0⟩:=hv371
 obtain ⟨A371_0,c371_0,eq371_0,l371_0,k371_0⟩:=f371_0.slc
 subst eq371_0
 refine VE.nil (by kernel_rfl) rfl ?_ rfl
 refine VO.store (k:=1) (c':=[.slice A352_0 ((tL (Zm l_)).length) (c352_0)]) 466 rfl rfl (.inr ⟨Jw,rfl⟩) rfl rfl rfl rfl rfl ?_
 refine VO.store (k:=1) (c':=[.slice A371_0 ((tL T_).length) (c371_0)]) 445 rfl rfl (.inr ⟨Jw,rfl⟩) rfl rfl rfl rfl rfl ?_
 refine VO.clsP 472 [129,469,127,128] rfl (fun hg372=>(Qd _ _ _ hg372 w367_0 q25_1 q25_2)) (fun mc372 ho372=>?_)
 refine VO.p6 472 468 466 449 445 0 (VO.k5 0 2 3 4 6 ?_)
 exact Qg (hJ2 ⟨g365,g344,(tL (Zm l_)),A352_0,c352_0,m352,(tL T_),A371_0,c371_0,m371,mc372⟩ _ _ ⟨by rfl,by rfl,(Ow.ownl f352_0 rfl mnil),(Ow.ownl f371_0 rfl mnil),ho372⟩ ⟨esn,fun _ h=>Inv.sub (Inv.num (Inv.num (Inv.num (Inv.num (Inv.num h 449 111 rfl) 468 116 rfl) 472 124 rfl) 445 123 rfl) 466 121 rfl) [124,123,121,116,111,0]⟩)
 refine VI.alloc 474 rfl rfl XG (fun _ _ h=>Inv.sbK [129,127,128,0] h) (fun g373=>?_)
 refine VE.tree [3] (by kernel_rfl) ⟨?_,trivial⟩
 refine VI.call 449 rfl rfl (.inl rfl) Jk rfl rfl (fun _ _ h=>Inv.sbK [129,127,128,0] h) (fun W hW=>QV W (hW.t 449) f348_0 bd) (fun v375 m375 hv375=>?_)
 obtain ⟨s375_0,rfl,f375_0⟩:=hv375
 obtain ⟨A375_0,c375_0,eq375_0,l375_0,k375_0⟩:=f375_0.slc
 subst eq375_0
 refine VE.tree [8] (by kernel_rfl) ⟨?_,trivial⟩
 refine VI.call 126 rfl rfl (.inl rfl) Zb rfl rfl (fun _ _ h=>Inv.sbK [129,127,128,0] h) (fun W hW=>JA W (hW.t 126) q25_0 bd) (fun v376 m376 hv376=>?_)
 obtain ⟨s376_0,p376_0,p376_1,rfl,hS376,f376_0,w376_0⟩:=hv376
 refine VE.inv _ (fun _ h=>h.parts (i:=126) rfl hS376 [477,478]) ?_
 have hfa379:=JO (d:=T_)
 refine VE.tree [9] (by kernel_rfl) ⟨?_,trivial⟩
 refine VI.call 477 rfl rfl (.inl rfl) Jk rfl rfl (fun _ _ h=>Inv.sbK [129,127,128,0] h) (fun W hW=>QV W (hW.t 477) f376_0 bd) (fun v380 m380 hv380=>?_)
 obtain ⟨s380_0,rfl,f380_0⟩:=hv380
 obtain ⟨A380_0,c380_0,eq380_0,l380_0,k380_0⟩:=f380_0.slc
 subst eq380_0
 refine VE.nil (by kernel_rfl) rfl ?_ rfl
 refine VO.store (k:=1) (c':=[.slice A375_0 ((tL (Zm l_)).length) (c375_0)]) 474 rfl rfl (.inr ⟨Jw,rfl⟩) rfl rfl rfl rfl rfl ?_
 refine VO.store (k:=1) (c':=[.slice A380_0 ((tL T_).length) (c380_0)]) 445 rfl rfl (.inr ⟨Jw,rfl⟩) rfl rfl rfl rfl rfl ?_
 refine VO.clsP 481 [129,478,127,128] rfl (fun hg381=>(Qd _ _ _ hg381 w376_0 q25_1 q25_2)) (fun mc381 ho381=>?_)
 refine VO.p6 481 477 449 474 445 0 (VO.k5 0 2 3 4 6 ?_)
 exact Qg (hJ2 ⟨g373,g344,(tL (Zm l_)),A375_0,c375_0,m375,(tL T_),A380_0,c380_0,m380,mc381⟩ _ _ ⟨by rfl,by rfl,(Ow.ownl f375_0 rfl mnil),(Ow.ownl f380_0 rfl mnil),ho381⟩ ⟨esn,fun _ h=>Inv.sub (Inv.num (Inv.num (Inv.num (Inv.num (Inv.num h 449 111 rfl) 477 116 rfl) 481 124 rfl) 445 123 rfl) 474 121 rfl) [124,123,121,116,111,0]⟩)
 refine VI.alloc 483 rfl rfl XG (fun _ _ h=>Inv.sbK [129,127,128,0] h) (fun g382=>?_)
 refine VE.tree [2] (by kernel_rfl) ⟨?_,trivial⟩
 refine VI.call 446 rfl rfl (.inl rfl) Zb rfl rfl (fun _ _ h=>Inv.sbK [129,127,128,0] h) (fun W hW=>JA W (hW.t 446) f346_0 bd) (fun v384 m384 hv384=>?_)
 obtain ⟨s384_0,p384_0,p384_1,rfl,hS384,f384_0,w384_0⟩:=hv384
 refine VE.inv _ (fun _ h=>h.parts (i:=446) rfl hS384 [485,486]) ?_
 have hfa387:=JO (d:=(Zm l_))
 refine VE.inv [(485,p384_0),(483,Qo g382 (.cells [Value.slice none (0) (0)].toArray 34 (0,0))),(445,Qo g344 (.cells [Value.slice none (0) (0)].toArray 34 (0,0))),(129,Qo g0 (.cells [Vp gt_,Vp gu_,Value.slice q25_A2 (r_.length) (q25_c2)].toArray q25_E (0,0))),(126,q25_n0),(127,q25_n1),(128,q25_n2),(0,Ju (wm W) (m0))] (fun _ h=>Inv.sbK [485,483,445,129,126,127,128,0] h) ?_
 refine VE.tree [3] (by kernel_rfl) ⟨?_,trivial⟩
 refine VI.call 485 rfl rfl (.inl rfl) Jk rfl rfl (fun _ _ h=>Inv.sbK [129,127,128,0] h) (fun W hW=>QV W (hW.t 485) f384_0 bd) (fun v388 m388 hv388=>?_)
 obtain ⟨s388_0,rfl,f388_0⟩:=hv388
 obtain ⟨A388_0,c388_0,eq388_0,l388_0,k388_0⟩:=f388_0.slc
 subst eq388_0
 refine VE.tree [8] (by kernel_rfl) ⟨?_,trivial⟩
 refine VI.call 126 rfl rfl (.inl rfl) Zb rfl rfl (fun _ _ h=>Inv.sbK [129,127,128,0] h) (fun W hW=>JA W (hW.t 126) q25_0 bd) (fun v389 m389 hv389=>?_)
 obtain ⟨s389_0,p389_0,p389_1,rfl,hS389,f389_0,w389_0⟩:=hv389
 refine VE.inv _ (fun _ h=>h.parts (i:=126) rfl hS389 [490,491]) ?_
 have hfa392:=JO (d:=T_)
 refine VE.tree [9] (by kernel_rfl) ⟨?_,trivial⟩
 refine VI.call 490 rfl rfl (.inl rfl) Jk rfl rfl (fun _ _ h=>Inv.sbK [129,127,128,0] h) (fun W hW=>QV W (hW.t 490) f389_0 bd) (fun v393 m393 hv393=>?_)
 obtain ⟨s393_0,rfl,f393_0⟩:=hv393
 obtain ⟨A393_0,c393_0,eq393_0,l393_0,k393_0⟩:=f393_0.slc
 subst eq393_0
 refine VE.nil (by kernel_rfl) rfl ?_ rfl
 refine VO.store (k:=1) (c':=[.slice A388_0 ((tL (Zm l_)).length) (c388_0)]) 483 rfl rfl (.inr ⟨Jw,rfl⟩) rfl rfl rfl rfl rfl ?_
 refine VO.store (k:=1) (c':=[.slice A393_0 ((tL T_).length) (c393_0)]) 445 rfl rfl (.inr ⟨Jw,rfl⟩) rfl rfl rfl rfl rfl ?_
 refine VO.clsP 494 [129,491,127,128] rfl (fun hg394=>(Qd _ _ _ hg394 w389_0 q25_1 q25_2)) (fun mc394 ho394=>?_)
 refine VO.p6 494 490 485 483 445 0 (VO.k5 0 2 3 4 6 ?_)
 exact Qg (hJ2 ⟨g382,g344,(tL (Zm l_)),A388_0,c388_0,m388,(tL T_),A393_0,c393_0,m393,mc394⟩ _ _ ⟨by rfl,by rfl,(Ow.ownl f388_0 rfl mnil),(Ow.ownl f393_0 rfl mnil),ho394⟩ ⟨esn,fun _ h=>Inv.sub (Inv.num (Inv.num (Inv.num (Inv.num (Inv.num h 485 111 rfl) 490 116 rfl) 494 124 rfl) 445 123 rfl) 483 121 rfl) [124,123,121,116,111,0]⟩)
 refine VI.alloc 496 rfl rfl XG (fun _ _ h=>Inv.sbK [129,127,128,0] h) (fun g395=>?_)
 refine VE.tree [1] (by kernel_rfl) ⟨?_,trivial⟩
 refine VI.callN 497 rfl rfl (.inl rfl) Qii rfl (fun _ h=>Inv.sbK [129,127,128,0] h) (fun W hW=>QaY W (show Rd (.ptr Qs) _ _ (g0,((gt_,T_),(gu_,((gd_,D_),br_,l_)),r_)) from ⟨rfl,_,_,(hW.t 129) _ _ (Qn _ _),(YT (m:=wm W) (gt_,T_) (gu_,((gd_,D_),br_,l_)) r_ (Ow.rd q25_0 (hW.t 126)) (Ow.rd q25_1 (hW.t 127)) (Ow.rd q25_2 (hW.t 128)))⟩) Qf) (fun v397 m397 hv397=>?_)
 try dsimp only at hv397
 obtain ⟨s397_0,rfl,f397_0⟩:=hv397
 have hfa398:=(Qbe (show okU l_ by assumption))
 refine VE.tree [2] (by kernel_rfl) ⟨?_,trivial⟩
 refine VI.call 497 rfl rfl (.inl rfl) Zb rfl rfl (fun _ _ h=>Inv.sbK [129,127,128,0] h) (fun W hW=>JA W (hW.t 497) f397_0 bd) (fun v399 m399 hv399=>?_)
 obtain ⟨s399_0,p399_0,p399_1,rfl,hS399,f399_0,w399_0⟩:=hv399
 refine VE.inv _ (fun _ h=>h.parts (i:=497) rfl hS399 [500,501]) ?_
 have hfa402:=JO (d:=(Zm l_))
 refine VE.inv [(500,p399_0),(496,Qo g395 (.cells [Value.slice none (0) (0)].toArray 34 (0,0))),(445,Qo g344 (.cells [Value.slice none (0) (0)].toArray 34 (0,0))),(129,Qo g0 (.cells [Vp gt_,Vp gu_,Value.slice q25_A2 (r_.length) (q25_c2)].toArray q25_E (0,0))),(126,q25_n0),(127,q25_n1),(128,q25_n2),(0,Ju (wm W) (m0))] (fun _ h=>Inv.sbK [500,496,445,129,126,127,128,0] h) ?_
 refine VE.tree [3] (by kernel_rfl) ⟨?_,trivial⟩
 refine VI.call 500 rfl rfl (.inl rfl) Jk rfl rfl (fun _ _ h=>Inv.sbK [129,127,128,0] h) (fun W hW=>QV W (hW.t 500) f399_0 bd) (fun v403 m403 hv403=>?_)
 obtain ⟨s403_0,rfl,f403_0⟩:=hv403
 obtain ⟨A403_0,c403_0,eq403_0,l403_0,k403_0⟩:=f403_0.slc
 subst eq403_0
 refine VE.tree [8] (by kernel_rfl) ⟨?_,trivial⟩
 refine VI.call 126 rfl rfl (.inl rfl) Zb rfl rfl (fun _ _ h=>Inv.sbK [129,127,128,0] h) (fun W hW=>JA W (hW.t 126) q25_0 bd) (fun v404 m404 hv404=>?_)
 obtain ⟨s404_0,p404_0,p404_1,rfl,hS404,f404_0,w404_0⟩:=hv404
 refine VE.inv _ (fun _ h=>h.parts (i:=126) rfl hS404 [505,506]) ?_
 have hfa407:=JO (d:=T_)
 refine VE.tree [9] (by kernel_rfl) ⟨?_,trivial⟩
 refine VI.call 505 rfl rfl (.inl rfl) Jk rfl rfl (fun _ _ h=>Inv.sbK [129,127,128,0] h) (fun W hW=>QV W (hW.t 505) f404_0 bd) (fun v408 m408 hv408=>?_)
 obtain ⟨s408_0,rfl,f408_0⟩:=hv408
 obtain ⟨A408_0,c408_0,eq408_0,l408_0,k408_0⟩:=f408_0.slc
 subst eq408_0
 refine VE.nil (by kernel_rfl) rfl ?_ rfl
 refine VO.store (k:=1) (c':=[.slice A403_0 ((tL (Zm l_)).length) (c403_0)]) 496 rfl rfl (.inr ⟨Jw,rfl⟩) rfl rfl rfl rfl rfl ?_
 refine VO.store (k:=1) (c':=[.slice A408_0 ((tL T_).length) (c408_0)]) 445 rfl rfl (.inr ⟨Jw,rfl⟩) rfl rfl rfl rfl rfl ?_
 refine VO.clsP 509 [129,506,127,128] rfl (fun hg409=>(Qd _ _ _ hg409 w404_0 q25_1 q25_2)) (fun mc409 ho409=>?_)
 refine VO.p6 509 505 500 496 445 0 (VO.k5 0 2 3 4 6 ?_)
 exact Qg (hJ2 ⟨g395,g344,(tL (Zm l_)),A403_0,c403_0,m403,(tL T_),A408_0,c408_0,m408,mc409⟩ _ _ ⟨by rfl,by rfl,(Ow.ownl f403_0 rfl mnil),(Ow.ownl f408_0 rfl mnil),ho409⟩ ⟨esn,fun _ h=>Inv.sub (Inv.num (Inv.num (Inv.num (Inv.num (Inv.num h 500 111 rfl) 505 116 rfl) 509 124 rfl) 445 123 rfl) 496 121 rfl) [124,123,121,116,111,0]⟩)
theorem fnOk50:JE Tryz.prog 50=true:=by kernel_rfl
set_option maxHeartbeats 1000000 in
theorem Qhm (W:World) {r_:List Qe} {l_:List Jv} {br_:Bool} {D_:Qx} {gd_:Nat} {gu_:Nat} {T_:QI} {gt_:Nat} {m0:Mem} (hm:mle (m0) (wm W)) {g0:Nat} (h0:Ow (.ptr Qs) m0 [Vp g0] (g0,((gt_,T_),(gu_,((gd_,D_),br_,l_)),r_))) (d1:Int) (h1:inK .i64 d1) (e0:T_=sT r_) (e1:okU l_) (e2:okS l_ r_) (e3:l_.length≤900) (e4:r_.length≤100000):Qc Tryz.prog 17 [Vp g0,.int .i64 d1] W (m0) (fun v m'=>∃ (s0:Value),∃ (p0:Mem),∃ (p1:Mem),v=s0∧Qt m' [p0,p1]∧Ow (.sl TOp) p0 [s0] (Qkt ((XJ l_ r_).filter (·.1)) d1)∧Ow (.ptr Qs) p1 [Vp g0] (g0,((gt_,T_),(gu_,((gd_,D_),br_,l_)),r_))):=by
 have hll:=Za e1;have hsl:=Qo9 e2;have hol:=Qbe e1;have hfl:=Ql1 (l:=l_) (r:=r_)
 have h1':=h1;simp only [inK] at h1'
 refine Qc.ofX (n:=23) Tryz.func17 rfl rfl rfl hm ?_
 refine VX.rs ?_
 refine VO.box (cs:=[.int .i64 (d1)]) 102 rfl rfl rfl (fun g1=>?_)
 refine VO.as (VO.k4 0 1 3 4 ?_)
 refine VX.rs ?_
 refine VO.alloc 104 rfl XG (fun g3=>?_)
 refine VO.k5 0 1 3 4 5 ?_
 refine VX.seq ?_
 refine VX.rs ?_
 refine VO.mv ?_
 refine VO.call 1 rfl fnOk50 rfl rfl (fun W hW=>Qqd W (hW.t 1) h0 (by first | assumption | rfl) Qf Qf bd bd) (fun v5 m5 hv5=>?_)
 try dsimp only at hv5
 obtain ⟨s5_0,p5_0,p5_1,rfl,hS5,f5_0,w5_0⟩:=hv5
 refine VO.inv _ (fun _ h=>h.parts (i:=1) rfl hS5 [106,107]) ?_
 refine VO.p5 106 107 104 102 0 (VO.k6 0 1 3 4 5 9 ?_)
 refine VX.block ?_
 refine VX.inv ((108,mnil)::_) (fun _ h=>h.nilc 108) ?_
 refine VX.gather (l:=[mnil,Qo g3 (.cells [Value.slice none (0) (0)].toArray 34 (0,0))]) 110 [108,104] rfl (fun hg9=>?_)
 refine VX.inv [(106,p5_0),(110,Zs [mnil,Qo g3 (.cells [Value.slice none (0) (0)].toArray 34 (0,0))]),(107,p5_1),(102,Qo g1 (.cells [Value.int .i64 (d1)].toArray 3 (0,0))),(0,Ju (wm W) (m0))] (fun _ h=>h.sub [106,110,107,102,0]) ?_
 refine VX.rangeF (A:=Int) (G:=(List DOp) × (Option Addr) × Nat × Mem) (rest:=[(107,p5_1),(102,Qo g1 (.cells #[.int .i64 (d1)] 3 (0,0))),(0,Ju (wm W) (m0))]) 110 106 111 112 113 114 (fun g=>Zs [(g.2.2.2),Qo g3 (.cells #[.slice (g.2.1) ((g.1).length) ((g.2.2.1))] 34 (0,0))]) (fun at_ g=>((g.1)=((XJ l_ r_).filter (·.1)).take at_.toNat∧0≤at_∧at_≤((XJ l_ r_).filter (·.1)).length∧(d1 < 0∨at_≤d1))∧(Qz TOp (g.2.2.2) mnil (.slice (g.2.1) (g.1).length (g.2.2.1)) (g.1))∧(Qt (Zs [(g.2.2.2),Qo g3 (.cells #[.slice (g.2.1) ((g.1).length) ((g.2.2.1))] 34 (0,0))]) [(g.2.2.2),Qo g3 (.cells #[.slice (g.2.1) ((g.1).length) ((g.2.2.1))] 34 (0,0))])) (fun e g=>e=(.exit 0)∧((g.1)=Qkt ((XJ l_ r_).filter (·.1)) d1)∧(Qz TOp (g.2.2.2) mnil (.slice (g.2.1) (g.1).length (g.2.2.1)) (g.1))∧(Qt (Zs [(g.2.2.2),Qo g3 (.cells #[.slice (g.2.1) ((g.1).length) ((g.2.2.1))] 34 (0,0))]) [(g.2.2.2),Qo g3 (.cells #[.slice (g.2.1) ((g.1).length) ((g.2.2.1))] 34 (0,0))])) ([],none,0,mnil) ⟨by exact ⟨rfl,by omega,by omega,by omega⟩,(Qz.nil TOp mnil mnil),hg9⟩ (fun _ _=>f5_0) rfl rfl rfl (fun _ _ _ h=>by obtain ⟨_,_,_,_,_,_,_,rfl⟩:=h;rfl) (fun args=>[(6,args.getD 0 undef),(7,args.getD 1 undef),(0,Vp g0),(1,.int .i64 (d1)),(3,Vp g1),(4,.slice none (0) (0)),(5,Vp g3)]) ?_ ?_ ?_ ?_
 · intro w1_ lr_ args_ Ω_ hl_
   obtain ⟨y0_,y1_,rfl⟩:∃ y0_ y1_,args_=[y0_,y1_]:=(match args_,hl_ with | [y0_,y1_],_=>⟨y0_,y1_,rfl⟩)
   refine VX.rs ?_
   refine VO.as ?_
   refine VO.nil ?_
   refine VX.reg ?_
   refine VO.as ?_
   refine VO.nil ?_
   exact ⟨rfl,rfl,esn,rfl⟩
 rintro w1_ lr_ Dr_ at_ ⟨out,out_A,out_c,out_m⟩ args_ mr_ ml_ mo_ ⟨ho,h_out,hSep_⟩ hE_
 replace ho:out=((XJ l_ r_).filter (·.1)).take at_.toNat∧0≤at_∧at_≤((XJ l_ r_).filter (·.1)).length∧(d1 < 0∨at_≤d1):=ho
 replace h_out:Qz TOp out_m mnil (.slice out_A out.length out_c) out:=h_out
 replace hSep_:Qt (Zs [out_m,Qo g3 (.cells [Value.slice out_A (out.length) (out_c)].toArray 34 (0,0))]) [out_m,Qo g3 (.cells [Value.slice out_A (out.length) (out_c)].toArray 34 (0,0))]:=hSep_
 obtain ⟨hE0_,hE1_,hE2_,x_,hxa_,hxl1_,hxl2_,rfl⟩:=hE_
 simp only [maxLen] at hxl1_ hxl2_
 refine VX.parts 110 [108,104] rfl hSep_ ?_
 show VX _ _ _ _ _ _ _ [(6,str (x_.2.1)),(7,str (x_.2.2)),(0,Vp g0),(1,.int .i64 (d1)),(3,Vp g1),(4,.slice none (0) (0)),(5,Vp g3)] [(108,out_m),(104,Qo g3 (.cells #[.slice out_A (out.length) (out_c)] 34 (0,0))),(113,mr_),(114,mo_),(112,ml_),(111,Qo Dr_ (.deferred (some []))),(107,p5_1),(102,Qo g1 (.cells #[.int .i64 (d1)] 3 (0,0))),(0,Ju (wm W) (m0))]
 have l_out:out.length≤out_c:=by obtain ⟨_,_,he,hl,_⟩:=h_out.slice;simp only [Value.slice.injEq] at he;omega
 have k_out:out_c≤9223372036854775807:=by obtain ⟨_,_,he,_,hl⟩:=h_out.slice;simp only [Value.slice.injEq,maxLen] at he hl;omega
 have hlo:out.length≤((XJ l_ r_).filter (·.1)).length:=by rw [ho.1,List.length_take];omega
 refine VX.block ?_
 refine VX.seq ?_
 refine VX.rs ?_
 refine VO.z (.ld1 104 rfl Jw rfl (Qa rfl rfl)) (VO.z (.lenS rfl QX) (VO.z (.ld1 102 rfl tk3 rfl (Qa rfl rfl)) (VO.z (.eql rfl rfl) (VO.k8 0 1 3 4 5 6 7 15 ?_))))
 refine VX.cond rfl (fun hc15=>?_) (fun hc15=>?_)
 refine VX.exit ?_
 refine JU ?_
 refine QhV rfl ?_
 exact ⟨rfl,fun W_ hW_=>⟨⟨out,out_A,out_c,out_m⟩,(hW_.gather (ids:=[108,104]) 110 rfl).1.sub [114,112,110,111,107,102,0],.inr ⟨rfl,rfl,by exact QoT ho Qf,h_out,(hW_.gather (ids:=[108,104]) 110 rfl).2⟩⟩⟩
 refine VX.skip ?_
 refine Qg ?_
 refine VX.reg ?_
 refine VO.z (.ld1 104 rfl Jw rfl (Qa rfl rfl)) (VO.mv (VO.mv ?_))
 refine VO.z (.bst (cs:=[.bool true,str (x_.2.1),str (x_.2.2)]) rfl JG YX rfl) ?_
 refine VO.bsl (cs:=[.bool true,str (x_.2.1),str (x_.2.2)]) 117 rfl rfl QX YX rfl rfl (fun g16=>?_)
 obtain ⟨mo18,cs18,hM18,hA18,hC18⟩:=h_out
 refine VO.app 108 rfl rfl rfl QX YX rfl rfl hM18 hA18 (.row 117 _ _ _ 1 1 _ _ Tryz.underlying34 rfl (Qa rfl rfl)) (by simp [Value.oneCell']) bdm bd (by decide) (fun v18 m18 hN18=>?_)
 have ho18:Qz TOp m18 mnil v18 (out++[(true,x_.2)]):=Qz.one hC18 hN18 (Xl (m:=_) true x_.2.1 x_.2.2 bdm bdm)
 obtain ⟨A18,c18,rfl,l18,k18⟩:=ho18.slc
 refine VO.store (k:=1) (c':=[.slice A18 ((out++[(true,x_.2)]).length) (c18)]) 104 rfl rfl (.inr ⟨Jw,rfl⟩) rfl rfl rfl rfl rfl ?_
 refine VO.k8 0 1 3 4 5 6 7 15 (Jh ?_)
 exact ⟨rfl,fun W_ hW_=>⟨⟨out++[(true,x_.2)],A18,c18,m18⟩,(hW_.gather (ids:=[108,104]) 110 rfl).1.sub [114,112,110,111,107,102,0],.inl ⟨rfl,by exact QrG ho hxa_ Qf,ho18,(hW_.gather (ids:=[108,104]) 110 rfl).2⟩⟩⟩
 · rintro Dr_ at_ ⟨out,out_A,out_c,out_m⟩ ⟨ho,h_out,hSep_⟩ hDn_
   replace ho:out=((XJ l_ r_).filter (·.1)).take at_.toNat∧0≤at_∧at_≤((XJ l_ r_).filter (·.1)).length∧(d1 < 0∨at_≤d1):=ho
   replace h_out:Qz TOp out_m mnil (.slice out_A out.length out_c) out:=h_out
   replace hSep_:Qt (Zs [out_m,Qo g3 (.cells [Value.slice out_A (out.length) (out_c)].toArray 34 (0,0))]) [out_m,Qo g3 (.cells [Value.slice out_A (out.length) (out_c)].toArray 34 (0,0))]:=hSep_
   have l_out:out.length≤out_c:=by obtain ⟨_,_,he,hl,_⟩:=h_out.slice;simp only [Value.slice.injEq] at he;omega
   have k_out:out_c≤9223372036854775807:=by obtain ⟨_,_,he,_,hl⟩:=h_out.slice;simp only [Value.slice.injEq,maxLen] at he hl;omega
   refine Jh (Qg ?_)
   refine VX.parts 110 [108,104] rfl hSep_ ?_
   show VX _ _ _ _ _ _ _ [(0,Vp g0),(1,.int .i64 (d1)),(3,Vp g1),(4,.slice none (0) (0)),(5,Vp g3),(9,.func (.func 96) #[] s5_0.toArray)] [(108,out_m),(104,Qo g3 (.cells #[.slice out_A (out.length) (out_c)] 34 (0,0))),(111,Qo Dr_ (.deferred (some []))),(107,p5_1),(102,Qo g1 (.cells #[.int .i64 (d1)] 3 (0,0))),(0,Ju (wm W) (m0))]
   refine VX.rs ?_
   refine VO.z (.ld1 104 rfl Jw rfl (Qa rfl rfl)) (VO.as (VO.k6 0 1 3 4 5 9 ?_))
   refine VX.ret ?_
   refine ⟨111,rfl,?_⟩
   refine ⟨_,_,QE (rs:=[.tmp 4]) rfl (.tmp rfl .nil),fun W_ hI=>Q2 (l:=[out_m,p5_1]) hI [108,107] rfl rfl (Qb _) (fun hS_=>?_)⟩
   dsimp only [Qu]
   refine ⟨.slice out_A (out.length) (out_c),Zs [out_m],Zs [p5_1],?_,?_,?_,?_⟩
   rotate_left
   · exact Qt.grp (ls:=[[out_m],[p5_1]]) hS_
   · exact Ow.cg (Ow.up (Qz.ow h_out rfl) ((Qt.self hS_ (List.Sublist.cons_cons _ (List.Sublist.cons _ List.Sublist.slnil))).1 _ (.head _))) (by first | rfl | (first | exact hs.symm | exact (Qdo ho hDn_).symm))
   · exact Ow.cgP (Ow.up w5_0 ((Qt.self hS_ (List.Sublist.cons _ (List.Sublist.cons_cons _ List.Sublist.slnil))).1 _ (.head _))) (by first | rfl | (first | exact hs.symm | exact (Qdo ho hDn_).symm))
   all_goals (first | rfl | (simp [*];done))
 · rintro Dr_ _ ⟨out,out_A,out_c,out_m⟩ ⟨rfl,hs,h_out,hSep_⟩ _
   replace hs:out=Qkt ((XJ l_ r_).filter (·.1)) d1:=hs
   replace h_out:Qz TOp out_m mnil (.slice out_A out.length out_c) out:=h_out
   replace hSep_:Qt (Zs [out_m,Qo g3 (.cells [Value.slice out_A (out.length) (out_c)].toArray 34 (0,0))]) [out_m,Qo g3 (.cells [Value.slice out_A (out.length) (out_c)].toArray 34 (0,0))]:=hSep_
   have l_out:out.length≤out_c:=by obtain ⟨_,_,he,hl,_⟩:=h_out.slice;simp only [Value.slice.injEq] at he;omega
   have k_out:out_c≤9223372036854775807:=by obtain ⟨_,_,he,_,hl⟩:=h_out.slice;simp only [Value.slice.injEq,maxLen] at he hl;omega
   refine JT (Qg ?_)
   refine VX.parts 110 [108,104] rfl hSep_ ?_
   show VX _ _ _ _ _ _ _ [(0,Vp g0),(1,.int .i64 (d1)),(3,Vp g1),(4,.slice none (0) (0)),(5,Vp g3),(9,.func (.func 96) #[] s5_0.toArray)] [(108,out_m),(104,Qo g3 (.cells #[.slice out_A (out.length) (out_c)] 34 (0,0))),(111,Qo Dr_ (.deferred (some []))),(107,p5_1),(102,Qo g1 (.cells #[.int .i64 (d1)] 3 (0,0))),(0,Ju (wm W) (m0))]
   refine VX.rs ?_
   refine VO.z (.ld1 104 rfl Jw rfl (Qa rfl rfl)) (VO.as (VO.k6 0 1 3 4 5 9 ?_))
   refine VX.ret ?_
   refine ⟨111,rfl,?_⟩
   refine ⟨_,_,QE (rs:=[.tmp 4]) rfl (.tmp rfl .nil),fun W_ hI=>Q2 (l:=[out_m,p5_1]) hI [108,107] rfl rfl (Qb _) (fun hS_=>?_)⟩
   dsimp only [Qu]
   refine ⟨.slice out_A (out.length) (out_c),Zs [out_m],Zs [p5_1],?_,?_,?_,?_⟩
   rotate_left
   · exact Qt.grp (ls:=[[out_m],[p5_1]]) hS_
   · exact Ow.cg (Ow.up (Qz.ow h_out rfl) ((Qt.self hS_ (List.Sublist.cons_cons _ (List.Sublist.cons _ List.Sublist.slnil))).1 _ (.head _))) (by first | rfl | (first | exact hs.symm | exact (Qdo ho hDn_).symm))
   · exact Ow.cgP (Ow.up w5_0 ((Qt.self hS_ (List.Sublist.cons _ (List.Sublist.cons_cons _ List.Sublist.slnil))).1 _ (.head _))) (by first | rfl | (first | exact hs.symm | exact (Qdo ho hDn_).symm))
   all_goals (first | rfl | (simp [*];done))
end Go.Proofs.YtonbpfncmlijnaaGreat
