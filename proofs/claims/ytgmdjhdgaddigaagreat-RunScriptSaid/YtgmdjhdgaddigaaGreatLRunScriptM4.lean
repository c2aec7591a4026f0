/- Part 4 of the proof of LRunScript: what it needs of the library, the walks and the plain laws. Conditions: those named in each theorem. -/
import Derived.Test.YtgmdjhdgaddigaaGreatLRunScriptM3
set_option linter.unusedVariables false
set_option linter.unusedSimpArgs false
set_option maxRecDepth 4000
namespace Go.Proofs.YtgmdjhdgaddigaaGreat
def bwE (mf : Mem) (l : List Zn) (a : Int) (args : List Value) (mr : Mem) : Prop := 0 ≤ a ∧ a < l.length ∧ mr = Qr ∧ ∃ x cs, l[a.toNat]? = some x ∧ args = [.int .i64 a, .agg cs.toArray] ∧ Rd ZL mf cs x
def bwN (a : Int) : Int := a - 1
def bwD (a : Int) : Prop := a < 0
theorem bw1_ok {l:List Zn} {gc:Nat} {v:Value} {mf:Mem} (hl:Rd (.sl ZL) mf [v] l):
  QmN Tryz.prog 90 [.pointer (some ⟨gc,0,none⟩)] mf (QE gc (.cells [v].toArray 43 (0,0))) (bwE mf l) bwN ((l.length:Int) - 1) bwD:=by
 intro G M I X lp W g0 h0 hm hdj hmf hdf hy
 obtain ⟨A,c,rfl,l0,k0⟩:=hl.slc
 refine Qg.ofX (n:=19) Tryz.func90 rfl rfl rfl hm ?_
 refine VX.parts 1 [1,2] (l:=[M g0,QE gc (.cells [(.slice A l.length c:Value)].toArray 43 (0,0))]) rfl ⟨fun x hx=>?_,List.pairwise_cons.2 ⟨fun x hx=>?_,List.pairwise_singleton _ _⟩⟩ ?_
 ·simp only [List.mem_cons,List.not_mem_nil,or_false] at hx
  rcases hx with rfl | rfl
  ·exact QI _ _
  ·exact QM hdj
 ·simp only [List.mem_cons,List.not_mem_nil,or_false] at hx
  subst hx;exact hdj
 refine VX.rs ?_
 refine VO.z (.ld1 2 rfl (by kernel_rfl) rfl (Qa rfl rfl)) ?_
 refine VO.z (.lenS rfl Z3) ?_
 refine VO.z (.sub (c:=(l.length:Int) - 1) rfl rfl rfl ⟨by omega,by omega⟩) ?_
 refine VO.as ?_
 refine VO.k3 0 1 3 ?_
 refine VX.block ?_
 refine VX.loop (G:=Int × G) (fun s=>[(0,.func (.yield lp) #[] #[]),(1,.pointer (some ⟨gc,0,none⟩)),(3,.int .i64 s.1)]) (fun s=>[(1,M s.2),(2,QE gc (.cells [(.slice A l.length c:Value)].toArray 43 (0,0))),(0,JY (wm W) (mun (M g0) (QE gc (.cells [(.slice A l.length c:Value)].toArray 43 (0,0)))))]) (fun s=>I s.1 s.2∧ -1≤s.1∧s.1 < l.length) (fun s=>(s.1+1).toNat) ((l.length:Int) - 1,g0) ⟨h0,by dsimp only;omega,by dsimp only;omega⟩ ⟨esn,fun _ h=>h.sub [1,2,0]⟩ ?_
 rintro ⟨a,g⟩ ⟨hI,ha,hal⟩
 dsimp only at hI ha hal
 show VX _ _ _ _ _ _ _ [(0,.func (.yield lp) #[] #[]),(1,.pointer (some ⟨gc,0,none⟩)),(3,.int .i64 a)] [(1,M g),(2,QE gc (.cells [(.slice A l.length c:Value)].toArray 43 (0,0))),(0,JY (wm W) (mun (M g0) (QE gc (.cells [(.slice A l.length c:Value)].toArray 43 (0,0)))))]
 refine VX.seq ?_
 refine VX.rs ?_
 refine VO.mv ?_
 refine VO.z (.geq rfl rfl) ?_
 refine VO.k4 0 1 3 8 ?_
 refine VX.cond rfl (fun hc=>?_) (fun hc=>?_)
 ·refine VX.skip (Qj ?_)
  refine VX.seq (VX.block ?_)
  refine VX.seq ?_
  obtain ⟨x,hx⟩:∃ x,l[a.toNat]? =some x:=⟨_,List.getElem?_eq_getElem Qx⟩
  obtain ⟨gg,oo,ec,ea,hce,hre⟩:=hl.elem hx
  cases ea
  refine VX.regL _ (hix:=?_) (VL.pre (r:=[6,7]) 6 (by kernel_rfl) ?_)
  ·kernel_rfl
  refine VO.mv ?_
  refine VO.mv ?_
  refine VO.z (.ld1 2 rfl (by kernel_rfl) rfl (Qa rfl rfl)) ?_
  refine VO.mv ?_
  refine VO.z (.ixI a.toNat rfl rfl Z3 Qx Qx) ?_
  refine VO.z (.ldA 0 rfl (by kernel_rfl) rfl (hce.mono (Qbb hmf hdf))) ?_
  refine VO.nil ?_
  refine VL.yield 1 rfl rfl (.inl rfl) rfl rfl rfl (fun W' hW=>by have h_:=hy a g _ Qr W' hI ⟨hc,hal,rfl,x,ec,hx,rfl,hre⟩ ((hW.nilc 9).sub [0,1,9]).three;rw [Qf1] at h_;exact h_) (fun v m' hv=>?_)
  obtain ⟨g',rfl,hv⟩:=hv
  rcases hv with ⟨rfl,hI'⟩ | ⟨rfl,hX⟩
  ·refine VL.post 7 rfl (by kernel_rfl) ?_
   refine VO.z (.not rfl) ?_
   refine VO.k4 0 1 3 18 ?_
   refine Qj (VX.condF rfl ?_)
   refine VX.skip (JE (Qj ?_))
   refine VX.reg ?_
   refine VO.mv ?_
   refine VO.z (.sub (c:=bwN a) rfl rfl rfl ⟨by unfold bwN;omega,by unfold bwN;omega⟩) ?_
   refine VO.as ?_
   refine VO.nil ?_
   refine Qj ⟨rfl,(bwN a,g'),⟨hI',by unfold bwN;dsimp only;omega,by unfold bwN;dsimp only;omega⟩,by unfold bwN;dsimp only;omega,⟨esn,fun _ h=>h.sub [1,2,0]⟩⟩
  ·refine VL.post 7 rfl (by kernel_rfl) ?_
   refine VO.z (.not rfl) ?_
   refine VO.k4 0 1 3 18 ?_
   refine Qj (VX.condT rfl ?_)
   refine VX.ret ?_
   refine JD (QS (QS (JD ?_)))
   refine ⟨_,_,Q8 (rs:=[]) rfl .nil,fun W_ hI_=>JC (l:=[M g']) hI_ [1] rfl rfl (Qb _) (fun hS_=>⟨g',Qf1 _,.inl hX⟩)⟩
 ·refine VX.exit (Zc (Zc (Zd ?_)))
  refine ⟨_,_,Q8 (rs:=[]) rfl .nil,fun W_ hI_=>JC (l:=[M g]) hI_ [1] rfl rfl (Qb _) (fun hS_=>⟨g,Qf1 _,.inr ⟨a,hI,by unfold bwD;omega⟩⟩)⟩
theorem bw_ok (W:World) {mf:Mem} (hmf:mle mf (wm W)) {v0:Value} {d0:List Zn} (h0:Rd (.sl ZL) mf [v0] d0):Qg Tryz.prog 56 [v0] W Qr (fun v m'=>∃ caps,v= .func (.func 90) #[] (List.toArray caps)∧QmN Tryz.prog 90 caps mf m' (bwE mf d0) bwN ((d0.length:Int) - 1) bwD):=by
 obtain ⟨A,c,rfl,_,_⟩:=h0.slice
 refine Qg.ofA (n:=4) Tryz.func56 rfl rfl rfl ?_
 refine VC.rs ?_
 refine VO.box (cs:=[(.slice A d0.length c:Value)]) 101 rfl rfl rfl (fun g1=>?_)
 refine VO.as (VO.k1 1 (VC.rs (VO.z (.mkf rfl) (VO.as (VO.k1 2 (VC.ret ?_))))))
 refine ⟨_,_,Q8 (rs:=[.tmp 2]) rfl (.tmp rfl .nil),fun W_ hI=>JC (l:=[QE g1 (.cells #[(.slice A d0.length c:Value)] 43 (0,0))]) hI [101] rfl rfl (Qb _) (fun hS_=>⟨[.pointer (some ⟨g1,0,none⟩)],rfl,?_⟩)⟩
 show QmN _ _ _ _ (mun _ Qr) _ _ _ _
 rw [Qf1]
 exact bw1_ok h0
def kAt (l : List DOp) (i : Nat) : Qm := (l[i]?.getD (false, [], [])).2.1
theorem QkU {l:List DOp} {i:Nat} {x:DOp} (h:l[i]? =some x):kAt l i=x.2.1:=by unfold kAt;rw [h];rfl
def geK (l : List DOp) (k : Qm) (i : Nat) : Bool := decide (¬ kl (kAt l i) k)
def QgN : Option DOp → Qm × Bool × Bool
  | some o => (o.2.2, true, o.1)
  | none => ([], false, false)
def YA (l : List DOp) (k : Qm) : Option DOp := l.find? fun o => decide (o.2.1 = k)
def Qay : List Zn → Qm → Option DOp
  | [], _ => none
  | r :: l, k => match YA r.2.2 k with
    | some o => some o
    | none => Qay l k
def QgX (l : List Zn) (k : Qm) : Qm × Bool × Bool := QgN (Qay l.reverse k)
section
variable {l : List DOp} {k : Qm} {i j : Nat} {x : DOp} {u : List Zn} {r : Zn}
theorem Qif {y:DOp} (h:Z4 l) (hx:l[i]? =some x) (hy:l[j]? =some y) (hij:i < j):kl x.2.1 y.2.1:=by
 obtain ⟨h1,e1⟩:=List.getElem?_eq_some_iff.1 hx
 obtain ⟨h2,e2⟩:=List.getElem?_eq_some_iff.1 hy
 have:=List.pairwise_iff_getElem.1 h.2 _ _ h1 h2 hij
 rwa [e1,e2] at this
theorem Qod (h : Z4 l) (hx : l[i]? = some x) (he : x.2.1 = k) : YA l k = some x := by
  unfold YA
  cases hf : l.find? fun o => decide (o.2.1 = k) with
  | none =>
    have := List.find?_eq_none.1 hf x (List.mem_of_getElem? hx)
    rw [he] at this; simp at this
  | some y =>
    have hy := List.find?_some hf
    simp only [decide_eq_true_eq] at hy
    obtain ⟨j, hj⟩ := List.getElem?_of_mem (List.mem_of_find?_eq_some hf)
    rcases Nat.lt_trichotomy i j with q | q | q
    · have := Qif h hx hj q; rw [he, hy] at this; exact absurd this (Y5 _)
    · subst q; rw [hx] at hj; exact hj.symm
    · have := Qif h hj hx q; rw [he, hy] at this; exact absurd this (Y5 _)
theorem QiY (h:Z4 l) (hi:i≤l.length) (h1:i < l.length→geK l k i=true) (h2:0 < i→geK l k (i - 1)=false) (hn:∀ x,l[i]? =some x→¬ x.2.1=k):YA l k=none:=by
 unfold YA
 refine List.find?_eq_none.2 fun y hy=>?_
 obtain ⟨j,hj⟩:=List.getElem?_of_mem hy
 have hjl:=(List.getElem?_eq_some_iff.1 hj).1
 simp only [decide_eq_true_eq]
 intro e
 rcases Nat.lt_trichotomy j i with q | q | q
 ·have h3:=h2 (by omega)
  have h4:kl (kAt l (i - 1)) k:=by unfold geK at h3;simpa using h3
  obtain ⟨z,hz⟩:∃ z,l[i - 1]? =some z:=⟨_,List.getElem?_eq_getElem (by omega)⟩
  rw [QkU hz] at h4
  rcases Nat.lt_or_ge j (i - 1) with q2 | q2
  ·have:=Qcf (Qif h hj hz q2) h4;rw [e] at this;exact Y5 _ this
  ·have:j=i - 1:=by omega
   subst this;rw [hj] at hz;cases hz;rw [e] at h4;exact Y5 _ h4
 ·subst q;exact hn y hj e
 ·have h3:=h1 (by omega)
  have h4:¬ kl (kAt l i) k:=by unfold geK at h3;simpa using h3
  obtain ⟨z,hz⟩:∃ z,l[i]? =some z:=⟨_,List.getElem?_eq_getElem (by omega)⟩
  rw [QkU hz] at h4
  have:=Qif h hz hj q;rw [e] at this;exact h4 this
theorem Qel {n:Nat} (hx:u[n]? =some r):Qay (u.take (n+1)).reverse k=(match YA r.2.2 k with | some o=>some o | none=>Qay (u.take n).reverse k):=by
 rw [Yq hx,List.reverse_append];rfl
def QgZ (u : List Zn) (k : Qm) (a : Int) : Prop := -1 ≤ a ∧ a < u.length ∧ QgX u k = QgN (Qay (u.take (a + 1).toNat).reverse k)
theorem Qn1 (u:List Zn) (k:Qm):QgZ u k ((u.length:Int) - 1):=⟨by omega,by omega,by
 unfold QgX;rw [List.take_of_length_le (by omega)]⟩
theorem Qfc {a:Int} (h:QgZ u k a) (h0:0≤a) (hx:u[a.toNat]? =some r) (hf:YA r.2.2 k=none):QgZ u k (a - 1):=by
 refine ⟨by omega,by have:=h.2.1;omega,?_⟩
 rw [h.2.2,show (a+1).toNat=a.toNat+1 by omega,Qel hx,hf,show (a - 1+1).toNat=a.toNat by omega]
theorem QkW {a:Int} {o:DOp} (h:QgZ u k a) (h0:0≤a) (hx:u[a.toNat]? =some r) (hf:YA r.2.2 k=some o):QgX u k=(o.2.2,true,o.1):=by
 rw [h.2.2,show (a+1).toNat=a.toNat+1 by omega,Qel hx,hf];rfl
theorem QgY {a:Int} (h:QgZ u k a) (ha:a < 0):QgX u k=([],false,false):=by
 rw [h.2.2,show (a+1).toNat=0 by omega];rfl
end
theorem fnOk56:JX Tryz.prog 56=true:=by kernel_rfl
theorem fnOk57:JX Tryz.prog 57=true:=by kernel_rfl
theorem fnOk58:JX Tryz.prog 58=true:=by kernel_rfl
theorem tz4:tz Tryz.prog 4=some [.bool false]:=by kernel_rfl
theorem tz9:tz Tryz.prog 9=some [.string ⟨#[]⟩]:=by kernel_rfl
theorem Qkc (W:World) (d0:Nat) (h0:d0 < 9223372036854775808) {gf1:FuncId} {caps1:List Value} {p1:Nat→Bool} (hf1:JX Tryz.prog gf1=true) (h1:∀ W',mle (wm W) (wm W')→∀ i:Nat,i < d0→Qg Tryz.prog gf1 (.int .i64 ((i:Nat):Int)::caps1) W' Qr (fun v _=>v= .bool (p1 i))) (e0:d0≤4611686018427387903):Qg Tryz.prog 57 [.int .i64 (d0:Int),.func (.func gf1) #[] caps1.toArray] W (Qr) (fun v m'=>∃ (kq:Nat),v= .int .i64 ((kq:Nat):Int)∧kq≤d0∧(kq < d0→p1 kq=true)∧(0 < kq→p1 (kq - 1)=false)):=by
 refine Qg.ofA (n:=26) Tryz.func57 rfl rfl rfl ?_
 refine VC.rs (VO.as (VO.k3 0 1 4 (VC.rs (VO.mv (VO.as (VO.as (VO.k5 0 1 4 5 6 (VC.seq (VC.block ?_)))))))))
 refine VC.loop (G:=Nat × Nat) (fun g=>[(5,.int .i64 ((((g.1):Nat):Int))),(6,.int .i64 ((((g.2):Nat):Int))),(0,.int .i64 (((d0:Nat):Int))),(1,.func (.func gf1) #[] caps1.toArray),(4,.int .i64 (0))]) (fun g=>[(0,wm W)]) (fun g=>((g.1)≤(g.2))∧((g.2)≤d0)∧(0 < (g.1)→p1 ((g.1) - 1)=false)∧((g.2) < d0→p1 (g.2)=true)) (fun g=>(g.2) - (g.1)) (0,d0) (⟨by omega,by omega,by (intro h_;exact absurd h_ Qx),by (intro h_;exact absurd h_ Qx)⟩) ⟨esn,fun _ h=>h.sub [0]⟩ ?_
 rintro ⟨i,j⟩ ⟨hij,hj,hp1,hp2⟩
 replace hij:i≤j:=hij
 replace hj:j≤d0:=hj
 replace hp1:0 < i→p1 (i - 1)=false:=hp1
 replace hp2:j < d0→p1 j=true:=hp2
 show VC _ _ _ _ _ [(5,.int .i64 (((i:Nat):Int))),(6,.int .i64 (((j:Nat):Int))),(0,.int .i64 (((d0:Nat):Int))),(1,.func (.func gf1) #[] caps1.toArray),(4,.int .i64 (0))] [(0,wm W)]
 refine VC.seq (VC.rs (VO.mv (VO.mv (VO.z (.lss rfl rfl) (VO.p1 0 (VO.k6 0 1 4 5 6 11 ?_))))))
 refine VC.cond rfl (fun hc1=>?_) (fun hc1=>?_)
 refine VC.skip (Qj (VC.block (VC.rs (VO.mv (VO.mv ?_)))))
 refine VO.z (.add (c:=((i+j:Nat):Int)) rfl rfl Qx ⟨bd,bd⟩) ?_
 refine VO.z (.cvI rfl ⟨_,Tryz.underlying3⟩ Tryz.underlying112 (IntWalk.u64_in _ bd)) ?_
 refine VO.z (.shf (.inr rfl) rfl rfl (shr1 _)) ?_
 refine VO.z (.cvI rfl ⟨_,Tryz.underlying112⟩ Tryz.underlying3 (IntWalk.i64_in _ bd)) ?_
 refine VO.as (VO.k7 0 1 4 5 6 7 11 (VC.rs (VO.mv (VO.mv ?_))))
 refine VO.callVN 102 rfl rfl hf1 rfl (fun W_ hW_=>h1 W_ (hW_.at (i:=0) rfl) ((i+j) / 2) bd) (fun v2 m2 hv2=>?_)
 subst hv2
 refine VO.z (.not rfl) (VO.k8 0 1 4 5 6 7 11 21 ?_)
 refine VC.condBN rfl (fun hc3=>?_) (fun hc3=>?_)
 refine VC.reg ?_
 refine VO.mv ?_
 refine VO.z (.add (c:=((((i+j) / 2)+1:Nat):Int)) rfl rfl Qx ⟨bd,bd⟩) ?_
 refine VO.as (VO.p1 0 (VO.k8 0 1 4 5 6 7 11 21 (JE ?_)))
 exact Qj ⟨⟨((i+j) / 2)+1,j⟩,⟨by omega,by omega,by first | exact hp1 | (intro _;rw [show (i+j) / 2+1 - 1=(i+j) / 2 by omega];assumption),by first | exact hp2 | (intro _;assumption)⟩,bd,⟨esn,fun _ h=>Inv.sub h [0]⟩⟩
 refine VC.reg ?_
 refine VO.mv (VO.as (VO.p1 0 (VO.k8 0 1 4 5 6 7 11 21 (JE ?_))))
 exact Qj ⟨⟨i,(i+j) / 2⟩,⟨by omega,by omega,by first | exact hp1 | (intro _;rw [show (i+j) / 2+1 - 1=(i+j) / 2 by omega];assumption),by first | exact hp2 | (intro _;assumption)⟩,bd,⟨esn,fun _ h=>Inv.sub h [0]⟩⟩
 ·refine VC.exit (Zc (Zc (Zd (Qj (VC.rs (VO.mv (VO.as (VO.k6 0 1 4 5 6 11 (VC.ret ?_)))))))))
  refine ⟨_,_,Q8 (rs:=[.tmp 4]) rfl (.tmp rfl .nil),fun W_ hI=>JC (l:=[]) hI [] rfl rfl (Qb _) (fun hS_=>?_)⟩
  dsimp only [Qv]
  refine ⟨i,?_,?_,?_,?_⟩
  rotate_left
  ·(omega)
  ·((intro h_;have e_:i=j:=Qx;subst e_;exact hp2 h_))
  ·(exact hp1)
  all_goals (first | rfl | (simp [*];done))
theorem Qn2 (W:World) (d0:Nat) (h0:d0 < 9223372036854775808) {g1:Nat} {E1:TypeId} {v1:List Value} {d1:Zn} (h1:Rd ZL (wm W) v1 d1) (b1:mle (QE g1 (.cells v1.toArray E1 (0,0))) (wm W)) {g2:Nat} {E2:TypeId} {v2:List Value} {d2:List UInt8} (h2:Rd .str (wm W) v2 d2) (b2:mle (QE g2 (.cells v2.toArray E2 (0,0))) (wm W)) (e0:d0 < d1.2.2.length):Qg Tryz.prog 58 [.int .i64 (d0:Int),.pointer (some ⟨g1,0,none⟩),.pointer (some ⟨g2,0,none⟩)] W (Qr) (fun v m'=>v= .bool (geK d1.2.2 d2 d0)):=by
 have hrb1:=h1
 obtain ⟨p1_A2,p1_c2,rfl,p1_0,p1_1,p1_2⟩:=ZF (x0:=d1.1) (x1:=d1.2.1) (x2:=d1.2.2) h1
 simp only [inK] at p1_0 p1_1
 have p1_r2:=Rd.room p1_2
 have hceb1:Jn (wm W) g1 0 3 [Value.int .i64 (d1.1),Value.int .i64 (d1.2.1),Value.slice p1_A2 (d1.2.2.length) (p1_c2)]:=(Qa rfl rfl).mono b1
 have hrb2:=h2
 obtain ⟨rfl,_⟩:=h2
 have hceb2:Jn (wm W) g2 0 1 [str (d2)]:=(Qa rfl rfl).mono b2
 refine Qg.ofA (n:=13) Tryz.func58 rfl rfl rfl ?_
 refine VC.rs (VO.as (VO.k4 0 1 2 4 (VC.seq ?_)))
 refine VC.regD _ 7 [(0,true),(1,true),(2,true),(3,true),(4,true),(5,true),(6,true)] follows (by kernel_rfl) (fun _ h=>h.sub [0]) ?_
 refine VD.z rfl (.fa rfl Jl rfl) ?_
 refine VD.z rfl (.ld1 0 rfl YY rfl (hceb1.at1 (j:=2) rfl)) ?_
 refine VD.z rfl (.mv rfl) ?_
 obtain ⟨x1,hx1⟩:∃ z_,(d1.2.2)[d0]? =some z_:=⟨_,List.getElem?_eq_getElem bd⟩
 obtain ⟨gg1,oo1,ec1,ea1,hce1,hre1⟩:=p1_2.elem hx1
 cases ea1
 obtain ⟨rfl,q1_1,q1_2⟩:=JA (x0:=x1.1) (x1:=x1.2.1) (x2:=x1.2.2) hre1
 simp only [maxLen] at q1_1
 simp only [maxLen] at q1_2
 refine VD.z rfl (.ixI d0 rfl rfl Ji rfl bd) ?_
 refine VD.z rfl (.fa rfl JM rfl) ?_
 refine VD.z rfl (.ld1 0 rfl tk9 rfl (hce1.at1 (j:=1) rfl)) ?_
 refine VD.z rfl (.ld1 0 rfl tk9 rfl hceb2) ?_
 refine VD.nil rfl ?_ rfl
 refine VO.z (.sgeq rfl rfl) (VO.as (VO.k4 0 1 2 4 (Qj (VC.ret ?_))))
 exact Xz 4 rfl (by first | rfl | (exact congrArg Value.bool (by unfold geK;rw [QkU ‹d1.2.2[d0]? =some _›])))
theorem QjW (W:World) {g0:Nat} {E0:TypeId} {d0:Qhh} {b0_2:Value} (hm:mle (QE g0 (.cells [(.pointer (d0.1.map fun g=>⟨g,0,none⟩):Value),.bool d0.2.1,b0_2].toArray E0 (0,0))) (wm W)) (h0_2:Rd (.sl ZL) (JY (wm W) (QE g0 (.cells [(.pointer (d0.1.map fun g=>⟨g,0,none⟩):Value),.bool d0.2.1,b0_2].toArray E0 (0,0)))) [b0_2] d0.2.2):Qg Tryz.prog 42 [.pointer (some ⟨g0,0,none⟩)] W (QE g0 (.cells [(.pointer (d0.1.map fun g=>⟨g,0,none⟩):Value),.bool d0.2.1,b0_2].toArray E0 (0,0))) (fun v m'=>v= .bool (decide (d0.1=none))∧m'=QE g0 (.cells [(.pointer (d0.1.map fun g=>⟨g,0,none⟩):Value),.bool d0.2.1,b0_2].toArray E0 (0,0))):=by
 obtain ⟨A0_2,c0_2,rfl,l0_2,k0_2⟩:=h0_2.slc
 refine Qg.ofB (n:=12) hm Tryz.func42 rfl rfl rfl ?_
 refine VC.rs (VO.as (VO.k2 0 2 (VC.rs (VO.mv ?_))))
 refine VO.z (.pnil rfl rfl Tryz.underlying31 rfl) ?_
 refine VO.mv (VO.w (.mv rfl) (VO.w (.nilp rfl) (VO.w (.fa rfl QaJ rfl) (VO.w (.ld1 1 rfl Qji rfl (Qa rfl rfl)) ?_))))
 refine VO.w (.pnilO rfl rfl Tryz.underlying27) ?_
 refine VO.z (.pF rfl rfl) (VO.as (VO.k2 0 2 (VC.ret ?_)))
 refine Yz 2 [1] fun hS_=>?_
 dsimp only [Qv]
 refine ⟨?_,?_⟩
 rotate_left
 ·rw [Zp]
 all_goals (first | rfl | (simp [*];done))
set_option maxHeartbeats 4000000 in
theorem QjX (W:World) {g0:Nat} {E0:TypeId} {d0:Qhh} {b0_2:Value} (hm:mle (QE g0 (.cells [(.pointer (d0.1.map fun g=>⟨g,0,none⟩):Value),.bool d0.2.1,b0_2].toArray E0 (0,0))) (wm W)) (h0_2:Rd (.sl ZL) (JY (wm W) (QE g0 (.cells [(.pointer (d0.1.map fun g=>⟨g,0,none⟩):Value),.bool d0.2.1,b0_2].toArray E0 (0,0)))) [b0_2] d0.2.2) (d1:List UInt8) (h1:d1.length≤maxLen) (e0:okU d0.2.2) (e1:¬ d0.1=none):Qg Tryz.prog 18 [.pointer (some ⟨g0,0,none⟩),str d1] W (QE g0 (.cells [(.pointer (d0.1.map fun g=>⟨g,0,none⟩):Value),.bool d0.2.1,b0_2].toArray E0 (0,0))) (fun v m'=>v= .tuple #[str ((QgX d0.2.2 d1).1),.bool ((QgX d0.2.2 d1).2.1),.bool ((QgX d0.2.2 d1).2.2)]∧m'=QE g0 (.cells [(.pointer (d0.1.map fun g=>⟨g,0,none⟩):Value),.bool d0.2.1,b0_2].toArray E0 (0,0))):=by
 have hll:=Y3 e0
 obtain ⟨A0_2,c0_2,rfl,l0_2,k0_2⟩:=h0_2.slc
 have h1':=h1;simp only [maxLen] at h1'
 refine Qg.ofX (n:=51) Tryz.func18 rfl rfl rfl hm ?_
 refine VX.rs ?_
 refine VO.box (cs:=[str (d1)]) 102 rfl rfl rfl (fun g1=>?_)
 refine VO.alloc 104 rfl tz9 (fun g3=>?_)
 refine VO.alloc 106 rfl tz4 (fun g5=>?_)
 refine VO.alloc 108 rfl tz4 (fun g7=>?_)
 refine VO.k6 0 1 3 4 5 6 ?_
 refine VX.seq ?_
 refine VX.rs ?_
 refine VO.mv ?_
 refine VO.call 1 rfl QiV rfl rfl (fun W hW=>QjW W (d0:=d0) (hW.t 1) (Rd.mono h0_2 (hW.o 1 0))) (fun v9 m9 hv9=>?_)
 obtain ⟨rfl,rfl⟩:=hv9
 refine VO.k7 0 1 3 4 5 6 11 ?_
 refine VX.cond rfl (fun hc10=>?_) (fun hc10=>?_)
 exact (e1 hc10).elim
 refine VX.skip ?_
 refine Qj ?_
 refine VX.seq ?_
 refine VX.rs ?_
 refine VO.mv (VO.z (.nilp rfl) (VO.z (.fa rfl QaJ rfl) (VO.z (.ld1 1 rfl Qhk rfl (Qa rfl rfl)) ?_)))
 refine VO.callN 111 rfl fnOk56 rfl (fun W_ hW_=>bw_ok W_ (mf:=JY (wm W) (QE g0 (.cells [Value.pointer ((d0.1).map fun g=>⟨g,0,none⟩),Value.bool d0.2.1,Value.slice A0_2 (d0.2.2.length) (c0_2)].toArray E0 (0,0)))) (hW_.at (i:=0) rfl) h0_2) (fun v11 m11 hv11=>?_)
 obtain ⟨ca11,rfl,hit11⟩:=hv11
 refine VO.p7 111 1 108 106 104 102 0 (VO.k8 0 1 3 4 5 6 11 16 ?_)
 refine VX.block ?_
 refine VX.gather (l:=[QE g7 (.cells [Value.bool false].toArray 4 (0,0)),QE g5 (.cells [Value.bool false].toArray 4 (0,0)),QE g3 (.cells [str ([])].toArray 9 (0,0))]) 113 [108,106,104] rfl (fun hg12=>?_)
 refine VX.inv [(111,m11),(113,Zv [QE g7 (.cells [Value.bool false].toArray 4 (0,0)),QE g5 (.cells [Value.bool false].toArray 4 (0,0)),QE g3 (.cells [str ([])].toArray 9 (0,0))]),(1,QE g0 (.cells [Value.pointer ((d0.1).map fun g=>⟨g,0,none⟩),Value.bool d0.2.1,Value.slice A0_2 (d0.2.2.length) (c0_2)].toArray E0 (0,0))),(102,QE g1 (.cells [str (d1)].toArray 9 (0,0))),(0,JY (wm W) (QE g0 (.cells [Value.pointer ((d0.1).map fun g=>⟨g,0,none⟩),Value.bool d0.2.1,Value.slice A0_2 (d0.2.2.length) (c0_2)].toArray E0 (0,0))))] (fun _ h=>h.sub [111,113,1,102,0]) ?_
 refine VX.rangeR (A:=Int) (G:=(List UInt8) × Bool × Bool) (rest:=[(1,QE g0 (.cells [Value.pointer ((d0.1).map fun g=>⟨g,0,none⟩),Value.bool d0.2.1,Value.slice A0_2 (d0.2.2.length) (c0_2)].toArray E0 (0,0))),(102,QE g1 (.cells [str (d1)].toArray 9 (0,0))),(0,JY (wm W) (QE g0 (.cells [Value.pointer ((d0.1).map fun g=>⟨g,0,none⟩),Value.bool d0.2.1,Value.slice A0_2 (d0.2.2.length) (c0_2)].toArray E0 (0,0))))]) 113 111 114 115 116 117 (fun g=>Zv [QE g7 (.cells [Value.bool (g.2.2)].toArray 4 (0,0)),QE g5 (.cells [Value.bool (g.2.1)].toArray 4 (0,0)),QE g3 (.cells [str ((g.1))].toArray 9 (0,0))]) (fun at_ g=>(QgZ d0.2.2 d1 at_)∧(Qu (Zv [QE g7 (.cells [Value.bool (g.2.2)].toArray 4 (0,0)),QE g5 (.cells [Value.bool (g.2.1)].toArray 4 (0,0)),QE g3 (.cells [str ((g.1))].toArray 9 (0,0))]) [QE g7 (.cells [Value.bool (g.2.2)].toArray 4 (0,0)),QE g5 (.cells [Value.bool (g.2.1)].toArray 4 (0,0)),QE g3 (.cells [str ((g.1))].toArray 9 (0,0))])) (fun e g=>e= .ret∧(QgX d0.2.2 d1=((g.1),(g.2.1),(g.2.2)))∧(Qu (Zv [QE g7 (.cells [Value.bool (g.2.2)].toArray 4 (0,0)),QE g5 (.cells [Value.bool (g.2.1)].toArray 4 (0,0)),QE g3 (.cells [str ((g.1))].toArray 9 (0,0))]) [QE g7 (.cells [Value.bool (g.2.2)].toArray 4 (0,0)),QE g5 (.cells [Value.bool (g.2.1)].toArray 4 (0,0)),QE g3 (.cells [str ((g.1))].toArray 9 (0,0))])) ([],false,false) ⟨by exact Qn1 _ _,hg12⟩ (fun _ _=>hit11) (.inr ⟨0,(.tail _ (.tail _ (.head _)))⟩) rfl rfl rfl (fun _ _ _ h=>by obtain ⟨_,_,_,_,_,_,rfl,_⟩:=h;rfl) (Bx:=Nat) (fun args B=>[(8,Value.pointer (some ⟨B,0,none⟩)),(0,Value.pointer (some ⟨g0,0,none⟩)),(1,str (d1)),(3,Value.pointer (some ⟨g1,0,none⟩)),(4,Value.pointer (some ⟨g3,0,none⟩)),(5,Value.pointer (some ⟨g5,0,none⟩)),(6,Value.pointer (some ⟨g7,0,none⟩)),(11,Value.bool (decide (d0.1=none)))]) (fun args B=>[(118,QE B (.cells (aggC (args.getD 1 undef)) 38 (0,0)))]) ?_ ?_ ?_ ?_
 · intro w1_ lr_ at_ args_ mr_ Ω_ hE_
   obtain ⟨hE0_,hE1_,rfl,x_,cs_,hxa_,rfl,hrx_⟩:=hE_
   have hrx0_:=hrx_
   obtain ⟨xA_,xc_,rfl,hxf_,hxu_,hro_⟩:=ZF (x0:=x_.1) (x1:=x_.2.1) (x2:=x_.2.2) hrx_
   simp only [inK] at hxf_ hxu_
   have hxr_:=Rd.room hro_
   have hxc_:=JV (Qa9 e0 x_ (List.mem_of_getElem? hxa_))
   have hup_:=hxc_.2.2.2.2
   refine VX.reg ?_
   refine VO.alloc 118 rfl X6 (fun gB_=>?_)
   refine VO.store (k:=3) (c':=[.int .i64 (x_.1),.int .i64 (x_.2.1),.slice xA_ (x_.2.2.length) (xc_)]) 118 rfl rfl (.inl Yx) rfl rfl rfl rfl rfl ?_
   refine VO.nil ?_
   exact ⟨rfl,rfl,gB_,esn,fun W_ hW_=>Inv.rot hW_⟩
 rintro w1_ lr_ Dr_ at_ ⟨val,met,th⟩ args_ mr_ ml_ mo_ gB_ ⟨hg,hSep_⟩ hE_
 replace hg:QgZ d0.2.2 d1 at_:=hg
 replace hSep_:Qu (Zv [QE g7 (.cells [Value.bool th].toArray 4 (0,0)),QE g5 (.cells [Value.bool met].toArray 4 (0,0)),QE g3 (.cells [str (val)].toArray 9 (0,0))]) [QE g7 (.cells [Value.bool th].toArray 4 (0,0)),QE g5 (.cells [Value.bool met].toArray 4 (0,0)),QE g3 (.cells [str (val)].toArray 9 (0,0))]:=hSep_
 obtain ⟨hE0_,hE1_,rfl,x_,cs_,hxa_,rfl,hrx_⟩:=hE_
 have hrx0_:=hrx_
 obtain ⟨xA_,xc_,rfl,hxf_,hxu_,hro_⟩:=ZF (x0:=x_.1) (x1:=x_.2.1) (x2:=x_.2.2) hrx_
 simp only [inK] at hxf_ hxu_
 have hxr_:=Rd.room hro_
 have hxc_:=JV (Qa9 e0 x_ (List.mem_of_getElem? hxa_))
 have hup_:=hxc_.2.2.2.2
 refine VX.parts 113 [108,106,104] rfl hSep_ ?_
 show VX _ _ _ _ _ _ _ [(8,.pointer (some ⟨gB_,0,none⟩)),(0,.pointer (some ⟨g0,0,none⟩)),(1,str (d1)),(3,.pointer (some ⟨g1,0,none⟩)),(4,.pointer (some ⟨g3,0,none⟩)),(5,.pointer (some ⟨g5,0,none⟩)),(6,.pointer (some ⟨g7,0,none⟩)),(11,.bool (decide (d0.1=none)))] [(108,QE g7 (.cells #[.bool th] 4 (0,0))),(106,QE g5 (.cells #[.bool met] 4 (0,0))),(104,QE g3 (.cells #[str (val)] 9 (0,0))),(116,Qr),(117,mo_),(115,ml_),(114,QE Dr_ (.deferred (some []))),(1,QE g0 (.cells #[.pointer ((d0.1).map fun g=>⟨g,0,none⟩),.bool d0.2.1,.slice A0_2 (d0.2.2.length) (c0_2)] E0 (0,0))),(102,QE g1 (.cells #[str (d1)] 9 (0,0))),(0,JY (wm W) (QE g0 (.cells #[.pointer ((d0.1).map fun g=>⟨g,0,none⟩),.bool d0.2.1,.slice A0_2 (d0.2.2.length) (c0_2)] E0 (0,0)))),(118,QE gB_ (.cells #[.int .i64 (x_.1),.int .i64 (x_.2.1),.slice xA_ (x_.2.2.length) (xc_)] 38 (0,0)))]
 refine VX.block ?_
 refine VX.rs ?_
 refine VO.z (.fa rfl Jl rfl) (VO.z (.ld1 118 rfl YY rfl (Qa rfl rfl)) (VO.z (.lenS rfl Ji) (VO.z (.mkf rfl) ?_)))
 refine VO.callN 119 rfl fnOk57 rfl (fun W_ hW_=>Qkc (p1:=geK x_.2.2 d1) W_ x_.2.2.length bd fnOk58 (fun W2_ hW2_ i_ hi_=>Qn2 W2_ i_ Qx (d1:=x_) (Rd.mono hrx_ ((hW_.at (i:=0) rfl).trans hW2_)) ((hW_.at (i:=118) rfl).trans hW2_) (d2:=d1) (v2:=[str d1]) ⟨rfl,h1⟩ ((hW_.at (i:=102) rfl).trans hW2_) hi_) Qx) (fun v19 m19 hv19=>?_)
 obtain ⟨kq19,rfl,hq1_19,hq2_19,hq3_19⟩:=hv19
 refine VO.as (VO.k9 0 1 3 4 5 6 8 9 11 ?_)
 refine VX.seq ?_
 refine VX.regD _ 13 [(0,true),(1,true),(2,true),(3,true),(4,true),(5,true),(6,true),(7,true),(8,true),(9,true),(10,true),(11,true),(12,true)] follows (by kernel_rfl) (fun _ h=>h.sub [119,108,106,104,116,117,115,114,1,102,0,118]) ?_
 refine VD.z rfl (.mv rfl) (VD.z rfl (.fa rfl Jl rfl) (VD.z rfl (.ld1 118 rfl YY rfl (Qa rfl rfl)) (VD.z rfl (.lenS rfl Ji) (VD.z rfl (.lss rfl rfl) (VD.z rfl (.mv rfl) ?_)))))
 refine VD.dec (s:=29) rfl (fun hc20=>?_) (fun hc20=>?_)
 refine VD.w rfl (.fa rfl Jl rfl) (VD.w rfl (.ld1 118 rfl YY rfl (Qa rfl rfl)) (VD.w rfl (.mv rfl) ?_))
 obtain ⟨x21,hx21⟩:∃ z_,(x_.2.2)[kq19]? =some z_:=⟨_,List.getElem?_eq_getElem bd⟩
 obtain ⟨gg21,oo21,ec21,ea21,hce21,hre21⟩:=hro_.elem hx21
 cases ea21
 obtain ⟨rfl,q21_1,q21_2⟩:=JA (x0:=x21.1) (x1:=x21.2.1) (x2:=x21.2.2) hre21
 simp only [maxLen] at q21_1
 simp only [maxLen] at q21_2
 refine VD.w rfl (.ixI kq19 rfl rfl Ji rfl bd) ?_
 refine VD.w rfl (.fa rfl JM rfl) ?_
 refine VD.w rfl (.ld1 0 rfl tk9 rfl (hce21.at1 (j:=1) rfl)) ?_
 refine VD.w rfl (.ld1 102 rfl tk9 rfl (Qa rfl rfl)) ?_
 refine VD.nil rfl ?_ rfl
 refine VO.w (.seql rfl rfl) (VO.z (.pT rfl rfl) (VO.k10 0 1 3 4 5 6 8 9 11 38 (Qj ?_)))
 refine VX.cond rfl (fun hc22=>?_) (fun hc22=>?_)
 refine VX.seq ?_
 refine VX.inv _ (fun _ h=>Inv.num h 106 2106 rfl) ?_
 refine VX.inv _ (fun _ h=>Inv.num h 104 2104 rfl) ?_
 refine VX.regD _ 14 [(0,true),(1,true),(2,true),(3,true),(4,true),(5,true),(6,true),(7,true),(8,true),(9,true),(10,true),(11,true),(12,false),(13,false)] follows (by kernel_rfl) (fun _ h=>h.sub [119,108,2106,2104,116,117,115,114,1,102,0,118]) ?_
 refine VD.z rfl (.fa rfl Jl rfl) (VD.z rfl (.ld1 118 rfl YY rfl (Qa rfl rfl)) (VD.z rfl (.mv rfl) ?_))
 refine VD.z rfl (.ixI kq19 rfl rfl Ji rfl bd) ?_
 refine VD.z rfl (.fa rfl JM rfl) ?_
 refine VD.z rfl (.ld1 0 rfl tk9 rfl (hce21.at1 (j:=2) rfl)) ?_
 refine VD.z rfl (.fa rfl Jl rfl) (VD.z rfl (.ld1 118 rfl YY rfl (Qa rfl rfl)) (VD.z rfl (.mv rfl) ?_))
 refine VD.z rfl (.ixI kq19 rfl rfl Ji rfl bd) ?_
 refine VD.z rfl (.fa rfl JM rfl) ?_
 refine VD.z rfl (.ld1 0 rfl tk4 rfl (hce21.at1 (j:=0) rfl)) ?_
 refine VD.storeH (k:=1) (c':=[str (x21.2.2)]) 2104 rfl rfl rfl (.inr ⟨tk9,rfl⟩) rfl rfl rfl rfl rfl (fun _ h=>h.sub [119,108,116,117,115,114,1,102,0,118]) ?_
 refine VD.storeH (k:=1) (c':=[Value.bool true]) 2106 rfl rfl rfl (.inr ⟨tk4,rfl⟩) rfl rfl rfl rfl rfl (fun _ h=>h.sub [119,108,116,117,115,114,1,102,0,118]) ?_
 refine VD.nil rfl ?_ rfl
 refine VO.store (k:=1) (c':=[.bool x21.1]) 108 rfl rfl (.inr ⟨tk4,rfl⟩) rfl rfl rfl rfl rfl ?_
 refine VO.kp [108,2106,2104,117,115,114,1,102,0,118] [(108,QE g7 (.cells #[.bool x21.1] 4 (0,0))),(2106,QE g5 (.cells #[.bool true] 4 (0,0))),(2104,QE g3 (.cells #[str (x21.2.2)] 9 (0,0))),(117,mo_),(115,ml_),(114,QE Dr_ (.deferred (some []))),(1,QE g0 (.cells #[.pointer ((d0.1).map fun g=>⟨g,0,none⟩),.bool d0.2.1,.slice A0_2 (d0.2.2.length) (c0_2)] E0 (0,0))),(102,QE g1 (.cells #[str (d1)] 9 (0,0))),(0,JY (wm W) (QE g0 (.cells #[.pointer ((d0.1).map fun g=>⟨g,0,none⟩),.bool d0.2.1,.slice A0_2 (d0.2.2.length) (c0_2)] E0 (0,0)))),(118,QE gB_ (.cells #[.int .i64 (x_.1),.int .i64 (x_.2.1),.slice (some ⟨gg21,oo21,none⟩) (x_.2.2.length) (xc_)] 38 (0,0)))] ?_
 refine VO.k10 0 1 3 4 5 6 8 9 11 38 (Qj ?_)
 refine VX.ret ?_
 refine JD ?_
 exact ⟨rfl,fun W_ hW_=>⟨⟨x21.2.2,true,x21.1⟩,(hW_.gather (ids:=[108,2106,2104]) 113 rfl).1.sub [117,115,113,114,1,102,0],.inr ⟨rfl,rfl,by exact QkW hg hE0_ hxa_ (Qod hup_ ‹x_.2.2[kq19]? =some _› Qd),(hW_.gather (ids:=[108,2106,2104]) 113 rfl).2⟩⟩⟩
 refine VX.skip ?_
 refine JE ?_
 exact ⟨rfl,fun W_ hW_=>⟨⟨val,met,th⟩,(hW_.gather (ids:=[108,106,104]) 113 rfl).1.sub [117,115,113,114,1,102,0],.inl ⟨rfl,by exact Qfc hg hE0_ hxa_ (QiY hup_ hq1_19 hq2_19 hq3_19 (by intro y_ hy_;first | (exfalso;have h_:=(List.getElem?_eq_some_iff.1 hy_).1;omega) | (rw [hx21] at hy_;cases hy_;assumption))),(hW_.gather (ids:=[108,106,104]) 113 rfl).2⟩⟩⟩
 refine VD.gN rfl (VD.gN rfl (VD.gN rfl (VD.gN rfl (VD.gN rfl (VD.gN rfl (VD.gN rfl ?_))))))
 refine VD.nil rfl ?_ rfl
 refine VO.gN (VO.z (.pF rfl rfl) (VO.k10 0 1 3 4 5 6 8 9 11 38 (Qj ?_)))
 refine VX.condF rfl ?_
 refine VX.skip ?_
 refine JE ?_
 exact ⟨rfl,fun W_ hW_=>⟨⟨val,met,th⟩,(hW_.gather (ids:=[108,106,104]) 113 rfl).1.sub [117,115,113,114,1,102,0],.inl ⟨rfl,by exact Qfc hg hE0_ hxa_ (QiY hup_ hq1_19 hq2_19 hq3_19 (by intro y_ hy_;first | (exfalso;have h_:=(List.getElem?_eq_some_iff.1 hy_).1;omega) | (rw [hx21] at hy_;cases hy_;assumption))),(hW_.gather (ids:=[108,106,104]) 113 rfl).2⟩⟩⟩
 · rintro Dr_ at_ ⟨val,met,th⟩ ⟨hg,hSep_⟩ hDn_
   replace hg:QgZ d0.2.2 d1 at_:=hg
   replace hSep_:Qu (Zv [QE g7 (.cells [Value.bool th].toArray 4 (0,0)),QE g5 (.cells [Value.bool met].toArray 4 (0,0)),QE g3 (.cells [str (val)].toArray 9 (0,0))]) [QE g7 (.cells [Value.bool th].toArray 4 (0,0)),QE g5 (.cells [Value.bool met].toArray 4 (0,0)),QE g3 (.cells [str (val)].toArray 9 (0,0))]:=hSep_
   refine JE (Qj ?_)
   refine VX.parts 113 [108,106,104] rfl hSep_ ?_
   show VX _ _ _ _ _ _ _ [(0,.pointer (some ⟨g0,0,none⟩)),(1,str (d1)),(3,.pointer (some ⟨g1,0,none⟩)),(4,.pointer (some ⟨g3,0,none⟩)),(5,.pointer (some ⟨g5,0,none⟩)),(6,.pointer (some ⟨g7,0,none⟩)),(11,.bool (decide (d0.1=none))),(16,.func (.func 90) #[] ca11.toArray)] [(108,QE g7 (.cells #[.bool th] 4 (0,0))),(106,QE g5 (.cells #[.bool met] 4 (0,0))),(104,QE g3 (.cells #[str (val)] 9 (0,0))),(114,QE Dr_ (.deferred (some []))),(1,QE g0 (.cells #[.pointer ((d0.1).map fun g=>⟨g,0,none⟩),.bool d0.2.1,.slice A0_2 (d0.2.2.length) (c0_2)] E0 (0,0))),(102,QE g1 (.cells #[str (d1)] 9 (0,0))),(0,JY (wm W) (QE g0 (.cells #[.pointer ((d0.1).map fun g=>⟨g,0,none⟩),.bool d0.2.1,.slice A0_2 (d0.2.2.length) (c0_2)] E0 (0,0))))]
   refine VX.rs ?_
   refine VO.store (k:=1) (c':=[str ([])]) 104 rfl rfl (.inr ⟨tk9,rfl⟩) rfl rfl rfl rfl rfl ?_
   refine VO.store (k:=1) (c':=[.bool false]) 106 rfl rfl (.inr ⟨tk4,rfl⟩) rfl rfl rfl rfl rfl ?_
   refine VO.store (k:=1) (c':=[.bool false]) 108 rfl rfl (.inr ⟨tk4,rfl⟩) rfl rfl rfl rfl rfl ?_
   refine VO.k8 0 1 3 4 5 6 11 16 ?_
   refine VX.ret ?_
   refine ⟨114,rfl,?_⟩
   refine ⟨_,_,Q8 (rs:=[.cell 4 9,.cell 5 4,.cell 6 4]) rfl (.one 104 rfl tk9 rfl ⟨_,_,_,Qq _ _,rfl⟩ (.one 106 rfl tk4 rfl ⟨_,_,_,Qq _ _,rfl⟩ (.one 108 rfl tk4 rfl ⟨_,_,_,Qq _ _,rfl⟩ .nil))),fun W_ hI=>JC (l:=[QE g0 (.cells #[.pointer ((d0.1).map fun g=>⟨g,0,none⟩),.bool d0.2.1,.slice A0_2 (d0.2.2.length) (c0_2)] E0 (0,0))]) hI [1] rfl rfl (Qb _) (fun hS_=>?_)⟩
   dsimp only [Qv]
   refine ⟨?_,?_⟩
   rotate_left
   · rw [Zp]
   all_goals (first | rfl | (first | (rw [hs] <;> first | done | rfl) | (rw [QgY hg hDn_] <;> first | done | rfl)))
 · rintro Dr_ _ ⟨val,met,th⟩ ⟨rfl,hs,hSep_⟩ _
   replace hs:QgX d0.2.2 d1=(val,met,th):=hs
   replace hSep_:Qu (Zv [QE g7 (.cells [Value.bool th].toArray 4 (0,0)),QE g5 (.cells [Value.bool met].toArray 4 (0,0)),QE g3 (.cells [str (val)].toArray 9 (0,0))]) [QE g7 (.cells [Value.bool th].toArray 4 (0,0)),QE g5 (.cells [Value.bool met].toArray 4 (0,0)),QE g3 (.cells [str (val)].toArray 9 (0,0))]:=hSep_
   refine JD (QS ?_)
   refine ⟨114,rfl,?_⟩
   refine ⟨_,_,Q8 (rs:=[.cell 4 9,.cell 5 4,.cell 6 4]) rfl (.one 113 rfl tk9 rfl ⟨_,_,_,hSep_.1 _ (.tail _ (.tail _ (.head _))) _ _ (Qq _ _),rfl⟩ (.one 113 rfl tk4 rfl ⟨_,_,_,hSep_.1 _ (.tail _ (.head _)) _ _ (Qq _ _),rfl⟩ (.one 113 rfl tk4 rfl ⟨_,_,_,hSep_.1 _ (.head _) _ _ (Qq _ _),rfl⟩ .nil))),fun W_ hI=>JC (l:=[QE g0 (.cells #[.pointer ((d0.1).map fun g=>⟨g,0,none⟩),.bool d0.2.1,.slice A0_2 (d0.2.2.length) (c0_2)] E0 (0,0))]) hI [1] rfl rfl (Qb _) (fun hS_=>?_)⟩
   dsimp only [Qv]
   refine ⟨?_,?_⟩
   rotate_left
   · rw [Zp]
   all_goals (first | rfl | (first | (rw [hs] <;> first | done | rfl) | (rw [QgY hg hDn_] <;> first | done | rfl)))
def Z1 (put : Bool) : List DOp → DOp → List DOp
  | [], o => if put then [] else [o]
  | x :: t, o => (if put = false ∧ ¬ kl x.2.1 o.2.1 then [o] else []) ++ ((if ¬ x.2.1 = o.2.1 then [x] else []) ++ Z1 (put || decide (¬ kl x.2.1 o.2.1)) t o)
def XT (t : List DOp) (o : DOp) : List DOp := Z1 false t o
section
variable {t l : List DOp} {o x : DOp} {k : Nat}
theorem Qc0 : ∀ {t : List DOp}, (∀ x ∈ t, ¬ x.2.1 = o.2.1) → Z1 true t o = t
  | [], _ => rfl
  | x :: t, h => by
    rw [Z1, if_neg (fun q => by cases q.1), if_pos (h x (.head _)), Bool.true_or, Qc0 fun y hy => h y (.tail _ hy)]; rfl
theorem QiN (h:kl x.2.1 o.2.1):Z1 false (x::t) o=x::Z1 false t o:=by
 rw [Z1,if_neg (fun q=>q.2 h),if_pos (QhY h),decide_eq_false (not_not_intro h)];rfl
theorem QdG (h:Z4 (x::t)) (hk:¬ kl x.2.1 o.2.1):∀ y∈t,kl o.2.1 y.2.1:=fun y hy=>Qmq hk ((List.pairwise_cons.1 h.2).1 y hy)
theorem QiP (h:Z4 (x::t)) (hk:x.2.1=o.2.1):Z1 false (x::t) o=o::t:=by
 have hn:¬ kl x.2.1 o.2.1:=by rw [hk];exact Y5 _
 rw [Z1,if_pos ⟨rfl,hn⟩,if_neg (not_not_intro hk),decide_eq_true hn,Bool.or_true,Qc0 fun y hy e=>QhY (QdG h hn y hy) e.symm];rfl
theorem QiO (h:Z4 (x::t)) (hk:¬ kl x.2.1 o.2.1) (hne:¬ x.2.1=o.2.1):Z1 false (x::t) o=o::x::t:=by
 rw [Z1,if_pos ⟨rfl,hk⟩,if_pos hne,decide_eq_true hk,Bool.or_true,Qc0 fun y hy e=>QhY (QdG h hk y hy) e.symm];rfl
theorem Qdu (h:Z4 (x::t)):Z4 t:=⟨fun y hy=>h.1 y (.tail _ hy),(List.pairwise_cons.1 h.2).2⟩
theorem Qdw (hc:Jg x=0) (h:Z4 t) (hl:∀ y∈t,kl x.2.1 y.2.1):Z4 (x::t):=⟨fun y hy=>by
 rcases List.mem_cons.1 hy with rfl | hy
 ·exact hc
 ·exact h.1 y hy,List.pairwise_cons.2 ⟨hl,h.2⟩⟩
theorem QfQ : ∀ {t : List DOp}, Z4 t → Jg o = 0 → Z4 (XT t o) ∧ (XT t o).length ≤ t.length + 1 ∧ ∀ y ∈ XT t o, y = o ∨ y ∈ t
  | [], h, hc => ⟨Qdw hc QdO (fun y hy => by cases hy), Nat.le_refl _, fun y hy => .inl (by simpa [XT, Z1] using hy)⟩
  | x :: t, h, hc => by
    have hx := h.1 x (.head _)
    by_cases hk : kl x.2.1 o.2.1
    · obtain ⟨i1, i2, i3⟩ := QfQ (Qdu h) hc
      have e : XT (x :: t) o = x :: XT t o := QiN hk
      rw [e]
      refine ⟨Qdw hx i1 fun y hy => ?_, by simp only [List.length_cons]; omega, fun y hy => ?_⟩
      · rcases i3 y hy with rfl | hy
        · exact hk
        · exact (List.pairwise_cons.1 h.2).1 y hy
      · rcases List.mem_cons.1 hy with rfl | hy
        · exact .inr (.head _)
        · exact (i3 y hy).imp id (.tail _)
    · by_cases hq : x.2.1 = o.2.1
      · have e : XT (x :: t) o = o :: t := QiP h hq
        rw [e]
        exact ⟨Qdw hc (Qdu h) (QdG h hk), by simp, fun y hy => (List.mem_cons.1 hy).imp id (.tail _)⟩
      · have e : XT (x :: t) o = o :: x :: t := QiO h hk hq
        rw [e]
        refine ⟨Qdw hc h fun y hy => ?_, by simp, fun y hy => (List.mem_cons.1 hy).imp id id⟩
        rcases List.mem_cons.1 hy with rfl | hy
        · exact kl_of hk (fun q => hq q.symm)
        · exact QdG h hk y hy
theorem Qcd {out:List DOp} {put:Bool} (h:XT t o=out++Z1 put (t.drop k) o) (hx:t[k]? =some x):XT t o=out++((if put=false∧¬ kl x.2.1 o.2.1 then [o] else [])++((if ¬ x.2.1=o.2.1 then [x] else [])++Z1 (put || decide (¬ kl x.2.1 o.2.1)) (t.drop (k+1)) o)):=by
 rw [h,QaB hx,Z1]
def Qai (t : List DOp) (o : DOp) : List DOp := if Jg o = 0 then XT t o else t
def Qf (l : List DOp) : List DOp := l.foldl Qai []
theorem Qhz (hx:l[k]? =some x):Qf (l.take (k+1))=Qai (Qf (l.take k)) x:=by
 unfold Qf;rw [Yq hx,List.foldl_append];rfl
theorem Qgw : ∀ {l t : List DOp}, Z4 t → Z4 (l.foldl Qai t) ∧ (l.foldl Qai t).length ≤ t.length + l.length
  | [], t, h => ⟨h, Nat.le_refl _⟩
  | o :: l, t, h => by
    have h1 : Z4 (Qai t o) ∧ (Qai t o).length ≤ t.length + 1 := by
      unfold Qai; split
      · rename_i hc; exact ⟨(QfQ h hc).1, (QfQ h hc).2.1⟩
      · exact ⟨h, by omega⟩
    obtain ⟨a, b⟩ := Qgw (l := l) h1.1
    exact ⟨a, by rw [List.foldl_cons, List.length_cons]; omega⟩
theorem QdY (l:List DOp):Z4 (Qf l)∧(Qf l).length≤l.length:=by
 have:=Qgw (l:=l) QdO
 exact ⟨this.1,by have:=this.2;simp only [List.length_nil,Nat.zero_add] at this;exact this⟩
end
abbrev Q3 : Ty := .pair .bool (.sl TOp)
abbrev JG := Bool × (List DOp)
instance Qmx : DecidableEq JG := (@instDecidableEqProd _ _ inferInstance inferInstance)
theorem Qdr {m:Mem} {cs:List Value} {x0:Bool} {x1:List DOp} (h:Ow Q3 m cs (x0,x1)):∃ (A1:Option Addr),∃ (c1:Nat),∃ (n1:Mem),cs=[(.bool x0:Value),.slice A1 x1.length c1]∧Qu m [n1]∧Ow (.sl TOp) n1 [.slice A1 x1.length c1] x1:=by
 obtain ⟨p1,q1,ma1,mb1,rfl,dj1,la1,lb1,u1,w1⟩:=Ow.pair h
 obtain rfl:=(show _=_ from u1)
 have z3:=w1
 obtain ⟨A3,c3,rfl,_⟩:=Ow.slice1 w1
 exact ⟨A3,c3,_,rfl,(Qu.app dj1 la1 lb1 (Qu.nil _) (Qu.one (Qb _))),z3⟩
theorem QeD {m:Mem} {n1:Mem} (x0:Bool) (x1:List DOp) (hS:Qu m [n1]) {v1:Value} (h1:Ow (.sl TOp) n1 [v1] x1):Ow Q3 m [.bool x0,v1] (x0,x1):=by
 obtain ⟨e1,la1,lb1,Sa1,Sb1⟩:=Qu.cut (l:=[]) (r:=[n1]) hS
 exact (Ow.mkPair (c1:=[_]) e1 la1 lb1 (show Ow .bool _ [_] _ from rfl) (h1.up (Sb1.1 _ (.head _))))
theorem QaT {m:Mem} {cs:List Value} {g:Nat} {x0:Bool} {x1:List DOp} (h:Ow (.ptr Q3) m cs (g,(x0,x1))):∃ (E:TypeId),∃ (A1:Option Addr),∃ (c1:Nat),∃ (n1:Mem),cs=[.pointer (some ⟨g,0,none⟩)]∧Qu m [QE g (.cells [(.bool x0:Value),.slice A1 x1.length c1].toArray E (0,0)),n1]∧Ow (.sl TOp) n1 [.slice A1 x1.length c1] x1:=by
 obtain ⟨rfl,rc,E,m1,hd,l0,l1,h1⟩:=Ow.opnP h
 obtain ⟨A1,c1,n1,rfl,hS,f1⟩:=Qdr h1
 exact ⟨E,A1,c1,n1,rfl,Qu.app hd l0 l1 (Qu.one (Qb _)) hS,f1⟩
theorem QW {m:Mem} {cs:List Value} {g:Nat} {x:JG} (h:Ow (.ptr Q3) m cs (g,x)):type_of% (QaT (x0:=x.1) (x1:=x.2) h):=QaT (x0:=x.1) (x1:=x.2) h
theorem Xq {m:Mem} {g:Nat} {E:TypeId} {n1:Mem}{v1:Value} (x0:Bool) (x1:List DOp) (hS:Qu m [QE g (.cells [.bool x0,v1].toArray E (0,0)),n1]) (h1:Ow (.sl TOp) n1 [v1] x1):Ow (.ptr Q3) m [.pointer (some ⟨g,0,none⟩)] (g,(x0,x1)):=
 Ow.clsP hS fun hS=>QeD x0 x1 hS h1
theorem Jh {m:Mem} {g:Nat} {E:TypeId} {n1:Mem}{v1:Value} (x:JG) (hS:Qu m [QE g (.cells [.bool x.1,v1].toArray E (0,0)),n1]) (h1:Ow (.sl TOp) n1 [v1] x.2):Ow (.ptr Q3) m [.pointer (some ⟨g,0,none⟩)] (g,x):=Xq (x.1) (x.2) hS h1
def XC (t : JG) (l : List DOp) : JG × Int := if t.1 = false then (t, 1) else if ∀ o ∈ l, Jg o = 0 then ((true, l.foldl XT t.2), 0) else (t, 2)
section
variable {t : JG} {l tl : List DOp} {o x : DOp} {k : Nat}
theorem Qek : ∀ (put : Bool) (t : List DOp), (Z1 put t o).length ≤ t.length + 1
  | put, [] => by unfold Z1; split <;> simp
  | true, x :: t => by
    have := Qek true t
    have h2 : (Z1 true t o).length ≤ t.length := by
      clear this
      induction t with
      | nil => simp [Z1]
      | cons y t ih => rw [Z1, if_neg (fun q => by cases q.1), Bool.true_or]; split <;> (simp only [List.nil_append, List.length_append, List.length_cons, List.length_nil]; omega)
    rw [Z1, if_neg (fun q => by cases q.1), Bool.true_or]; split <;> (simp only [List.nil_append, List.length_append, List.length_cons, List.length_nil]; omega)
  | false, x :: t => by
    rw [Z1]
    by_cases hk : kl x.2.1 o.2.1
    · have := Qek false t
      rw [if_neg (fun q => q.2 hk), decide_eq_false (not_not_intro hk), Bool.false_or]; split <;> (simp only [List.nil_append, List.length_append, List.length_cons, List.length_nil]; omega)
    · have h2 : (Z1 true t o).length ≤ t.length := by
        induction t with
        | nil => simp [Z1]
        | cons y t ih => rw [Z1, if_neg (fun q => by cases q.1), Bool.true_or]; split <;> (simp only [List.nil_append, List.length_append, List.length_cons, List.length_nil]; omega)
      rw [if_pos ⟨rfl, hk⟩, decide_eq_true hk, Bool.or_true]; split <;> (simp only [List.nil_append, List.length_append, List.length_cons, List.length_nil]; omega)
theorem Qim (t:List DOp) (o:DOp):(XT t o).length≤t.length+1:=Qek false t
theorem QdT : ∀ (l t : List DOp), (l.foldl XT t).length ≤ t.length + l.length
  | [], t => Nat.le_refl _
  | o :: l, t => by
    have h1 := Qim t o
    have h2 := QdT l (XT t o)
    rw [List.foldl_cons, List.length_cons]; omega
theorem Qas (h:t.1=true) (hx:l[k]? =some x) (hc:¬ Jg x=0):XC t l=(t,2):=by
 unfold XC;rw [if_neg (by rw [h];decide),if_neg fun q=>hc (q x (List.mem_of_getElem? hx))]
theorem Xi (h:t.1=true) (hc:∀ o∈l,Jg o=0):XC t l=((true,l.foldl XT t.2),0):=by
 unfold XC;rw [if_neg (by rw [h];decide),if_pos hc]
theorem QcJ (t:JG) (l:List DOp):(XC t l).1.2.length≤t.2.length+l.length∧((XC t l).2=0∨(XC t l).2=1∨(XC t l).2=2)∧(XC t l).1.1=t.1:=by
 unfold XC;split
 ·exact ⟨by dsimp only;omega,.inr (.inl rfl),rfl⟩
 ·rename_i h;split
  ·exact ⟨QdT _ _,.inl rfl,by dsimp only;cases hh:t.1 <;> simp_all⟩
  ·exact ⟨by dsimp only;omega,.inr (.inr rfl),rfl⟩
theorem Qj7 (hx:l[k]? =some x):(l.take (k+1)).foldl XT tl=XT ((l.take k).foldl XT tl) x:=by rw [Yq hx,List.foldl_append];rfl
theorem Qor {k:Nat} (ha:∀ o∈l.take k,Jg o=0) (hx:l[k]? =some x) (hc:¬ ¬ Jg x=0):∀ o∈l.take (k+1),Jg o=0:=fun o ho=>by
 rw [Yq hx] at ho
 rcases List.mem_append.1 ho with ho | ho
 ·exact ha o ho
 ·rw [List.mem_singleton.1 ho];exact Decidable.not_not.1 hc
theorem QdZ (h:t.1=true) (hs:t.2=Qf (l.take k)) (hk:k < l.length):(XC t ((l.take (k+1)).drop k)).1.2=Qf (l.take (k+1))∧(XC t ((l.take (k+1)).drop k)).1.1=true:=by
 obtain ⟨x,hx⟩:∃ x,l[k]? =some x:=⟨_,List.getElem?_eq_getElem hk⟩
 have e:(l.take (k+1)).drop k=[x]:=by
  rw [Yq hx,List.drop_append,List.drop_of_length_le (by rw [List.length_take];omega),List.length_take,Nat.min_eq_left (by omega),Nat.sub_self];rfl
 rw [e,Qhz hx,← hs]
 unfold Qai
 by_cases hc:Jg x=0
 ·rw [Xi h (fun o ho=>by rw [List.mem_singleton.1 ho];exact hc),if_pos hc];exact ⟨rfl,rfl⟩
 ·rw [Qas (k:=0) (x:=x) h rfl hc,if_neg hc];exact ⟨rfl,h⟩
section
variable {out : List DOp} {put : Bool} {u : List DOp} {y z : DOp}
theorem QjA (h:XT u o=out++Z1 put (u.drop k) o) (hp:put=false) (hk:¬ kl x.2.1 o.2.1) (hx:u[k]? =some x) (hn:¬ y.2.1=o.2.1) (hy:u[k]? =some y) (hz:u[k]? =some z):XT u o=((out++[o])++[z])++Z1 true (u.drop (k+1)) o  :=by
 obtain rfl:y=z:=Option.some.inj (hy.symm.trans hz)
 obtain rfl:x=y:=Option.some.inj (hx.symm.trans hy)
 rw [Qcd h hx,if_pos ⟨hp,hk⟩,if_pos hn,decide_eq_true hk,Bool.or_true];simp
theorem Qjz (h:XT u o=out++Z1 put (u.drop k) o) (hp:put=false) (hk:¬ kl x.2.1 o.2.1) (hx:u[k]? =some x) (hn:¬ ¬ y.2.1=o.2.1) (hy:u[k]? =some y):XT u o=(out++[o])++Z1 true (u.drop (k+1)) o:=by
 obtain rfl:x=y:=Option.some.inj (hx.symm.trans hy)
 rw [Qcd h hx,if_pos ⟨hp,hk⟩,if_neg hn,decide_eq_true hk,Bool.or_true];simp
theorem Qjy (h:XT u o=out++Z1 put (u.drop k) o) (hp:put=false) (hk:¬ ¬ kl x.2.1 o.2.1) (hx:u[k]? =some x) (hn:¬ y.2.1=o.2.1) (hy:u[k]? =some y) (hz:u[k]? =some z):XT u o=(out++[z])++Z1 put (u.drop (k+1)) o  :=by
 obtain rfl:y=z:=Option.some.inj (hy.symm.trans hz)
 obtain rfl:x=y:=Option.some.inj (hx.symm.trans hy)
 rw [Qcd h hx,if_neg fun q=>hk q.2,if_pos hn,decide_eq_false hk,Bool.or_false];simp
theorem Qjv (hk:¬ ¬ kl x.2.1 o.2.1) (hx:u[k]? =some x) (hn:¬ ¬ y.2.1=o.2.1) (hy:u[k]? =some y):False:=by
 obtain rfl:x=y:=Option.some.inj (hx.symm.trans hy)
 exact QhY (Decidable.not_not.1 hk) (Decidable.not_not.1 hn)
theorem Qjx (h:XT u o=out++Z1 put (u.drop k) o) (hp:put=true) (hn:¬ y.2.1=o.2.1) (hy:u[k]? =some y) (hz:u[k]? =some z):XT u o=(out++[z])++Z1 put (u.drop (k+1)) o  :=by
 obtain rfl:y=z:=Option.some.inj (hy.symm.trans hz)
 subst hp
 rw [Qcd h hy,if_neg (fun q=>by cases q.1),if_pos hn,Bool.true_or];simp
theorem Qjw (h:XT u o=out++Z1 put (u.drop k) o) (hp:put=true) (hn:¬ ¬ y.2.1=o.2.1) (hy:u[k]? =some y):XT u o=out++Z1 put (u.drop (k+1)) o:=by
 subst hp
 rw [Qcd h hy,if_neg (fun q=>by cases q.1),if_neg hn,Bool.true_or];simp
end
end
theorem Qob:JX Tryz.prog 101=true:=by kernel_rfl
theorem Qm4:JX Tryz.prog 78=true:=by kernel_rfl
theorem Qm3:JX Tryz.prog 79=true:=by kernel_rfl
theorem fnOk94:JX Tryz.prog 94=true:=by kernel_rfl
theorem QkZ:JX Tryz.prog 99=true:=by kernel_rfl
theorem Xt:tst Tryz.prog 122=some [(0,1),(1,1)]:=by kernel_rfl
theorem tz122:tz Tryz.prog 122=some [.bool false,.slice none 0 0]:=by kernel_rfl
theorem Qeq:JX Tryz.prog 100=true:=by kernel_rfl
theorem Qin (W:World):Qg Tryz.prog 78 [] W (Qr) (fun v m'=>∃ (s0:Nat),v= .pointer (some ⟨s0,0,none⟩)∧Ow (.ptr Q3) m' [.pointer (some ⟨s0,0,none⟩)] (s0,(true,[]))):=by
 refine Qg.ofA (n:=3) Tryz.func78 rfl rfl rfl ?_
 refine VC.rs (VO.as (VO.k1 0 (VC.rs ?_)))
 refine VO.z (.bst (cs:=[.bool true,.slice none (0) (0)]) rfl Xt tz122 rfl) ?_
 refine VO.box (cs:=[.bool true,.slice none (0) (0)]) 102 rfl rfl rfl (fun g1=>?_)
 refine VO.as (VO.k1 0 (VC.ret ?_))
 refine Yz 0 [102] fun hS_=>?_
 dsimp only [Qv]
 have he0:((true,[]):JG)=(true,[]):=by first | rfl | (simp [*];done)
 refine ⟨g1,?_,?_⟩
 rotate_left
 ·rw [he0];exact (Xq _ _ (Qu.nilAt 1 hS_) (Ow.nil _ _))
 all_goals (first | rfl | (simp [*];done))
theorem QdW (W:World) {m0:Mem} (hm:mle (m0) (wm W)) {g0:Nat} {d0:JG} (h0:Ow (.ptr Q3) m0 [.pointer (some ⟨g0,0,none⟩)] (g0,d0)):Qg Tryz.prog 99 [.pointer (some ⟨g0,0,none⟩)] W (m0) (fun v m'=>v= .bool (decide (d0.1=false))∧Ow (.ptr Q3) m' [.pointer (some ⟨g0,0,none⟩)] (g0,d0)):=by
 refine Qg.ofB (n:=12) hm Tryz.func99 rfl rfl rfl ?_
 refine VC.rs (VO.as (VO.k2 0 2 (VC.rs (VO.mv ?_))))
 refine VO.z (.pnil rfl rfl Tryz.underlying107 rfl) ?_
 refine VO.mv (VO.w (.mv rfl) (VO.w (.nilp rfl) (VO.w (.fa rfl Xt rfl) ?_)))
 obtain ⟨q1_E,q1_A1,q1_c1,q1_n1,_,q1_S,q1_1⟩:=QW h0
 have q1_r1:=q1_1.rm
 refine VO.inv _ (fun _ h=>h.parts (i:=1) rfl q1_S [103,102]) ?_
 refine VO.w (.ld1 103 rfl tk4 rfl (Qa rfl rfl)) (VO.w (.not rfl) (VO.z (.pF rfl rfl) (VO.as ?_)))
 refine VO.clsP 104 [103,102] rfl (fun hg4=>(Jh d0 hg4 q1_1)) (fun mc4 ho4=>?_)
 refine VO.k2 0 2 (VC.ret ?_)
 exact ZA 2 104 rfl ho4 (by first | rfl | (simp [*];done)) (by first | rfl | (first | exact congrArg Value.bool (by simp [*]) | simp [*]))
set_option maxHeartbeats 1000000 in
theorem Ql0 (W:World) {m0:Mem} (hm:mle (m0) (wm W)) {g0:Nat} {d0:JG} (h0:Ow (.ptr Q3) m0 [.pointer (some ⟨g0,0,none⟩)] (g0,d0)) {v1:List Value} {d1:DOp} (h1:Rd TOp (JY (wm W) (m0)) v1 d1) (e0:d0.2.length≤1700000000000):Qg Tryz.prog 101 [.pointer (some ⟨g0,0,none⟩),.agg v1.toArray] W (m0) (fun v m'=>v= .tuple #[]∧Ow (.ptr Q3) m' [.pointer (some ⟨g0,0,none⟩)] (g0,(d0.1,XT d0.2 d1))):=by
 obtain ⟨rfl,p1_1,p1_2⟩:=JA (x0:=d1.1) (x1:=d1.2.1) (x2:=d1.2.2) h1
 simp only [maxLen] at p1_1
 simp only [maxLen] at p1_2
 refine Qg.ofB (n:=66) hm Tryz.func101 rfl rfl rfl ?_
 refine VC.rs ?_
 refine VO.box (cs:=[.bool d1.1,str (d1.2.1),str (d1.2.2)]) 102 rfl rfl rfl (fun g1=>?_)
 refine VO.k3 0 1 3 (VC.rs (VO.as (VO.k4 0 1 3 4 (VC.rs (VO.as (VO.p3 102 0 1 (VO.k5 0 1 3 4 5 (VC.seq (VC.rs (VO.as (VO.k6 0 1 3 4 5 6 ?_)))))))))))
 refine VC.block ?_
 refine VC.inv ((103,Qr)::_) (fun _ h=>h.nilc 103) ?_
 refine VC.loop (G:=Nat × (List DOp) × (Option Addr) × Nat × Mem × Bool × Mem) (fun g=>[(4,.slice (g.2.2.1) ((g.2.1).length) ((g.2.2.2.1))),(5,.bool (g.2.2.2.2.2.1)),(6,.int .i64 ((((g.1):Nat):Int))),(0,.pointer (some ⟨g0,0,none⟩)),(1,.agg [.bool d1.1,str (d1.2.1),str (d1.2.2)].toArray),(3,.pointer (some ⟨g1,0,none⟩))]) (fun g=>[(103,(g.2.2.2.2.1)),(102,QE g1 (.cells #[.bool d1.1,str (d1.2.1),str (d1.2.2)] 73 (0,0))),(0,JY (wm W) (m0)),(1,(g.2.2.2.2.2.2))]) (fun g=>((g.1)≤d0.2.length)∧(XT d0.2 d1=(g.2.1)++Z1 (g.2.2.2.2.2.1) (d0.2.drop (g.1)) d1)∧((g.2.1).length≤2*(g.1))∧(Qz TOp (g.2.2.2.2.1) Qr (.slice (g.2.2.1) (g.2.1).length (g.2.2.2.1)) (g.2.1))∧(Ow (.ptr Q3) (g.2.2.2.2.2.2) [.pointer (some ⟨g0,0,none⟩)] (g0,d0))) (fun g=>d0.2.length - (g.1)) (0,[],none,0,Qr,false,m0) (⟨by omega,by rfl,by simp,(Qz.nil TOp Qr Qr),h0⟩) ⟨esn,fun _ h=>h.sub [103,102,0,1]⟩ ?_
 rintro ⟨k,out,out_A,out_c,out_m,put,t_m⟩ ⟨hk,hg,hlo,h_out,h_t⟩
 replace hk:k≤d0.2.length:=hk
 replace hg:XT d0.2 d1=out++Z1 put (d0.2.drop k) d1:=hg
 replace hlo:out.length≤2*k:=hlo
 replace h_out:Qz TOp out_m Qr (.slice out_A out.length out_c) out:=h_out
 replace h_t:Ow (.ptr Q3) t_m [.pointer (some ⟨g0,0,none⟩)] (g0,d0):=h_t
 show VC _ _ _ _ _ [(4,.slice out_A (out.length) (out_c)),(5,.bool put),(6,.int .i64 (((k:Nat):Int))),(0,.pointer (some ⟨g0,0,none⟩)),(1,.agg [.bool d1.1,str (d1.2.1),str (d1.2.2)].toArray),(3,.pointer (some ⟨g1,0,none⟩))] [(103,out_m),(102,QE g1 (.cells #[.bool d1.1,str (d1.2.1),str (d1.2.2)] 73 (0,0))),(0,JY (wm W) (m0)),(1,t_m)]
 have l_out:out.length≤out_c:=by obtain ⟨_,_,he,hl,_⟩:=h_out.slice;simp only [Value.slice.injEq] at he;omega
 have k_out:out_c≤9223372036854775807:=by obtain ⟨_,_,he,_,hl⟩:=h_out.slice;simp only [Value.slice.injEq,maxLen] at he hl;omega
 refine VC.seq (VC.rs (VO.mv (VO.mv (VO.z (.nilp rfl) (VO.z (.fa rfl Xt rfl) ?_)))))
 obtain ⟨q4_E,q4_A1,q4_c1,q4_n1,_,q4_S,q4_1⟩:=QW h_t
 have q4_r1:=q4_1.rm
 refine VO.inv _ (fun _ h=>h.parts (i:=1) rfl q4_S [106,105]) ?_
 refine VO.z (.ld1 106 rfl YY rfl (Qa rfl rfl)) (VO.z (.lenS rfl Ji) (VO.z (.lss rfl rfl) ?_))
 refine VO.clsP 107 [106,105] rfl (fun hg7=>(Jh d0 hg7 q4_1)) (fun mc7 ho7=>?_)
 refine VO.k7 0 1 3 4 5 6 13 ?_
 refine VC.cond rfl (fun hc8=>?_) (fun hc8=>?_)
 refine VC.skip (Qj (VC.seq (VC.block (VC.seq (VC.seq ?_)))))
 obtain ⟨q9_E,q9_A1,q9_c1,q9_n1,_,q9_S,q9_1⟩:=QW ho7
 have q9_r1:=q9_1.rm
 refine VC.inv _ (fun _ h=>h.parts (i:=107) rfl q9_S [111,110]) ?_
 refine VC.regD _ 13 [(0,true),(1,true),(2,true),(3,true),(4,true),(5,true),(6,true),(7,true),(8,true),(9,true),(10,true),(11,true),(12,true)] follows (by kernel_rfl) (fun _ h=>h.sub [111,110,103,102,0]) ?_
 refine VD.z rfl (.mv rfl) (VD.z rfl (.not rfl) (VD.z rfl (.mv rfl) ?_))
 refine VD.decBN (s:=18) rfl (fun hc12=>?_) (fun hc12=>?_)
 refine VD.w rfl (.mv rfl) (VD.w rfl (.nilp rfl) (VD.w rfl (.fa rfl Xt rfl) (VD.w rfl (.ld1 111 rfl YY rfl (Qa rfl rfl)) (VD.w rfl (.mv rfl) ?_))))
 obtain ⟨x13,hx13⟩:∃ z_,(d0.2)[k]? =some z_:=⟨_,List.getElem?_eq_getElem bd⟩
 obtain ⟨gg13,oo13,ec13,ea13,hce13,hre13⟩:=(Ow.ownl q9_1 rfl Qr).elem hx13
 cases ea13
 obtain ⟨rfl,q13_1,q13_2⟩:=JA (x0:=x13.1) (x1:=x13.2.1) (x2:=x13.2.2) hre13
 simp only [maxLen] at q13_1
 simp only [maxLen] at q13_2
 refine VD.w rfl (.ixI k rfl rfl Ji rfl bd) ?_
 refine VD.w rfl (.fa rfl JM rfl) ?_
 refine VD.w rfl (.ld1 110 rfl tk9 rfl (hce13.at1 (j:=1) rfl)) ?_
 refine VD.w rfl (.fa rfl JM rfl) (VD.w rfl (.ld1 102 rfl tk9 rfl (Qa rfl rfl)) ?_)
 refine VD.nil rfl ?_ rfl
 refine VO.w (.sgeq rfl rfl) (VO.z (.pT rfl rfl) ?_)
 refine VO.clsP 114 [111,110] rfl (fun hg14=>(Jh d0 hg14 q9_1)) (fun mc14 ho14=>?_)
 refine VO.p4 114 103 102 0 (VO.k8 0 1 3 4 5 6 13 30 (Qj ?_))
 refine VC.cond rfl (fun hc15=>?_) (fun hc15=>?_)
 refine VC.rs (VO.mv (VO.z (.ldA 102 rfl YS rfl (Qa rfl rfl)) ?_))
 refine VO.bsl (cs:=[.bool d1.1,str (d1.2.1),str (d1.2.2)]) 117 rfl rfl Ji XB rfl rfl (fun g16=>?_)
 obtain ⟨mo18,cs18,hM18,hA18,hC18⟩:=h_out
 refine VO.app 103 rfl rfl rfl Ji XB rfl rfl hM18 hA18 (.row 117 _ _ _ 1 1 _ _ Tryz.underlying36 rfl (Qa rfl rfl)) (by simp [Value.oneCell']) bdm bd (by decide) (fun v18 m18 hN18=>?_)
 have ho18:Qz TOp m18 Qr v18 (out++[d1]):=Qz.one hC18 hN18 (Rd.flat rfl h1 _)
 obtain ⟨A18,c18,rfl,l18,k18⟩:=ho18.slc
 refine VO.as (VO.k8 0 1 3 4 5 6 13 30 ?_)
 refine VC.reg ?_
 refine VO.as (VO.k8 0 1 3 4 5 6 13 30 (Qj (VC.seq ?_)))
 obtain ⟨q19_E,q19_A1,q19_c1,q19_n1,_,q19_S,q19_1⟩:=QW ho14
 have q19_r1:=q19_1.rm
 refine VC.inv _ (fun _ h=>h.parts (i:=114) rfl q19_S [121,120]) ?_
 refine VC.regD _ 10 [(0,true),(1,true),(2,true),(3,true),(4,true),(5,true),(6,true),(7,true),(8,true),(9,true)] follows (by kernel_rfl) (fun _ h=>h.sub [121,120,117,103,102,0]) ?_
 refine VD.z rfl (.mv rfl) (VD.z rfl (.nilp rfl) (VD.z rfl (.fa rfl Xt rfl) (VD.z rfl (.ld1 121 rfl YY rfl (Qa rfl rfl)) (VD.z rfl (.mv rfl) ?_))))
 obtain ⟨x22,hx22⟩:∃ z_,(d0.2)[k]? =some z_:=⟨_,List.getElem?_eq_getElem bd⟩
 obtain ⟨gg22,oo22,ec22,ea22,hce22,hre22⟩:=(Ow.ownl q19_1 rfl Qr).elem hx22
 cases ea22
 obtain ⟨rfl,q22_1,q22_2⟩:=JA (x0:=x22.1) (x1:=x22.2.1) (x2:=x22.2.2) hre22
 simp only [maxLen] at q22_1
 simp only [maxLen] at q22_2
 refine VD.z rfl (.ixI k rfl rfl Ji rfl bd) ?_
 refine VD.z rfl (.fa rfl JM rfl) ?_
 refine VD.z rfl (.ld1 120 rfl tk9 rfl (hce22.at1 (j:=1) rfl)) ?_
 refine VD.z rfl (.fa rfl JM rfl) (VD.z rfl (.ld1 102 rfl tk9 rfl (Qa rfl rfl)) ?_)
 refine VD.nil rfl ?_ rfl
 refine VO.z (.sneq rfl rfl) ?_
 refine VO.clsP 123 [121,120] rfl (fun hg23=>(Jh d0 hg23 q19_1)) (fun mc23 ho23=>?_)
 refine VO.p4 123 103 102 0 (VO.k9 0 1 3 4 5 6 13 30 45 (Qj ?_))
 refine VC.cond rfl (fun hc24=>?_) (fun hc24=>?_)
 · refine VC.reg ?_
   refine VO.mv (VO.mv (VO.z (.nilp rfl) (VO.z (.fa rfl Xt rfl) ?_)))
   obtain ⟨q25_E,q25_A1,q25_c1,q25_n1,_,q25_S,q25_1⟩:=QW ho23
   have q25_r1:=q25_1.rm
   refine VO.inv _ (fun _ h=>h.parts (i:=123) rfl q25_S [127,126]) ?_
   refine VO.z (.ld1 127 rfl YY rfl (Qa rfl rfl)) (VO.mv ?_)
   obtain ⟨x28,hx28⟩:∃ z_,(d0.2)[k]? =some z_:=⟨_,List.getElem?_eq_getElem bd⟩
   obtain ⟨gg28,oo28,ec28,ea28,hce28,hre28⟩:=(Ow.ownl q25_1 rfl Qr).elem hx28
   cases ea28
   obtain ⟨rfl,q28_1,q28_2⟩:=JA (x0:=x28.1) (x1:=x28.2.1) (x2:=x28.2.2) hre28
   simp only [maxLen] at q28_1
   simp only [maxLen] at q28_2
   refine VO.z (.ixI k rfl rfl Ji rfl bd) ?_
   refine VO.z (.ldA 126 rfl YS rfl hce28) ?_
   refine VO.bsl (cs:=[.bool x28.1,str (x28.2.1),str (x28.2.2)]) 130 rfl rfl Ji XB rfl rfl (fun g29=>?_)
   obtain ⟨mo31,cs31,hM31,hA31,hC31⟩:=ho18
   refine VO.app 103 rfl rfl rfl Ji XB rfl rfl hM31 hA31 (.row 130 _ _ _ 1 1 _ _ Tryz.underlying36 rfl (Qa rfl rfl)) (by simp [Value.oneCell']) bdm bd (by decide) (fun v31 m31 hN31=>?_)
   have ho31:Qz TOp m31 Qr v31 ((out++[d1])++[x28]):=Qz.one hC31 hN31 (Rd.flat rfl hre28 _)
   obtain ⟨A31,c31,rfl,l31,k31⟩:=ho31.slc
   refine VO.as ?_
   refine VO.clsP 132 [127,126] rfl (fun hg32=>(Jh d0 hg32 q25_1)) (fun mc32 ho32=>?_)
   refine VO.k9 0 1 3 4 5 6 13 30 45 (JE (Qj ?_))
   refine VC.reg ?_
   refine VO.mv ?_
   refine VO.z (.add (c:=((k+1:Nat):Int)) rfl rfl Qx ⟨bd,bd⟩) ?_
   refine VO.as (VO.k9 0 1 3 4 5 6 13 30 45 ?_)
   exact Qj ⟨⟨k+1,(out++[d1])++[x28],A31,c31,m31,true,mc32⟩,⟨by omega,by first | exact QjA hg Qd Qd Qd Qd Qd Qd | exact Qjz hg Qd Qd Qd Qd Qd | exact Qjy hg Qd Qd Qd Qd Qd Qd | exact Qjx hg Qd Qd Qd Qd | exact Qjw hg Qd Qd Qd | exact (Qjv Qd Qd Qd Qd).elim,by (simp only [List.length_append,List.length_cons,List.length_nil];omega),ho31,ho32⟩,bd,⟨esn,fun _ h=>Inv.sub (Inv.num h 132 1 rfl) [103,102,0,1]⟩⟩
 refine VC.skip (JE (Qj ?_))
 refine VC.reg ?_
 refine VO.mv ?_
 refine VO.z (.add (c:=((k+1:Nat):Int)) rfl rfl Qx ⟨bd,bd⟩) ?_
 refine VO.as (VO.k9 0 1 3 4 5 6 13 30 45 ?_)
 exact Qj ⟨⟨k+1,out++[d1],A18,c18,m18,true,mc23⟩,⟨by omega,by first | exact QjA hg Qd Qd Qd Qd Qd Qd | exact Qjz hg Qd Qd Qd Qd Qd | exact Qjy hg Qd Qd Qd Qd Qd Qd | exact Qjx hg Qd Qd Qd Qd | exact Qjw hg Qd Qd Qd | exact (Qjv Qd Qd Qd Qd).elim,by (simp only [List.length_append,List.length_cons,List.length_nil];omega),ho18,ho23⟩,bd,⟨esn,fun _ h=>Inv.sub (Inv.num h 123 1 rfl) [103,102,0,1]⟩⟩
 refine VC.skip (Qj (VC.seq ?_))
 obtain ⟨q33_E,q33_A1,q33_c1,q33_n1,_,q33_S,q33_1⟩:=QW ho14
 have q33_r1:=q33_1.rm
 refine VC.inv _ (fun _ h=>h.parts (i:=114) rfl q33_S [135,134]) ?_
 refine VC.regD _ 10 [(0,true),(1,true),(2,true),(3,true),(4,true),(5,true),(6,true),(7,true),(8,true),(9,true)] follows (by kernel_rfl) (fun _ h=>h.sub [135,134,103,102,0]) ?_
 refine VD.z rfl (.mv rfl) (VD.z rfl (.nilp rfl) (VD.z rfl (.fa rfl Xt rfl) (VD.z rfl (.ld1 135 rfl YY rfl (Qa rfl rfl)) (VD.z rfl (.mv rfl) ?_))))
 obtain ⟨x36,hx36⟩:∃ z_,(d0.2)[k]? =some z_:=⟨_,List.getElem?_eq_getElem bd⟩
 obtain ⟨gg36,oo36,ec36,ea36,hce36,hre36⟩:=(Ow.ownl q33_1 rfl Qr).elem hx36
 cases ea36
 obtain ⟨rfl,q36_1,q36_2⟩:=JA (x0:=x36.1) (x1:=x36.2.1) (x2:=x36.2.2) hre36
 simp only [maxLen] at q36_1
 simp only [maxLen] at q36_2
 refine VD.z rfl (.ixI k rfl rfl Ji rfl bd) ?_
 refine VD.z rfl (.fa rfl JM rfl) ?_
 refine VD.z rfl (.ld1 134 rfl tk9 rfl (hce36.at1 (j:=1) rfl)) ?_
 refine VD.z rfl (.fa rfl JM rfl) (VD.z rfl (.ld1 102 rfl tk9 rfl (Qa rfl rfl)) ?_)
 refine VD.nil rfl ?_ rfl
 refine VO.z (.sneq rfl rfl) ?_
 refine VO.clsP 137 [135,134] rfl (fun hg37=>(Jh d0 hg37 q33_1)) (fun mc37 ho37=>?_)
 refine VO.k9 0 1 3 4 5 6 13 30 45 (Qj ?_)
 refine VC.cond rfl (fun hc38=>?_) (fun hc38=>?_)
 · refine VC.reg ?_
   refine VO.mv (VO.mv (VO.z (.nilp rfl) (VO.z (.fa rfl Xt rfl) ?_)))
   obtain ⟨q39_E,q39_A1,q39_c1,q39_n1,_,q39_S,q39_1⟩:=QW ho37
   have q39_r1:=q39_1.rm
   refine VO.inv _ (fun _ h=>h.parts (i:=137) rfl q39_S [141,140]) ?_
   refine VO.z (.ld1 141 rfl YY rfl (Qa rfl rfl)) (VO.mv ?_)
   obtain ⟨x42,hx42⟩:∃ z_,(d0.2)[k]? =some z_:=⟨_,List.getElem?_eq_getElem bd⟩
   obtain ⟨gg42,oo42,ec42,ea42,hce42,hre42⟩:=(Ow.ownl q39_1 rfl Qr).elem hx42
   cases ea42
   obtain ⟨rfl,q42_1,q42_2⟩:=JA (x0:=x42.1) (x1:=x42.2.1) (x2:=x42.2.2) hre42
   simp only [maxLen] at q42_1
   simp only [maxLen] at q42_2
   refine VO.z (.ixI k rfl rfl Ji rfl bd) ?_
   refine VO.z (.ldA 140 rfl YS rfl hce42) ?_
   refine VO.bsl (cs:=[.bool x42.1,str (x42.2.1),str (x42.2.2)]) 144 rfl rfl Ji XB rfl rfl (fun g43=>?_)
   obtain ⟨mo45,cs45,hM45,hA45,hC45⟩:=h_out
   refine VO.app 103 rfl rfl rfl Ji XB rfl rfl hM45 hA45 (.row 144 _ _ _ 1 1 _ _ Tryz.underlying36 rfl (Qa rfl rfl)) (by simp [Value.oneCell']) bdm bd (by decide) (fun v45 m45 hN45=>?_)
   have ho45:Qz TOp m45 Qr v45 (out++[x42]):=Qz.one hC45 hN45 (Rd.flat rfl hre42 _)
   obtain ⟨A45,c45,rfl,l45,k45⟩:=ho45.slc
   refine VO.as ?_
   refine VO.clsP 146 [141,140] rfl (fun hg46=>(Jh d0 hg46 q39_1)) (fun mc46 ho46=>?_)
   refine VO.k9 0 1 3 4 5 6 13 30 45 (JE (Qj ?_))
   refine VC.reg ?_
   refine VO.mv ?_
   refine VO.z (.add (c:=((k+1:Nat):Int)) rfl rfl Qx ⟨bd,bd⟩) ?_
   refine VO.as (VO.p4 146 103 102 0 (VO.k9 0 1 3 4 5 6 13 30 45 ?_))
   exact Qj ⟨⟨k+1,out++[x42],A45,c45,m45,put,mc46⟩,⟨by omega,by first | exact QjA hg Qd Qd Qd Qd Qd Qd | exact Qjz hg Qd Qd Qd Qd Qd | exact Qjy hg Qd Qd Qd Qd Qd Qd | exact Qjx hg Qd Qd Qd Qd | exact Qjw hg Qd Qd Qd | exact (Qjv Qd Qd Qd Qd).elim,by (simp only [List.length_append,List.length_cons,List.length_nil];omega),ho45,ho46⟩,bd,⟨esn,fun _ h=>Inv.sub (Inv.num h 146 1 rfl) [103,102,0,1]⟩⟩
 refine VC.skip (JE (Qj ?_))
 refine VC.reg ?_
 refine VO.mv ?_
 refine VO.z (.add (c:=((k+1:Nat):Int)) rfl rfl Qx ⟨bd,bd⟩) ?_
 refine VO.as (VO.k9 0 1 3 4 5 6 13 30 45 ?_)
 exact Qj ⟨⟨k+1,out,out_A,out_c,out_m,put,mc37⟩,⟨by omega,by first | exact QjA hg Qd Qd Qd Qd Qd Qd | exact Qjz hg Qd Qd Qd Qd Qd | exact Qjy hg Qd Qd Qd Qd Qd Qd | exact Qjx hg Qd Qd Qd Qd | exact Qjw hg Qd Qd Qd | exact (Qjv Qd Qd Qd Qd).elim,by (simp only [List.length_append,List.length_cons,List.length_nil];omega),h_out,ho37⟩,bd,⟨esn,fun _ h=>Inv.sub (Inv.num h 137 1 rfl) [103,102,0,1]⟩⟩
 refine VD.gN rfl (VD.gN rfl (VD.gN rfl (VD.gN rfl (VD.gN rfl (VD.gN rfl (VD.gN rfl (VD.gN rfl (VD.gN rfl (VD.gN rfl ?_)))))))))
 refine VD.nil rfl ?_ rfl
 refine VO.gN (VO.z (.pF rfl rfl) ?_)
 refine VO.clsP 147 [111,110] rfl (fun hg47=>(Jh d0 hg47 q9_1)) (fun mc47 ho47=>?_)
 refine VO.p4 147 103 102 0 (VO.k8 0 1 3 4 5 6 13 30 (Qj (VC.condF rfl (VC.skip (Qj (VC.seq ?_))))))
 obtain ⟨q48_E,q48_A1,q48_c1,q48_n1,_,q48_S,q48_1⟩:=QW ho47
 have q48_r1:=q48_1.rm
 refine VC.inv _ (fun _ h=>h.parts (i:=147) rfl q48_S [150,149]) ?_
 refine VC.regD _ 10 [(0,true),(1,true),(2,true),(3,true),(4,true),(5,true),(6,true),(7,true),(8,true),(9,true)] follows (by kernel_rfl) (fun _ h=>h.sub [150,149,103,102,0]) ?_
 refine VD.z rfl (.mv rfl) (VD.z rfl (.nilp rfl) (VD.z rfl (.fa rfl Xt rfl) (VD.z rfl (.ld1 150 rfl YY rfl (Qa rfl rfl)) (VD.z rfl (.mv rfl) ?_))))
 obtain ⟨x51,hx51⟩:∃ z_,(d0.2)[k]? =some z_:=⟨_,List.getElem?_eq_getElem bd⟩
 obtain ⟨gg51,oo51,ec51,ea51,hce51,hre51⟩:=(Ow.ownl q48_1 rfl Qr).elem hx51
 cases ea51
 obtain ⟨rfl,q51_1,q51_2⟩:=JA (x0:=x51.1) (x1:=x51.2.1) (x2:=x51.2.2) hre51
 simp only [maxLen] at q51_1
 simp only [maxLen] at q51_2
 refine VD.z rfl (.ixI k rfl rfl Ji rfl bd) ?_
 refine VD.z rfl (.fa rfl JM rfl) ?_
 refine VD.z rfl (.ld1 149 rfl tk9 rfl (hce51.at1 (j:=1) rfl)) ?_
 refine VD.z rfl (.fa rfl JM rfl) (VD.z rfl (.ld1 102 rfl tk9 rfl (Qa rfl rfl)) ?_)
 refine VD.nil rfl ?_ rfl
 refine VO.z (.sneq rfl rfl) ?_
 refine VO.clsP 152 [150,149] rfl (fun hg52=>(Jh d0 hg52 q48_1)) (fun mc52 ho52=>?_)
 refine VO.k9 0 1 3 4 5 6 13 30 45 (Qj ?_)
 refine VC.cond rfl (fun hc53=>?_) (fun hc53=>?_)
 · refine VC.reg ?_
   refine VO.mv (VO.mv (VO.z (.nilp rfl) (VO.z (.fa rfl Xt rfl) ?_)))
   obtain ⟨q54_E,q54_A1,q54_c1,q54_n1,_,q54_S,q54_1⟩:=QW ho52
   have q54_r1:=q54_1.rm
   refine VO.inv _ (fun _ h=>h.parts (i:=152) rfl q54_S [156,155]) ?_
   refine VO.z (.ld1 156 rfl YY rfl (Qa rfl rfl)) (VO.mv ?_)
   obtain ⟨x57,hx57⟩:∃ z_,(d0.2)[k]? =some z_:=⟨_,List.getElem?_eq_getElem bd⟩
   obtain ⟨gg57,oo57,ec57,ea57,hce57,hre57⟩:=(Ow.ownl q54_1 rfl Qr).elem hx57
   cases ea57
   obtain ⟨rfl,q57_1,q57_2⟩:=JA (x0:=x57.1) (x1:=x57.2.1) (x2:=x57.2.2) hre57
   simp only [maxLen] at q57_1
   simp only [maxLen] at q57_2
   refine VO.z (.ixI k rfl rfl Ji rfl bd) ?_
   refine VO.z (.ldA 155 rfl YS rfl hce57) ?_
   refine VO.bsl (cs:=[.bool x57.1,str (x57.2.1),str (x57.2.2)]) 159 rfl rfl Ji XB rfl rfl (fun g58=>?_)
   obtain ⟨mo60,cs60,hM60,hA60,hC60⟩:=h_out
   refine VO.app 103 rfl rfl rfl Ji XB rfl rfl hM60 hA60 (.row 159 _ _ _ 1 1 _ _ Tryz.underlying36 rfl (Qa rfl rfl)) (by simp [Value.oneCell']) bdm bd (by decide) (fun v60 m60 hN60=>?_)
   have ho60:Qz TOp m60 Qr v60 (out++[x57]):=Qz.one hC60 hN60 (Rd.flat rfl hre57 _)
   obtain ⟨A60,c60,rfl,l60,k60⟩:=ho60.slc
   refine VO.as ?_
   refine VO.clsP 161 [156,155] rfl (fun hg61=>(Jh d0 hg61 q54_1)) (fun mc61 ho61=>?_)
   refine VO.k9 0 1 3 4 5 6 13 30 45 (JE (Qj ?_))
   refine VC.reg ?_
   refine VO.mv ?_
   refine VO.z (.add (c:=((k+1:Nat):Int)) rfl rfl Qx ⟨bd,bd⟩) ?_
   refine VO.as (VO.p4 161 103 102 0 (VO.k9 0 1 3 4 5 6 13 30 45 ?_))
   exact Qj ⟨⟨k+1,out++[x57],A60,c60,m60,put,mc61⟩,⟨by omega,by first | exact QjA hg Qd Qd Qd Qd Qd Qd | exact Qjz hg Qd Qd Qd Qd Qd | exact Qjy hg Qd Qd Qd Qd Qd Qd | exact Qjx hg Qd Qd Qd Qd | exact Qjw hg Qd Qd Qd | exact (Qjv Qd Qd Qd Qd).elim,by (simp only [List.length_append,List.length_cons,List.length_nil];omega),ho60,ho61⟩,bd,⟨esn,fun _ h=>Inv.sub (Inv.num h 161 1 rfl) [103,102,0,1]⟩⟩
 refine VC.skip (JE (Qj ?_))
 refine VC.reg ?_
 refine VO.mv ?_
 refine VO.z (.add (c:=((k+1:Nat):Int)) rfl rfl Qx ⟨bd,bd⟩) ?_
 refine VO.as (VO.k9 0 1 3 4 5 6 13 30 45 ?_)
 exact Qj ⟨⟨k+1,out,out_A,out_c,out_m,put,mc52⟩,⟨by omega,by first | exact QjA hg Qd Qd Qd Qd Qd Qd | exact Qjz hg Qd Qd Qd Qd Qd | exact Qjy hg Qd Qd Qd Qd Qd Qd | exact Qjx hg Qd Qd Qd Qd | exact Qjw hg Qd Qd Qd | exact (Qjv Qd Qd Qd Qd).elim,by (simp only [List.length_append,List.length_cons,List.length_nil];omega),h_out,ho52⟩,bd,⟨esn,fun _ h=>Inv.sub (Inv.num h 152 1 rfl) [103,102,0,1]⟩⟩
 refine VC.exit (Zc (Zc (Zd (Qj (VC.seq (VC.rs (VO.mv (VO.z (.not rfl) (VO.p4 107 103 102 0 (VO.k8 0 1 3 4 5 6 13 57 ?_))))))))))
 refine VC.condBN rfl (fun hc62=>?_) (fun hc62=>?_)
 · refine VC.reg ?_
   refine VO.mv (VO.z (.ldA 102 rfl YS rfl (Qa rfl rfl)) ?_)
   refine VO.bsl (cs:=[.bool d1.1,str (d1.2.1),str (d1.2.2)]) 164 rfl rfl Ji XB rfl rfl (fun g63=>?_)
   obtain ⟨mo65,cs65,hM65,hA65,hC65⟩:=h_out
   refine VO.app 103 rfl rfl rfl Ji XB rfl rfl hM65 hA65 (.row 164 _ _ _ 1 1 _ _ Tryz.underlying36 rfl (Qa rfl rfl)) (by simp [Value.oneCell']) bdm bd (by decide) (fun v65 m65 hN65=>?_)
   have ho65:Qz TOp m65 Qr v65 (out++[d1]):=Qz.one hC65 hN65 (Rd.flat rfl h1 _)
   obtain ⟨A65,c65,rfl,l65,k65⟩:=ho65.slc
   refine VO.as (VO.k8 0 1 3 4 5 6 13 57 (Qj ?_))
   refine VC.reg ?_
   refine VO.mv (VO.mv (VO.z (.nilp rfl) (VO.z (.fa rfl Xt rfl) ?_)))
   obtain ⟨q66_E,q66_A1,q66_c1,q66_n1,_,q66_S,q66_1⟩:=QW ho7
   have q66_r1:=q66_1.rm
   refine VO.inv _ (fun _ h=>h.parts (i:=107) rfl q66_S [168,167]) ?_
   refine VO.store (k:=1) (c':=[.bool d0.1,.slice A65 ((out++[d1]).length) (c65)]) 168 rfl rfl (.inr ⟨YY,rfl⟩) rfl rfl rfl rfl rfl ?_
   refine VO.k8 0 1 3 4 5 6 13 57 ?_
   refine ⟨_,_,Q8 (rs:=[]) rfl .nil,fun W_ hI=>JC (l:=[QE g0 (.cells #[.bool d0.1,.slice A65 ((out++[d1]).length) (c65)] q66_E (0,0)),m65]) hI [168,103] rfl rfl (Qb _) (fun hS_=>?_)⟩
   dsimp only [Qv]
   have hm0_:((d0.1,XT d0.2 d1):JG)=(d0.1,out++[d1]):=by first | rfl | ((rw [hg,List.drop_of_length_le Qx];simp [Z1, *];done))
   refine ⟨?_,?_⟩
   rotate_left
   · rw [hm0_];exact (Xq _ _ hS_ (Qz.ow ho65 rfl))
   all_goals (first | rfl | (simp [*];done))
 · refine VC.skip (Qj ?_)
   refine VC.reg ?_
   refine VO.mv (VO.mv (VO.z (.nilp rfl) (VO.z (.fa rfl Xt rfl) ?_)))
   obtain ⟨q69_E,q69_A1,q69_c1,q69_n1,_,q69_S,q69_1⟩:=QW ho7
   have q69_r1:=q69_1.rm
   refine VO.inv _ (fun _ h=>h.parts (i:=107) rfl q69_S [171,170]) ?_
   refine VO.store (k:=1) (c':=[.bool d0.1,.slice out_A (out.length) (out_c)]) 171 rfl rfl (.inr ⟨YY,rfl⟩) rfl rfl rfl rfl rfl ?_
   refine VO.k8 0 1 3 4 5 6 13 57 ?_
   refine ⟨_,_,Q8 (rs:=[]) rfl .nil,fun W_ hI=>JC (l:=[QE g0 (.cells #[.bool d0.1,.slice out_A (out.length) (out_c)] q69_E (0,0)),out_m]) hI [171,103] rfl rfl (Qb _) (fun hS_=>?_)⟩
   dsimp only [Qv]
   have hm0_:((d0.1,XT d0.2 d1):JG)=(d0.1,out):=by first | rfl | ((rw [hg,List.drop_of_length_le Qx];simp [Z1, *];done))
   refine ⟨?_,?_⟩
   rotate_left
   · rw [hm0_];exact (Xq _ _ hS_ (Qz.ow h_out rfl))
   all_goals (first | rfl | (simp [*];done))
theorem QeP (W:World) {m0:Mem} (hm:mle (m0) (wm W)) {g0:Nat} {d0:JG} (h0:Ow (.ptr Q3) m0 [.pointer (some ⟨g0,0,none⟩)] (g0,d0)) {v1:Value} {d1:List DOp} (h1:Rd (.sl TOp) (JY (wm W) (m0)) [v1] d1) (e0:d0.1=true) (e1:d0.2.length+d1.length≤1700000000000):Qg Tryz.prog 79 [.pointer (some ⟨g0,0,none⟩),v1] W (m0) (fun v m'=>v= .int .i64 ((XC d0 d1).2)∧Ow (.ptr Q3) m' [.pointer (some ⟨g0,0,none⟩)] (g0,(XC d0 d1).1)):=by
 obtain ⟨A1,c1,rfl,l1,k1⟩:=h1.slc
 refine Qg.ofB (n:=33) hm Tryz.func79 rfl rfl rfl ?_
 refine VC.rs (VO.as (VO.k3 0 1 4 (VC.seq (VC.rs (VO.mv ?_)))))
 refine VO.call 1 rfl QkZ rfl rfl (fun W hW=>QdW W (hW.t 1) h0) (fun v1 m1 hv1=>?_)
 obtain ⟨rfl,w1_0⟩:=hv1
 refine VO.k4 0 1 4 8 ?_
 refine VC.cond rfl (fun hc2=>?_) (fun hc2=>?_)
 rw [e0] at hc2;cases hc2
 refine VC.skip (Qj (VC.seq (VC.rs (VO.as (VO.p2 1 0 (VO.k5 0 1 4 5 8 (VC.block ?_)))))))
 refine VC.loop (G:=Nat) (fun k=>[(5,.int .i64 (((k:Nat):Int))),(0,.pointer (some ⟨g0,0,none⟩)),(1,.slice A1 (d1.length) (c1)),(8,.bool (decide (d0.1=false)))]) (fun k=>[(1,m1),(0,JY (wm W) (m0))]) (fun k=>(k≤d1.length)∧(∀ o∈d1.take k,Jg o=0)) (fun k=>d1.length - k) 0 (⟨by omega,by simp⟩) ⟨esn,fun _ h=>h.sub [1,0]⟩ ?_
 rintro k ⟨hk,ha⟩
 refine VC.seq (VC.rs (VO.mv (VO.mv (VO.z (.lenS rfl Ji) (VO.z (.lss rfl rfl) (VO.k5 0 1 5 8 12 ?_))))))
 refine VC.cond rfl (fun hc3=>?_) (fun hc3=>?_)
 refine VC.skip (Qj (VC.seq (VC.block (VC.rs (VO.mv (VO.mv ?_))))))
 obtain ⟨x4,hx4⟩:∃ z_,(d1)[k]? =some z_:=⟨_,List.getElem?_eq_getElem bd⟩
 obtain ⟨gg4,oo4,ec4,ea4,hce4,hre4⟩:=h1.elem hx4
 cases ea4
 obtain ⟨rfl,q4_1,q4_2⟩:=JA (x0:=x4.1) (x1:=x4.2.1) (x2:=x4.2.2) hre4
 simp only [maxLen] at q4_1
 simp only [maxLen] at q4_2
 refine VO.z (.ixI k rfl rfl Ji rfl bd) ?_
 refine VO.z (.ldA 0 rfl YS rfl hce4) ?_
 refine VO.callN 105 rfl Qeq rfl (fun W hW=>Y0 W (Rd.mono hre4 (hW.t 0))) (fun v5 m5 hv5=>?_)
 subst hv5
 refine VO.z (.neq rfl rfl) (VO.k6 0 1 5 8 12 20 ?_)
 refine VC.cond rfl (fun hc6=>?_) (fun hc6=>?_)
 ·refine VC.rs (VO.as (VO.p2 1 0 (VO.k7 0 1 4 5 8 12 20 (VC.ret (JD (QS (QS (JD (QS ?_)))))))))
  exact ZA 4 1 rfl w1_0 (by first | rfl | (first | exact congrArg Prod.fst (Qas e0 ‹d1[k]? =some _› Qd) | (rw [Xi e0 (by have h_:=ha;rw [List.take_of_length_le Qx] at h_;exact h_),ht,List.take_of_length_le Qx];done))) (by first | rfl | (first | exact congrArg (Value.int _) (congrArg Prod.snd (Qas e0 ‹d1[k]? =some _› Qd)).symm | exact congrArg (Value.int _) (congrArg Prod.snd (Xi e0 (by have h_:=ha;rw [List.take_of_length_le Qx] at h_;exact h_))).symm))
 refine VC.skip (JE (Qj ?_))
 refine VC.reg ?_
 refine VO.mv ?_
 refine VO.z (.add (c:=((k+1:Nat):Int)) rfl rfl Qx ⟨bd,bd⟩) ?_
 refine VO.as (VO.p2 1 0 (VO.k6 0 1 5 8 12 20 ?_))
 exact Qj ⟨k+1,⟨by omega,by exact Qor ha ‹d1[k]? =some _› Qd⟩,bd,⟨esn,fun _ h=>Inv.sub h [1,0]⟩⟩
 refine VC.exit (Zc (Zc (Zd (Qj (VC.seq (VC.rs (VO.as (VO.k6 0 1 5 6 8 12 (VC.block ?_)))))))))
 refine VC.loop (G:=Nat × JG × Mem) (fun g=>[(6,.int .i64 ((((g.1):Nat):Int))),(0,.pointer (some ⟨g0,0,none⟩)),(1,.slice A1 (d1.length) (c1)),(5,.int .i64 (((k:Nat):Int))),(8,.bool (decide (d0.1=false))),(12,.bool (decide (((k:Nat):Int) < ((d1.length:Nat):Int))))]) (fun g=>[(1,(g.2.2)),(0,JY (wm W) (m0))]) (fun g=>((g.1)≤d1.length)∧((g.2.1)=(true,(d1.take (g.1)).foldl XT d0.2))∧(Ow (.ptr Q3) (g.2.2) [.pointer (some ⟨g0,0,none⟩)] (g0,(g.2.1)))) (fun g=>d1.length - (g.1)) (0,d0,m1) (⟨by omega,by (rw [← e0];rfl),w1_0⟩) ⟨esn,fun _ h=>h.sub [1,0]⟩ ?_
 rintro ⟨j,t,t_m⟩ ⟨hj,ht,h_t⟩
 replace hj:j≤d1.length:=hj
 replace ht:t=(true,(d1.take j).foldl XT d0.2):=ht
 replace h_t:Ow (.ptr Q3) t_m [.pointer (some ⟨g0,0,none⟩)] (g0,t):=h_t
 show VC _ _ _ _ _ [(6,.int .i64 (((j:Nat):Int))),(0,.pointer (some ⟨g0,0,none⟩)),(1,.slice A1 (d1.length) (c1)),(5,.int .i64 (((k:Nat):Int))),(8,.bool (decide (d0.1=false))),(12,.bool (decide (((k:Nat):Int) < ((d1.length:Nat):Int))))] [(1,t_m),(0,JY (wm W) (m0))]
 have hfl:=QdT (d1.take j) d0.2
 have htl:t.2.length≤d0.2.length+j:=by rw [ht];simp only [List.length_take] at hfl;dsimp only;omega
 refine VC.seq (VC.rs (VO.mv (VO.mv (VO.z (.lenS rfl Ji) (VO.z (.lss rfl rfl) (VO.p2 1 0 (VO.k7 0 1 5 6 8 12 24 ?_)))))))
 refine VC.cond rfl (fun hc7=>?_) (fun hc7=>?_)
 ·refine VC.skip (Qj (VC.seq (VC.block ?_)))
  refine VC.reg ?_
  refine VO.mv (VO.mv (VO.mv ?_))
  obtain ⟨x8,hx8⟩:∃ z_,(d1)[j]? =some z_:=⟨_,List.getElem?_eq_getElem bd⟩
  obtain ⟨gg8,oo8,ec8,ea8,hce8,hre8⟩:=h1.elem hx8
  cases ea8
  obtain ⟨rfl,q8_1,q8_2⟩:=JA (x0:=x8.1) (x1:=x8.2.1) (x2:=x8.2.2) hre8
  simp only [maxLen] at q8_1
  simp only [maxLen] at q8_2
  refine VO.z (.ixI j rfl rfl Ji rfl bd) ?_
  refine VO.z (.ldA 0 rfl YS rfl hce8) ?_
  refine VO.call 1 rfl Qob rfl rfl (fun W hW=>Ql0 W (hW.t 1) h_t (Rd.mono hre8 (hW.o 1 0)) bd) (fun v9 m9 hv9=>?_)
  obtain ⟨rfl,w9_0⟩:=hv9
  have hfa10:=Qim t.2 x8
  refine VO.k7 0 1 5 6 8 12 24 (JE (Qj ?_))
  refine VC.reg ?_
  refine VO.mv ?_
  refine VO.z (.add (c:=((j+1:Nat):Int)) rfl rfl Qx ⟨bd,bd⟩) ?_
  refine VO.as (VO.k7 0 1 5 6 8 12 24 ?_)
  exact Qj ⟨⟨j+1,(t.1,XT t.2 x8),m9⟩,⟨by omega,by (rw [ht,Qj7 ‹d1[j]? =some _›]),w9_0⟩,bd,⟨esn,fun _ h=>Inv.sub h [1,0]⟩⟩
 ·refine VC.exit (Zc (Zc (Zd (Qj (VC.rs (VO.as (VO.k8 0 1 4 5 6 8 12 24 (VC.ret ?_))))))))
  exact ZA 4 1 rfl h_t (by first | rfl | (first | exact congrArg Prod.fst (Qas e0 ‹d1[k]? =some _› Qd) | (rw [Xi e0 (by have h_:=ha;rw [List.take_of_length_le Qx] at h_;exact h_),ht,List.take_of_length_le Qx];done))) (by first | rfl | (first | exact congrArg (Value.int _) (congrArg Prod.snd (Qas e0 ‹d1[k]? =some _› Qd)).symm | exact congrArg (Value.int _) (congrArg Prod.snd (Xi e0 (by have h_:=ha;rw [List.take_of_length_le Qx] at h_;exact h_))).symm))
theorem Ql1 (W:World) {m0:Mem} (hm:mle (m0) (wm W)) {g0:Nat} {d0:JG} (h0:Ow (.ptr Q3) m0 [.pointer (some ⟨g0,0,none⟩)] (g0,d0)) (e0:d0.1=true) (e1:d0.2.length≤1700000000000):Qg Tryz.prog 94 [.pointer (some ⟨g0,0,none⟩)] W (m0) (fun v m'=>∃ (s0:Value),∃ (p0:Mem),∃ (p1:Mem),v=s0∧Qu m' [p0,p1]∧Ow (.sl TOp) p0 [s0] (d0.2)∧Ow (.ptr Q3) p1 [.pointer (some ⟨g0,0,none⟩)] (g0,d0)):=by
 refine Qg.ofB (n:=13) hm Tryz.func94 rfl rfl rfl ?_
 refine VC.rs (VO.as (VO.k2 0 2 (VC.rs (VO.as (VO.k3 0 2 3 (VC.seq (VC.rs (VO.mv ?_))))))))
 refine VO.call 1 rfl QkZ rfl rfl (fun W hW=>QdW W (hW.t 1) h0) (fun v1 m1 hv1=>?_)
 obtain ⟨rfl,w1_0⟩:=hv1
 refine VO.p2 1 0 (VO.k4 0 2 3 5 ?_)
 refine VC.cond rfl (fun hc2=>?_) (fun hc2=>?_)
 rw [e0] at hc2;cases hc2
 ·refine VC.skip (Qj (VC.rs (VO.mv (VO.mv (VO.z (.nilp rfl) (VO.z (.fa rfl Xt rfl) ?_))))))
  obtain ⟨q3_E,q3_A1,q3_c1,q3_n1,_,q3_S,q3_1⟩:=QW w1_0
  have q3_r1:=q3_1.rm
  refine VO.inv _ (fun _ h=>h.parts (i:=1) rfl q3_S [105,104]) ?_
  refine VO.z (.ld1 105 rfl YY rfl (Qa rfl rfl)) ?_
  refine VO.inv _ (fun _ h=>h.nilc 107) ?_
  obtain ⟨mo6,cs6,hM6,hA6,hC6⟩:=(Qz.nil TOp Qr Qr)
  obtain ⟨all6,hS6,hR6⟩:=Rd.srcI (P:=Tryz.prog) ((Ow.rd q3_1 (Qb _))) Tryz.underlying36
  refine VO.app 107 rfl rfl rfl Ji XB rfl rfl hM6 hA6 (hS6 _ 104 rfl) hR6.nice bdm bd (by decide) (fun v6 m6 hN6=>?_)
  have ho6:Qz TOp m6 Qr v6 (d0.2):=Qz.more hC6 hN6 (QV.mono hR6 fun _ _ h=>Rd.flat rfl h _)
  obtain ⟨A6,c6,rfl,l6,k6⟩:=ho6.slc
  refine VO.as ?_
  refine VO.clsP 108 [105,104] rfl (fun hg8=>(Jh d0 hg8 q3_1)) (fun mc8 ho8=>?_)
  refine VO.k4 0 2 3 5 (VC.ret ?_)
  refine Yz 2 [107,108] fun hS_=>?_
  dsimp only [Qv]
  refine ⟨.slice A6 ((d0.2).length) (c6),Zv [m6],Zv [mc8],?_,?_,?_,?_⟩
  rotate_left
  ·exact Qu.grp (ls:=[[m6],[mc8]]) hS_
  ·exact Ow.cg (Ow.up (Qz.ow ho6 rfl) ((Qu.self hS_ (List.Sublist.cons_cons _ (List.Sublist.cons _ List.Sublist.slnil))).1 _ (.head _)))
  ·exact Ow.cgP (Ow.up ho8 ((Qu.self hS_ (List.Sublist.cons _ (List.Sublist.cons_cons _ List.Sublist.slnil))).1 _ (.head _)))
  all_goals (first | rfl | (simp [*];done))
theorem QhA (W:World) {v0:Value} {d0:List DOp} (h0:Rd (.sl TOp) (wm W) [v0] d0) (e0:d0.length≤1000000):Qg Tryz.prog 62 [v0] W (Qr) (fun v m'=>∃ (s0:Value),v=s0∧Ow (.sl TOp) m' [s0] (Qf d0)):=by
 obtain ⟨A0,c0,rfl,l0,k0⟩:=h0.slc
 refine Qg.ofA (n:=21) Tryz.func62 rfl rfl rfl ?_
 refine VC.rs (VO.as (VO.k2 0 2 (VC.rs ?_)))
 refine VO.callN 101 rfl Qm4 rfl (fun W hW=>Qin W) (fun v1 m1 hv1=>?_)
 obtain ⟨s1_0,rfl,f1_0⟩:=hv1
 refine VO.as (VO.k3 0 2 3 (VC.seq (VC.rs (VO.as (VO.p2 101 0 (VO.k4 0 2 3 4 (VC.block ?_)))))))
 refine VC.loop (G:=Nat × JG × Mem) (fun g=>[(4,.int .i64 ((((g.1):Nat):Int))),(0,.slice A0 (d0.length) (c0)),(2,.slice none (0) (0)),(3,.pointer (some ⟨s1_0,0,none⟩))]) (fun g=>[(101,(g.2.2)),(0,wm W)]) (fun g=>((g.1)≤d0.length)∧((g.2.1).1=true)∧((g.2.1).2=Qf (d0.take (g.1)))∧(Ow (.ptr Q3) (g.2.2) [.pointer (some ⟨s1_0,0,none⟩)] (s1_0,(g.2.1)))) (fun g=>d0.length - (g.1)) (0,(true,[]),m1) (⟨by omega,by rfl,by rfl,f1_0⟩) ⟨esn,fun _ h=>h.sub [101,0]⟩ ?_
 rintro ⟨k,t,t_m⟩ ⟨hk,ht,hs,h_t⟩
 replace hk:k≤d0.length:=hk
 replace ht:t.1=true:=ht
 replace hs:t.2=Qf (d0.take k):=hs
 replace h_t:Ow (.ptr Q3) t_m [.pointer (some ⟨s1_0,0,none⟩)] (s1_0,t):=h_t
 show VC _ _ _ _ _ [(4,.int .i64 (((k:Nat):Int))),(0,.slice A0 (d0.length) (c0)),(2,.slice none (0) (0)),(3,.pointer (some ⟨s1_0,0,none⟩))] [(101,t_m),(0,wm W)]
 have hsu:=(QdY (d0.take k)).2;rw [← hs] at hsu;simp only [List.length_take] at hsu
 refine VC.seq (VC.rs (VO.mv (VO.mv (VO.z (.lenS rfl Ji) (VO.z (.lss rfl rfl) (VO.k5 0 2 3 4 9 ?_))))))
 refine VC.cond rfl (fun hc2=>?_) (fun hc2=>?_)
 refine VC.skip (Qj (VC.seq (VC.block ?_)))
 refine VC.reg ?_
 refine VO.mv (VO.mv (VO.mv (VO.mv ?_)))
 refine VO.z (.add (c:=((k+1:Nat):Int)) rfl rfl Qx ⟨bd,bd⟩) ?_
 obtain ⟨A3,hA3,hs3⟩:=h0.sub' 3 k (k+1) rfl bd bd
 refine VO.z (.slI k (k+1) A3 rfl rfl rfl Ji rfl rfl hA3 bd bd) ?_
 refine VO.call 101 rfl Qm3 rfl rfl (fun W hW=>QeP W (hW.t 101) h_t (Rd.mono hs3 (hW.o 101 0)) Qd bd) (fun v4 m4 hv4=>?_)
 obtain ⟨rfl,w4_0⟩:=hv4
 have hfa5:=QcJ t ((d0.take (k+1)).drop k)
 refine VO.k5 0 2 3 4 9 (JE (Qj ?_))
 refine VC.reg ?_
 refine VO.mv ?_
 refine VO.z (.add (c:=((k+1:Nat):Int)) rfl rfl Qx ⟨bd,bd⟩) ?_
 refine VO.as (VO.p2 101 0 (VO.k5 0 2 3 4 9 ?_))
 exact Qj ⟨⟨k+1,(XC t ((d0.take (k+1)).drop k)).1,m4⟩,⟨by omega,by exact (QdZ ht hs Qx).2,by exact (QdZ ht hs Qx).1,w4_0⟩,bd,⟨esn,fun _ h=>Inv.sub h [101,0]⟩⟩
 ·refine VC.exit (Zc (Zc (Zd (Qj (VC.rs (VO.mv ?_))))))
  refine VO.call 101 rfl fnOk94 rfl rfl (fun W hW=>Ql1 W (hW.t 101) h_t Qd bd) (fun v6 m6 hv6=>?_)
  obtain ⟨s6_0,p6_0,p6_1,rfl,hS6,f6_0,w6_0⟩:=hv6
  refine VO.inv _ (fun _ h=>h.parts (i:=101) rfl hS6 [107,108]) ?_
  obtain ⟨A6_0,c6_0,eq6_0,l6_0,k6_0⟩:=f6_0.slc
  subst eq6_0
  refine VO.as (VO.k5 0 2 3 4 9 (VC.ret ?_))
  refine Yz 2 [107] fun hS_=>?_
  dsimp only [Qv]
  exact ⟨Value.slice A6_0 (t.2.length) (c6_0),(by first | rfl | (simp [*];done)),(Ow.cg (Ow.up f6_0 (hS_.1 _ (.head _))) (by first | rfl | ((rw [hs,List.take_of_length_le Qx];done))))⟩
theorem Qg2:JX Tryz.prog 74=true:=by kernel_rfl
theorem Qci:JX Tryz.prog 76=true:=by kernel_rfl
theorem QfK:tk Tryz.prog 105=some (some 4):=by kernel_rfl
theorem QeO:tk Tryz.prog 63=some none:=by kernel_rfl
theorem QcI:tsl Tryz.prog 63=some (105,4,48):=by kernel_rfl
theorem Yf:tst Tryz.prog 105=some [(0,1),(1,1),(2,1),(3,1)]:=by kernel_rfl
theorem JJ:tst Tryz.prog 65=some [(0,1),(1,4),(5,1),(6,1),(7,1),(8,1),(9,1)]:=by kernel_rfl
theorem Qdo:tz Tryz.prog 105=some [.int .i64 0,.bool false,.int .i64 0,.slice none 0 0]:=by kernel_rfl
theorem tz65:tz Tryz.prog 65=some [.bool false,.slice none 0 0,.slice none 0 0,.slice none 0 0,.slice none 0 0,.slice none 0 0,.bool false,.bool false,.int .i64 0,.int .i64 0]:=by kernel_rfl
theorem QnT (W:World):Qg Tryz.prog 7 [] W (Qr) (fun v m'=>∃ (s0:Nat),v= .pointer (some ⟨s0,0,none⟩)∧Ow (.ptr Qn) m' [.pointer (some ⟨s0,0,none⟩)] (s0,QdA)):=by
 refine Qg.ofA (n:=3) Tryz.func7 rfl rfl rfl ?_
 refine VC.rs (VO.as (VO.k1 0 (VC.rs ?_)))
 refine VO.z (.bst (cs:=[.bool true,.slice none (0) (0),.slice none (0) (0),.slice none (0) (0),.slice none (0) (0),.slice none (0) (0),.bool true,.bool false,.int .i64 (0),.int .i64 (0)]) rfl JJ tz65 rfl) ?_
 refine VO.box (cs:=[.bool true,.slice none (0) (0),.slice none (0) (0),.slice none (0) (0),.slice none (0) (0),.slice none (0) (0),.bool true,.bool false,.int .i64 (0),.int .i64 (0)]) 102 rfl rfl rfl (fun g1=>?_)
 refine VO.as (VO.k1 0 (VC.ret ?_))
 refine Yz 0 [102] fun hS_=>?_
 dsimp only [Qv]
 have he0:(QdA:Qo)=(true,([],[],[],[]),[],true,false,0,0):=by first | rfl | (simp [*];done)
 refine ⟨g1,?_,?_⟩
 rotate_left
 ·rw [he0];exact (Q5 _ _ _ _ _ _ _ _ _ _ (Qu.nilAt 5 (Qu.nilAt 4 (Qu.nilAt 3 (Qu.nilAt 2 (Qu.nilAt 1 hS_))))) (Ow.nil _ _) (Ow.nil _ _) (Ow.nil _ _) (Ow.nil _ _) (Ow.nil _ _) bdk bdk)
 all_goals (first | rfl | (simp [*];done))
theorem Qb7 (W:World) {m0:Mem} (hm:mle (m0) (wm W)) {g0:Nat} {d0:Qo} (h0:Ow (.ptr Qn) m0 [.pointer (some ⟨g0,0,none⟩)] (g0,d0)):Qg Tryz.prog 74 [.pointer (some ⟨g0,0,none⟩)] W (m0) (fun v m'=>v= .bool (decide (d0.1=false))∧Ow (.ptr Qn) m' [.pointer (some ⟨g0,0,none⟩)] (g0,d0)):=by
 refine Qg.ofB (n:=12) hm Tryz.func74 rfl rfl rfl ?_
 refine VC.rs (VO.as (VO.k2 0 2 (VC.rs (VO.mv ?_))))
 refine VO.z (.pnil rfl rfl Tryz.underlying29 rfl) ?_
 refine VO.mv (VO.w (.mv rfl) (VO.w (.nilp rfl) (VO.w (.fa rfl JJ rfl) ?_)))
 obtain ⟨q1_E,q1_A1,q1_c1,q1_A2,q1_c2,q1_A3,q1_c3,q1_A4,q1_c4,q1_A5,q1_c5,q1_n1,q1_n2,q1_n3,q1_n4,q1_n5,_,q1_S,q1_1,q1_2,q1_3,q1_4,q1_5,q1_8,q1_9⟩:=Ql h0
 have q1_r1:=q1_1.rm
 have q1_r2:=q1_2.rm
 have q1_r3:=q1_3.rm
 have q1_r4:=q1_4.rm
 have q1_r5:=q1_5.rm
 simp only [inK] at q1_8 q1_9
 refine VO.inv _ (fun _ h=>h.parts (i:=1) rfl q1_S [107,102,103,104,105,106]) ?_
 refine VO.w (.ld1 107 rfl tk4 rfl (Qa rfl rfl)) (VO.w (.not rfl) (VO.z (.pF rfl rfl) (VO.as ?_)))
 refine VO.clsP 108 [107,102,103,104,105,106] rfl (fun hg8=>(QB d0 hg8 q1_1 q1_2 q1_3 q1_4 q1_5 bdk bdk)) (fun mc8 ho8=>?_)
 refine VO.k2 0 2 (VC.ret ?_)
 exact ZA 2 108 rfl ho8 (by first | rfl | (simp [*];done)) (by first | rfl | (cases d0.1 <;> rfl))
theorem Qa7 (W:World) {m0:Mem} (hm:mle (m0) (wm W)) {g0:Nat} {d0:Qo} (h0:Ow (.ptr Qn) m0 [.pointer (some ⟨g0,0,none⟩)] (g0,d0)):Qg Tryz.prog 70 [.pointer (some ⟨g0,0,none⟩)] W (m0) (fun v m'=>v= .int .i64 (Q1 (Qc d0))∧Ow (.ptr Qn) m' [.pointer (some ⟨g0,0,none⟩)] (g0,d0)):=by
 refine Qg.ofB (n:=10) hm Tryz.func70 rfl rfl rfl ?_
 refine VC.rs (VO.as (VO.k2 0 2 (VC.seq (VC.rs (VO.mv ?_)))))
 refine VO.call 1 rfl Qg2 rfl rfl (fun W hW=>Qb7 W (hW.t 1) h0) (fun v1 m1 hv1=>?_)
 obtain ⟨rfl,w1_0⟩:=hv1
 refine VO.k3 0 2 4 ?_
 refine VC.cond rfl (fun hc2=>?_) (fun hc2=>?_)
 ·refine VC.rs (VO.as (VO.p2 1 0 (VO.k3 0 2 4 (VC.ret (QS ?_)))))
  exact ZA 2 1 rfl w1_0 (by first | rfl | (simp [*];done)) (by first | rfl | (simp [Q1,Qc, *]))
 refine VC.skip (Qj (VC.seq (VC.rs (VO.mv (VO.z (.nilp rfl) (VO.z (.fa rfl JJ rfl) ?_))))))
 obtain ⟨q3_E,q3_A1,q3_c1,q3_A2,q3_c2,q3_A3,q3_c3,q3_A4,q3_c4,q3_A5,q3_c5,q3_n1,q3_n2,q3_n3,q3_n4,q3_n5,_,q3_S,q3_1,q3_2,q3_3,q3_4,q3_5,q3_8,q3_9⟩:=Ql w1_0
 have q3_r1:=q3_1.rm
 have q3_r2:=q3_2.rm
 have q3_r3:=q3_3.rm
 have q3_r4:=q3_4.rm
 have q3_r5:=q3_5.rm
 simp only [inK] at q3_8 q3_9
 refine VO.inv _ (fun _ h=>h.parts (i:=1) rfl q3_S [109,104,105,106,107,108]) ?_
 refine VO.z (.ld1 109 rfl tk4 rfl (Qa rfl rfl)) (VO.z (.not rfl) ?_)
 refine VO.clsP 110 [109,104,105,106,107,108] rfl (fun hg10=>(QB d0 hg10 q3_1 q3_2 q3_3 q3_4 q3_5 bdk bdk)) (fun mc10 ho10=>?_)
 refine VO.p2 110 0 (VO.k4 0 2 4 9 ?_)
 refine VC.condBN rfl (fun hc11=>?_) (fun hc11=>?_)
 ·refine VC.rs (VO.as (VO.k4 0 2 4 9 (VC.ret (QS ?_))))
  exact ZA 2 110 rfl ho10 (by first | rfl | (simp [*];done)) (by first | rfl | (simp [Q1,Qc, *]))
 ·refine VC.skip (Qj (VC.rs (VO.as (VO.k4 0 2 4 9 (VC.ret ?_)))))
  exact ZA 2 110 rfl ho10 (by first | rfl | (simp [*];done)) (by first | rfl | (simp [Q1,Qc, *]))
theorem Z2 {P:Prop} (h:P:=by first | exact bd | (rw [if_pos (by assumption)] at hfu;omega)):P:=h
theorem Jz {k:IntKind} {x:Int} (h:inK k x:=by simp only [inK];exact Z2):inK k x:=h
set_option maxHeartbeats 1000000 in
theorem QfR (W:World) {m0:Mem} (hm:mle (m0) (wm W)) {g0:Nat} {d0:Qo} (h0:Ow (.ptr Qn) m0 [.pointer (some ⟨g0,0,none⟩)] (g0,d0)) (e0:okR d0) (e1:wD (Qc d0)≤2*1000000000000):Qg Tryz.prog 98 [.pointer (some ⟨g0,0,none⟩)] W (m0) (fun v m'=>v= .int .i64 (if (QN (Qc d0)).2=true then 0 else 6)∧Ow (.ptr Qn) m' [.pointer (some ⟨g0,0,none⟩)] (g0,toR (QN (Qc d0)).1 d0.2.2.2.2.2.1)):=by
 have hok0:okD (Qc d0):=e0;obtain ⟨hg,hfu,hst⟩:=hok0;have hok0:okD (Qc d0):=e0;simp only [wD,Ye] at e1;simp only [Qc] at e1 hfu hst
 refine Qg.ofB (n:=35) hm Tryz.func98 rfl rfl rfl ?_
 refine VC.rs (VO.as (VO.k2 0 2 (VC.seq (VC.rs (VO.mv (VO.z (.nilp rfl) (VO.z (.fa rfl JJ rfl) ?_)))))))
 obtain ⟨q1_E,q1_A1,q1_c1,q1_A2,q1_c2,q1_A3,q1_c3,q1_A4,q1_c4,q1_A5,q1_c5,q1_n1,q1_n2,q1_n3,q1_n4,q1_n5,_,q1_S,q1_1,q1_2,q1_3,q1_4,q1_5,q1_8,q1_9⟩:=Ql h0
 have q1_r1:=q1_1.rm
 have q1_r2:=q1_2.rm
 have q1_r3:=q1_3.rm
 have q1_r4:=q1_4.rm
 have q1_r5:=q1_5.rm
 simp only [inK] at q1_8 q1_9
 refine VO.inv _ (fun _ h=>h.parts (i:=1) rfl q1_S [107,102,103,104,105,106]) ?_
 refine VO.z (.ld1 107 rfl tk4 rfl (Qa rfl rfl)) (VO.mv ?_)
 refine VO.decB (t:=7) rfl (fun hc8=>?_) (fun hc8=>?_)
 refine VO.w (.mv rfl) (VO.w (.nilp rfl) (VO.w (.fa rfl JJ rfl) (VO.w (.ld1 107 rfl tk3 rfl (Qa rfl rfl)) (VO.w (.eql rfl rfl) (VO.z (.pT rfl rfl) ?_)))))
 refine VO.clsP 109 [107,102,103,104,105,106] rfl (fun hg9=>(QB d0 hg9 q1_1 q1_2 q1_3 q1_4 q1_5 Jz Jz)) (fun mc9 ho9=>?_)
 refine VO.k3 0 2 13 ?_
 refine VC.cond rfl (fun hc10=>?_) (fun hc10=>?_)
 refine VC.rs (VO.mv (VO.z (.nilp rfl) (VO.z (.fa rfl JJ rfl) ?_)))
 obtain ⟨q11_E,q11_A1,q11_c1,q11_A2,q11_c2,q11_A3,q11_c3,q11_A4,q11_c4,q11_A5,q11_c5,q11_n1,q11_n2,q11_n3,q11_n4,q11_n5,_,q11_S,q11_1,q11_2,q11_3,q11_4,q11_5,q11_8,q11_9⟩:=Ql ho9
 have q11_r1:=q11_1.rm
 have q11_r2:=q11_2.rm
 have q11_r3:=q11_3.rm
 have q11_r4:=q11_4.rm
 have q11_r5:=q11_5.rm
 simp only [inK] at q11_8 q11_9
 refine VO.inv _ (fun _ h=>h.parts (i:=109) rfl q11_S [117,112,113,114,115,116]) ?_
 refine VO.s1 117 tk4 ?_
 refine VO.clsP 118 [117,112,113,114,115,116] rfl (fun hg18=>(Q5 _ _ _ _ _ _ _ _ _ _ hg18 q11_1 q11_2 q11_3 q11_4 q11_5 Jz Jz)) (fun mc18 ho18=>?_)
 refine VO.p2 118 0 (VO.k3 0 2 13 (VC.rs (VO.as (VO.k3 0 2 13 (VC.ret (QS ?_))))))
 exact ZA 2 118 rfl ho18 (by first | rfl | (first | exact (Qav Qd Qd).1 | exact (Qaw Qd Qd).1 | exact (XP Qd).1)) (by first | rfl | (first | (rw [(Qav (r:=d0) Qd Qd).2];rfl) | (rw [(Qaw (r:=d0) Qd Qd).2];rfl) | (rw [(XP (r:=d0) Qd).2];rfl)))
 refine VC.skip (Qj (VC.seq (VC.rs (VO.mv (VO.z (.nilp rfl) (VO.z (.fa rfl JJ rfl) ?_))))))
 obtain ⟨q19_E,q19_A1,q19_c1,q19_A2,q19_c2,q19_A3,q19_c3,q19_A4,q19_c4,q19_A5,q19_c5,q19_n1,q19_n2,q19_n3,q19_n4,q19_n5,_,q19_S,q19_1,q19_2,q19_3,q19_4,q19_5,q19_8,q19_9⟩:=Ql ho9
 have q19_r1:=q19_1.rm
 have q19_r2:=q19_2.rm
 have q19_r3:=q19_3.rm
 have q19_r4:=q19_4.rm
 have q19_r5:=q19_5.rm
 simp only [inK] at q19_8 q19_9
 refine VO.inv _ (fun _ h=>h.parts (i:=109) rfl q19_S [125,120,121,122,123,124]) ?_
 refine VO.z (.ld1 125 rfl tk4 rfl (Qa rfl rfl)) ?_
 refine VO.clsP 126 [125,120,121,122,123,124] rfl (fun hg26=>(QB d0 hg26 q19_1 q19_2 q19_3 q19_4 q19_5 Jz Jz)) (fun mc26 ho26=>?_)
 refine VO.p2 126 0 (VO.k4 0 2 13 20 ?_)
 refine VC.condKT rfl hc8 ?_
 refine VC.reg ?_
 refine VO.mv (VO.z (.nilp rfl) (VO.z (.fa rfl JJ rfl) ?_))
 obtain ⟨q27_E,q27_A1,q27_c1,q27_A2,q27_c2,q27_A3,q27_c3,q27_A4,q27_c4,q27_A5,q27_c5,q27_n1,q27_n2,q27_n3,q27_n4,q27_n5,_,q27_S,q27_1,q27_2,q27_3,q27_4,q27_5,q27_8,q27_9⟩:=Ql ho26
 have q27_r1:=q27_1.rm
 have q27_r2:=q27_2.rm
 have q27_r3:=q27_3.rm
 have q27_r4:=q27_4.rm
 have q27_r5:=q27_5.rm
 simp only [inK] at q27_8 q27_9
 refine VO.inv _ (fun _ h=>h.parts (i:=126) rfl q27_S [133,128,129,130,131,132]) ?_
 refine VO.z (.ld1 133 rfl tk3 rfl (Qa rfl rfl)) ?_
 refine VO.z (.sub rfl rfl rfl ⟨by exact Z2,by exact Z2⟩) ?_
 refine VO.z (.nilp rfl) (VO.z (.fa rfl JJ rfl) ?_)
 refine VO.s1 133 tk3 ?_
 refine VO.clsP 134 [133,128,129,130,131,132] rfl (fun hg34=>(Q5 _ _ _ _ _ _ _ _ _ _ hg34 q27_1 q27_2 q27_3 q27_4 q27_5 Jz Jz)) (fun mc34 ho34=>?_)
 refine VO.k4 0 2 13 20 (Qj (VC.rs (VO.mv (VO.z (.nilp rfl) (VO.z (.fa rfl JJ rfl) ?_)))))
 obtain ⟨q35_E,q35_A1,q35_c1,q35_A2,q35_c2,q35_A3,q35_c3,q35_A4,q35_c4,q35_A5,q35_c5,q35_n1,q35_n2,q35_n3,q35_n4,q35_n5,_,q35_S,q35_1,q35_2,q35_3,q35_4,q35_5,q35_8,q35_9⟩:=XY (x0:=d0.1) (x1:=d0.2.1.1) (x2:=d0.2.1.2.1) (x3:=d0.2.1.2.2.1) (x4:=d0.2.1.2.2.2) (x5:=d0.2.2.1) (x6:=d0.2.2.2.1) (x7:=d0.2.2.2.2.1) (x8:=d0.2.2.2.2.2.1 - 1) (x9:=d0.2.2.2.2.2.2) ho34
 have q35_r1:=q35_1.rm
 have q35_r2:=q35_2.rm
 have q35_r3:=q35_3.rm
 have q35_r4:=q35_4.rm
 have q35_r5:=q35_5.rm
 simp only [inK] at q35_8 q35_9
 refine VO.inv _ (fun _ h=>h.parts (i:=134) rfl q35_S [141,136,137,138,139,140]) ?_
 refine VO.z (.ld1 141 rfl tk3 rfl (Qa rfl rfl)) ?_
 refine VO.z (.add rfl rfl rfl ⟨by exact Z2,by exact Z2⟩) ?_
 refine VO.z (.nilp rfl) (VO.z (.fa rfl JJ rfl) ?_)
 refine VO.s1 141 tk3 ?_
 refine VO.clsP 142 [141,136,137,138,139,140] rfl (fun hg42=>(Q5 _ _ _ _ _ _ _ _ _ _ hg42 q35_1 q35_2 q35_3 q35_4 q35_5 Jz Jz)) (fun mc42 ho42=>?_)
 refine VO.k4 0 2 13 20 (VC.rs (VO.as (VO.p2 142 0 (VO.k4 0 2 13 20 (VC.ret ?_)))))
 exact ZA 2 142 rfl ho42 (by first | rfl | (first | exact (Qav Qd Qd).1 | exact (Qaw Qd Qd).1 | exact (XP Qd).1)) (by first | rfl | (first | (rw [(Qav (r:=d0) Qd Qd).2];rfl) | (rw [(Qaw (r:=d0) Qd Qd).2];rfl) | (rw [(XP (r:=d0) Qd).2];rfl)))
 refine VO.gN (VO.gN (VO.gN (VO.gN (VO.gN (VO.z (.pF rfl rfl) ?_)))))
 refine VO.clsP 143 [107,102,103,104,105,106] rfl (fun hg43=>(QB d0 hg43 q1_1 q1_2 q1_3 q1_4 q1_5 Jz Jz)) (fun mc43 ho43=>?_)
 refine VO.k3 0 2 13 (VC.condF rfl (VC.skip (Qj (VC.seq (VC.rs (VO.mv (VO.z (.nilp rfl) (VO.z (.fa rfl JJ rfl) ?_))))))))
 obtain ⟨q44_E,q44_A1,q44_c1,q44_A2,q44_c2,q44_A3,q44_c3,q44_A4,q44_c4,q44_A5,q44_c5,q44_n1,q44_n2,q44_n3,q44_n4,q44_n5,_,q44_S,q44_1,q44_2,q44_3,q44_4,q44_5,q44_8,q44_9⟩:=Ql ho43
 have q44_r1:=q44_1.rm
 have q44_r2:=q44_2.rm
 have q44_r3:=q44_3.rm
 have q44_r4:=q44_4.rm
 have q44_r5:=q44_5.rm
 simp only [inK] at q44_8 q44_9
 refine VO.inv _ (fun _ h=>h.parts (i:=143) rfl q44_S [150,145,146,147,148,149]) ?_
 refine VO.z (.ld1 150 rfl tk4 rfl (Qa rfl rfl)) ?_
 refine VO.clsP 151 [150,145,146,147,148,149] rfl (fun hg51=>(QB d0 hg51 q44_1 q44_2 q44_3 q44_4 q44_5 Jz Jz)) (fun mc51 ho51=>?_)
 refine VO.p2 151 0 (VO.k4 0 2 13 20 ?_)
 refine VC.condKF rfl hc8 ?_
 refine VC.skip (Qj (VC.rs (VO.mv (VO.z (.nilp rfl) (VO.z (.fa rfl JJ rfl) ?_)))))
 obtain ⟨q52_E,q52_A1,q52_c1,q52_A2,q52_c2,q52_A3,q52_c3,q52_A4,q52_c4,q52_A5,q52_c5,q52_n1,q52_n2,q52_n3,q52_n4,q52_n5,_,q52_S,q52_1,q52_2,q52_3,q52_4,q52_5,q52_8,q52_9⟩:=Ql ho51
 have q52_r1:=q52_1.rm
 have q52_r2:=q52_2.rm
 have q52_r3:=q52_3.rm
 have q52_r4:=q52_4.rm
 have q52_r5:=q52_5.rm
 simp only [inK] at q52_8 q52_9
 refine VO.inv _ (fun _ h=>h.parts (i:=151) rfl q52_S [158,153,154,155,156,157]) ?_
 refine VO.z (.ld1 158 rfl tk3 rfl (Qa rfl rfl)) ?_
 refine VO.z (.add rfl rfl rfl ⟨by exact Z2,by exact Z2⟩) ?_
 refine VO.z (.nilp rfl) (VO.z (.fa rfl JJ rfl) ?_)
 refine VO.s1 158 tk3 ?_
 refine VO.clsP 159 [158,153,154,155,156,157] rfl (fun hg59=>(Q5 _ _ _ _ _ _ _ _ _ _ hg59 q52_1 q52_2 q52_3 q52_4 q52_5 Jz Jz)) (fun mc59 ho59=>?_)
 refine VO.k4 0 2 13 20 (VC.rs (VO.as (VO.k4 0 2 13 20 (VC.ret ?_))))
 exact ZA 2 159 rfl ho59 (by first | rfl | (first | exact (Qav Qd Qd).1 | exact (Qaw Qd Qd).1 | exact (XP Qd).1)) (by first | rfl | (first | (rw [(Qav (r:=d0) Qd Qd).2];rfl) | (rw [(Qaw (r:=d0) Qd Qd).2];rfl) | (rw [(XP (r:=d0) Qd).2];rfl)))
theorem XG (W:World) {v0:Value} {d0:List UInt8} (h0:Rd (.sl .byte) (wm W) [v0] d0) {v1:List Value} {d1:Y9} (h1:Rd Z7 (wm W) v1 d1) (e0:d1.2.1=true→0≤d1.2.2.1∧d1.2.2.1≤d0.length) (e1:d0.length+d1.2.2.2.length≤140737488355000):Qg Tryz.prog 76 [v0,.agg v1.toArray] W (Qr) (fun v m'=>∃ (s0:Value),v=s0∧Ow (.sl .byte) m' [s0] (QaU d0 d1)):=by
 obtain ⟨A0,c0,rfl,l0,k0⟩:=h0.slc
 obtain ⟨p1_A3,p1_c3,rfl,p1_0,p1_2,p1_3⟩:=XH (x0:=d1.1) (x1:=d1.2.1) (x2:=d1.2.2.1) (x3:=d1.2.2.2) h1
 simp only [inK] at p1_0 p1_2
 have p1_r3:=Rd.room p1_3
 refine Qg.ofA (n:=21) Tryz.func76 rfl rfl rfl ?_
 refine VC.rs ?_
 refine VO.box (cs:=[.int .i64 (d1.1),.bool d1.2.1,.int .i64 (d1.2.2.1),.slice p1_A3 (d1.2.2.2.length) (p1_c3)]) 102 rfl rfl rfl (fun g1=>?_)
 refine VO.as (VO.k4 0 1 3 4 (VC.rs (VO.as (VO.k5 0 1 3 4 5 (VC.seq (VC.rs (VO.z (.fa rfl Yf rfl) (VO.z (.ld1 102 rfl tk4 rfl (Qa rfl rfl)) (VO.p2 102 0 (VO.k6 0 1 3 4 5 7 ?_))))))))))
 refine VC.condB rfl (fun hc3=>?_) (fun hc3=>?_)
 ·refine VC.rs (VO.mv (VO.mv (VO.z (.fa rfl Yf rfl) (VO.z (.ld1 102 rfl tk3 rfl (Qa rfl rfl)) ?_))))
  have hs4:=h0.pre (j:=((d1.2.2.1).toNat)) (by first | exact bd | (have h_:=e0 Qd;omega))
  refine VO.z (.slHI ((d1.2.2.1).toNat) rfl rfl Q0 (by first | exact bd | (have h_:=e0 Qd;omega)) (by first | exact bd | (have h_:=e0 Qd;omega))) ?_
  refine VO.inv _ (fun _ h=>h.nilc 106) ?_
  obtain ⟨mo5,cs5,hM5,hA5,hC5⟩:=(Qz.nil .byte Qr Qr)
  obtain ⟨all5,hS5,hR5⟩:=Rd.srcI (P:=Tryz.prog) (hs4) Tryz.underlying47
  refine VO.app 106 rfl rfl rfl Q0 tz5 rfl rfl hM5 hA5 (hS5 _ 0 rfl) hR5.nice (by simp only [maxLen];(first | exact bd | (have h_:=e0 Qd;omega))) (by first | exact bd | (have h_:=e0 Qd;omega)) (by decide) (fun v5 m5 hN5=>?_)
  have ho5:Qz .byte m5 Qr v5 ((d0).take ((d1.2.2.1).toNat)):=Qz.more hC5 hN5 (QV.mono hR5 fun _ _ h=>Rd.flat rfl h _)
  obtain ⟨A5,c5,rfl,l5,k5⟩:=ho5.slc
  refine VO.as (VO.k6 0 1 3 4 5 7 (VC.ret (QS ?_)))
  refine Yz 4 [106] fun hS_=>?_
  dsimp only [Qv]
  exact ⟨Value.slice A5 (((d0).take ((d1.2.2.1).toNat)).length) (c5),(by first | rfl | (simp [*];done)),(Ow.cg (Ow.up (Qz.ow ho5 rfl) (hS_.1 _ (.head _))) (by first | rfl | (simp [QaU, *];done)))⟩
 ·refine VC.skip (Qj (VC.rs (VO.mv (VO.mv ?_))))
  refine VO.inv _ (fun _ h=>h.nilc 108) ?_
  obtain ⟨mo7,cs7,hM7,hA7,hC7⟩:=(Qz.nil .byte Qr Qr)
  obtain ⟨all7,hS7,hR7⟩:=Rd.srcI (P:=Tryz.prog) (h0) Tryz.underlying47
  refine VO.app 108 rfl rfl rfl Q0 tz5 rfl rfl hM7 hA7 (hS7 _ 0 rfl) hR7.nice (by simp only [maxLen];(first | exact bd | (have h_:=e0 Qd;omega))) (by first | exact bd | (have h_:=e0 Qd;omega)) (by decide) (fun v7 m7 hN7=>?_)
  have ho7:Qz .byte m7 Qr v7 (d0):=Qz.more hC7 hN7 (QV.mono hR7 fun _ _ h=>Rd.flat rfl h _)
  obtain ⟨A7,c7,rfl,l7,k7⟩:=ho7.slc
  refine VO.as (VO.k6 0 1 3 4 5 7 (VC.rs (VO.mv (VO.z (.fa rfl Yf rfl) (VO.z (.ld1 102 rfl YT rfl (Qa rfl rfl)) ?_)))))
  obtain ⟨mo9,cs9,hM9,hA9,hC9⟩:=ho7
  obtain ⟨all9,hS9,hR9⟩:=Rd.srcI (P:=Tryz.prog) (p1_3) Tryz.underlying47
  refine VO.app 108 rfl rfl rfl Q0 tz5 rfl rfl hM9 hA9 (hS9 _ 0 rfl) hR9.nice (by simp only [maxLen];(first | exact bd | (have h_:=e0 Qd;omega))) (by first | exact bd | (have h_:=e0 Qd;omega)) (by decide) (fun v9 m9 hN9=>?_)
  have ho9:Qz .byte m9 Qr v9 (d0++d1.2.2.2):=Qz.more hC9 hN9 (QV.mono hR9 fun _ _ h=>Rd.flat rfl h _)
  obtain ⟨A9,c9,rfl,l9,k9⟩:=ho9.slc
  refine VO.as (VO.k6 0 1 3 4 5 7 (VC.ret ?_))
  refine Yz 4 [108] fun hS_=>?_
  dsimp only [Qv]
  exact ⟨Value.slice A9 ((d0++d1.2.2.2).length) (c9),(by first | rfl | (simp [*];done)),(Ow.cg (Ow.up (Qz.ow ho9 rfl) (hS_.1 _ (.head _))) (by first | rfl | (simp [QaU, *];done)))⟩
set_option maxHeartbeats 1000000 in
theorem Qb8 (W:World) {m0:Mem} (hm:mle (m0) (wm W)) {g0:Nat} {d0:Qo} (h0:Ow (.ptr Qn) m0 [.pointer (some ⟨g0,0,none⟩)] (g0,d0)) (d1:Int) (h1:inK .i64 d1) (e0:okR d0) (e1:wD (Qc d0)≤2*1000000000000) (e2:inF d1):Qg Tryz.prog 60 [.pointer (some ⟨g0,0,none⟩),.int .i64 d1] W (m0) (fun v m'=>∃ (s0:Value),∃ (p0:Mem),∃ (p1:Mem),v=s0∧Qu m' [p0,p1]∧Ow (.sl .byte) p0 [s0] (JK d0.2.1 (d0.2.2.1.map QP) d1)∧Ow (.ptr Qn) p1 [.pointer (some ⟨g0,0,none⟩)] (g0,d0)):=by
 have hok0:okD (Qc d0):=e0;obtain ⟨hg,hfu,hst⟩:=hok0;have hok0:okD (Qc d0):=e0;simp only [wD,Ye] at e1;simp only [Qc] at e1 hfu hst;have hin:=e2;simp only [inF] at hin
 have h1':=h1;simp only [inK] at h1'
 refine Qg.ofB (n:=44) hm Tryz.func60 rfl rfl rfl ?_
 refine VC.rs (VO.as (VO.k3 0 1 4 (VC.rs (VO.as (VO.k4 0 1 4 5 ?_)))))
 refine VC.seqJ (G:=(List UInt8) × (Option Addr) × Nat × Mem × Mem) (fun g=>[(5,.slice (g.2.1) ((g.1).length) ((g.2.2.1))),(0,.pointer (some ⟨g0,0,none⟩)),(1,.int .i64 (d1)),(4,.slice none (0) (0))]) (fun g=>[(111,(g.2.2.2.2)),(110,(g.2.2.2.1)),(0,JY (wm W) (m0))]) (fun g=>((g.1)=JK d0.2.1 ((d0.2.2.1.map QP).take 0) d1)∧(Qz .byte (g.2.2.2.1) Qr (.slice (g.2.1) (g.1).length (g.2.2.1)) (g.1))∧(Ow (.ptr Qn) (g.2.2.2.2) [.pointer (some ⟨g0,0,none⟩)] (g0,d0))) ?_ ?_
 rintro ⟨bj,bj_A,bj_c,bj_m,dd_m⟩ ⟨hbj,h_bj,h_dd⟩
 replace hbj:bj=JK d0.2.1 ((d0.2.2.1.map QP).take 0) d1:=hbj
 replace h_bj:Qz .byte bj_m Qr (.slice bj_A bj.length bj_c) bj:=h_bj
 replace h_dd:Ow (.ptr Qn) dd_m [.pointer (some ⟨g0,0,none⟩)] (g0,d0):=h_dd
 show VC _ _ _ _ _ [(5,.slice bj_A (bj.length) (bj_c)),(0,.pointer (some ⟨g0,0,none⟩)),(1,.int .i64 (d1)),(4,.slice none (0) (0))] [(111,dd_m),(110,bj_m),(0,JY (wm W) (m0))]
 have l_bj:bj.length≤bj_c:=by obtain ⟨_,_,he,hl,_⟩:=h_bj.slice;simp only [Value.slice.injEq] at he;omega
 have k_bj:bj_c≤9223372036854775807:=by obtain ⟨_,_,he,_,hl⟩:=h_bj.slice;simp only [Value.slice.injEq,maxLen] at he hl;omega
 obtain ⟨q12_E,q12_A1,q12_c1,q12_A2,q12_c2,q12_A3,q12_c3,q12_A4,q12_c4,q12_A5,q12_c5,q12_n1,q12_n2,q12_n3,q12_n4,q12_n5,_,q12_S,q12_1,q12_2,q12_3,q12_4,q12_5,q12_8,q12_9⟩:=Ql h_dd
 have q12_r1:=q12_1.rm
 have q12_r2:=q12_2.rm
 have q12_r3:=q12_3.rm
 have q12_r4:=q12_4.rm
 have q12_r5:=q12_5.rm
 simp only [inK] at q12_8 q12_9
 refine VC.inv _ (fun _ h=>h.parts (i:=111) rfl q12_S [118,113,114,115,116,117]) ?_
 refine VC.seq (VC.rs (VO.as (VO.k5 0 1 4 5 6 (VC.block ?_))))
 refine VC.loop (G:=Nat × (List UInt8) × (Option Addr) × Nat × Mem) (fun g=>[(5,.slice (g.2.2.1) ((g.2.1).length) ((g.2.2.2.1))),(6,.int .i64 ((((g.1):Nat):Int))),(0,.pointer (some ⟨g0,0,none⟩)),(1,.int .i64 (d1)),(4,.slice none (0) (0))]) (fun g=>[(118,QE g0 (.cells #[.bool d0.1,.slice q12_A1 (d0.2.1.1.length) (q12_c1),.slice q12_A2 (d0.2.1.2.1.length) (q12_c2),.slice q12_A3 (d0.2.1.2.2.1.length) (q12_c3),.slice q12_A4 (d0.2.1.2.2.2.length) (q12_c4),.slice q12_A5 (d0.2.2.1.length) (q12_c5),.bool d0.2.2.2.1,.bool d0.2.2.2.2.1,.int .i64 (d0.2.2.2.2.2.1),.int .i64 (d0.2.2.2.2.2.2)] q12_E (0,0))),(113,q12_n1),(114,q12_n2),(115,q12_n3),(116,q12_n4),(117,q12_n5),(110,(g.2.2.2.2)),(0,JY (wm W) (m0))]) (fun g=>((g.1)≤d0.2.2.1.length)∧((g.2.1)=JK d0.2.1 ((d0.2.2.1.map QP).take (g.1)) d1)∧(Qz .byte (g.2.2.2.2) Qr (.slice (g.2.2.1) (g.2.1).length (g.2.2.2.1)) (g.2.1))) (fun g=>d0.2.2.1.length - (g.1)) (0,bj,bj_A,bj_c,bj_m) (⟨by omega,by exact hbj,h_bj⟩) ⟨esn,fun _ h=>h.sub [118,113,114,115,116,117,110,0]⟩ ?_
 rintro ⟨k,b,b_A,b_c,b_m⟩ ⟨hk,hb,h_b⟩
 replace hk:k≤d0.2.2.1.length:=hk
 replace hb:b=JK d0.2.1 ((d0.2.2.1.map QP).take k) d1:=hb
 replace h_b:Qz .byte b_m Qr (.slice b_A b.length b_c) b:=h_b
 show VC _ _ _ _ _ [(5,.slice b_A (b.length) (b_c)),(6,.int .i64 (((k:Nat):Int))),(0,.pointer (some ⟨g0,0,none⟩)),(1,.int .i64 (d1)),(4,.slice none (0) (0))] [(118,QE g0 (.cells #[.bool d0.1,.slice q12_A1 (d0.2.1.1.length) (q12_c1),.slice q12_A2 (d0.2.1.2.1.length) (q12_c2),.slice q12_A3 (d0.2.1.2.2.1.length) (q12_c3),.slice q12_A4 (d0.2.1.2.2.2.length) (q12_c4),.slice q12_A5 (d0.2.2.1.length) (q12_c5),.bool d0.2.2.2.1,.bool d0.2.2.2.2.1,.int .i64 (d0.2.2.2.2.2.1),.int .i64 (d0.2.2.2.2.2.2)] q12_E (0,0))),(113,q12_n1),(114,q12_n2),(115,q12_n3),(116,q12_n4),(117,q12_n5),(110,b_m),(0,JY (wm W) (m0))]
 have l_b:b.length≤b_c:=by obtain ⟨_,_,he,hl,_⟩:=h_b.slice;simp only [Value.slice.injEq] at he;omega
 have k_b:b_c≤9223372036854775807:=by obtain ⟨_,_,he,_,hl⟩:=h_b.slice;simp only [Value.slice.injEq,maxLen] at he hl;omega
 refine VC.seq (VC.rs (VO.mv (VO.mv (VO.z (.nilp rfl) (VO.z (.fa rfl JJ rfl) (VO.z (.ld1 118 rfl QeO rfl (Qa rfl rfl)) (VO.z (.lenS rfl QcI) (VO.z (.lss rfl rfl) (VO.k6 0 1 4 5 6 21 ?_)))))))))
 refine VC.cond rfl (fun hc19=>?_) (fun hc19=>?_)
 refine VC.skip (Qj (VC.seq (VC.block (VC.rs (VO.mv (VO.z (.nilp rfl) (VO.z (.fa rfl JJ rfl) (VO.z (.ld1 118 rfl QeO rfl (Qa rfl rfl)) (VO.mv ?_)))))))))
 obtain ⟨x20,hx20⟩:∃ z_,(d0.2.2.1)[k]? =some z_:=⟨_,List.getElem?_eq_getElem bd⟩
 obtain ⟨gg20,oo20,ec20,ea20,hce20,hre20⟩:=(Ow.rd q12_5 (Qb _)).elem hx20
 cases ea20
 obtain ⟨q20_A3,q20_c3,rfl,q20_0,q20_2,q20_3⟩:=XH (x0:=x20.1) (x1:=x20.2.1) (x2:=x20.2.2.1) (x3:=x20.2.2.2) hre20
 simp only [inK] at q20_0 q20_2
 have q20_r3:=Rd.room q20_3
 refine VO.z (.ixI k rfl rfl QcI rfl bd) ?_
 refine VO.z (.fa rfl Yf rfl) ?_
 refine VO.z (.ld1 117 rfl tk3 rfl (hce20.at1 (j:=0) rfl)) ?_
 refine VO.mv (VO.z (.eql rfl rfl) (VO.p8 118 113 114 115 116 117 110 0 (VO.k7 0 1 4 5 6 21 33 ?_)))
 refine VC.cond rfl (fun hc21=>?_) (fun hc21=>?_)
 refine VC.reg ?_
 refine VO.mv (VO.mv (VO.z (.nilp rfl) (VO.z (.fa rfl JJ rfl) (VO.z (.ld1 118 rfl QeO rfl (Qa rfl rfl)) (VO.mv ?_)))))
 refine VO.z (.ixI k rfl rfl QcI rfl bd) ?_
 refine VO.z (.ldA 117 rfl QfK rfl hce20) ?_
 refine VO.callN 123 rfl Qci rfl (fun W hW=>XG W (Qz.rd h_b (hW.t 110) (Jr _)) (Rd.mono hre20 (hW.t 117)) (by (have h_:=QiK hok0.1 hb (Jk ‹d0.2.2.1[k]? =some _›) e2 ‹_=d1›;exact fun hc_=>h_ (Qjk hc_))) (by (have h_:=QgT hb (Jk ‹d0.2.2.1[k]? =some _›);simp only [Ye,QP] at h_;omega))) (fun v23 m23 hv23=>?_)
 obtain ⟨s23_0,rfl,f23_0⟩:=hv23
 obtain ⟨A23_0,c23_0,eq23_0,l23_0,k23_0⟩:=f23_0.slc
 subst eq23_0
 refine VO.as (VO.k7 0 1 4 5 6 21 33 (JE (Qj ?_)))
 refine VC.reg ?_
 refine VO.mv ?_
 refine VO.z (.add (c:=((k+1:Nat):Int)) rfl rfl Qx ⟨bd,bd⟩) ?_
 refine VO.as (VO.k7 0 1 4 5 6 21 33 ?_)
 exact Qj ⟨⟨k+1,QaU b x20,A23_0,c23_0,m23⟩,⟨by omega,by first | (have h_:=QdC hb (Jk ‹d0.2.2.1[k]? =some _›) ‹_=d1›;rw [← ZH] at h_;exact h_) | exact Qf7 hb (Jk ‹d0.2.2.1[k]? =some _›) ‹¬ _=d1›,(Ow.ownl f23_0 rfl Qr)⟩,by (dsimp only;omega),⟨esn,fun _ h=>Inv.sub (Inv.num h 123 110 rfl) [118,113,114,115,116,117,110,0]⟩⟩
 refine VC.skip (JE (Qj ?_))
 refine VC.reg ?_
 refine VO.mv ?_
 refine VO.z (.add (c:=((k+1:Nat):Int)) rfl rfl Qx ⟨bd,bd⟩) ?_
 refine VO.as (VO.k7 0 1 4 5 6 21 33 ?_)
 exact Qj ⟨⟨k+1,b,b_A,b_c,b_m⟩,⟨by omega,by first | (have h_:=QdC hb (Jk ‹d0.2.2.1[k]? =some _›) ‹_=d1›;rw [← ZH] at h_;exact h_) | exact Qf7 hb (Jk ‹d0.2.2.1[k]? =some _›) ‹¬ _=d1›,h_b⟩,by (dsimp only;omega),⟨esn,fun _ h=>Inv.sub h [118,113,114,115,116,117,110,0]⟩⟩
 · refine VC.exit (Zc (Zc (Zd (Qj (VC.rs (VO.mv (VO.as (VO.p8 118 113 114 115 116 117 110 0 (VO.k6 0 1 4 5 6 21 (VC.ret ?_))))))))))
   refine Yz 4 [110,118,113,114,115,116,117] fun hS_=>?_
   dsimp only [Qv]
   have hm0_:(d0:Qo)=d0:=by first | rfl | (rw [hb,List.take_of_length_le (by rw [List.length_map];omega)])
   refine ⟨.slice b_A (b.length) (b_c),Zv [b_m],Zv [QE g0 (.cells #[.bool d0.1,.slice q12_A1 (d0.2.1.1.length) (q12_c1),.slice q12_A2 (d0.2.1.2.1.length) (q12_c2),.slice q12_A3 (d0.2.1.2.2.1.length) (q12_c3),.slice q12_A4 (d0.2.1.2.2.2.length) (q12_c4),.slice q12_A5 (d0.2.2.1.length) (q12_c5),.bool d0.2.2.2.1,.bool d0.2.2.2.2.1,.int .i64 (d0.2.2.2.2.2.1),.int .i64 (d0.2.2.2.2.2.2)] q12_E (0,0)),q12_n1,q12_n2,q12_n3,q12_n4,q12_n5],?_,?_,?_,?_⟩
   rotate_left
   · exact Qu.grp (ls:=[[b_m],[QE g0 (.cells [Value.bool d0.1,Value.slice q12_A1 (d0.2.1.1.length) (q12_c1),Value.slice q12_A2 (d0.2.1.2.1.length) (q12_c2),Value.slice q12_A3 (d0.2.1.2.2.1.length) (q12_c3),Value.slice q12_A4 (d0.2.1.2.2.2.length) (q12_c4),Value.slice q12_A5 (d0.2.2.1.length) (q12_c5),Value.bool d0.2.2.2.1,Value.bool d0.2.2.2.2.1,Value.int .i64 (d0.2.2.2.2.2.1),Value.int .i64 (d0.2.2.2.2.2.2)].toArray q12_E (0,0)),q12_n1,q12_n2,q12_n3,q12_n4,q12_n5]]) hS_
   · exact Ow.cg (Ow.up (Qz.ow h_b rfl) ((Qu.self hS_ (List.Sublist.cons_cons _ (List.Sublist.cons _ (List.Sublist.cons _ (List.Sublist.cons _ (List.Sublist.cons _ (List.Sublist.cons _ (List.Sublist.cons _ List.Sublist.slnil)))))))).1 _ (.head _))) (by first | rfl | (rw [hb,List.take_of_length_le (by rw [List.length_map];omega)]))
   · rw [hm0_];exact (QB d0 (Qu.self hS_ (List.Sublist.cons _ (List.Sublist.cons_cons _ (List.Sublist.cons_cons _ (List.Sublist.cons_cons _ (List.Sublist.cons_cons _ (List.Sublist.cons_cons _ (List.Sublist.cons_cons _ List.Sublist.slnil)))))))) q12_1 q12_2 q12_3 q12_4 q12_5 bdk bdk)
   all_goals (first | rfl | (simp [*];done))
 intro hJ1
 refine VC.reg ?_
 refine VO.mv (VO.mv (VO.mv (VO.z (.nilp rfl) (VO.z (.fa rfl JJ rfl) ?_))))
 rcases (show d1=(0:Int)∨d1=(1:Int)∨d1=(2:Int)∨d1=(3:Int) from by first | exact bd) with hi24 | hi24 | hi24 | hi24
 refine VO.z (.ixa (i:=0) (o:=1) rfl rfl Zz hi24 rfl rfl) ?_
 obtain ⟨q25_E,q25_A1,q25_c1,q25_A2,q25_c2,q25_A3,q25_c3,q25_A4,q25_c4,q25_A5,q25_c5,q25_n1,q25_n2,q25_n3,q25_n4,q25_n5,_,q25_S,q25_1,q25_2,q25_3,q25_4,q25_5,q25_8,q25_9⟩:=Ql h0
 have q25_r1:=q25_1.rm
 have q25_r2:=q25_2.rm
 have q25_r3:=q25_3.rm
 have q25_r4:=q25_4.rm
 have q25_r5:=q25_5.rm
 simp only [inK] at q25_8 q25_9
 refine VO.inv _ (fun _ h=>h.parts (i:=1) rfl q25_S [131,126,127,128,129,130]) ?_
 refine VO.z (.ld1 131 rfl YT rfl (Qa rfl rfl)) ?_
 refine VO.inv _ (fun _ h=>h.nilc 133) ?_
 obtain ⟨mo32,cs32,hM32,hA32,hC32⟩:=(Qz.nil .byte Qr Qr)
 obtain ⟨all32,hS32,hR32⟩:=Rd.srcI (P:=Tryz.prog) ((Ow.rd q25_1 (Qb _))) Tryz.underlying47
 refine VO.app 133 rfl rfl rfl Q0 tz5 rfl rfl hM32 hA32 (hS32 _ 126 rfl) hR32.nice bdm bd (by decide) (fun v32 m32 hN32=>?_)
 have ho32:Qz .byte m32 Qr v32 (d0.2.1.1):=Qz.more hC32 hN32 (QV.mono hR32 fun _ _ h=>Rd.flat rfl h _)
 obtain ⟨A32,c32,rfl,l32,k32⟩:=ho32.slc
 refine VO.as ?_
 refine VO.clsP 134 [131,126,127,128,129,130] rfl (fun hg34=>(QB d0 hg34 q25_1 q25_2 q25_3 q25_4 q25_5 bdk bdk)) (fun mc34 ho34=>?_)
 refine VO.p3 134 133 0 (VO.k4 0 1 4 5 ?_)
 exact Qj (hJ1 ⟨d0.2.1.1,A32,c32,m32,mc34⟩ _ _ ⟨by first | exact (YH ‹d1=(0:Int)›).symm | exact (YG ‹d1=(1:Int)›).symm | exact (YF ‹d1=(2:Int)›).symm | exact (YE ‹d1=(3:Int)›).symm,ho32,ho34⟩ ⟨esn,fun _ h=>Inv.sub (Inv.num (Inv.num h 133 110 rfl) 134 111 rfl) [111,110,0]⟩)
 refine VO.z (.ixa (i:=1) (o:=2) rfl rfl Zz hi24 rfl rfl) ?_
 obtain ⟨q35_E,q35_A1,q35_c1,q35_A2,q35_c2,q35_A3,q35_c3,q35_A4,q35_c4,q35_A5,q35_c5,q35_n1,q35_n2,q35_n3,q35_n4,q35_n5,_,q35_S,q35_1,q35_2,q35_3,q35_4,q35_5,q35_8,q35_9⟩:=Ql h0
 have q35_r1:=q35_1.rm
 have q35_r2:=q35_2.rm
 have q35_r3:=q35_3.rm
 have q35_r4:=q35_4.rm
 have q35_r5:=q35_5.rm
 simp only [inK] at q35_8 q35_9
 refine VO.inv _ (fun _ h=>h.parts (i:=1) rfl q35_S [141,136,137,138,139,140]) ?_
 refine VO.z (.ld1 141 rfl YT rfl (Qa rfl rfl)) ?_
 refine VO.inv _ (fun _ h=>h.nilc 143) ?_
 obtain ⟨mo42,cs42,hM42,hA42,hC42⟩:=(Qz.nil .byte Qr Qr)
 obtain ⟨all42,hS42,hR42⟩:=Rd.srcI (P:=Tryz.prog) ((Ow.rd q35_2 (Qb _))) Tryz.underlying47
 refine VO.app 143 rfl rfl rfl Q0 tz5 rfl rfl hM42 hA42 (hS42 _ 137 rfl) hR42.nice bdm bd (by decide) (fun v42 m42 hN42=>?_)
 have ho42:Qz .byte m42 Qr v42 (d0.2.1.2.1):=Qz.more hC42 hN42 (QV.mono hR42 fun _ _ h=>Rd.flat rfl h _)
 obtain ⟨A42,c42,rfl,l42,k42⟩:=ho42.slc
 refine VO.as ?_
 refine VO.clsP 144 [141,136,137,138,139,140] rfl (fun hg44=>(QB d0 hg44 q35_1 q35_2 q35_3 q35_4 q35_5 bdk bdk)) (fun mc44 ho44=>?_)
 refine VO.p3 144 143 0 (VO.k4 0 1 4 5 ?_)
 exact Qj (hJ1 ⟨d0.2.1.2.1,A42,c42,m42,mc44⟩ _ _ ⟨by first | exact (YH ‹d1=(0:Int)›).symm | exact (YG ‹d1=(1:Int)›).symm | exact (YF ‹d1=(2:Int)›).symm | exact (YE ‹d1=(3:Int)›).symm,ho42,ho44⟩ ⟨esn,fun _ h=>Inv.sub (Inv.num (Inv.num h 143 110 rfl) 144 111 rfl) [111,110,0]⟩)
 refine VO.z (.ixa (i:=2) (o:=3) rfl rfl Zz hi24 rfl rfl) ?_
 obtain ⟨q45_E,q45_A1,q45_c1,q45_A2,q45_c2,q45_A3,q45_c3,q45_A4,q45_c4,q45_A5,q45_c5,q45_n1,q45_n2,q45_n3,q45_n4,q45_n5,_,q45_S,q45_1,q45_2,q45_3,q45_4,q45_5,q45_8,q45_9⟩:=Ql h0
 have q45_r1:=q45_1.rm
 have q45_r2:=q45_2.rm
 have q45_r3:=q45_3.rm
 have q45_r4:=q45_4.rm
 have q45_r5:=q45_5.rm
 simp only [inK] at q45_8 q45_9
 refine VO.inv _ (fun _ h=>h.parts (i:=1) rfl q45_S [151,146,147,148,149,150]) ?_
 refine VO.z (.ld1 151 rfl YT rfl (Qa rfl rfl)) ?_
 refine VO.inv _ (fun _ h=>h.nilc 153) ?_
 obtain ⟨mo52,cs52,hM52,hA52,hC52⟩:=(Qz.nil .byte Qr Qr)
 obtain ⟨all52,hS52,hR52⟩:=Rd.srcI (P:=Tryz.prog) ((Ow.rd q45_3 (Qb _))) Tryz.underlying47
 refine VO.app 153 rfl rfl rfl Q0 tz5 rfl rfl hM52 hA52 (hS52 _ 148 rfl) hR52.nice bdm bd (by decide) (fun v52 m52 hN52=>?_)
 have ho52:Qz .byte m52 Qr v52 (d0.2.1.2.2.1):=Qz.more hC52 hN52 (QV.mono hR52 fun _ _ h=>Rd.flat rfl h _)
 obtain ⟨A52,c52,rfl,l52,k52⟩:=ho52.slc
 refine VO.as ?_
 refine VO.clsP 154 [151,146,147,148,149,150] rfl (fun hg54=>(QB d0 hg54 q45_1 q45_2 q45_3 q45_4 q45_5 bdk bdk)) (fun mc54 ho54=>?_)
 refine VO.p3 154 153 0 (VO.k4 0 1 4 5 ?_)
 exact Qj (hJ1 ⟨d0.2.1.2.2.1,A52,c52,m52,mc54⟩ _ _ ⟨by first | exact (YH ‹d1=(0:Int)›).symm | exact (YG ‹d1=(1:Int)›).symm | exact (YF ‹d1=(2:Int)›).symm | exact (YE ‹d1=(3:Int)›).symm,ho52,ho54⟩ ⟨esn,fun _ h=>Inv.sub (Inv.num (Inv.num h 153 110 rfl) 154 111 rfl) [111,110,0]⟩)
 refine VO.z (.ixa (i:=3) (o:=4) rfl rfl Zz hi24 rfl rfl) ?_
 obtain ⟨q55_E,q55_A1,q55_c1,q55_A2,q55_c2,q55_A3,q55_c3,q55_A4,q55_c4,q55_A5,q55_c5,q55_n1,q55_n2,q55_n3,q55_n4,q55_n5,_,q55_S,q55_1,q55_2,q55_3,q55_4,q55_5,q55_8,q55_9⟩:=Ql h0
 have q55_r1:=q55_1.rm
 have q55_r2:=q55_2.rm
 have q55_r3:=q55_3.rm
 have q55_r4:=q55_4.rm
 have q55_r5:=q55_5.rm
 simp only [inK] at q55_8 q55_9
 refine VO.inv _ (fun _ h=>h.parts (i:=1) rfl q55_S [161,156,157,158,159,160]) ?_
 refine VO.z (.ld1 161 rfl YT rfl (Qa rfl rfl)) ?_
 refine VO.inv _ (fun _ h=>h.nilc 163) ?_
 obtain ⟨mo62,cs62,hM62,hA62,hC62⟩:=(Qz.nil .byte Qr Qr)
 obtain ⟨all62,hS62,hR62⟩:=Rd.srcI (P:=Tryz.prog) ((Ow.rd q55_4 (Qb _))) Tryz.underlying47
 refine VO.app 163 rfl rfl rfl Q0 tz5 rfl rfl hM62 hA62 (hS62 _ 159 rfl) hR62.nice bdm bd (by decide) (fun v62 m62 hN62=>?_)
 have ho62:Qz .byte m62 Qr v62 (d0.2.1.2.2.2):=Qz.more hC62 hN62 (QV.mono hR62 fun _ _ h=>Rd.flat rfl h _)
 obtain ⟨A62,c62,rfl,l62,k62⟩:=ho62.slc
 refine VO.as ?_
 refine VO.clsP 164 [161,156,157,158,159,160] rfl (fun hg64=>(QB d0 hg64 q55_1 q55_2 q55_3 q55_4 q55_5 bdk bdk)) (fun mc64 ho64=>?_)
 refine VO.p3 164 163 0 (VO.k4 0 1 4 5 ?_)
 exact Qj (hJ1 ⟨d0.2.1.2.2.2,A62,c62,m62,mc64⟩ _ _ ⟨by first | exact (YH ‹d1=(0:Int)›).symm | exact (YG ‹d1=(1:Int)›).symm | exact (YF ‹d1=(2:Int)›).symm | exact (YE ‹d1=(3:Int)›).symm,ho62,ho64⟩ ⟨esn,fun _ h=>Inv.sub (Inv.num (Inv.num h 163 110 rfl) 164 111 rfl) [111,110,0]⟩)
theorem XL {P:Prop} (h:P:=by first | (have h_:=(Xp hok0.1 hb (Jk ‹d0.2.2.1[k]? =some _›)).2;rw [YH (ZW ‹_=(0:Int)›)] at h_;exact fun hc_=>h_ (Qjk hc_)) | (have h_:=(Xp hok0.1 hb (Jk ‹d0.2.2.1[k]? =some _›)).2;rw [YG (ZW ‹_=(1:Int)›)] at h_;exact fun hc_=>h_ (Qjk hc_)) | (have h_:=(Xp hok0.1 hb (Jk ‹d0.2.2.1[k]? =some _›)).2;rw [YF (ZW ‹_=(2:Int)›)] at h_;exact fun hc_=>h_ (Qjk hc_)) | (have h_:=(Xp hok0.1 hb (Jk ‹d0.2.2.1[k]? =some _›)).2;rw [YE (ZW ‹_=(3:Int)›)] at h_;exact fun hc_=>h_ (Qjk hc_))):P:=h
theorem XK {P:Prop} (h:P:=by first | (have h_:=YD hb (Jk ‹d0.2.2.1[k]? =some _›);rw [YH (ZW ‹_=(0:Int)›)] at h_;simp only [Ye,QP] at h_;omega) | (have h_:=YD hb (Jk ‹d0.2.2.1[k]? =some _›);rw [YG (ZW ‹_=(1:Int)›)] at h_;simp only [Ye,QP] at h_;omega) | (have h_:=YD hb (Jk ‹d0.2.2.1[k]? =some _›);rw [YF (ZW ‹_=(2:Int)›)] at h_;simp only [Ye,QP] at h_;omega) | (have h_:=YD hb (Jk ‹d0.2.2.1[k]? =some _›);rw [YE (ZW ‹_=(3:Int)›)] at h_;simp only [Ye,QP] at h_;omega)):P:=h
theorem JU {P:Prop} (h:P:=by first | exact bd | (have h_:=(Xp hok0.1 hb (Jk ‹d0.2.2.1[k]? =some _›)).1;simp only [inF,QP] at h_;omega)):P:=h
theorem Qae {k:IntKind} {x:Int} (h:inK k x:=by simp only [inK];exact JU):inK k x:=h
set_option maxHeartbeats 1000000 in
theorem Qiz (W:World) {m0:Mem} (hm:mle (m0) (wm W)) {g0:Nat} {d0:Qo} (h0:Ow (.ptr Qn) m0 [.pointer (some ⟨g0,0,none⟩)] (g0,d0)) (d1:Int) (h1:inK .i64 d1) (e0:okR d0) (e1:wD (Qc d0)≤2*1000000000000) (e2:0≤d1):Qg Tryz.prog 75 [.pointer (some ⟨g0,0,none⟩),.int .i64 d1] W (m0) (fun v m'=>v= .tuple #[]∧Ow (.ptr Qn) m' [.pointer (some ⟨g0,0,none⟩)] (g0,toR (Jm (Qc d0) d1.toNat) d0.2.2.2.2.2.1)):=by
 have hok0:okD (Qc d0):=e0;obtain ⟨hg,hfu,hst⟩:=hok0;have hok0:okD (Qc d0):=e0;simp only [wD,Ye] at e1;simp only [Qc] at e1 hfu hst
 have h1':=h1;simp only [inK] at h1'
 refine Qg.ofB (n:=42) hm Tryz.func75 rfl rfl rfl ?_
 refine VC.rs (VO.as (VO.k3 0 1 4 (VC.block ?_)))
 obtain ⟨q1_E,q1_A1,q1_c1,q1_A2,q1_c2,q1_A3,q1_c3,q1_A4,q1_c4,q1_A5,q1_c5,q1_n1,q1_n2,q1_n3,q1_n4,q1_n5,_,q1_S,q1_1,q1_2,q1_3,q1_4,q1_5,q1_8,q1_9⟩:=Ql h0
 have q1_r1:=q1_1.rm
 have q1_r2:=q1_2.rm
 have q1_r3:=q1_3.rm
 have q1_r4:=q1_4.rm
 have q1_r5:=q1_5.rm
 simp only [inK] at q1_8 q1_9
 refine VC.inv _ (fun _ h=>h.parts (i:=1) rfl q1_S [107,102,103,104,105,106]) ?_
 refine VC.loop (G:=Nat × (List UInt8) × (Option Addr) × Nat × Mem × (List UInt8) × (Option Addr) × Nat × Mem × (List UInt8) × (Option Addr) × Nat × Mem × (List UInt8) × (Option Addr) × Nat × Mem) (fun g=>[(4,.int .i64 ((((g.1):Nat):Int))),(0,.pointer (some ⟨g0,0,none⟩)),(1,.int .i64 (d1))]) (fun g=>[(107,QE g0 (.cells #[.bool d0.1,.slice (g.2.2.1) ((g.2.1).length) ((g.2.2.2.1)),.slice (g.2.2.2.2.2.2.1) ((g.2.2.2.2.2.1).length) ((g.2.2.2.2.2.2.2.1)),.slice (g.2.2.2.2.2.2.2.2.2.2.1) ((g.2.2.2.2.2.2.2.2.2.1).length) ((g.2.2.2.2.2.2.2.2.2.2.2.1)),.slice (g.2.2.2.2.2.2.2.2.2.2.2.2.2.2.1) ((g.2.2.2.2.2.2.2.2.2.2.2.2.2.1).length) ((g.2.2.2.2.2.2.2.2.2.2.2.2.2.2.2.1)),.slice q1_A5 (d0.2.2.1.length) (q1_c5),.bool d0.2.2.2.1,.bool d0.2.2.2.2.1,.int .i64 (d0.2.2.2.2.2.1),.int .i64 (d0.2.2.2.2.2.2)] q1_E (0,0))),(102,(g.2.2.2.2.1)),(103,(g.2.2.2.2.2.2.2.2.1)),(104,(g.2.2.2.2.2.2.2.2.2.2.2.2.1)),(105,(g.2.2.2.2.2.2.2.2.2.2.2.2.2.2.2.2)),(106,q1_n5),(0,JY (wm W) (m0))]) (fun g=>((g.1)≤d1.toNat∧(g.1)≤d0.2.2.1.length)∧(((g.2.1),(g.2.2.2.2.2.1),(g.2.2.2.2.2.2.2.2.2.1),(g.2.2.2.2.2.2.2.2.2.2.2.2.2.1))=Qbz d0.2.1 ((d0.2.2.1.map QP).take (g.1)))∧(Qz .byte (g.2.2.2.2.1) Qr (.slice (g.2.2.1) (g.2.1).length (g.2.2.2.1)) (g.2.1))∧(Qz .byte (g.2.2.2.2.2.2.2.2.1) Qr (.slice (g.2.2.2.2.2.2.1) (g.2.2.2.2.2.1).length (g.2.2.2.2.2.2.2.1)) (g.2.2.2.2.2.1))∧(Qz .byte (g.2.2.2.2.2.2.2.2.2.2.2.2.1) Qr (.slice (g.2.2.2.2.2.2.2.2.2.2.1) (g.2.2.2.2.2.2.2.2.2.1).length (g.2.2.2.2.2.2.2.2.2.2.2.1)) (g.2.2.2.2.2.2.2.2.2.1))∧(Qz .byte (g.2.2.2.2.2.2.2.2.2.2.2.2.2.2.2.2) Qr (.slice (g.2.2.2.2.2.2.2.2.2.2.2.2.2.2.1) (g.2.2.2.2.2.2.2.2.2.2.2.2.2.1).length (g.2.2.2.2.2.2.2.2.2.2.2.2.2.2.2.1)) (g.2.2.2.2.2.2.2.2.2.2.2.2.2.1))) (fun g=>d1.toNat - (g.1)) (0,d0.2.1.1,q1_A1,q1_c1,q1_n1,d0.2.1.2.1,q1_A2,q1_c2,q1_n2,d0.2.1.2.2.1,q1_A3,q1_c3,q1_n3,d0.2.1.2.2.2,q1_A4,q1_c4,q1_n4) (⟨by omega,by rfl,(Ow.ownl q1_1 rfl Qr),(Ow.ownl q1_2 rfl Qr),(Ow.ownl q1_3 rfl Qr),(Ow.ownl q1_4 rfl Qr)⟩) ⟨esn,fun _ h=>h.sub [107,102,103,104,105,106,0]⟩ ?_
 rintro ⟨k,b0,b0_A,b0_c,b0_m,b1,b1_A,b1_c,b1_m,b2,b2_A,b2_c,b2_m,b3,b3_A,b3_c,b3_m⟩ ⟨hk,hb,h_b0,h_b1,h_b2,h_b3⟩
 replace hk:k≤d1.toNat∧k≤d0.2.2.1.length:=hk
 replace hb:(b0,b1,b2,b3)=Qbz d0.2.1 ((d0.2.2.1.map QP).take k):=hb
 replace h_b0:Qz .byte b0_m Qr (.slice b0_A b0.length b0_c) b0:=h_b0
 replace h_b1:Qz .byte b1_m Qr (.slice b1_A b1.length b1_c) b1:=h_b1
 replace h_b2:Qz .byte b2_m Qr (.slice b2_A b2.length b2_c) b2:=h_b2
 replace h_b3:Qz .byte b3_m Qr (.slice b3_A b3.length b3_c) b3:=h_b3
 show VC _ _ _ _ _ [(4,.int .i64 (((k:Nat):Int))),(0,.pointer (some ⟨g0,0,none⟩)),(1,.int .i64 (d1))] [(107,QE g0 (.cells #[.bool d0.1,.slice b0_A (b0.length) (b0_c),.slice b1_A (b1.length) (b1_c),.slice b2_A (b2.length) (b2_c),.slice b3_A (b3.length) (b3_c),.slice q1_A5 (d0.2.2.1.length) (q1_c5),.bool d0.2.2.2.1,.bool d0.2.2.2.2.1,.int .i64 (d0.2.2.2.2.2.1),.int .i64 (d0.2.2.2.2.2.2)] q1_E (0,0))),(102,b0_m),(103,b1_m),(104,b2_m),(105,b3_m),(106,q1_n5),(0,JY (wm W) (m0))]
 have l_b0:b0.length≤b0_c:=by obtain ⟨_,_,he,hl,_⟩:=h_b0.slice;simp only [Value.slice.injEq] at he;omega
 have k_b0:b0_c≤9223372036854775807:=by obtain ⟨_,_,he,_,hl⟩:=h_b0.slice;simp only [Value.slice.injEq,maxLen] at he hl;omega
 have l_b1:b1.length≤b1_c:=by obtain ⟨_,_,he,hl,_⟩:=h_b1.slice;simp only [Value.slice.injEq] at he;omega
 have k_b1:b1_c≤9223372036854775807:=by obtain ⟨_,_,he,_,hl⟩:=h_b1.slice;simp only [Value.slice.injEq,maxLen] at he hl;omega
 have l_b2:b2.length≤b2_c:=by obtain ⟨_,_,he,hl,_⟩:=h_b2.slice;simp only [Value.slice.injEq] at he;omega
 have k_b2:b2_c≤9223372036854775807:=by obtain ⟨_,_,he,_,hl⟩:=h_b2.slice;simp only [Value.slice.injEq,maxLen] at he hl;omega
 have l_b3:b3.length≤b3_c:=by obtain ⟨_,_,he,hl,_⟩:=h_b3.slice;simp only [Value.slice.injEq] at he;omega
 have k_b3:b3_c≤9223372036854775807:=by obtain ⟨_,_,he,_,hl⟩:=h_b3.slice;simp only [Value.slice.injEq,maxLen] at he hl;omega
 refine VC.seq (VC.rs (VO.mv (VO.mv (VO.z (.lss rfl rfl) (VO.mv ?_)))))
 refine VO.dec (t:=9) rfl (fun hc8=>?_) (fun hc8=>?_)
 refine VO.w (.mv rfl) (VO.w (.mv rfl) (VO.w (.nilp rfl) (VO.w (.fa rfl JJ rfl) (VO.w (.ld1 107 rfl QeO rfl (Qa rfl rfl)) (VO.w (.lenS rfl QcI) (VO.w (.lss rfl rfl) (VO.z (.pT rfl rfl) (VO.k4 0 1 4 17 ?_))))))))
 refine VC.cond rfl (fun hc9=>?_) (fun hc9=>?_)
 refine VC.skip (Qj (VC.seq (VC.block (VC.rs (VO.mv (VO.z (.nilp rfl) (VO.z (.fa rfl JJ rfl) (VO.z (.ld1 107 rfl QeO rfl (Qa rfl rfl)) (VO.mv ?_)))))))))
 obtain ⟨x10,hx10⟩:∃ z_,(d0.2.2.1)[k]? =some z_:=⟨_,List.getElem?_eq_getElem JU⟩
 obtain ⟨gg10,oo10,ec10,ea10,hce10,hre10⟩:=(Ow.rd q1_5 (Qb _)).elem hx10
 cases ea10
 obtain ⟨q10_A3,q10_c3,rfl,q10_0,q10_2,q10_3⟩:=XH (x0:=x10.1) (x1:=x10.2.1) (x2:=x10.2.2.1) (x3:=x10.2.2.2) hre10
 simp only [inK] at q10_0 q10_2
 have q10_r3:=Rd.room q10_3
 refine VO.z (.ixI k rfl rfl QcI rfl JU) ?_
 refine VO.z (.ldA 106 rfl QfK rfl hce10) ?_
 refine VO.alloc 112 rfl Qdo (fun g11=>?_)
 refine VO.store (k:=4) (c':=[.int .i64 (x10.1),.bool x10.2.1,.int .i64 (x10.2.2.1),.slice q10_A3 (x10.2.2.2.length) (q10_c3)]) 112 rfl rfl (.inl QfK) rfl rfl rfl rfl rfl ?_
 refine VO.p8 112 107 102 103 104 105 106 0 (VO.k5 0 1 4 5 17 ?_)
 refine VC.regD _ 14 [(0,true),(1,true),(2,true),(3,true),(4,true),(5,true),(6,true),(7,true),(8,true),(9,true),(10,true),(12,true),(13,true),(11,false)] follows (by kernel_rfl) (fun _ h=>h.sub [112,107,102,103,104,105,106,0]) ?_
 refine VD.z rfl (.mv rfl) (VD.z rfl (.fa rfl Yf rfl) (VD.z rfl (.ld1 112 rfl tk3 rfl (Qa rfl rfl)) (VD.z rfl (.mv rfl) (VD.z rfl (.fa rfl Yf rfl) (VD.z rfl (.ld1 112 rfl tk3 rfl (Qa rfl rfl)) (VD.z rfl (.nilp rfl) (VD.z rfl (.fa rfl JJ rfl) ?_)))))))
 rcases (show x10.1=(0:Int)∨x10.1=(1:Int)∨x10.1=(2:Int)∨x10.1=(3:Int) from by exact JU) with hi13 | hi13 | hi13 | hi13
 refine VD.z rfl (.ixa (i:=0) (o:=1) rfl rfl Zz hi13 rfl rfl) ?_
 refine VD.z rfl (.ld1 107 rfl YT rfl (Qa rfl rfl)) (VD.z rfl (.ldA 112 rfl QfK rfl (Qa rfl rfl)) (VD.z rfl (.nilp rfl) (VD.z rfl (.fa rfl JJ rfl) ?_)))
 refine VD.callN 114 rfl rfl (.inl rfl) Qci rfl (fun _ h=>h.sub [112,107,102,103,104,105,106,0]) (fun W hW=>XG W (Qz.rd h_b0 (hW.t 102) (Jr _)) (Rd.mono hre10 (hW.t 106)) XL XK) (fun v14 m14 hv14=>?_)
 obtain ⟨s14_0,rfl,f14_0⟩:=hv14
 obtain ⟨A14_0,c14_0,eq14_0,l14_0,k14_0⟩:=f14_0.slc
 subst eq14_0
 refine VD.nil rfl ?_ rfl
 refine VO.z (.ixa (i:=0) (o:=1) rfl rfl Zz hi13 rfl rfl) ?_
 refine VO.s1 107 YT ?_
 refine VO.k5 0 1 4 5 17 (JE (Qj ?_))
 refine VC.reg ?_
 refine VO.mv ?_
 refine VO.z (.add (c:=((k+1:Nat):Int)) rfl rfl Qx ⟨by exact JU,by exact JU⟩) ?_
 refine VO.as (VO.k5 0 1 4 5 17 ?_)
 exact Qj ⟨⟨k+1,QaU b0 x10,A14_0,c14_0,m14,b1,b1_A,b1_c,b1_m,b2,b2_A,b2_c,b2_m,b3,b3_A,b3_c,b3_m⟩,⟨by omega,by first | (have h_:=Q6 hb (Jk ‹d0.2.2.1[k]? =some _›);rw [Zs,← ZH,QeA (ZW ‹_=(0:Int)›),YH (ZW ‹_=(0:Int)›)] at h_;exact h_) | (have h_:=Q6 hb (Jk ‹d0.2.2.1[k]? =some _›);rw [Zs,← ZH,Qez (ZW ‹_=(1:Int)›),YG (ZW ‹_=(1:Int)›)] at h_;exact h_) | (have h_:=Q6 hb (Jk ‹d0.2.2.1[k]? =some _›);rw [Zs,← ZH,Qey (ZW ‹_=(2:Int)›),YF (ZW ‹_=(2:Int)›)] at h_;exact h_) | (have h_:=Q6 hb (Jk ‹d0.2.2.1[k]? =some _›);rw [Zs,← ZH,Qex (ZW ‹_=(3:Int)›),YE (ZW ‹_=(3:Int)›)] at h_;exact h_),(Ow.ownl f14_0 rfl Qr),h_b1,h_b2,h_b3⟩,by (dsimp only;omega),⟨esn,fun _ h=>Inv.sub (Inv.num h 114 102 rfl) [107,102,103,104,105,106,0]⟩⟩
 refine VD.z rfl (.ixa (i:=1) (o:=2) rfl rfl Zz hi13 rfl rfl) ?_
 refine VD.z rfl (.ld1 107 rfl YT rfl (Qa rfl rfl)) (VD.z rfl (.ldA 112 rfl QfK rfl (Qa rfl rfl)) (VD.z rfl (.nilp rfl) (VD.z rfl (.fa rfl JJ rfl) ?_)))
 refine VD.callN 115 rfl rfl (.inl rfl) Qci rfl (fun _ h=>h.sub [112,107,102,103,104,105,106,0]) (fun W hW=>XG W (Qz.rd h_b1 (hW.t 103) (Jr _)) (Rd.mono hre10 (hW.t 106)) XL XK) (fun v15 m15 hv15=>?_)
 obtain ⟨s15_0,rfl,f15_0⟩:=hv15
 obtain ⟨A15_0,c15_0,eq15_0,l15_0,k15_0⟩:=f15_0.slc
 subst eq15_0
 refine VD.nil rfl ?_ rfl
 refine VO.z (.ixa (i:=1) (o:=2) rfl rfl Zz hi13 rfl rfl) ?_
 refine VO.s1 107 YT ?_
 refine VO.k5 0 1 4 5 17 (JE (Qj ?_))
 refine VC.reg ?_
 refine VO.mv ?_
 refine VO.z (.add (c:=((k+1:Nat):Int)) rfl rfl Qx ⟨by exact JU,by exact JU⟩) ?_
 refine VO.as (VO.k5 0 1 4 5 17 ?_)
 exact Qj ⟨⟨k+1,b0,b0_A,b0_c,b0_m,QaU b1 x10,A15_0,c15_0,m15,b2,b2_A,b2_c,b2_m,b3,b3_A,b3_c,b3_m⟩,⟨by omega,by first | (have h_:=Q6 hb (Jk ‹d0.2.2.1[k]? =some _›);rw [Zs,← ZH,QeA (ZW ‹_=(0:Int)›),YH (ZW ‹_=(0:Int)›)] at h_;exact h_) | (have h_:=Q6 hb (Jk ‹d0.2.2.1[k]? =some _›);rw [Zs,← ZH,Qez (ZW ‹_=(1:Int)›),YG (ZW ‹_=(1:Int)›)] at h_;exact h_) | (have h_:=Q6 hb (Jk ‹d0.2.2.1[k]? =some _›);rw [Zs,← ZH,Qey (ZW ‹_=(2:Int)›),YF (ZW ‹_=(2:Int)›)] at h_;exact h_) | (have h_:=Q6 hb (Jk ‹d0.2.2.1[k]? =some _›);rw [Zs,← ZH,Qex (ZW ‹_=(3:Int)›),YE (ZW ‹_=(3:Int)›)] at h_;exact h_),h_b0,(Ow.ownl f15_0 rfl Qr),h_b2,h_b3⟩,by (dsimp only;omega),⟨esn,fun _ h=>Inv.sub (Inv.num h 115 103 rfl) [107,102,103,104,105,106,0]⟩⟩
 refine VD.z rfl (.ixa (i:=2) (o:=3) rfl rfl Zz hi13 rfl rfl) ?_
 refine VD.z rfl (.ld1 107 rfl YT rfl (Qa rfl rfl)) (VD.z rfl (.ldA 112 rfl QfK rfl (Qa rfl rfl)) (VD.z rfl (.nilp rfl) (VD.z rfl (.fa rfl JJ rfl) ?_)))
 refine VD.callN 116 rfl rfl (.inl rfl) Qci rfl (fun _ h=>h.sub [112,107,102,103,104,105,106,0]) (fun W hW=>XG W (Qz.rd h_b2 (hW.t 104) (Jr _)) (Rd.mono hre10 (hW.t 106)) XL XK) (fun v16 m16 hv16=>?_)
 obtain ⟨s16_0,rfl,f16_0⟩:=hv16
 obtain ⟨A16_0,c16_0,eq16_0,l16_0,k16_0⟩:=f16_0.slc
 subst eq16_0
 refine VD.nil rfl ?_ rfl
 refine VO.z (.ixa (i:=2) (o:=3) rfl rfl Zz hi13 rfl rfl) ?_
 refine VO.s1 107 YT ?_
 refine VO.k5 0 1 4 5 17 (JE (Qj ?_))
 refine VC.reg ?_
 refine VO.mv ?_
 refine VO.z (.add (c:=((k+1:Nat):Int)) rfl rfl Qx ⟨by exact JU,by exact JU⟩) ?_
 refine VO.as (VO.k5 0 1 4 5 17 ?_)
 exact Qj ⟨⟨k+1,b0,b0_A,b0_c,b0_m,b1,b1_A,b1_c,b1_m,QaU b2 x10,A16_0,c16_0,m16,b3,b3_A,b3_c,b3_m⟩,⟨by omega,by first | (have h_:=Q6 hb (Jk ‹d0.2.2.1[k]? =some _›);rw [Zs,← ZH,QeA (ZW ‹_=(0:Int)›),YH (ZW ‹_=(0:Int)›)] at h_;exact h_) | (have h_:=Q6 hb (Jk ‹d0.2.2.1[k]? =some _›);rw [Zs,← ZH,Qez (ZW ‹_=(1:Int)›),YG (ZW ‹_=(1:Int)›)] at h_;exact h_) | (have h_:=Q6 hb (Jk ‹d0.2.2.1[k]? =some _›);rw [Zs,← ZH,Qey (ZW ‹_=(2:Int)›),YF (ZW ‹_=(2:Int)›)] at h_;exact h_) | (have h_:=Q6 hb (Jk ‹d0.2.2.1[k]? =some _›);rw [Zs,← ZH,Qex (ZW ‹_=(3:Int)›),YE (ZW ‹_=(3:Int)›)] at h_;exact h_),h_b0,h_b1,(Ow.ownl f16_0 rfl Qr),h_b3⟩,by (dsimp only;omega),⟨esn,fun _ h=>Inv.sub (Inv.num h 116 104 rfl) [107,102,103,104,105,106,0]⟩⟩
 refine VD.z rfl (.ixa (i:=3) (o:=4) rfl rfl Zz hi13 rfl rfl) ?_
 refine VD.z rfl (.ld1 107 rfl YT rfl (Qa rfl rfl)) (VD.z rfl (.ldA 112 rfl QfK rfl (Qa rfl rfl)) (VD.z rfl (.nilp rfl) (VD.z rfl (.fa rfl JJ rfl) ?_)))
 refine VD.callN 117 rfl rfl (.inl rfl) Qci rfl (fun _ h=>h.sub [112,107,102,103,104,105,106,0]) (fun W hW=>XG W (Qz.rd h_b3 (hW.t 105) (Jr _)) (Rd.mono hre10 (hW.t 106)) XL XK) (fun v17 m17 hv17=>?_)
 obtain ⟨s17_0,rfl,f17_0⟩:=hv17
 obtain ⟨A17_0,c17_0,eq17_0,l17_0,k17_0⟩:=f17_0.slc
 subst eq17_0
 refine VD.nil rfl ?_ rfl
 refine VO.z (.ixa (i:=3) (o:=4) rfl rfl Zz hi13 rfl rfl) ?_
 refine VO.s1 107 YT ?_
 refine VO.k5 0 1 4 5 17 (JE (Qj ?_))
 refine VC.reg ?_
 refine VO.mv ?_
 refine VO.z (.add (c:=((k+1:Nat):Int)) rfl rfl Qx ⟨by exact JU,by exact JU⟩) ?_
 refine VO.as (VO.k5 0 1 4 5 17 ?_)
 exact Qj ⟨⟨k+1,b0,b0_A,b0_c,b0_m,b1,b1_A,b1_c,b1_m,b2,b2_A,b2_c,b2_m,QaU b3 x10,A17_0,c17_0,m17⟩,⟨by omega,by first | (have h_:=Q6 hb (Jk ‹d0.2.2.1[k]? =some _›);rw [Zs,← ZH,QeA (ZW ‹_=(0:Int)›),YH (ZW ‹_=(0:Int)›)] at h_;exact h_) | (have h_:=Q6 hb (Jk ‹d0.2.2.1[k]? =some _›);rw [Zs,← ZH,Qez (ZW ‹_=(1:Int)›),YG (ZW ‹_=(1:Int)›)] at h_;exact h_) | (have h_:=Q6 hb (Jk ‹d0.2.2.1[k]? =some _›);rw [Zs,← ZH,Qey (ZW ‹_=(2:Int)›),YF (ZW ‹_=(2:Int)›)] at h_;exact h_) | (have h_:=Q6 hb (Jk ‹d0.2.2.1[k]? =some _›);rw [Zs,← ZH,Qex (ZW ‹_=(3:Int)›),YE (ZW ‹_=(3:Int)›)] at h_;exact h_),h_b0,h_b1,h_b2,(Ow.ownl f17_0 rfl Qr)⟩,by (dsimp only;omega),⟨esn,fun _ h=>Inv.sub (Inv.num h 117 105 rfl) [107,102,103,104,105,106,0]⟩⟩
 · refine VC.exit (Zc (Zc (Zd ?_)))
   refine ⟨_,_,Q8 (rs:=[]) rfl .nil,fun W_ hI=>JC (l:=[QE g0 (.cells #[.bool d0.1,.slice b0_A (b0.length) (b0_c),.slice b1_A (b1.length) (b1_c),.slice b2_A (b2.length) (b2_c),.slice b3_A (b3.length) (b3_c),.slice q1_A5 (d0.2.2.1.length) (q1_c5),.bool d0.2.2.2.1,.bool d0.2.2.2.2.1,.int .i64 (d0.2.2.2.2.2.1),.int .i64 (d0.2.2.2.2.2.2)] q1_E (0,0)),b0_m,b1_m,b2_m,b3_m,q1_n5]) hI [107,102,103,104,105,106] rfl rfl (Qb _) (fun hS_=>?_)⟩
   dsimp only [Qv]
   have hm0_:(toR (Jm (Qc d0) d1.toNat) d0.2.2.2.2.2.1:Qo)=(d0.1,(b0,b1,b2,b3),d0.2.2):=by first | rfl | (exact QkT hb Qx)
   refine ⟨?_,?_⟩
   rotate_left
   · rw [hm0_];exact (Q5 _ _ _ _ _ _ _ _ _ _ hS_ (Qz.ow h_b0 rfl) (Qz.ow h_b1 rfl) (Qz.ow h_b2 rfl) (Qz.ow h_b3 rfl) q1_5 Qae Qae)
   all_goals (first | rfl | (simp [*];done))
 · refine VO.gN (VO.gN (VO.gN (VO.gN (VO.gN (VO.gN (VO.gN (VO.z (.pF rfl rfl) (VO.k4 0 1 4 17 (VC.condF rfl (VC.exit (Zc ?_)))))))))))
   refine Zc (Zd ?_)
   refine ⟨_,_,Q8 (rs:=[]) rfl .nil,fun W_ hI=>JC (l:=[QE g0 (.cells #[.bool d0.1,.slice b0_A (b0.length) (b0_c),.slice b1_A (b1.length) (b1_c),.slice b2_A (b2.length) (b2_c),.slice b3_A (b3.length) (b3_c),.slice q1_A5 (d0.2.2.1.length) (q1_c5),.bool d0.2.2.2.1,.bool d0.2.2.2.2.1,.int .i64 (d0.2.2.2.2.2.1),.int .i64 (d0.2.2.2.2.2.2)] q1_E (0,0)),b0_m,b1_m,b2_m,b3_m,q1_n5]) hI [107,102,103,104,105,106] rfl rfl (Qb _) (fun hS_=>?_)⟩
   dsimp only [Qv]
   have hm0_:(toR (Jm (Qc d0) d1.toNat) d0.2.2.2.2.2.1:Qo)=(d0.1,(b0,b1,b2,b3),d0.2.2):=by first | rfl | (exact QkT hb Qx)
   refine ⟨?_,?_⟩
   rotate_left
   · rw [hm0_];exact (Q5 _ _ _ _ _ _ _ _ _ _ hS_ (Qz.ow h_b0 rfl) (Qz.ow h_b1 rfl) (Qz.ow h_b2 rfl) (Qz.ow h_b3 rfl) q1_5 Qae Qae)
   all_goals (first | rfl | (simp [*];done))
theorem Qg4:JX Tryz.prog 70=true:=by kernel_rfl
theorem Qk0:JX Tryz.prog 98=true:=by kernel_rfl
theorem YJ {P:Prop} (h:P:=by first | rfl | (rw [QcE (by assumption)] <;> rfl) | (rw [QcD (by assumption) (fun q_:inF d1=>by obtain ⟨q1_,q2_⟩:=q_;omega)] <;> rfl) | (rw [Xn (by assumption) (Decidable.not_not.2 (show inF d1 from ⟨by omega,by omega⟩)),QaW hp hn (by simp only [List.length_drop];omega) (by rw [← hfr];exact J4 (by assumption))] <;> rfl) | (rw [Xn (by assumption) (Decidable.not_not.2 (show inF d1 from ⟨by omega,by omega⟩)),QdI hp (by simp only [List.length_drop];omega)] <;> rfl) | (rw [Xn (by assumption) (Decidable.not_not.2 (show inF d1 from ⟨by omega,by omega⟩)),QaW hp hn (by simp only [List.length_drop];omega) (by rw [← hfr];exact J4 (by assumption)),if_neg (by assumption)];rfl) | (rw [Xn (by assumption) (Decidable.not_not.2 (show inF d1 from ⟨by omega,by omega⟩)),QaW hp hn (by simp only [List.length_drop];omega) (by rw [← hfr];exact J4 (by assumption))];exact congrArg (Value.int _) (if_neg (J4 (by assumption))))):P:=h
theorem YI {P:Prop} (h:P:=by first | rfl | (rw [QcE (by assumption),JF];done) | (rw [QcD (by assumption) (fun q_:inF d1=>by obtain ⟨q1_,q2_⟩:=q_;omega),JF];done) | (rw [Xn (by assumption) (Decidable.not_not.2 (show inF d1 from ⟨by omega,by omega⟩)),QaW hp hn (by simp only [List.length_drop];omega) (by rw [← hfr];exact J4 (by assumption))];exact Qjm hr hfr) | (rw [Xn (by assumption) (Decidable.not_not.2 (show inF d1 from ⟨by omega,by omega⟩)),QdI hp (by simp only [List.length_drop];omega)];exact hr.symm)):P:=h
set_option maxHeartbeats 1000000 in
theorem Qkq (W:World) {m0:Mem} (hm:mle (m0) (wm W)) {g0:Nat} {d0:Qo} (h0:Ow (.ptr Qn) m0 [.pointer (some ⟨g0,0,none⟩)] (g0,d0)) (d1:Int) (h1:inK .i64 d1) {v2:Value} {d2:List UInt8} (h2:Rd (.sl .byte) (JY (wm W) (m0)) [v2] d2) (e0:okR d0) (e1:wD (Qc d0)+3*d2.length≤1000000000000):Qg Tryz.prog 66 [.pointer (some ⟨g0,0,none⟩),.int .i64 d1,v2] W (m0) (fun v m'=>v= .int .i64 ((Q7 (Qc d0) d1 d2).2)∧Ow (.ptr Qn) m' [.pointer (some ⟨g0,0,none⟩)] (g0,toR (Q7 (Qc d0) d1 d2).1 d0.2.2.2.2.2.1)):=by
 have h1':=h1;simp only [inK] at h1'
 obtain ⟨A2,c2,rfl,l2,k2⟩:=h2.slc
 refine Qg.ofB (n:=53) hm Tryz.func66 rfl rfl rfl ?_
 refine VC.rs (VO.as (VO.k4 0 1 2 6 (VC.rs (VO.mv ?_))))
 refine VO.call 1 rfl Qg4 rfl rfl (fun W hW=>Qa7 W (hW.t 1) h0) (fun v1 m1 hv1=>?_)
 obtain ⟨rfl,w1_0⟩:=hv1
 refine VO.as (VO.k5 0 1 2 6 7 (VC.seq (VC.rs (VO.mv (VO.z (.neq rfl rfl) (VO.p2 1 0 (VO.k6 0 1 2 6 7 13 ?_)))))))
 refine VC.cond rfl (fun hc2=>?_) (fun hc2=>?_)
 refine VC.rs (VO.mv (VO.as (VO.k6 0 1 2 6 7 13 (VC.ret (QS ?_)))))
 exact ZA 6 1 rfl w1_0 (by first | rfl | exact YI) (by first | rfl | exact YJ)
 refine VC.skip (Qj (VC.seq (VC.rs (VO.mv (VO.z (.lss rfl rfl) (VO.mv ?_))))))
 refine VO.dec (t:=17) rfl (fun hc3=>?_) (fun hc3=>?_)
 refine VO.gN (VO.gN (VO.z (.pT rfl rfl) (VO.k7 0 1 2 6 7 13 20 (VC.condT rfl (VC.rs (VO.as (VO.k7 0 1 2 6 7 13 20 (VC.ret (QS ?_)))))))))
 exact ZA 6 1 rfl w1_0 (by first | rfl | exact YI) (by first | rfl | exact YJ)
 refine VO.w (.mv rfl) (VO.w (.geq rfl rfl) (VO.z (.pF rfl rfl) (VO.k7 0 1 2 6 7 13 20 ?_)))
 refine VC.cond rfl (fun hc4=>?_) (fun hc4=>?_)
 refine VC.rs (VO.as (VO.k7 0 1 2 6 7 13 20 (VC.ret (QS ?_))))
 exact ZA 6 1 rfl w1_0 (by first | rfl | exact YI) (by first | rfl | exact YJ)
 refine VC.skip (Qj (VC.seq (VC.rs (VO.as (VO.k8 0 1 2 6 7 8 13 20 (VC.block ?_))))))
 refine VC.loop (G:=Qo × Mem × Nat × Nat × QK) (fun g=>[(8,.int .i64 ((((g.2.2.1):Nat):Int))),(0,.pointer (some ⟨g0,0,none⟩)),(1,.int .i64 (d1)),(2,.slice A2 (d2.length) (c2)),(13,.bool (decide (¬ (Q1 (Qc d0))=0))),(20,.bool (decide (4≤d1)))]) (fun g=>[(1,(g.2.1)),(0,JY (wm W) (m0))]) (fun g=>((g.1)=toR (g.2.2.2.2) d0.2.2.2.2.2.1)∧(okD (g.2.2.2.2)∧nf (g.2.2.2.2))∧(JR d2.length (Qc d0) d1 d2=JR (g.2.2.2.1) (g.2.2.2.2) d1 (d2.drop (g.2.2.1)))∧((d2.drop (g.2.2.1)).length≤(g.2.2.2.1))∧(wD (g.2.2.2.2)+3*(d2.drop (g.2.2.1)).length≤1000000000000)∧((g.2.2.1)≤d2.length+64)∧(Ow (.ptr Qn) (g.2.1) [.pointer (some ⟨g0,0,none⟩)] (g0,(g.1)))) (fun g=>d2.length - (g.2.2.1)) (d0,m1,0,d2.length,Qc d0) (⟨by exact (JF d0).symm,by exact ⟨e0,J1 d0⟩,by rfl,by simp,by simpa using e1,by (dsimp only;omega),w1_0⟩) ⟨esn,fun _ h=>h.sub [1,0]⟩ ?_
 rintro ⟨r,r_m,at_,n,D⟩ ⟨hr,hD,hp,hn,hw,hat,h_r⟩
 replace hr:r=toR D d0.2.2.2.2.2.1:=hr
 replace hD:okD D∧nf D:=hD
 replace hp:JR d2.length (Qc d0) d1 d2=JR n D d1 (d2.drop at_):=hp
 replace hn:(d2.drop at_).length≤n:=hn
 replace hw:wD D+3*(d2.drop at_).length≤1000000000000:=hw
 replace hat:at_≤d2.length+64:=hat
 replace h_r:Ow (.ptr Qn) r_m [.pointer (some ⟨g0,0,none⟩)] (g0,r):=h_r
 show VC _ _ _ _ _ [(8,.int .i64 (((at_:Nat):Int))),(0,.pointer (some ⟨g0,0,none⟩)),(1,.int .i64 (d1)),(2,.slice A2 (d2.length) (c2)),(13,.bool (decide (¬ (Q1 (Qc d0))=0))),(20,.bool (decide (4≤d1)))] [(1,r_m),(0,JY (wm W) (m0))]
 have hfr:Qc r=D:=by rw [hr];exact ZU hD.1 hD.2
 have hok:okR r:=by unfold okR;rw [hfr];exact hD.1
 have hwr:wD (Qc r)=wD D:=by rw [hfr]
 refine VC.seq (VC.rs (VO.mv (VO.mv (VO.z (.lenS rfl Q0) (VO.z (.lss rfl rfl) (VO.p2 1 0 (VO.k7 0 1 2 8 13 20 24 ?_)))))))
 refine VC.cond rfl (fun hc5=>?_) (fun hc5=>?_)
 refine VC.skip (Qj (VC.seq (VC.block (VC.rs (VO.mv ?_)))))
 refine VO.call 1 rfl Qk0 rfl rfl (fun W hW=>QfR W (hW.t 1) h_r Qd bd) (fun v6 m6 hv6=>?_)
 obtain ⟨rfl,w6_0⟩:=hv6
 have hfa7:=(QhH (show okR r by assumption))
 have hfa8:=(QhD (show okR r by assumption))
 have hfa9:=(Qfz (show okD (Qc r) from (show okR r by assumption)))
 refine VO.as (VO.k8 0 1 2 7 8 13 20 24 (VC.seq (VC.rs (VO.mv (VO.z (.neq rfl rfl) (VO.k9 0 1 2 7 8 13 20 24 30 ?_))))))
 refine VC.cond rfl (fun hc10=>?_) (fun hc10=>?_)
 refine VC.rs (VO.mv (VO.as (VO.p2 1 0 (VO.k10 0 1 2 6 7 8 13 20 24 30 (VC.ret (QS (JD (QS (QS (JD (QS ?_)))))))))))
 exact ZA 6 1 rfl w6_0 (by first | rfl | exact YI) (by first | rfl | exact YJ)
 refine VC.skip (Qj (VC.rs (VO.as (VO.p2 1 0 (VO.k10 0 1 2 7 8 9 13 20 24 30 ?_)))))
 obtain ⟨q11_E,q11_A1,q11_c1,q11_A2,q11_c2,q11_A3,q11_c3,q11_A4,q11_c4,q11_A5,q11_c5,q11_n1,q11_n2,q11_n3,q11_n4,q11_n5,_,q11_S,q11_1,q11_2,q11_3,q11_4,q11_5,q11_8,q11_9⟩:=Ql w6_0
 have q11_r1:=q11_1.rm
 have q11_r2:=q11_2.rm
 have q11_r3:=q11_3.rm
 have q11_r4:=q11_4.rm
 have q11_r5:=q11_5.rm
 simp only [inK] at q11_8 q11_9
 refine VC.inv _ (fun _ h=>h.parts (i:=1) rfl q11_S [117,112,113,114,115,116]) ?_
 refine VC.regD _ 19 [(0,true),(1,true),(2,true),(3,true),(4,true),(5,true),(6,true),(7,true),(8,true),(9,true),(10,true),(11,true),(12,true),(13,true),(14,true),(15,false),(16,true),(17,false),(18,false)] follows (by kernel_rfl) (fun _ h=>h.sub [117,112,113,114,115,0]) ?_
 refine VD.z rfl (.mv rfl) (VD.z rfl (.mv rfl) (VD.z rfl (.nilp rfl) (VD.z rfl (.fa rfl JJ rfl) (VD.z rfl (.ld1 117 rfl QeO rfl (Qa rfl rfl)) (VD.z rfl (.mv rfl) (VD.z rfl (.mv rfl) (VD.z rfl (.mv rfl) (VD.z rfl (.mv rfl) (VD.z rfl (.mv rfl) (VD.z rfl (.lenS rfl Q0) (VD.z rfl (.mv rfl) ?_)))))))))))
 refine VD.z rfl (.add (c:=((at_+64:Nat):Int)) rfl rfl Qx ⟨bd,bd⟩) ?_
 refine VD.z rfl (.minM rfl rfl) ?_
 obtain ⟨A18,hA18,hs18⟩:=h2.sub' 1 at_ ((min ((d2.length:Nat):Int) ((at_+64:Nat):Int)).toNat) rfl bd bd
 refine VD.z rfl (.slI at_ ((min ((d2.length:Nat):Int) ((at_+64:Nat):Int)).toNat) A18 rfl rfl rfl Q0 rfl bd hA18 bd bd) ?_
 refine VD.inv _ (fun _ h=>h.nilc 120) ?_
 obtain ⟨mo19,cs19,hM19,hA19,hC19⟩:=(Qz.nil .byte Qr Qr)
 obtain ⟨all19,hS19,hR19⟩:=Rd.srcI (P:=Tryz.prog) (hs18) Tryz.underlying47
 refine VD.app 120 rfl rfl rfl rfl Q0 tz5 rfl rfl hM19 hA19 (hS19 _ 0 rfl) hR19.nice bdm bd (by decide) (fun _ _ h=>h.sub [117,112,113,114,115,0]) (fun v19 m19 hN19=>?_)
 have ho19:Qz .byte m19 Qr v19 ((d2.take ((min ((d2.length:Nat):Int) ((at_+64:Nat):Int)).toNat)).drop at_):=Qz.more hC19 hN19 (QV.mono hR19 fun _ _ h=>Rd.flat rfl h _)
 obtain ⟨A19,c19,rfl,l19,k19⟩:=ho19.slc
 refine VD.z rfl (.bst (cs:=[.int .i64 (d1),.bool false,.int .i64 (0),.slice A19 (((d2.take ((min ((d2.length:Nat):Int) ((at_+64:Nat):Int)).toNat)).drop at_).length) (c19)]) rfl Yf Qdo rfl) ?_
 refine VD.bsl (cs:=[.int .i64 (d1),.bool false,.int .i64 (0),.slice A19 (((d2.take ((min ((d2.length:Nat):Int) ((at_+64:Nat):Int)).toNat)).drop at_).length) (c19)]) 122 rfl rfl rfl QcI Qdo rfl rfl (fun _ h=>h.sub [117,112,113,114,115,0]) (fun g21=>?_)
 refine VD.appO (e:=Z7) 116 120 122 rfl rfl rfl rfl QcI Qdo rfl rfl rfl rfl q11_5 (Qdi _ _ _ _ (Qu.one (Qb _)) bdk bdk (Qz.ow ho19 rfl)) Tryz.underlying63 (Qa rfl rfl) bdm bd (by decide) (fun _ _ h=>h.sub [117,112,113,114,115,0]) (fun v23 m23 ho23=>?_)
 obtain ⟨A23,c23,rfl,l23,k23⟩:=ho23.slc
 refine VD.nil rfl ?_ rfl
 refine VO.z (.nilp rfl) (VO.z (.fa rfl JJ rfl) ?_)
 refine VO.s1 117 QeO ?_
 refine VO.clsP 124 [117,112,113,114,115,116] rfl (fun hg24=>(Q5 _ _ _ _ _ _ _ _ _ _ hg24 q11_1 q11_2 q11_3 q11_4 ho23 bdk bdk)) (fun mc24 ho24=>?_)
 refine VO.k10 0 1 2 7 8 9 13 20 24 30 (JE (Qj ?_))
 refine VC.reg ?_
 refine VO.mv ?_
 refine VO.z (.add (c:=((at_+64:Nat):Int)) rfl rfl Qx ⟨bd,bd⟩) ?_
 refine VO.as (VO.k10 0 1 2 7 8 9 13 20 24 30 ?_)
 exact Qj ⟨⟨((toR (QN (Qc r)).1 r.2.2.2.2.2.1).1,((toR (QN (Qc r)).1 r.2.2.2.2.2.1).2.1),((toR (QN (Qc r)).1 r.2.2.2.2.2.1).2.2.1)++[((d1,false,0,(d2.take ((min ((d2.length:Nat):Int) ((at_+64:Nat):Int)).toNat)).drop at_):Y9)],(toR (QN (Qc r)).1 r.2.2.2.2.2.1).2.2.2),mc24,at_+64,n - 1,QeF (QN D).1 (0,d1,(d2.drop at_).take 64,0)⟩,⟨by exact QhC hr hfr (Qme Qx),by exact Qkf hD.1 hD.2 (show inF d1 from ⟨by omega,by omega⟩) (by simp only [List.length_drop];omega),by exact QhB hp hn (by simp only [List.length_drop];omega) (by rw [← hfr];exact XO Qd),by (simp only [List.length_drop] at*;omega),by exact Nat.le_trans (Ql5 hD.1 (by simp only [List.length_drop];omega)) hw,by (dsimp only;omega),ho24⟩,by (dsimp only;omega),⟨esn,fun _ h=>Inv.sub (Inv.num h 124 1 rfl) [1,0]⟩⟩
 refine VC.exit (Zc (Zc (Zd (Qj (VC.rs (VO.as (VO.k8 0 1 2 6 8 13 20 24 (VC.ret ?_))))))))
 exact ZA 6 1 rfl h_r (by first | rfl | exact YI) (by first | rfl | exact YJ)
theorem QiU:JX Tryz.prog 60=true:=by kernel_rfl
theorem Qm5:JX Tryz.prog 75=true:=by kernel_rfl
theorem Ym {P:Prop} (h:P:=by first | (rw [Qgf (by assumption)] <;> rfl) | (rw [XN (by assumption) (.inl (fun q_:inF d1=>by obtain ⟨q1_,q2_⟩:=q_;omega))] <;> rfl) | (rw [XN (by assumption) (.inr (.inl (by assumption)))] <;> rfl) | (rw [XN (by assumption) (.inr (.inr (by assumption)))] <;> rfl) | (rw [Qhc (by assumption) (Decidable.not_not.2 (show inF d1 from ⟨by omega,by omega⟩)) (by assumption) (by assumption) (Decidable.not_not.2 (XO (by assumption)))];done) | (rw [QbR (by assumption) (Decidable.not_not.2 (show inF d1 from ⟨by omega,by omega⟩)) (by assumption) (by assumption) (J4 (by assumption))];exact congrArg (Value.int _) (if_neg (J4 (by assumption)))) | (rw [QbR (by assumption) (Decidable.not_not.2 (show inF d1 from ⟨by omega,by omega⟩)) (by assumption) (by assumption) (J4 (by assumption))];rfl) | (rw [QbR (by assumption) (Decidable.not_not.2 (show inF d1 from ⟨by omega,by omega⟩)) (by assumption) (by assumption) (J4 (by assumption)),if_neg (J4 (by assumption))])):P:=h
theorem Yk {P:Prop} (h:P:=by first | (rw [Qgf (by assumption),JF];done) | (rw [XN (by assumption) (.inl (fun q_:inF d1=>by obtain ⟨q1_,q2_⟩:=q_;omega)),JF];done) | (rw [XN (by assumption) (.inr (.inl (by assumption))),JF];done) | (rw [XN (by assumption) (.inr (.inr (by assumption))),JF];done) | (rw [Qhc (by assumption) (Decidable.not_not.2 (show inF d1 from ⟨by omega,by omega⟩)) (by assumption) (by assumption) (Decidable.not_not.2 (XO (by assumption)))];exact (Qkp (JF d0).symm rfl).symm) | (rw [QbR (by assumption) (Decidable.not_not.2 (show inF d1 from ⟨by omega,by omega⟩)) (by assumption) (by assumption) (J4 (by assumption))])):P:=h
theorem QnU (W:World) {m0:Mem} (hm:mle (m0) (wm W)) {g0:Nat} {d0:Qo} (h0:Ow (.ptr Qn) m0 [.pointer (some ⟨g0,0,none⟩)] (g0,d0)) (d1:Int) (h1:inK .i64 d1) (d2:Int) (h2:inK .i64 d2) (e0:okR d0) (e1:wD (Qc d0)≤1000000000000):Qg Tryz.prog 93 [.pointer (some ⟨g0,0,none⟩),.int .i64 d1,.int .i64 d2] W (m0) (fun v m'=>v= .int .i64 ((Xe (Qc d0) d1 d2).2)∧Ow (.ptr Qn) m' [.pointer (some ⟨g0,0,none⟩)] (g0,toR (Xe (Qc d0) d1 d2).1 d0.2.2.2.2.2.1)):=by
 have h1':=h1;simp only [inK] at h1'
 have h2':=h2;simp only [inK] at h2'
 refine Qg.ofB (n:=48) hm Tryz.func93 rfl rfl rfl ?_
 refine VC.rs (VO.as (VO.k4 0 1 2 6 (VC.rs (VO.mv ?_))))
 refine VO.call 1 rfl Qg4 rfl rfl (fun W hW=>Qa7 W (hW.t 1) h0) (fun v1 m1 hv1=>?_)
 obtain ⟨rfl,w1_0⟩:=hv1
 refine VO.as (VO.k5 0 1 2 6 7 (VC.seq (VC.rs (VO.mv (VO.z (.neq rfl rfl) (VO.p2 1 0 (VO.k6 0 1 2 6 7 11 ?_)))))))
 refine VC.cond rfl (fun hc2=>?_) (fun hc2=>?_)
 refine VC.rs (VO.mv (VO.as (VO.k6 0 1 2 6 7 11 (VC.ret (QS ?_)))))
 exact ZA 6 1 rfl w1_0 (by first | rfl | exact Yk) (by first | rfl | exact Ym)
 refine VC.skip (Qj (VC.seq (VC.rs (VO.mv (VO.z (.lss rfl rfl) (VO.mv ?_))))))
 refine VO.dec (t:=15) rfl (fun hc3=>?_) (fun hc3=>?_)
 refine VO.gN (VO.gN (VO.z (.pT rfl rfl) (VO.mv (VO.gN (VO.gN (VO.z (.pT rfl rfl) (VO.mv (VO.gN (VO.gN (VO.gN (VO.gN ?_)))))))))))
 refine VO.gN (VO.gN (VO.z (.pT rfl rfl) (VO.k7 0 1 2 6 7 11 30 (VC.condT rfl (VC.rs (VO.as (VO.k7 0 1 2 6 7 11 30 (VC.ret (QS ?_)))))))))
 exact ZA 6 1 rfl w1_0 (by first | rfl | exact Yk) (by first | rfl | exact Ym)
 refine VO.w (.mv rfl) (VO.w (.geq rfl rfl) (VO.z (.pF rfl rfl) (VO.mv ?_)))
 refine VO.dec (t:=19) rfl (fun hc4=>?_) (fun hc4=>?_)
 refine VO.gN (VO.gN (VO.z (.pT rfl rfl) (VO.mv (VO.gN (VO.gN (VO.gN (VO.gN (VO.gN (VO.gN (VO.z (.pT rfl rfl) (VO.k7 0 1 2 6 7 11 30 ?_)))))))))))
 refine VC.condT rfl (VC.rs (VO.as (VO.k7 0 1 2 6 7 11 30 (VC.ret (QS ?_)))))
 exact ZA 6 1 rfl w1_0 (by first | rfl | exact Yk) (by first | rfl | exact Ym)
 refine VO.w (.mv rfl) (VO.w (.lss rfl rfl) (VO.z (.pF rfl rfl) (VO.mv ?_)))
 refine VO.dec (t:=23) rfl (fun hc5=>?_) (fun hc5=>?_)
 refine VO.gN (VO.gN (VO.gN (VO.gN (VO.gN (VO.gN (VO.z (.pT rfl rfl) (VO.k7 0 1 2 6 7 11 30 (VC.condT rfl (VC.rs (VO.as (VO.k7 0 1 2 6 7 11 30 ?_)))))))))))
 refine VC.ret (QS ?_)
 exact ZA 6 1 rfl w1_0 (by first | rfl | exact Yk) (by first | rfl | exact Ym)
 refine VO.w (.mv rfl) (VO.w (.mv rfl) (VO.w (.mv rfl) ?_))
 refine VO.gcall 1 rfl ⟨_,rfl,rfl⟩ QiU rfl rfl (fun W hW=>Qb8 W (hW.t 1) w1_0 d1 bdk Qd bd (by first | assumption | exact ⟨by omega,by omega⟩)) (fun v6 m6 hv6=>?_)
 obtain ⟨s6_0,p6_0,p6_1,rfl,hS6,f6_0,w6_0⟩:=hv6
 refine VO.inv _ (fun _ h=>h.parts (i:=1) rfl hS6 [107,108]) ?_
 have hfa9:=YW d0.2.1 (d0.2.2.1.map QP) d1
 obtain ⟨A6_0,c6_0,eq6_0,l6_0,k6_0⟩:=f6_0.slc
 subst eq6_0
 refine VO.w (.lenS rfl Q0) (VO.w (.gtr rfl rfl) (VO.z (.pF rfl rfl) (VO.k7 0 1 2 6 7 11 30 ?_)))
 refine VC.cond rfl (fun hc10=>?_) (fun hc10=>?_)
 refine VC.rs (VO.as (VO.k7 0 1 2 6 7 11 30 (VC.ret (QS ?_))))
 exact ZA 6 108 rfl w6_0 (by first | rfl | exact Yk) (by first | rfl | exact Ym)
 refine VC.skip (Qj (VC.rs (VO.mv ?_)))
 refine VO.call 108 rfl Qk0 rfl rfl (fun W hW=>QfR W (hW.t 108) w6_0 Qd bd) (fun v11 m11 hv11=>?_)
 obtain ⟨rfl,w11_0⟩:=hv11
 have hfa12:=(QhH (show okR d0 by assumption))
 have hfa13:=(QhD (show okR d0 by assumption))
 have hfa14:=(Qfz (show okD (Qc d0) from (show okR d0 by assumption)))
 refine VO.as (VO.k7 0 1 2 6 7 11 30 (VC.seq (VC.rs (VO.mv (VO.z (.neq rfl rfl) (VO.p2 108 0 (VO.k8 0 1 2 6 7 11 30 34 ?_)))))))
 refine VC.cond rfl (fun hc15=>?_) (fun hc15=>?_)
 refine VC.rs (VO.mv (VO.as (VO.k8 0 1 2 6 7 11 30 34 (VC.ret (QS ?_)))))
 exact ZA 6 108 rfl w11_0 (by first | rfl | exact Yk) (by first | rfl | exact Ym)
 refine VC.skip (Qj (VC.rs (VO.mv (VO.mv (VO.z (.nilp rfl) (VO.z (.fa rfl JJ rfl) ?_))))))
 obtain ⟨q16_E,q16_A1,q16_c1,q16_A2,q16_c2,q16_A3,q16_c3,q16_A4,q16_c4,q16_A5,q16_c5,q16_n1,q16_n2,q16_n3,q16_n4,q16_n5,_,q16_S,q16_1,q16_2,q16_3,q16_4,q16_5,q16_8,q16_9⟩:=Ql w11_0
 have q16_r1:=q16_1.rm
 have q16_r2:=q16_2.rm
 have q16_r3:=q16_3.rm
 have q16_r4:=q16_4.rm
 have q16_r5:=q16_5.rm
 simp only [inK] at q16_8 q16_9
 refine VO.inv _ (fun _ h=>h.parts (i:=108) rfl q16_S [122,117,118,119,120,121]) ?_
 refine VO.z (.ld1 122 rfl QeO rfl (Qa rfl rfl)) (VO.mv (VO.mv ?_))
 refine VO.z (.bst (cs:=[.int .i64 (d1),.bool true,.int .i64 (d2),.slice none (0) (0)]) rfl Yf Qdo rfl) ?_
 refine VO.bsl (cs:=[.int .i64 (d1),.bool true,.int .i64 (d2),.slice none (0) (0)]) 124 rfl rfl QcI Qdo rfl rfl (fun g23=>?_)
 refine VO.inv ((126,Qr)::_) (fun _ h=>h.nilc 126) ?_
 refine VO.appO (e:=Z7) 121 126 124 rfl rfl rfl QcI Qdo rfl rfl rfl rfl q16_5 (Qdi _ _ _ _ (Qu.nilAt 0 (Qu.nil _)) bdk bdk (Ow.nil _ _)) Tryz.underlying63 (Qa rfl rfl) bdm bd (by decide) (fun v25 m25 ho25=>?_)
 obtain ⟨A25,c25,rfl,l25,k25⟩:=ho25.slc
 refine VO.z (.nilp rfl) (VO.z (.fa rfl JJ rfl) ?_)
 refine VO.s1 122 QeO ?_
 refine VO.clsP 127 [122,117,118,119,120,121] rfl (fun hg27=>(Q5 _ _ _ _ _ _ _ _ _ _ hg27 q16_1 q16_2 q16_3 q16_4 ho25 bdk bdk)) (fun mc27 ho27=>?_)
 refine VO.k8 0 1 2 6 7 11 30 34 (VC.rs (VO.as (VO.k8 0 1 2 6 7 11 30 34 (VC.ret ?_))))
 exact ZA 6 127 rfl ho27 (by first | rfl | exact Yk) (by first | rfl | exact Ym)
theorem Qiy (W:World) {m0:Mem} (hm:mle (m0) (wm W)) {g0:Nat} {d0:Qo} (h0:Ow (.ptr Qn) m0 [.pointer (some ⟨g0,0,none⟩)] (g0,d0)) (e0:okR d0) (e1:wD (Qc d0)≤1000000000000):Qg Tryz.prog 67 [.pointer (some ⟨g0,0,none⟩)] W (m0) (fun v m'=>v= .int .i64 ((Zx (Qc d0)).2)∧Ow (.ptr Qn) m' [.pointer (some ⟨g0,0,none⟩)] (g0,toR (Zx (Qc d0)).1 d0.2.2.2.2.2.1)):=by
 refine Qg.ofB (n:=24) hm Tryz.func67 rfl rfl rfl ?_
 refine VC.rs (VO.as (VO.k2 0 2 (VC.rs (VO.mv ?_))))
 refine VO.call 1 rfl Qg4 rfl rfl (fun W hW=>Qa7 W (hW.t 1) h0) (fun v1 m1 hv1=>?_)
 obtain ⟨rfl,w1_0⟩:=hv1
 refine VO.as (VO.k3 0 2 3 (VC.seq (VC.rs (VO.mv (VO.z (.neq rfl rfl) (VO.p2 1 0 (VO.k4 0 2 3 7 ?_)))))))
 refine VC.cond rfl (fun hc2=>?_) (fun hc2=>?_)
 ·refine VC.rs (VO.mv (VO.as (VO.k4 0 2 3 7 (VC.ret (QS ?_)))))
  exact ZA 2 1 rfl w1_0 (by first | rfl | (first | (rw [YL Qd,JF];done) | (rw [Xj Qd (Decidable.not_not.2 (XO Qd))];exact (QcS (YB e0) (XA (J1 d0)) Qx).symm) | (rw [ZS Qd (J4 Qd)]))) (by first | rfl | (first | (rw [YL Qd] <;> rfl) | (rw [Xj Qd (Decidable.not_not.2 (XO Qd))];done) | (rw [ZS Qd (J4 Qd)];exact congrArg (Value.int _) (if_neg (J4 Qd))) | (rw [ZS Qd (J4 Qd)];rfl)))
 refine VC.skip (Qj (VC.rs (VO.mv ?_)))
 refine VO.call 1 rfl Qk0 rfl rfl (fun W hW=>QfR W (hW.t 1) w1_0 Qd bd) (fun v3 m3 hv3=>?_)
 obtain ⟨rfl,w3_0⟩:=hv3
 have hfa4:=(QhH (show okR d0 by assumption))
 have hfa5:=(QhD (show okR d0 by assumption))
 have hfa6:=(Qfz (show okD (Qc d0) from (show okR d0 by assumption)))
 refine VO.as (VO.k4 0 2 3 7 (VC.seq (VC.rs (VO.mv (VO.z (.neq rfl rfl) (VO.k5 0 2 3 7 12 ?_))))))
 refine VC.cond rfl (fun hc7=>?_) (fun hc7=>?_)
 ·refine VC.rs (VO.mv (VO.as (VO.p2 1 0 (VO.k5 0 2 3 7 12 (VC.ret (QS ?_))))))
  exact ZA 2 1 rfl w3_0 (by first | rfl | (first | (rw [YL Qd,JF];done) | (rw [Xj Qd (Decidable.not_not.2 (XO Qd))];exact (QcS (YB e0) (XA (J1 d0)) Qx).symm) | (rw [ZS Qd (J4 Qd)]))) (by first | rfl | (first | (rw [YL Qd] <;> rfl) | (rw [Xj Qd (Decidable.not_not.2 (XO Qd))];done) | (rw [ZS Qd (J4 Qd)];exact congrArg (Value.int _) (if_neg (J4 Qd))) | (rw [ZS Qd (J4 Qd)];rfl)))
 ·refine VC.skip (Qj (VC.rs (VO.mv (VO.mv (VO.z (.nilp rfl) (VO.z (.fa rfl JJ rfl) ?_))))))
  obtain ⟨q8_E,q8_A1,q8_c1,q8_A2,q8_c2,q8_A3,q8_c3,q8_A4,q8_c4,q8_A5,q8_c5,q8_n1,q8_n2,q8_n3,q8_n4,q8_n5,_,q8_S,q8_1,q8_2,q8_3,q8_4,q8_5,q8_8,q8_9⟩:=Ql w3_0
  have q8_r1:=q8_1.rm
  have q8_r2:=q8_2.rm
  have q8_r3:=q8_3.rm
  have q8_r4:=q8_4.rm
  have q8_r5:=q8_5.rm
  simp only [inK] at q8_8 q8_9
  refine VO.inv _ (fun _ h=>h.parts (i:=1) rfl q8_S [114,109,110,111,112,113]) ?_
  refine VO.z (.ld1 114 rfl QeO rfl (Qa rfl rfl)) (VO.z (.lenS rfl QcI) ?_)
  refine VO.clsP 116 [114,109,110,111,112,113] rfl (fun hg16=>(QB (toR (QN (Qc d0)).1 d0.2.2.2.2.2.1) hg16 q8_1 q8_2 q8_3 q8_4 q8_5 bdk bdk)) (fun mc16 ho16=>?_)
  refine VO.call 116 rfl Qm5 rfl rfl (fun W hW=>Qiz W (hW.t 116) ho16 ((((toR (QN (Qc d0)).1 d0.2.2.2.2.2.1).2.2.1).length:Nat):Int) bdk Qd bd bd) (fun v15 m15 hv15=>?_)
  obtain ⟨rfl,w15_0⟩:=hv15
  refine VO.p2 116 0 (VO.k5 0 2 3 7 12 (VC.rs (VO.mv (VO.z (.nilp rfl) (VO.z (.fa rfl JJ rfl) ?_)))))
  obtain ⟨q17_E,q17_A1,q17_c1,q17_A2,q17_c2,q17_A3,q17_c3,q17_A4,q17_c4,q17_A5,q17_c5,q17_n1,q17_n2,q17_n3,q17_n4,q17_n5,_,q17_S,q17_1,q17_2,q17_3,q17_4,q17_5,q17_8,q17_9⟩:=Ql w15_0
  have q17_r1:=q17_1.rm
  have q17_r2:=q17_2.rm
  have q17_r3:=q17_3.rm
  have q17_r4:=q17_4.rm
  have q17_r5:=q17_5.rm
  simp only [inK] at q17_8 q17_9
  refine VO.inv _ (fun _ h=>h.parts (i:=116) rfl q17_S [123,118,119,120,121,122]) ?_
  refine VO.s1 123 QeO ?_
  refine VO.clsP 124 [123,118,119,120,121] rfl (fun hg24=>(Q5 _ _ _ _ _ _ _ _ _ _ (Qu.nilAt 5 hg24) q17_1 q17_2 q17_3 q17_4 (Ow.nil _ _) bdk bdk)) (fun mc24 ho24=>?_)
  refine VO.k5 0 2 3 7 12 (VC.rs (VO.as (VO.k5 0 2 3 7 12 (VC.ret ?_))))
  exact ZA 2 124 rfl ho24 (by first | rfl | (first | (rw [YL Qd,JF];done) | (rw [Xj Qd (Decidable.not_not.2 (XO Qd))];exact (QcS (YB e0) (XA (J1 d0)) Qx).symm) | (rw [ZS Qd (J4 Qd)]))) (by first | rfl | (first | (rw [YL Qd] <;> rfl) | (rw [Xj Qd (Decidable.not_not.2 (XO Qd))];done) | (rw [ZS Qd (J4 Qd)];exact congrArg (Value.int _) (if_neg (J4 Qd))) | (rw [ZS Qd (J4 Qd)];rfl)))
theorem Qmc (W:World) {m0:Mem} (hm:mle (m0) (wm W)) {g0:Nat} {d0:Qo} (h0:Ow (.ptr Qn) m0 [.pointer (some ⟨g0,0,none⟩)] (g0,d0)) (d1:Int) (h1:inK .i64 d1) (e0:okR d0):Qg Tryz.prog 32 [.pointer (some ⟨g0,0,none⟩),.int .i64 d1] W (m0) (fun v m'=>v= .int .i64 ((Zm (Qc d0) d1).2)∧Ow (.ptr Qn) m' [.pointer (some ⟨g0,0,none⟩)] (g0,toR (Zm (Qc d0) d1).1 d0.2.2.2.2.2.1)):=by
 have h1':=h1;simp only [inK] at h1'
 refine Qg.ofB (n:=20) hm Tryz.func32 rfl rfl rfl ?_
 refine VC.rs (VO.as (VO.k3 0 1 4 (VC.rs (VO.mv ?_))))
 refine VO.call 1 rfl Qg4 rfl rfl (fun W hW=>Qa7 W (hW.t 1) h0) (fun v1 m1 hv1=>?_)
 obtain ⟨rfl,w1_0⟩:=hv1
 refine VO.as (VO.k4 0 1 4 5 (VC.seq (VC.rs (VO.mv (VO.z (.neq rfl rfl) (VO.p2 1 0 (VO.k5 0 1 4 5 9 ?_)))))))
 refine VC.cond rfl (fun hc2=>?_) (fun hc2=>?_)
 ·refine VC.rs (VO.mv (VO.as (VO.k5 0 1 4 5 9 (VC.ret (QS ?_)))))
  exact ZA 4 1 rfl w1_0 (by first | rfl | (first | (rw [show Zm (Qc d0) d1=(Qc d0,Q1 (Qc d0)) from if_pos Qd,JF];done) | (rw [show Zm (Qc d0) d1=(Qc d0,2) from by unfold Zm;rw [if_neg Qd,if_pos Qd],JF];done) | exact congrArg Prod.fst (show (toR (Zm (Qc d0) d1).1 d0.2.2.2.2.2.1,(0:Int))=((d0.1,d0.2.1,d0.2.2.1,d0.2.2.2.1,true,d1,d0.2.2.2.2.2.2),0) from by unfold Zm;rw [if_neg Qd,if_neg Qd];simp [toR,Qc]))) (by first | rfl | (first | (rw [show Zm (Qc d0) d1=(Qc d0,Q1 (Qc d0)) from if_pos Qd] <;> rfl) | (rw [show Zm (Qc d0) d1=(Qc d0,2) from by unfold Zm;rw [if_neg Qd,if_pos Qd]] <;> rfl) | (unfold Zm;rw [if_neg Qd,if_neg Qd])))
 refine VC.skip (Qj (VC.seq (VC.rs (VO.mv (VO.z (.lss rfl rfl) (VO.k6 0 1 4 5 9 12 ?_))))))
 refine VC.cond rfl (fun hc3=>?_) (fun hc3=>?_)
 ·refine VC.rs (VO.as (VO.k6 0 1 4 5 9 12 (VC.ret (QS ?_))))
  exact ZA 4 1 rfl w1_0 (by first | rfl | (first | (rw [show Zm (Qc d0) d1=(Qc d0,Q1 (Qc d0)) from if_pos Qd,JF];done) | (rw [show Zm (Qc d0) d1=(Qc d0,2) from by unfold Zm;rw [if_neg Qd,if_pos Qd],JF];done) | exact congrArg Prod.fst (show (toR (Zm (Qc d0) d1).1 d0.2.2.2.2.2.1,(0:Int))=((d0.1,d0.2.1,d0.2.2.1,d0.2.2.2.1,true,d1,d0.2.2.2.2.2.2),0) from by unfold Zm;rw [if_neg Qd,if_neg Qd];simp [toR,Qc]))) (by first | rfl | (first | (rw [show Zm (Qc d0) d1=(Qc d0,Q1 (Qc d0)) from if_pos Qd] <;> rfl) | (rw [show Zm (Qc d0) d1=(Qc d0,2) from by unfold Zm;rw [if_neg Qd,if_pos Qd]] <;> rfl) | (unfold Zm;rw [if_neg Qd,if_neg Qd])))
 ·refine VC.skip (Qj (VC.rs (VO.mv (VO.mv (VO.mv (VO.z (.nilp rfl) (VO.z (.fa rfl JJ rfl) ?_)))))))
  obtain ⟨q4_E,q4_A1,q4_c1,q4_A2,q4_c2,q4_A3,q4_c3,q4_A4,q4_c4,q4_A5,q4_c5,q4_n1,q4_n2,q4_n3,q4_n4,q4_n5,_,q4_S,q4_1,q4_2,q4_3,q4_4,q4_5,q4_8,q4_9⟩:=Ql w1_0
  have q4_r1:=q4_1.rm
  have q4_r2:=q4_2.rm
  have q4_r3:=q4_3.rm
  have q4_r4:=q4_4.rm
  have q4_r5:=q4_5.rm
  simp only [inK] at q4_8 q4_9
  refine VO.inv _ (fun _ h=>h.parts (i:=1) rfl q4_S [110,105,106,107,108,109]) ?_
  refine VO.s1 110 tk4 ?_
  refine VO.z (.nilp rfl) (VO.z (.fa rfl JJ rfl) ?_)
  refine VO.s1 110 tk3 ?_
  refine VO.clsP 111 [110,105,106,107,108,109] rfl (fun hg11=>(Q5 _ _ _ _ _ _ _ _ _ _ hg11 q4_1 q4_2 q4_3 q4_4 q4_5 bdk bdk)) (fun mc11 ho11=>?_)
  refine VO.k6 0 1 4 5 9 12 (VC.rs (VO.as (VO.p2 111 0 (VO.k6 0 1 4 5 9 12 (VC.ret ?_)))))
  exact ZA 4 111 rfl ho11 (by first | rfl | (first | (rw [show Zm (Qc d0) d1=(Qc d0,Q1 (Qc d0)) from if_pos Qd,JF];done) | (rw [show Zm (Qc d0) d1=(Qc d0,2) from by unfold Zm;rw [if_neg Qd,if_pos Qd],JF];done) | exact congrArg Prod.fst (show (toR (Zm (Qc d0) d1).1 d0.2.2.2.2.2.1,(0:Int))=((d0.1,d0.2.1,d0.2.2.1,d0.2.2.2.1,true,d1,d0.2.2.2.2.2.2),0) from by unfold Zm;rw [if_neg Qd,if_neg Qd];simp [toR,Qc]))) (by first | rfl | (first | (rw [show Zm (Qc d0) d1=(Qc d0,Q1 (Qc d0)) from if_pos Qd] <;> rfl) | (rw [show Zm (Qc d0) d1=(Qc d0,2) from by unfold Zm;rw [if_neg Qd,if_pos Qd]] <;> rfl) | (unfold Zm;rw [if_neg Qd,if_neg Qd])))
theorem Qmb (W:World) {m0:Mem} (hm:mle (m0) (wm W)) {g0:Nat} {d0:Qo} (h0:Ow (.ptr Qn) m0 [.pointer (some ⟨g0,0,none⟩)] (g0,d0)) (e0:okR d0):Qg Tryz.prog 28 [.pointer (some ⟨g0,0,none⟩)] W (m0) (fun v m'=>v= .int .i64 ((Yv (Qc d0)).2)∧Ow (.ptr Qn) m' [.pointer (some ⟨g0,0,none⟩)] (g0,toR (Yv (Qc d0)).1 d0.2.2.2.2.2.1)):=by
 refine Qg.ofB (n:=12) hm Tryz.func28 rfl rfl rfl ?_
 refine VC.rs (VO.as (VO.k2 0 2 (VC.rs (VO.mv ?_))))
 refine VO.call 1 rfl Qg4 rfl rfl (fun W hW=>Qa7 W (hW.t 1) h0) (fun v1 m1 hv1=>?_)
 obtain ⟨rfl,w1_0⟩:=hv1
 refine VO.as (VO.k3 0 2 3 (VC.seq (VC.rs (VO.mv (VO.z (.neq rfl rfl) (VO.p2 1 0 (VO.k4 0 2 3 7 ?_)))))))
 refine VC.cond rfl (fun hc2=>?_) (fun hc2=>?_)
 ·refine VC.rs (VO.mv (VO.as (VO.k4 0 2 3 7 (VC.ret (QS ?_)))))
  exact ZA 2 1 rfl w1_0 (by first | rfl | (first | (rw [show Yv (Qc d0)=(Qc d0,Q1 (Qc d0)) from if_pos Qd,JF];done) | exact Qiu Qd)) (by first | rfl | (first | (rw [show Yv (Qc d0)=(Qc d0,Q1 (Qc d0)) from if_pos Qd] <;> rfl) | (unfold Yv;rw [if_neg Qd])))
 ·refine VC.skip (Qj (VC.rs (VO.mv (VO.z (.nilp rfl) (VO.z (.fa rfl JJ rfl) ?_)))))
  obtain ⟨q3_E,q3_A1,q3_c1,q3_A2,q3_c2,q3_A3,q3_c3,q3_A4,q3_c4,q3_A5,q3_c5,q3_n1,q3_n2,q3_n3,q3_n4,q3_n5,_,q3_S,q3_1,q3_2,q3_3,q3_4,q3_5,q3_8,q3_9⟩:=Ql w1_0
  have q3_r1:=q3_1.rm
  have q3_r2:=q3_2.rm
  have q3_r3:=q3_3.rm
  have q3_r4:=q3_4.rm
  have q3_r5:=q3_5.rm
  simp only [inK] at q3_8 q3_9
  refine VO.inv _ (fun _ h=>h.parts (i:=1) rfl q3_S [109,104,105,106,107,108]) ?_
  refine VO.s1 109 tk4 ?_
  refine VO.clsP 110 [109,104,105,106,107,108] rfl (fun hg10=>(Q5 _ _ _ _ _ _ _ _ _ _ hg10 q3_1 q3_2 q3_3 q3_4 q3_5 bdk bdk)) (fun mc10 ho10=>?_)
  refine VO.k4 0 2 3 7 (VC.rs (VO.as (VO.k4 0 2 3 7 (VC.ret ?_))))
  exact ZA 2 110 rfl ho10 (by first | rfl | (first | (rw [show Yv (Qc d0)=(Qc d0,Q1 (Qc d0)) from if_pos Qd,JF];done) | exact Qiu Qd)) (by first | rfl | (first | (rw [show Yv (Qc d0)=(Qc d0,Q1 (Qc d0)) from if_pos Qd] <;> rfl) | (unfold Yv;rw [if_neg Qd])))
theorem rOn_ok (W:World) {m0:Mem} (hm:mle (m0) (wm W)) {g0:Nat} {d0:Qo} (h0:Ow (.ptr Qn) m0 [.pointer (some ⟨g0,0,none⟩)] (g0,d0)):Qg Tryz.prog 40 [.pointer (some ⟨g0,0,none⟩)] W (m0) (fun v m'=>v= .bool (decide ((Qc d0).1=true∧(Qc d0).2.1=false))∧Ow (.ptr Qn) m' [.pointer (some ⟨g0,0,none⟩)] (g0,d0)):=by
 refine Qg.ofB (n:=12) hm Tryz.func40 rfl rfl rfl ?_
 refine VC.rs (VO.as (VO.k2 0 2 (VC.rs (VO.mv ?_))))
 refine VO.call 1 rfl Qg2 rfl rfl (fun W hW=>Qb7 W (hW.t 1) h0) (fun v1 m1 hv1=>?_)
 obtain ⟨rfl,w1_0⟩:=hv1
 refine VO.z (.notD rfl) (VO.mv ?_)
 refine VO.dec (t:=6) rfl (fun hc2=>?_) (fun hc2=>?_)
 ·refine VO.w (.mv rfl) (VO.w (.nilp rfl) (VO.w (.fa rfl JJ rfl) ?_))
  obtain ⟨q3_E,q3_A1,q3_c1,q3_A2,q3_c2,q3_A3,q3_c3,q3_A4,q3_c4,q3_A5,q3_c5,q3_n1,q3_n2,q3_n3,q3_n4,q3_n5,_,q3_S,q3_1,q3_2,q3_3,q3_4,q3_5,q3_8,q3_9⟩:=Ql w1_0
  have q3_r1:=q3_1.rm
  have q3_r2:=q3_2.rm
  have q3_r3:=q3_3.rm
  have q3_r4:=q3_4.rm
  have q3_r5:=q3_5.rm
  simp only [inK] at q3_8 q3_9
  refine VO.inv _ (fun _ h=>h.parts (i:=1) rfl q3_S [109,104,105,106,107,108]) ?_
  refine VO.w (.ld1 109 rfl tk4 rfl (Qa rfl rfl)) (VO.z (.pT rfl rfl) (VO.as ?_))
  refine VO.clsP 110 [109,104,105,106,107,108] rfl (fun hg10=>(QB d0 hg10 q3_1 q3_2 q3_3 q3_4 q3_5 bdk bdk)) (fun mc10 ho10=>?_)
  refine VO.k2 0 2 (VC.ret ?_)
  exact ZA 2 110 rfl ho10 (by first | rfl | (simp [*];done)) (by first | rfl | (first | exact congrArg Value.bool (on_T Qd) | exact congrArg Value.bool (on_F Qd)))
 ·refine VO.gN (VO.gN (VO.gN (VO.gN (VO.z (.pF rfl rfl) (VO.as (VO.k2 0 2 (VC.ret ?_)))))))
  exact ZA 2 1 rfl w1_0 (by first | rfl | (simp [*];done)) (by first | rfl | (first | exact congrArg Value.bool (on_T Qd) | exact congrArg Value.bool (on_F Qd)))
theorem Qkr (W:World) {m0:Mem} (hm:mle (m0) (wm W)) {g0:Nat} {d0:Qo} (h0:Ow (.ptr Qn) m0 [.pointer (some ⟨g0,0,none⟩)] (g0,d0)):Qg Tryz.prog 38 [.pointer (some ⟨g0,0,none⟩)] W (m0) (fun v m'=>v= .int .i64 (Qfj (Qc d0))∧Ow (.ptr Qn) m' [.pointer (some ⟨g0,0,none⟩)] (g0,d0)):=by
 refine Qg.ofB (n:=9) hm Tryz.func38 rfl rfl rfl ?_
 refine VC.rs (VO.as (VO.k2 0 2 (VC.seq (VC.rs (VO.mv ?_)))))
 refine VO.call 1 rfl Qg2 rfl rfl (fun W hW=>Qb7 W (hW.t 1) h0) (fun v1 m1 hv1=>?_)
 obtain ⟨rfl,w1_0⟩:=hv1
 refine VO.k3 0 2 4 ?_
 refine VC.cond rfl (fun hc2=>?_) (fun hc2=>?_)
 ·refine VC.rs (VO.as (VO.p2 1 0 (VO.k3 0 2 4 (VC.ret (QS ?_)))))
  exact ZA 2 1 rfl w1_0 (by first | rfl | (simp [*];done)) (by first | rfl | (first | (simp [Qfj,Qc, *];done)))
 ·refine VC.skip (Qj (VC.rs (VO.mv (VO.z (.nilp rfl) (VO.z (.fa rfl JJ rfl) ?_)))))
  obtain ⟨q3_E,q3_A1,q3_c1,q3_A2,q3_c2,q3_A3,q3_c3,q3_A4,q3_c4,q3_A5,q3_c5,q3_n1,q3_n2,q3_n3,q3_n4,q3_n5,_,q3_S,q3_1,q3_2,q3_3,q3_4,q3_5,q3_8,q3_9⟩:=Ql w1_0
  have q3_r1:=q3_1.rm
  have q3_r2:=q3_2.rm
  have q3_r3:=q3_3.rm
  have q3_r4:=q3_4.rm
  have q3_r5:=q3_5.rm
  simp only [inK] at q3_8 q3_9
  refine VO.inv _ (fun _ h=>h.parts (i:=1) rfl q3_S [109,104,105,106,107,108]) ?_
  refine VO.z (.ld1 109 rfl tk3 rfl (Qa rfl rfl)) (VO.as ?_)
  refine VO.clsP 110 [109,104,105,106,107,108] rfl (fun hg10=>(QB d0 hg10 q3_1 q3_2 q3_3 q3_4 q3_5 bdk bdk)) (fun mc10 ho10=>?_)
  refine VO.p2 110 0 (VO.k3 0 2 4 (VC.ret ?_))
  exact ZA 2 110 rfl ho10 (by first | rfl | (simp [*];done)) (by first | rfl | (first | (simp [Qfj,Qc, *];done)))
theorem Q9 {P:Prop} (h:P:=by first | (rw [YX (d:=Qc d0) (by assumption) (Decidable.not_not.2 (show inF d1 from ⟨by omega,by omega⟩)),YH ‹d1=(0:Int)›] <;> rfl) | (rw [YX (d:=Qc d0) (by assumption) (Decidable.not_not.2 (show inF d1 from ⟨by omega,by omega⟩)),YG ‹d1=(1:Int)›] <;> rfl) | (rw [YX (d:=Qc d0) (by assumption) (Decidable.not_not.2 (show inF d1 from ⟨by omega,by omega⟩)),YF ‹d1=(2:Int)›] <;> rfl) | (rw [YX (d:=Qc d0) (by assumption) (Decidable.not_not.2 (show inF d1 from ⟨by omega,by omega⟩)),YE ‹d1=(3:Int)›] <;> rfl) | exact if_pos (.inl (by assumption)) | exact if_pos (.inr (fun q_:inF d1=>by obtain ⟨q1_,q2_⟩:=q_;omega))):P:=h
theorem JH {P:Prop} (h:P:=by first | exact bd | (simp only [wD,Ye,Qc,List.length_nil] at*;omega)):P:=h
theorem Zl {k:IntKind} {x:Int} (h:inK k x:=by simp only [inK];exact JH):inK k x:=h
set_option maxHeartbeats 1000000 in
theorem QhO (W:World) {m0:Mem} (hm:mle (m0) (wm W)) {g0:Nat} {d0:Qo} (h0:Ow (.ptr Qn) m0 [.pointer (some ⟨g0,0,none⟩)] (g0,d0)) (d1:Int) (h1:inK .i64 d1) (e0:wD (Qc d0)≤1000000000000):Qg Tryz.prog 36 [.pointer (some ⟨g0,0,none⟩),.int .i64 d1] W (m0) (fun v m'=>∃ (s0:Value),∃ (p0:Mem),∃ (p1:Mem),v=s0∧Qu m' [p0,p1]∧Ow (.sl .byte) p0 [s0] (ZQ (Qc d0) d1)∧Ow (.ptr Qn) p1 [.pointer (some ⟨g0,0,none⟩)] (g0,d0)):=by
 have h1':=h1;simp only [inK] at h1'
 refine Qg.ofB (n:=25) hm Tryz.func36 rfl rfl rfl ?_
 refine VC.rs (VO.as (VO.k3 0 1 4 (VC.rs (VO.as (VO.k4 0 1 4 5 (VC.seq (VC.rs (VO.mv ?_))))))))
 refine VO.call 1 rfl Qg2 rfl rfl (fun W hW=>Qb7 W (hW.t 1) h0) (fun v1 m1 hv1=>?_)
 obtain ⟨rfl,w1_0⟩:=hv1
 refine VO.mv ?_
 refine VO.dec (t:=8) rfl (fun hc2=>?_) (fun hc2=>?_)
 · refine VO.gN (VO.gN (VO.z (.pT rfl rfl) (VO.mv (VO.gN (VO.gN (VO.z (.pT rfl rfl) (VO.p2 1 0 (VO.k5 0 1 4 5 15 (VC.condT rfl (VC.rs (VO.mv ?_)))))))))))
   refine VO.as (VO.k5 0 1 4 5 15 (VC.ret (QS ?_)))
   refine Yz 4 [1] fun hS_=>?_
   dsimp only [Qv]
   have he0:(ZQ (Qc d0) d1:Ty.Den (.sl .byte))=[]:=by first | rfl | (exact Q9)
   refine ⟨.slice none (0) (0),Zv [],Zv [m1],?_,?_,?_,?_⟩
   rotate_left
   · exact Qu.grp (ls:=[[],[m1]]) hS_
   · rw [he0];exact (Ow.nil _ _)
   · exact Ow.cgP (Ow.up w1_0 ((Qu.self hS_ (List.Sublist.cons_cons _ List.Sublist.slnil)).1 _ (.head _))) (by first | rfl | exact Q9)
   all_goals (first | rfl | (simp [*];done))
 refine VO.w (.mv rfl) (VO.w (.lss rfl rfl) (VO.z (.pF rfl rfl) (VO.mv ?_)))
 refine VO.dec (t:=12) rfl (fun hc3=>?_) (fun hc3=>?_)
 · refine VO.gN (VO.gN (VO.z (.pT rfl rfl) (VO.p2 1 0 (VO.k5 0 1 4 5 15 (VC.condT rfl (VC.rs (VO.mv (VO.as (VO.k5 0 1 4 5 15 (VC.ret (QS ?_)))))))))))
   refine Yz 4 [1] fun hS_=>?_
   dsimp only [Qv]
   have he0:(ZQ (Qc d0) d1:Ty.Den (.sl .byte))=[]:=by first | rfl | (exact Q9)
   refine ⟨.slice none (0) (0),Zv [],Zv [m1],?_,?_,?_,?_⟩
   rotate_left
   · exact Qu.grp (ls:=[[],[m1]]) hS_
   · rw [he0];exact (Ow.nil _ _)
   · exact Ow.cgP (Ow.up w1_0 ((Qu.self hS_ (List.Sublist.cons_cons _ List.Sublist.slnil)).1 _ (.head _))) (by first | rfl | exact Q9)
   all_goals (first | rfl | (simp [*];done))
 refine VO.w (.mv rfl) (VO.w (.geq rfl rfl) (VO.z (.pF rfl rfl) (VO.p2 1 0 (VO.k5 0 1 4 5 15 ?_))))
 refine VC.cond rfl (fun hc4=>?_) (fun hc4=>?_)
 · refine VC.rs (VO.mv (VO.as (VO.k5 0 1 4 5 15 (VC.ret (QS ?_)))))
   refine Yz 4 [1] fun hS_=>?_
   dsimp only [Qv]
   have he0:(ZQ (Qc d0) d1:Ty.Den (.sl .byte))=[]:=by first | rfl | (exact Q9)
   refine ⟨.slice none (0) (0),Zv [],Zv [m1],?_,?_,?_,?_⟩
   rotate_left
   · exact Qu.grp (ls:=[[],[m1]]) hS_
   · rw [he0];exact (Ow.nil _ _)
   · exact Ow.cgP (Ow.up w1_0 ((Qu.self hS_ (List.Sublist.cons_cons _ List.Sublist.slnil)).1 _ (.head _))) (by first | rfl | exact Q9)
   all_goals (first | rfl | (simp [*];done))
 refine VC.skip (Qj (VC.rs (VO.mv (VO.mv (VO.mv (VO.z (.nilp rfl) (VO.z (.fa rfl JJ rfl) ?_)))))))
 rcases (show d1=(0:Int)∨d1=(1:Int)∨d1=(2:Int)∨d1=(3:Int) from by exact JH) with hi5 | hi5 | hi5 | hi5
 · refine VO.z (.ixa (i:=0) (o:=1) rfl rfl Zz hi5 rfl rfl) ?_
   obtain ⟨q6_E,q6_A1,q6_c1,q6_A2,q6_c2,q6_A3,q6_c3,q6_A4,q6_c4,q6_A5,q6_c5,q6_n1,q6_n2,q6_n3,q6_n4,q6_n5,_,q6_S,q6_1,q6_2,q6_3,q6_4,q6_5,q6_8,q6_9⟩:=Ql w1_0
   have q6_r1:=q6_1.rm
   have q6_r2:=q6_2.rm
   have q6_r3:=q6_3.rm
   have q6_r4:=q6_4.rm
   have q6_r5:=q6_5.rm
   simp only [inK] at q6_8 q6_9
   refine VO.inv _ (fun _ h=>h.parts (i:=1) rfl q6_S [112,107,108,109,110,111]) ?_
   refine VO.z (.ld1 112 rfl YT rfl (Qa rfl rfl)) ?_
   refine VO.inv _ (fun _ h=>h.nilc 114) ?_
   obtain ⟨mo13,cs13,hM13,hA13,hC13⟩:=(Qz.nil .byte Qr Qr)
   obtain ⟨all13,hS13,hR13⟩:=Rd.srcI (P:=Tryz.prog) ((Ow.rd q6_1 (Qb _))) Tryz.underlying47
   refine VO.app 114 rfl rfl rfl Q0 tz5 rfl rfl hM13 hA13 (hS13 _ 107 rfl) hR13.nice (by simp only [maxLen];(exact JH)) JH (by decide) (fun v13 m13 hN13=>?_)
   have ho13:Qz .byte m13 Qr v13 (d0.2.1.1):=Qz.more hC13 hN13 (QV.mono hR13 fun _ _ h=>Rd.flat rfl h _)
   obtain ⟨A13,c13,rfl,l13,k13⟩:=ho13.slc
   refine VO.as ?_
   refine VO.clsP 115 [112,107,108,109,110,111] rfl (fun hg15=>(QB d0 hg15 q6_1 q6_2 q6_3 q6_4 q6_5 Zl Zl)) (fun mc15 ho15=>?_)
   refine VO.k5 0 1 4 5 15 (VC.ret ?_)
   refine Yz 4 [114,115] fun hS_=>?_
   dsimp only [Qv]
   refine ⟨.slice A13 ((d0.2.1.1).length) (c13),Zv [m13],Zv [mc15],?_,?_,?_,?_⟩
   rotate_left
   · exact Qu.grp (ls:=[[m13],[mc15]]) hS_
   · exact Ow.cg (Ow.up (Qz.ow ho13 rfl) ((Qu.self hS_ (List.Sublist.cons_cons _ (List.Sublist.cons _ List.Sublist.slnil))).1 _ (.head _))) (by first | rfl | exact Q9)
   · exact Ow.cgP (Ow.up ho15 ((Qu.self hS_ (List.Sublist.cons _ (List.Sublist.cons_cons _ List.Sublist.slnil))).1 _ (.head _))) (by first | rfl | exact Q9)
   all_goals (first | rfl | (simp [*];done))
 · refine VO.z (.ixa (i:=1) (o:=2) rfl rfl Zz hi5 rfl rfl) ?_
   obtain ⟨q16_E,q16_A1,q16_c1,q16_A2,q16_c2,q16_A3,q16_c3,q16_A4,q16_c4,q16_A5,q16_c5,q16_n1,q16_n2,q16_n3,q16_n4,q16_n5,_,q16_S,q16_1,q16_2,q16_3,q16_4,q16_5,q16_8,q16_9⟩:=Ql w1_0
   have q16_r1:=q16_1.rm
   have q16_r2:=q16_2.rm
   have q16_r3:=q16_3.rm
   have q16_r4:=q16_4.rm
   have q16_r5:=q16_5.rm
   simp only [inK] at q16_8 q16_9
   refine VO.inv _ (fun _ h=>h.parts (i:=1) rfl q16_S [122,117,118,119,120,121]) ?_
   refine VO.z (.ld1 122 rfl YT rfl (Qa rfl rfl)) ?_
   refine VO.inv _ (fun _ h=>h.nilc 124) ?_
   obtain ⟨mo23,cs23,hM23,hA23,hC23⟩:=(Qz.nil .byte Qr Qr)
   obtain ⟨all23,hS23,hR23⟩:=Rd.srcI (P:=Tryz.prog) ((Ow.rd q16_2 (Qb _))) Tryz.underlying47
   refine VO.app 124 rfl rfl rfl Q0 tz5 rfl rfl hM23 hA23 (hS23 _ 118 rfl) hR23.nice (by simp only [maxLen];(exact JH)) JH (by decide) (fun v23 m23 hN23=>?_)
   have ho23:Qz .byte m23 Qr v23 (d0.2.1.2.1):=Qz.more hC23 hN23 (QV.mono hR23 fun _ _ h=>Rd.flat rfl h _)
   obtain ⟨A23,c23,rfl,l23,k23⟩:=ho23.slc
   refine VO.as ?_
   refine VO.clsP 125 [122,117,118,119,120,121] rfl (fun hg25=>(QB d0 hg25 q16_1 q16_2 q16_3 q16_4 q16_5 Zl Zl)) (fun mc25 ho25=>?_)
   refine VO.k5 0 1 4 5 15 (VC.ret ?_)
   refine Yz 4 [124,125] fun hS_=>?_
   dsimp only [Qv]
   refine ⟨.slice A23 ((d0.2.1.2.1).length) (c23),Zv [m23],Zv [mc25],?_,?_,?_,?_⟩
   rotate_left
   · exact Qu.grp (ls:=[[m23],[mc25]]) hS_
   · exact Ow.cg (Ow.up (Qz.ow ho23 rfl) ((Qu.self hS_ (List.Sublist.cons_cons _ (List.Sublist.cons _ List.Sublist.slnil))).1 _ (.head _))) (by first | rfl | exact Q9)
   · exact Ow.cgP (Ow.up ho25 ((Qu.self hS_ (List.Sublist.cons _ (List.Sublist.cons_cons _ List.Sublist.slnil))).1 _ (.head _))) (by first | rfl | exact Q9)
   all_goals (first | rfl | (simp [*];done))
 · refine VO.z (.ixa (i:=2) (o:=3) rfl rfl Zz hi5 rfl rfl) ?_
   obtain ⟨q26_E,q26_A1,q26_c1,q26_A2,q26_c2,q26_A3,q26_c3,q26_A4,q26_c4,q26_A5,q26_c5,q26_n1,q26_n2,q26_n3,q26_n4,q26_n5,_,q26_S,q26_1,q26_2,q26_3,q26_4,q26_5,q26_8,q26_9⟩:=Ql w1_0
   have q26_r1:=q26_1.rm
   have q26_r2:=q26_2.rm
   have q26_r3:=q26_3.rm
   have q26_r4:=q26_4.rm
   have q26_r5:=q26_5.rm
   simp only [inK] at q26_8 q26_9
   refine VO.inv _ (fun _ h=>h.parts (i:=1) rfl q26_S [132,127,128,129,130,131]) ?_
   refine VO.z (.ld1 132 rfl YT rfl (Qa rfl rfl)) ?_
   refine VO.inv _ (fun _ h=>h.nilc 134) ?_
   obtain ⟨mo33,cs33,hM33,hA33,hC33⟩:=(Qz.nil .byte Qr Qr)
   obtain ⟨all33,hS33,hR33⟩:=Rd.srcI (P:=Tryz.prog) ((Ow.rd q26_3 (Qb _))) Tryz.underlying47
   refine VO.app 134 rfl rfl rfl Q0 tz5 rfl rfl hM33 hA33 (hS33 _ 129 rfl) hR33.nice (by simp only [maxLen];(exact JH)) JH (by decide) (fun v33 m33 hN33=>?_)
   have ho33:Qz .byte m33 Qr v33 (d0.2.1.2.2.1):=Qz.more hC33 hN33 (QV.mono hR33 fun _ _ h=>Rd.flat rfl h _)
   obtain ⟨A33,c33,rfl,l33,k33⟩:=ho33.slc
   refine VO.as ?_
   refine VO.clsP 135 [132,127,128,129,130,131] rfl (fun hg35=>(QB d0 hg35 q26_1 q26_2 q26_3 q26_4 q26_5 Zl Zl)) (fun mc35 ho35=>?_)
   refine VO.k5 0 1 4 5 15 (VC.ret ?_)
   refine Yz 4 [134,135] fun hS_=>?_
   dsimp only [Qv]
   refine ⟨.slice A33 ((d0.2.1.2.2.1).length) (c33),Zv [m33],Zv [mc35],?_,?_,?_,?_⟩
   rotate_left
   · exact Qu.grp (ls:=[[m33],[mc35]]) hS_
   · exact Ow.cg (Ow.up (Qz.ow ho33 rfl) ((Qu.self hS_ (List.Sublist.cons_cons _ (List.Sublist.cons _ List.Sublist.slnil))).1 _ (.head _))) (by first | rfl | exact Q9)
   · exact Ow.cgP (Ow.up ho35 ((Qu.self hS_ (List.Sublist.cons _ (List.Sublist.cons_cons _ List.Sublist.slnil))).1 _ (.head _))) (by first | rfl | exact Q9)
   all_goals (first | rfl | (simp [*];done))
 · refine VO.z (.ixa (i:=3) (o:=4) rfl rfl Zz hi5 rfl rfl) ?_
   obtain ⟨q36_E,q36_A1,q36_c1,q36_A2,q36_c2,q36_A3,q36_c3,q36_A4,q36_c4,q36_A5,q36_c5,q36_n1,q36_n2,q36_n3,q36_n4,q36_n5,_,q36_S,q36_1,q36_2,q36_3,q36_4,q36_5,q36_8,q36_9⟩:=Ql w1_0
   have q36_r1:=q36_1.rm
   have q36_r2:=q36_2.rm
   have q36_r3:=q36_3.rm
   have q36_r4:=q36_4.rm
   have q36_r5:=q36_5.rm
   simp only [inK] at q36_8 q36_9
   refine VO.inv _ (fun _ h=>h.parts (i:=1) rfl q36_S [142,137,138,139,140,141]) ?_
   refine VO.z (.ld1 142 rfl YT rfl (Qa rfl rfl)) ?_
   refine VO.inv _ (fun _ h=>h.nilc 144) ?_
   obtain ⟨mo43,cs43,hM43,hA43,hC43⟩:=(Qz.nil .byte Qr Qr)
   obtain ⟨all43,hS43,hR43⟩:=Rd.srcI (P:=Tryz.prog) ((Ow.rd q36_4 (Qb _))) Tryz.underlying47
   refine VO.app 144 rfl rfl rfl Q0 tz5 rfl rfl hM43 hA43 (hS43 _ 140 rfl) hR43.nice (by simp only [maxLen];(exact JH)) JH (by decide) (fun v43 m43 hN43=>?_)
   have ho43:Qz .byte m43 Qr v43 (d0.2.1.2.2.2):=Qz.more hC43 hN43 (QV.mono hR43 fun _ _ h=>Rd.flat rfl h _)
   obtain ⟨A43,c43,rfl,l43,k43⟩:=ho43.slc
   refine VO.as ?_
   refine VO.clsP 145 [142,137,138,139,140,141] rfl (fun hg45=>(QB d0 hg45 q36_1 q36_2 q36_3 q36_4 q36_5 Zl Zl)) (fun mc45 ho45=>?_)
   refine VO.k5 0 1 4 5 15 (VC.ret ?_)
   refine Yz 4 [144,145] fun hS_=>?_
   dsimp only [Qv]
   refine ⟨.slice A43 ((d0.2.1.2.2.2).length) (c43),Zv [m43],Zv [mc45],?_,?_,?_,?_⟩
   rotate_left
   · exact Qu.grp (ls:=[[m43],[mc45]]) hS_
   · exact Ow.cg (Ow.up (Qz.ow ho43 rfl) ((Qu.self hS_ (List.Sublist.cons_cons _ (List.Sublist.cons _ List.Sublist.slnil))).1 _ (.head _))) (by first | rfl | exact Q9)
   · exact Ow.cgP (Ow.up ho45 ((Qu.self hS_ (List.Sublist.cons _ (List.Sublist.cons_cons _ List.Sublist.slnil))).1 _ (.head _))) (by first | rfl | exact Q9)
   all_goals (first | rfl | (simp [*];done))
theorem J0 {P:Prop} (h:P:=by first | (rw [QcL (by assumption),JF];done) | (rw [Yr (by assumption) (.inl (is_on (by assumption))),JF];done) | (rw [Yr (by assumption) (.inr (.inl (by assumption))),JF];done) | (rw [Yr (by assumption) (.inr (.inr (by assumption))),JF];done) | (rw [(XW (r:=d0) (k:=d1) (t:=d2) (by assumption) (by assumption) (by assumption) (by assumption)).1,Qkj (by omega) (by simp only [ZT] at*;omega)];exact Xk rfl) | (rw [(XW (r:=d0) (k:=d1) (t:=d2) (by assumption) (by assumption) (by assumption) (by assumption)).1,Ql8 (by omega) (by have h_:=‹_[d1.toNat]? =some _›;rw [ZT] at h_;exact h_) (by assumption)];exact Xk rfl) | (rw [(XW (r:=d0) (k:=d1) (t:=d2) (by assumption) (by assumption) (by assumption) (by assumption)).1,Qb6 (by omega) (by have h_:=‹_[d1.toNat]? =some _›;rw [ZT] at h_;exact h_) (by assumption),QeA ‹_=(0:Int)›,YH ‹_=(0:Int)›];exact Xk rfl) | (rw [(XW (r:=d0) (k:=d1) (t:=d2) (by assumption) (by assumption) (by assumption) (by assumption)).1,Qb6 (by omega) (by have h_:=‹_[d1.toNat]? =some _›;rw [ZT] at h_;exact h_) (by assumption),Qez ‹_=(1:Int)›,YG ‹_=(1:Int)›];exact Xk rfl) | (rw [(XW (r:=d0) (k:=d1) (t:=d2) (by assumption) (by assumption) (by assumption) (by assumption)).1,Qb6 (by omega) (by have h_:=‹_[d1.toNat]? =some _›;rw [ZT] at h_;exact h_) (by assumption),Qey ‹_=(2:Int)›,YF ‹_=(2:Int)›];exact Xk rfl) | (rw [(XW (r:=d0) (k:=d1) (t:=d2) (by assumption) (by assumption) (by assumption) (by assumption)).1,Qb6 (by omega) (by have h_:=‹_[d1.toNat]? =some _›;rw [ZT] at h_;exact h_) (by assumption),Qex ‹_=(3:Int)›,YE ‹_=(3:Int)›];exact Xk rfl)):P:=h
theorem JZ {P:Prop} (h:P:=by first | (rw [QcL (by assumption)] <;> rfl) | (rw [Yr (by assumption) (.inl (is_on (by assumption)))] <;> rfl) | (rw [Yr (by assumption) (.inr (.inl (by assumption)))] <;> rfl) | (rw [Yr (by assumption) (.inr (.inr (by assumption)))] <;> rfl) | (rw [(XW (r:=d0) (k:=d1) (t:=d2) (by assumption) (by assumption) (by assumption) (by assumption)).2] <;> rfl)):P:=h
theorem QL {P:Prop} (h:P:=by first | exact bd | (have h_:=‹_[d1.toNat]? =some _›;rw [ZT] at h_;have h2_:=XV e0 h_;have h3_:=h2_.2.1 (by first | assumption | simpa using ‹_›);simp only [inF] at h2_;omega)):P:=h
theorem QC {k:IntKind} {x:Int} (h:inK k x:=by simp only [inK];exact QL):inK k x:=h
set_option maxHeartbeats 4000000 in
theorem Qks (W:World) {m0:Mem} (hm:mle (m0) (wm W)) {g0:Nat} {d0:Qo} (h0:Ow (.ptr Qn) m0 [.pointer (some ⟨g0,0,none⟩)] (g0,d0)) (d1:Int) (h1:inK .i64 d1) (d2:Int) (h2:inK .i64 d2) (e0:okR d0) (e1:wD (Qc d0)≤1000000000000):Qg Tryz.prog 30 [.pointer (some ⟨g0,0,none⟩),.int .i64 d1,.int .i64 d2] W (m0) (fun v m'=>v= .int .i64 ((Zr (Qc d0) d1 d2).2)∧Ow (.ptr Qn) m' [.pointer (some ⟨g0,0,none⟩)] (g0,toR (Zr (Qc d0) d1 d2).1 d0.2.2.2.2.2.1)):=by
 have h1':=h1;simp only [inK] at h1'
 have h2':=h2;simp only [inK] at h2'
 refine Qg.ofB (n:=87) hm Tryz.func30 rfl rfl rfl ?_
 refine VC.rs (VO.as (VO.k4 0 1 2 6 (VC.seq (VC.rs (VO.mv ?_)))))
 refine VO.call 1 rfl Qg2 rfl rfl (fun W hW=>Qb7 W (hW.t 1) h0) (fun v1 m1 hv1=>?_)
 obtain ⟨rfl,w1_0⟩:=hv1
 refine VO.k5 0 1 2 6 10 ?_
 refine VC.cond rfl (fun hc2=>?_) (fun hc2=>?_)
 refine VC.rs (VO.as (VO.p2 1 0 (VO.k5 0 1 2 6 10 (VC.ret (QS ?_)))))
 exact ZA 6 1 rfl w1_0 (by first | rfl | exact J0) (by first | rfl | exact JZ)
 refine VC.skip (Qj (VC.seq (VC.rs (VO.mv (VO.z (.nilp rfl) (VO.z (.fa rfl JJ rfl) ?_))))))
 obtain ⟨q3_E,q3_A1,q3_c1,q3_A2,q3_c2,q3_A3,q3_c3,q3_A4,q3_c4,q3_A5,q3_c5,q3_n1,q3_n2,q3_n3,q3_n4,q3_n5,_,q3_S,q3_1,q3_2,q3_3,q3_4,q3_5,q3_8,q3_9⟩:=Ql w1_0
 have q3_r1:=q3_1.rm
 have q3_r2:=q3_2.rm
 have q3_r3:=q3_3.rm
 have q3_r4:=q3_4.rm
 have q3_r5:=q3_5.rm
 simp only [inK] at q3_8 q3_9
 refine VO.inv _ (fun _ h=>h.parts (i:=1) rfl q3_S [109,104,105,106,107,108]) ?_
 refine VO.z (.ld1 109 rfl tk4 rfl (Qa rfl rfl)) (VO.mv ?_)
 refine VO.decB (t:=15) rfl (fun hc10=>?_) (fun hc10=>?_)
 · refine VO.gN (VO.gN (VO.z (.pT rfl rfl) (VO.mv (VO.gN (VO.gN (VO.z (.pT rfl rfl) (VO.p7 109 104 105 106 107 108 0 (VO.k6 0 1 2 6 10 22 (VC.condT rfl (VC.rs (VO.as ?_)))))))))))
   refine VO.k6 0 1 2 6 10 22 (VC.ret (QS ?_))
   refine Yz 6 [109,104,105,106,107,108] fun hS_=>?_
   dsimp only [Qv]
   have hm0_:(toR (Zr (Qc d0) d1 d2).1 d0.2.2.2.2.2.1:Qo)=d0:=by first | rfl | (exact J0)
   refine ⟨?_,?_⟩
   rotate_left
   · rw [hm0_];exact (QB d0 hS_ q3_1 q3_2 q3_3 q3_4 q3_5 QC QC)
   all_goals (first | rfl | (exact JZ))
 refine VO.w (.mv rfl) (VO.w (.lss rfl rfl) (VO.z (.pF rfl rfl) (VO.mv ?_)))
 refine VO.dec (t:=19) rfl (fun hc11=>?_) (fun hc11=>?_)
 · refine VO.gN (VO.gN (VO.z (.pT rfl rfl) (VO.p7 109 104 105 106 107 108 0 (VO.k6 0 1 2 6 10 22 (VC.condT rfl (VC.rs (VO.as (VO.k6 0 1 2 6 10 22 (VC.ret (QS ?_))))))))))
   refine Yz 6 [109,104,105,106,107,108] fun hS_=>?_
   dsimp only [Qv]
   have hm0_:(toR (Zr (Qc d0) d1 d2).1 d0.2.2.2.2.2.1:Qo)=d0:=by first | rfl | (exact J0)
   refine ⟨?_,?_⟩
   rotate_left
   · rw [hm0_];exact (QB d0 hS_ q3_1 q3_2 q3_3 q3_4 q3_5 QC QC)
   all_goals (first | rfl | (exact JZ))
 refine VO.w (.mv rfl) (VO.w (.lss rfl rfl) (VO.z (.pF rfl rfl) (VO.p7 109 104 105 106 107 108 0 (VO.k6 0 1 2 6 10 22 ?_))))
 refine VC.cond rfl (fun hc12=>?_) (fun hc12=>?_)
 · refine VC.rs (VO.as (VO.k6 0 1 2 6 10 22 (VC.ret (QS ?_))))
   refine Yz 6 [109,104,105,106,107,108] fun hS_=>?_
   dsimp only [Qv]
   have hm0_:(toR (Zr (Qc d0) d1 d2).1 d0.2.2.2.2.2.1:Qo)=d0:=by first | rfl | (exact J0)
   refine ⟨?_,?_⟩
   rotate_left
   · rw [hm0_];exact (QB d0 hS_ q3_1 q3_2 q3_3 q3_4 q3_5 QC QC)
   all_goals (first | rfl | (exact JZ))
 refine VC.skip (Qj (VC.rs (VO.mv (VO.mv ?_))))
 refine VO.clsP 114 [109,104,105,106,107,108] rfl (fun hg14=>(QB d0 hg14 q3_1 q3_2 q3_3 q3_4 q3_5 QC QC)) (fun mc14 ho14=>?_)
 refine VO.call 114 rfl Qm5 rfl rfl (fun W hW=>Qiz W (hW.t 114) ho14 d1 QC Qd QL QL) (fun v13 m13 hv13=>?_)
 obtain ⟨rfl,w13_0⟩:=hv13
 refine VO.k6 0 1 2 6 10 22 (VC.seq (VC.rs (VO.mv (VO.mv (VO.z (.nilp rfl) (VO.z (.fa rfl JJ rfl) ?_))))))
 obtain ⟨q15_E,q15_A1,q15_c1,q15_A2,q15_c2,q15_A3,q15_c3,q15_A4,q15_c4,q15_A5,q15_c5,q15_n1,q15_n2,q15_n3,q15_n4,q15_n5,_,q15_S,q15_1,q15_2,q15_3,q15_4,q15_5,q15_8,q15_9⟩:=Ql w13_0
 have q15_r1:=q15_1.rm
 have q15_r2:=q15_2.rm
 have q15_r3:=q15_3.rm
 have q15_r4:=q15_4.rm
 have q15_r5:=q15_5.rm
 simp only [inK] at q15_8 q15_9
 refine VO.inv _ (fun _ h=>h.parts (i:=114) rfl q15_S [121,116,117,118,119,120]) ?_
 refine VO.z (.ld1 121 rfl QeO rfl (Qa rfl rfl)) (VO.z (.lenS rfl QcI) (VO.z (.lss rfl rfl) (VO.mv ?_)))
 refine VO.dec (t:=33) rfl (fun hc22=>?_) (fun hc22=>?_)
 refine VO.w (.mv rfl) (VO.w (.nilp rfl) (VO.w (.fa rfl JJ rfl) (VO.w (.ld1 121 rfl QeO rfl (Qa rfl rfl)) (VO.w (.mv rfl) ?_))))
 obtain ⟨x23,hx23⟩:∃ z_,((toR (Jm (Qc d0) d1.toNat) d0.2.2.2.2.2.1).2.2.1)[(d1).toNat]? =some z_:=⟨_,List.getElem?_eq_getElem QL⟩
 obtain ⟨gg23,oo23,ec23,ea23,hce23,hre23⟩:=(Ow.rd q15_5 (Qb _)).elem hx23
 cases ea23
 obtain ⟨q23_A3,q23_c3,rfl,q23_0,q23_2,q23_3⟩:=XH (x0:=x23.1) (x1:=x23.2.1) (x2:=x23.2.2.1) (x3:=x23.2.2.2) hre23
 simp only [inK] at q23_0 q23_2
 have q23_r3:=Rd.room q23_3
 refine VO.w (.ixI ((d1).toNat) rfl rfl QcI QL QL) ?_
 refine VO.w (.fa rfl Yf rfl) ?_
 refine VO.w (.ld1 120 rfl tk4 rfl (hce23.at1 (j:=1) rfl)) ?_
 refine VO.w (.not rfl) (VO.z (.pT rfl rfl) (VO.k7 0 1 2 6 10 22 43 ?_))
 refine VC.condBN rfl (fun hc24=>?_) (fun hc24=>?_)
 refine VC.rs (VO.mv (VO.z (.nilp rfl) (VO.z (.fa rfl JJ rfl) (VO.z (.ld1 121 rfl QeO rfl (Qa rfl rfl)) (VO.mv ?_)))))
 refine VO.z (.ixI ((d1).toNat) rfl rfl QcI QL QL) ?_
 refine VO.z (.ldA 120 rfl QfK rfl hce23) ?_
 refine VO.alloc 127 rfl Qdo (fun g26=>?_)
 refine VO.store (k:=4) (c':=[.int .i64 (x23.1),.bool x23.2.1,.int .i64 (x23.2.2.1),.slice q23_A3 (x23.2.2.2.length) (q23_c3)]) 127 rfl rfl (.inl QfK) rfl rfl rfl rfl rfl ?_
 refine VO.p8 127 121 116 117 118 119 120 0 (VO.k8 0 1 2 6 7 10 22 43 (VC.rs (VO.mv (VO.z (.fa rfl Yf rfl) (VO.z (.ld1 127 rfl YT rfl (Qa rfl rfl)) (VO.z (.lenS rfl Q0) ?_))))))
 refine VO.z (.sub rfl rfl rfl ⟨by exact QL,by exact QL⟩) ?_
 refine VO.z (.minM rfl rfl) (VO.as (VO.k9 0 1 2 6 7 8 10 22 43 ?_))
 refine VC.regD _ 20 [(0,true),(1,true),(2,true),(3,true),(4,true),(5,true),(6,true),(7,true),(8,true),(9,true),(10,true),(11,true),(12,true),(13,true),(14,true),(15,true),(16,true),(18,true),(19,true),(17,false)] follows (by kernel_rfl) (fun _ h=>h.sub [127,121,116,117,118,119,120,0]) ?_
 refine VD.z rfl (.mv rfl) (VD.z rfl (.fa rfl Yf rfl) (VD.z rfl (.ld1 127 rfl tk3 rfl (Qa rfl rfl)) (VD.z rfl (.mv rfl) (VD.z rfl (.fa rfl Yf rfl) (VD.z rfl (.ld1 127 rfl tk3 rfl (Qa rfl rfl)) (VD.z rfl (.nilp rfl) (VD.z rfl (.fa rfl JJ rfl) ?_)))))))
 rcases (show x23.1=(0:Int)∨x23.1=(1:Int)∨x23.1=(2:Int)∨x23.1=(3:Int) from by exact QL) with hi28 | hi28 | hi28 | hi28
 · refine VD.z rfl (.ixa (i:=0) (o:=1) rfl rfl Zz hi28 rfl rfl) ?_
   refine VD.z rfl (.ld1 121 rfl YT rfl (Qa rfl rfl)) (VD.z rfl (.fa rfl Yf rfl) (VD.z rfl (.ld1 127 rfl tk3 rfl (Qa rfl rfl)) (VD.z rfl (.fa rfl Yf rfl) (VD.z rfl (.ld1 127 rfl YT rfl (Qa rfl rfl)) (VD.z rfl (.mv rfl) ?_)))))
   have hs29:=q23_3.pre (j:=((min d2 (((x23.2.2.2.length:Nat):Int) - 1)).toNat)) QL
   refine VD.z rfl (.slHI ((min d2 (((x23.2.2.2.length:Nat):Int) - 1)).toNat) rfl rfl Q0 QL QL) ?_
   refine VD.z rfl (.bst (cs:=[.int .i64 (x23.1),.bool false,.int .i64 (0),.slice q23_A3 ((min d2 (((x23.2.2.2.length:Nat):Int) - 1)).toNat) (q23_c3)]) rfl Yf Qdo rfl) ?_
   refine VD.z rfl (.nilp rfl) (VD.z rfl (.fa rfl JJ rfl) ?_)
   refine VD.callN 130 rfl rfl (.inl rfl) Qci rfl (fun _ h=>h.sub [127,121,116,117,118,119,120,0]) (fun W hW=>XG W (Ow.rd q15_1 (hW.t 116)) (QaP (m:=wm W) x23.1 false 0 ((x23.2.2.2).take ((min d2 (((x23.2.2.2.length:Nat):Int) - 1)).toNat)) QC QC (Rd.mono hs29 (hW.t 120))) (by intro h_;cases h_) (by (have h_:=‹_[d1.toNat]? =some _›;rw [ZT] at h_;have h2_:=(XV e0 h_).2.2;first | (rw [YH ‹_=(0:Int)›] at h2_;exact Yy h2_ Qx) | (rw [YG ‹_=(1:Int)›] at h2_;exact Yy h2_ Qx) | (rw [YF ‹_=(2:Int)›] at h2_;exact Yy h2_ Qx) | (rw [YE ‹_=(3:Int)›] at h2_;exact Yy h2_ Qx)))) (fun v30 m30 hv30=>?_)
   try dsimp only at hv30
   obtain ⟨s30_0,rfl,f30_0⟩:=hv30
   obtain ⟨A30_0,c30_0,eq30_0,l30_0,k30_0⟩:=f30_0.slc
   subst eq30_0
   refine VD.nil rfl ?_ rfl
   refine VO.z (.ixa (i:=0) (o:=1) rfl rfl Zz hi28 rfl rfl) ?_
   refine VO.s1 121 YT ?_
   refine VO.k9 0 1 2 6 7 8 10 22 43 (Qj (VC.rs (VO.mv (VO.z (.nilp rfl) (VO.z (.fa rfl JJ rfl) ?_)))))
   refine VO.s1 121 QeO ?_
   refine VO.p8 130 127 121 117 118 119 120 0 (VO.k9 0 1 2 6 7 8 10 22 43 (VC.rs (VO.mv (VO.z (.nilp rfl) (VO.z (.fa rfl JJ rfl) ?_)))))
   refine VO.s1 121 tk4 ?_
   refine VO.k9 0 1 2 6 7 8 10 22 43 (VC.rs (VO.mv (VO.z (.nilp rfl) (VO.z (.fa rfl JJ rfl) ?_))))
   refine VO.s1 121 tk4 ?_
   refine VO.k9 0 1 2 6 7 8 10 22 43 (VC.rs (VO.as (VO.p8 130 127 121 117 118 119 120 0 (VO.k9 0 1 2 6 7 8 10 22 43 (VC.ret ?_)))))
   refine Yz 6 [121,130,117,118,119] fun hS_=>?_
   dsimp only [Qv]
   have hm0_:(toR (Zr (Qc d0) d1 d2).1 d0.2.2.2.2.2.1:Qo)=((toR (Jm (Qc d0) d1.toNat) d0.2.2.2.2.2.1).1,(QaU (((toR (Jm (Qc d0) d1.toNat) d0.2.2.2.2.2.1).2.1).1) (x23.1,false,0,(x23.2.2.2).take ((min d2 (((x23.2.2.2.length:Nat):Int) - 1)).toNat)),((toR (Jm (Qc d0) d1.toNat) d0.2.2.2.2.2.1).2.1).2),[],true,false,(toR (Jm (Qc d0) d1.toNat) d0.2.2.2.2.2.1).2.2.2.2.2):=by first | rfl | (exact J0)
   refine ⟨?_,?_⟩
   rotate_left
   · rw [hm0_];exact (Q5 ((toR (Jm (Qc d0) d1.toNat) d0.2.2.2.2.2.1).1) (QaU (((toR (Jm (Qc d0) d1.toNat) d0.2.2.2.2.2.1).2.1).1) (x23.1,false,0,(x23.2.2.2).take ((min d2 (((x23.2.2.2.length:Nat):Int) - 1)).toNat))) (((toR (Jm (Qc d0) d1.toNat) d0.2.2.2.2.2.1).2.1).2.1) (((toR (Jm (Qc d0) d1.toNat) d0.2.2.2.2.2.1).2.1).2.2.1) (((toR (Jm (Qc d0) d1.toNat) d0.2.2.2.2.2.1).2.1).2.2.2) [] true false ((toR (Jm (Qc d0) d1.toNat) d0.2.2.2.2.2.1).2.2.2.2.2.1) ((toR (Jm (Qc d0) d1.toNat) d0.2.2.2.2.2.1).2.2.2.2.2.2) (Qu.nilAt 5 hS_) f30_0 q15_2 q15_3 q15_4 (Ow.nil _ _) QC QC)
   all_goals (first | rfl | (exact JZ))
 · refine VD.z rfl (.ixa (i:=1) (o:=2) rfl rfl Zz hi28 rfl rfl) ?_
   refine VD.z rfl (.ld1 121 rfl YT rfl (Qa rfl rfl)) (VD.z rfl (.fa rfl Yf rfl) (VD.z rfl (.ld1 127 rfl tk3 rfl (Qa rfl rfl)) (VD.z rfl (.fa rfl Yf rfl) (VD.z rfl (.ld1 127 rfl YT rfl (Qa rfl rfl)) (VD.z rfl (.mv rfl) ?_)))))
   have hs31:=q23_3.pre (j:=((min d2 (((x23.2.2.2.length:Nat):Int) - 1)).toNat)) QL
   refine VD.z rfl (.slHI ((min d2 (((x23.2.2.2.length:Nat):Int) - 1)).toNat) rfl rfl Q0 QL QL) ?_
   refine VD.z rfl (.bst (cs:=[.int .i64 (x23.1),.bool false,.int .i64 (0),.slice q23_A3 ((min d2 (((x23.2.2.2.length:Nat):Int) - 1)).toNat) (q23_c3)]) rfl Yf Qdo rfl) ?_
   refine VD.z rfl (.nilp rfl) (VD.z rfl (.fa rfl JJ rfl) ?_)
   refine VD.callN 132 rfl rfl (.inl rfl) Qci rfl (fun _ h=>h.sub [127,121,116,117,118,119,120,0]) (fun W hW=>XG W (Ow.rd q15_2 (hW.t 117)) (QaP (m:=wm W) x23.1 false 0 ((x23.2.2.2).take ((min d2 (((x23.2.2.2.length:Nat):Int) - 1)).toNat)) QC QC (Rd.mono hs31 (hW.t 120))) (by intro h_;cases h_) (by (have h_:=‹_[d1.toNat]? =some _›;rw [ZT] at h_;have h2_:=(XV e0 h_).2.2;first | (rw [YH ‹_=(0:Int)›] at h2_;exact Yy h2_ Qx) | (rw [YG ‹_=(1:Int)›] at h2_;exact Yy h2_ Qx) | (rw [YF ‹_=(2:Int)›] at h2_;exact Yy h2_ Qx) | (rw [YE ‹_=(3:Int)›] at h2_;exact Yy h2_ Qx)))) (fun v32 m32 hv32=>?_)
   try dsimp only at hv32
   obtain ⟨s32_0,rfl,f32_0⟩:=hv32
   obtain ⟨A32_0,c32_0,eq32_0,l32_0,k32_0⟩:=f32_0.slc
   subst eq32_0
   refine VD.nil rfl ?_ rfl
   refine VO.z (.ixa (i:=1) (o:=2) rfl rfl Zz hi28 rfl rfl) ?_
   refine VO.s1 121 YT ?_
   refine VO.k9 0 1 2 6 7 8 10 22 43 (Qj (VC.rs (VO.mv (VO.z (.nilp rfl) (VO.z (.fa rfl JJ rfl) ?_)))))
   refine VO.s1 121 QeO ?_
   refine VO.p8 132 127 121 116 118 119 120 0 (VO.k9 0 1 2 6 7 8 10 22 43 (VC.rs (VO.mv (VO.z (.nilp rfl) (VO.z (.fa rfl JJ rfl) ?_)))))
   refine VO.s1 121 tk4 ?_
   refine VO.k9 0 1 2 6 7 8 10 22 43 (VC.rs (VO.mv (VO.z (.nilp rfl) (VO.z (.fa rfl JJ rfl) ?_))))
   refine VO.s1 121 tk4 ?_
   refine VO.k9 0 1 2 6 7 8 10 22 43 (VC.rs (VO.as (VO.p8 132 127 121 116 118 119 120 0 (VO.k9 0 1 2 6 7 8 10 22 43 (VC.ret ?_)))))
   refine Yz 6 [121,116,132,118,119] fun hS_=>?_
   dsimp only [Qv]
   have hm0_:(toR (Zr (Qc d0) d1 d2).1 d0.2.2.2.2.2.1:Qo)=((toR (Jm (Qc d0) d1.toNat) d0.2.2.2.2.2.1).1,(((toR (Jm (Qc d0) d1.toNat) d0.2.2.2.2.2.1).2.1).1,QaU (((toR (Jm (Qc d0) d1.toNat) d0.2.2.2.2.2.1).2.1).2.1) (x23.1,false,0,(x23.2.2.2).take ((min d2 (((x23.2.2.2.length:Nat):Int) - 1)).toNat)),((toR (Jm (Qc d0) d1.toNat) d0.2.2.2.2.2.1).2.1).2.2),[],true,false,(toR (Jm (Qc d0) d1.toNat) d0.2.2.2.2.2.1).2.2.2.2.2):=by first | rfl | (exact J0)
   refine ⟨?_,?_⟩
   rotate_left
   · rw [hm0_];exact (Q5 ((toR (Jm (Qc d0) d1.toNat) d0.2.2.2.2.2.1).1) (((toR (Jm (Qc d0) d1.toNat) d0.2.2.2.2.2.1).2.1).1) (QaU (((toR (Jm (Qc d0) d1.toNat) d0.2.2.2.2.2.1).2.1).2.1) (x23.1,false,0,(x23.2.2.2).take ((min d2 (((x23.2.2.2.length:Nat):Int) - 1)).toNat))) (((toR (Jm (Qc d0) d1.toNat) d0.2.2.2.2.2.1).2.1).2.2.1) (((toR (Jm (Qc d0) d1.toNat) d0.2.2.2.2.2.1).2.1).2.2.2) [] true false ((toR (Jm (Qc d0) d1.toNat) d0.2.2.2.2.2.1).2.2.2.2.2.1) ((toR (Jm (Qc d0) d1.toNat) d0.2.2.2.2.2.1).2.2.2.2.2.2) (Qu.nilAt 5 hS_) q15_1 f32_0 q15_3 q15_4 (Ow.nil _ _) QC QC)
   all_goals (first | rfl | (exact JZ))
 · refine VD.z rfl (.ixa (i:=2) (o:=3) rfl rfl Zz hi28 rfl rfl) ?_
   refine VD.z rfl (.ld1 121 rfl YT rfl (Qa rfl rfl)) (VD.z rfl (.fa rfl Yf rfl) (VD.z rfl (.ld1 127 rfl tk3 rfl (Qa rfl rfl)) (VD.z rfl (.fa rfl Yf rfl) (VD.z rfl (.ld1 127 rfl YT rfl (Qa rfl rfl)) (VD.z rfl (.mv rfl) ?_)))))
   have hs33:=q23_3.pre (j:=((min d2 (((x23.2.2.2.length:Nat):Int) - 1)).toNat)) QL
   refine VD.z rfl (.slHI ((min d2 (((x23.2.2.2.length:Nat):Int) - 1)).toNat) rfl rfl Q0 QL QL) ?_
   refine VD.z rfl (.bst (cs:=[.int .i64 (x23.1),.bool false,.int .i64 (0),.slice q23_A3 ((min d2 (((x23.2.2.2.length:Nat):Int) - 1)).toNat) (q23_c3)]) rfl Yf Qdo rfl) ?_
   refine VD.z rfl (.nilp rfl) (VD.z rfl (.fa rfl JJ rfl) ?_)
   refine VD.callN 134 rfl rfl (.inl rfl) Qci rfl (fun _ h=>h.sub [127,121,116,117,118,119,120,0]) (fun W hW=>XG W (Ow.rd q15_3 (hW.t 118)) (QaP (m:=wm W) x23.1 false 0 ((x23.2.2.2).take ((min d2 (((x23.2.2.2.length:Nat):Int) - 1)).toNat)) QC QC (Rd.mono hs33 (hW.t 120))) (by intro h_;cases h_) (by (have h_:=‹_[d1.toNat]? =some _›;rw [ZT] at h_;have h2_:=(XV e0 h_).2.2;first | (rw [YH ‹_=(0:Int)›] at h2_;exact Yy h2_ Qx) | (rw [YG ‹_=(1:Int)›] at h2_;exact Yy h2_ Qx) | (rw [YF ‹_=(2:Int)›] at h2_;exact Yy h2_ Qx) | (rw [YE ‹_=(3:Int)›] at h2_;exact Yy h2_ Qx)))) (fun v34 m34 hv34=>?_)
   try dsimp only at hv34
   obtain ⟨s34_0,rfl,f34_0⟩:=hv34
   obtain ⟨A34_0,c34_0,eq34_0,l34_0,k34_0⟩:=f34_0.slc
   subst eq34_0
   refine VD.nil rfl ?_ rfl
   refine VO.z (.ixa (i:=2) (o:=3) rfl rfl Zz hi28 rfl rfl) ?_
   refine VO.s1 121 YT ?_
   refine VO.k9 0 1 2 6 7 8 10 22 43 (Qj (VC.rs (VO.mv (VO.z (.nilp rfl) (VO.z (.fa rfl JJ rfl) ?_)))))
   refine VO.s1 121 QeO ?_
   refine VO.p8 134 127 121 116 117 119 120 0 (VO.k9 0 1 2 6 7 8 10 22 43 (VC.rs (VO.mv (VO.z (.nilp rfl) (VO.z (.fa rfl JJ rfl) ?_)))))
   refine VO.s1 121 tk4 ?_
   refine VO.k9 0 1 2 6 7 8 10 22 43 (VC.rs (VO.mv (VO.z (.nilp rfl) (VO.z (.fa rfl JJ rfl) ?_))))
   refine VO.s1 121 tk4 ?_
   refine VO.k9 0 1 2 6 7 8 10 22 43 (VC.rs (VO.as (VO.p8 134 127 121 116 117 119 120 0 (VO.k9 0 1 2 6 7 8 10 22 43 (VC.ret ?_)))))
   refine Yz 6 [121,116,117,134,119] fun hS_=>?_
   dsimp only [Qv]
   have hm0_:(toR (Zr (Qc d0) d1 d2).1 d0.2.2.2.2.2.1:Qo)=((toR (Jm (Qc d0) d1.toNat) d0.2.2.2.2.2.1).1,(((toR (Jm (Qc d0) d1.toNat) d0.2.2.2.2.2.1).2.1).1,((toR (Jm (Qc d0) d1.toNat) d0.2.2.2.2.2.1).2.1).2.1,QaU (((toR (Jm (Qc d0) d1.toNat) d0.2.2.2.2.2.1).2.1).2.2.1) (x23.1,false,0,(x23.2.2.2).take ((min d2 (((x23.2.2.2.length:Nat):Int) - 1)).toNat)),((toR (Jm (Qc d0) d1.toNat) d0.2.2.2.2.2.1).2.1).2.2.2),[],true,false,(toR (Jm (Qc d0) d1.toNat) d0.2.2.2.2.2.1).2.2.2.2.2):=by first | rfl | (exact J0)
   refine ⟨?_,?_⟩
   rotate_left
   · rw [hm0_];exact (Q5 ((toR (Jm (Qc d0) d1.toNat) d0.2.2.2.2.2.1).1) (((toR (Jm (Qc d0) d1.toNat) d0.2.2.2.2.2.1).2.1).1) (((toR (Jm (Qc d0) d1.toNat) d0.2.2.2.2.2.1).2.1).2.1) (QaU (((toR (Jm (Qc d0) d1.toNat) d0.2.2.2.2.2.1).2.1).2.2.1) (x23.1,false,0,(x23.2.2.2).take ((min d2 (((x23.2.2.2.length:Nat):Int) - 1)).toNat))) (((toR (Jm (Qc d0) d1.toNat) d0.2.2.2.2.2.1).2.1).2.2.2) [] true false ((toR (Jm (Qc d0) d1.toNat) d0.2.2.2.2.2.1).2.2.2.2.2.1) ((toR (Jm (Qc d0) d1.toNat) d0.2.2.2.2.2.1).2.2.2.2.2.2) (Qu.nilAt 5 hS_) q15_1 q15_2 f34_0 q15_4 (Ow.nil _ _) QC QC)
   all_goals (first | rfl | (exact JZ))
 · refine VD.z rfl (.ixa (i:=3) (o:=4) rfl rfl Zz hi28 rfl rfl) ?_
   refine VD.z rfl (.ld1 121 rfl YT rfl (Qa rfl rfl)) (VD.z rfl (.fa rfl Yf rfl) (VD.z rfl (.ld1 127 rfl tk3 rfl (Qa rfl rfl)) (VD.z rfl (.fa rfl Yf rfl) (VD.z rfl (.ld1 127 rfl YT rfl (Qa rfl rfl)) (VD.z rfl (.mv rfl) ?_)))))
   have hs35:=q23_3.pre (j:=((min d2 (((x23.2.2.2.length:Nat):Int) - 1)).toNat)) QL
   refine VD.z rfl (.slHI ((min d2 (((x23.2.2.2.length:Nat):Int) - 1)).toNat) rfl rfl Q0 QL QL) ?_
   refine VD.z rfl (.bst (cs:=[.int .i64 (x23.1),.bool false,.int .i64 (0),.slice q23_A3 ((min d2 (((x23.2.2.2.length:Nat):Int) - 1)).toNat) (q23_c3)]) rfl Yf Qdo rfl) ?_
   refine VD.z rfl (.nilp rfl) (VD.z rfl (.fa rfl JJ rfl) ?_)
   refine VD.callN 136 rfl rfl (.inl rfl) Qci rfl (fun _ h=>h.sub [127,121,116,117,118,119,120,0]) (fun W hW=>XG W (Ow.rd q15_4 (hW.t 119)) (QaP (m:=wm W) x23.1 false 0 ((x23.2.2.2).take ((min d2 (((x23.2.2.2.length:Nat):Int) - 1)).toNat)) QC QC (Rd.mono hs35 (hW.t 120))) (by intro h_;cases h_) (by (have h_:=‹_[d1.toNat]? =some _›;rw [ZT] at h_;have h2_:=(XV e0 h_).2.2;first | (rw [YH ‹_=(0:Int)›] at h2_;exact Yy h2_ Qx) | (rw [YG ‹_=(1:Int)›] at h2_;exact Yy h2_ Qx) | (rw [YF ‹_=(2:Int)›] at h2_;exact Yy h2_ Qx) | (rw [YE ‹_=(3:Int)›] at h2_;exact Yy h2_ Qx)))) (fun v36 m36 hv36=>?_)
   try dsimp only at hv36
   obtain ⟨s36_0,rfl,f36_0⟩:=hv36
   obtain ⟨A36_0,c36_0,eq36_0,l36_0,k36_0⟩:=f36_0.slc
   subst eq36_0
   refine VD.nil rfl ?_ rfl
   refine VO.z (.ixa (i:=3) (o:=4) rfl rfl Zz hi28 rfl rfl) ?_
   refine VO.s1 121 YT ?_
   refine VO.k9 0 1 2 6 7 8 10 22 43 (Qj (VC.rs (VO.mv (VO.z (.nilp rfl) (VO.z (.fa rfl JJ rfl) ?_)))))
   refine VO.s1 121 QeO ?_
   refine VO.p8 136 127 121 116 117 118 120 0 (VO.k9 0 1 2 6 7 8 10 22 43 (VC.rs (VO.mv (VO.z (.nilp rfl) (VO.z (.fa rfl JJ rfl) ?_)))))
   refine VO.s1 121 tk4 ?_
   refine VO.k9 0 1 2 6 7 8 10 22 43 (VC.rs (VO.mv (VO.z (.nilp rfl) (VO.z (.fa rfl JJ rfl) ?_))))
   refine VO.s1 121 tk4 ?_
   refine VO.k9 0 1 2 6 7 8 10 22 43 (VC.rs (VO.as (VO.p8 136 127 121 116 117 118 120 0 (VO.k9 0 1 2 6 7 8 10 22 43 (VC.ret ?_)))))
   refine Yz 6 [121,116,117,118,136] fun hS_=>?_
   dsimp only [Qv]
   have hm0_:(toR (Zr (Qc d0) d1 d2).1 d0.2.2.2.2.2.1:Qo)=((toR (Jm (Qc d0) d1.toNat) d0.2.2.2.2.2.1).1,(((toR (Jm (Qc d0) d1.toNat) d0.2.2.2.2.2.1).2.1).1,((toR (Jm (Qc d0) d1.toNat) d0.2.2.2.2.2.1).2.1).2.1,((toR (Jm (Qc d0) d1.toNat) d0.2.2.2.2.2.1).2.1).2.2.1,QaU (((toR (Jm (Qc d0) d1.toNat) d0.2.2.2.2.2.1).2.1).2.2.2) (x23.1,false,0,(x23.2.2.2).take ((min d2 (((x23.2.2.2.length:Nat):Int) - 1)).toNat))),[],true,false,(toR (Jm (Qc d0) d1.toNat) d0.2.2.2.2.2.1).2.2.2.2.2):=by first | rfl | (exact J0)
   refine ⟨?_,?_⟩
   rotate_left
   · rw [hm0_];exact (Q5 ((toR (Jm (Qc d0) d1.toNat) d0.2.2.2.2.2.1).1) (((toR (Jm (Qc d0) d1.toNat) d0.2.2.2.2.2.1).2.1).1) (((toR (Jm (Qc d0) d1.toNat) d0.2.2.2.2.2.1).2.1).2.1) (((toR (Jm (Qc d0) d1.toNat) d0.2.2.2.2.2.1).2.1).2.2.1) (QaU (((toR (Jm (Qc d0) d1.toNat) d0.2.2.2.2.2.1).2.1).2.2.2) (x23.1,false,0,(x23.2.2.2).take ((min d2 (((x23.2.2.2.length:Nat):Int) - 1)).toNat))) [] true false ((toR (Jm (Qc d0) d1.toNat) d0.2.2.2.2.2.1).2.2.2.2.2.1) ((toR (Jm (Qc d0) d1.toNat) d0.2.2.2.2.2.1).2.2.2.2.2.2) (Qu.nilAt 5 hS_) q15_1 q15_2 q15_3 f36_0 (Ow.nil _ _) QC QC)
   all_goals (first | rfl | (exact JZ))
 · refine VC.skip (Qj (VC.rs (VO.mv (VO.z (.nilp rfl) (VO.z (.fa rfl JJ rfl) ?_)))))
   refine VO.s1 121 QeO ?_
   refine VO.p6 121 116 117 118 119 0 (VO.k7 0 1 2 6 10 22 43 (VC.rs (VO.mv (VO.z (.nilp rfl) (VO.z (.fa rfl JJ rfl) ?_)))))
   refine VO.s1 121 tk4 ?_
   refine VO.k7 0 1 2 6 10 22 43 (VC.rs (VO.mv (VO.z (.nilp rfl) (VO.z (.fa rfl JJ rfl) ?_))))
   refine VO.s1 121 tk4 ?_
   refine VO.k7 0 1 2 6 10 22 43 (VC.rs (VO.as (VO.p6 121 116 117 118 119 0 (VO.k7 0 1 2 6 10 22 43 (VC.ret ?_)))))
   refine Yz 6 [121,116,117,118,119] fun hS_=>?_
   dsimp only [Qv]
   have hm0_:(toR (Zr (Qc d0) d1 d2).1 d0.2.2.2.2.2.1:Qo)=((toR (Jm (Qc d0) d1.toNat) d0.2.2.2.2.2.1).1,((toR (Jm (Qc d0) d1.toNat) d0.2.2.2.2.2.1).2.1),[],true,false,(toR (Jm (Qc d0) d1.toNat) d0.2.2.2.2.2.1).2.2.2.2.2):=by first | rfl | (exact J0)
   refine ⟨?_,?_⟩
   rotate_left
   · rw [hm0_];exact (Q5 ((toR (Jm (Qc d0) d1.toNat) d0.2.2.2.2.2.1).1) (((toR (Jm (Qc d0) d1.toNat) d0.2.2.2.2.2.1).2.1).1) (((toR (Jm (Qc d0) d1.toNat) d0.2.2.2.2.2.1).2.1).2.1) (((toR (Jm (Qc d0) d1.toNat) d0.2.2.2.2.2.1).2.1).2.2.1) (((toR (Jm (Qc d0) d1.toNat) d0.2.2.2.2.2.1).2.1).2.2.2) [] true false ((toR (Jm (Qc d0) d1.toNat) d0.2.2.2.2.2.1).2.2.2.2.2.1) ((toR (Jm (Qc d0) d1.toNat) d0.2.2.2.2.2.1).2.2.2.2.2.2) (Qu.nilAt 5 hS_) q15_1 q15_2 q15_3 q15_4 (Ow.nil _ _) QC QC)
   all_goals (first | rfl | (exact JZ))
 · refine VO.gN (VO.gN (VO.gN (VO.gN (VO.gN (VO.gN (VO.gN (VO.gN (VO.gN (VO.z (.pF rfl rfl) (VO.k7 0 1 2 6 10 22 43 (VC.condF rfl ?_)))))))))))
   refine VC.skip (Qj (VC.rs (VO.mv (VO.z (.nilp rfl) (VO.z (.fa rfl JJ rfl) ?_)))))
   refine VO.s1 121 QeO ?_
   refine VO.p6 121 116 117 118 119 0 (VO.k7 0 1 2 6 10 22 43 (VC.rs (VO.mv (VO.z (.nilp rfl) (VO.z (.fa rfl JJ rfl) ?_)))))
   refine VO.s1 121 tk4 ?_
   refine VO.k7 0 1 2 6 10 22 43 (VC.rs (VO.mv (VO.z (.nilp rfl) (VO.z (.fa rfl JJ rfl) ?_))))
   refine VO.s1 121 tk4 ?_
   refine VO.k7 0 1 2 6 10 22 43 (VC.rs (VO.as (VO.p6 121 116 117 118 119 0 (VO.k7 0 1 2 6 10 22 43 (VC.ret ?_)))))
   refine Yz 6 [121,116,117,118,119] fun hS_=>?_
   dsimp only [Qv]
   have hm0_:(toR (Zr (Qc d0) d1 d2).1 d0.2.2.2.2.2.1:Qo)=((toR (Jm (Qc d0) d1.toNat) d0.2.2.2.2.2.1).1,((toR (Jm (Qc d0) d1.toNat) d0.2.2.2.2.2.1).2.1),[],true,false,(toR (Jm (Qc d0) d1.toNat) d0.2.2.2.2.2.1).2.2.2.2.2):=by first | rfl | (exact J0)
   refine ⟨?_,?_⟩
   rotate_left
   · rw [hm0_];exact (Q5 ((toR (Jm (Qc d0) d1.toNat) d0.2.2.2.2.2.1).1) (((toR (Jm (Qc d0) d1.toNat) d0.2.2.2.2.2.1).2.1).1) (((toR (Jm (Qc d0) d1.toNat) d0.2.2.2.2.2.1).2.1).2.1) (((toR (Jm (Qc d0) d1.toNat) d0.2.2.2.2.2.1).2.1).2.2.1) (((toR (Jm (Qc d0) d1.toNat) d0.2.2.2.2.2.1).2.1).2.2.2) [] true false ((toR (Jm (Qc d0) d1.toNat) d0.2.2.2.2.2.1).2.2.2.2.2.1) ((toR (Jm (Qc d0) d1.toNat) d0.2.2.2.2.2.1).2.2.2.2.2.2) (Qu.nilAt 5 hS_) q15_1 q15_2 q15_3 q15_4 (Ow.nil _ _) QC QC)
   all_goals (first | rfl | (exact JZ))
theorem QnH {x y:Zn} (h1:x.1=y.1) (h2:x.2.1=y.2.1) (h3:x.2.2=y.2.2):x=y:=Prod.ext h1 (Prod.ext h2 h3)
abbrev qA (B : Qm) (s : RS) : Int × RS := Qe B 1 s
abbrev qT (B : Qm) (s : RS) : Qm × RS := Qw B (Qe B 16 (qA B s).2).1 (Qe B 16 (qA B s).2).2
abbrev qV (B : Qm) (s : RS) : Qm × RS := Qw B (Qe B 32 (qT B s).2).1 (Qe B 32 (qT B s).2).2
def Yj (B : Qm) (s : RS) : DOp × RS :=
  if (qA B s).1 = 1 then
    if (qV B s).2.2 = true ∨ ¬ Jg (true, (qT B s).1, (qV B s).1) = 0 then ((false, [], []), ((qV B s).2.1, true)) else ((true, (qT B s).1, (qV B s).1), (qV B s).2)
  else if (qT B s).2.2 = true ∨ ¬ Jg (false, (qT B s).1, []) = 0 then ((false, [], []), ((qT B s).2.1, true)) else ((false, (qT B s).1, []), (qT B s).2)
section
variable {B b : Qm} {s : RS} {a m : Int}
theorem QnQ (h:(qA B s).1=1) (hb:(qV B s).2.2=true∨¬ Jg (decide ((qA B s).1=1),(qT B s).1,(qV B s).1)=0):Yj B s=((false,[],[]),((qV B s).2.1,true)):=by
 rw [decide_eq_true h] at hb;unfold Yj;rw [if_pos h,if_pos hb]
theorem QnP (h:(qA B s).1=1) (h1:(qV B s).2.2=false) (h2:¬ ¬ Jg (decide ((qA B s).1=1),(qT B s).1,(qV B s).1)=0):Yj B s=((decide ((qA B s).1=1),(qT B s).1,(qV B s).1),(qV B s).2):=by
 rw [decide_eq_true h] at h2 ⊢;unfold Yj;rw [if_pos h,if_neg (by rintro (q | q);rw [h1] at q;cases q;exact h2 q)]
theorem QnS (h:¬ (qA B s).1=1) (hb:(qT B s).2.2=true∨¬ Jg (decide ((qA B s).1=1),(qT B s).1,[])=0):Yj B s=((false,[],[]),((qT B s).2.1,true)):=by
 rw [decide_eq_false h] at hb;unfold Yj;rw [if_neg h,if_pos hb]
theorem QnR (h:¬ (qA B s).1=1) (h1:(qT B s).2.2=false) (h2:¬ ¬ Jg (decide ((qA B s).1=1),(qT B s).1,[])=0):Yj B s=((decide ((qA B s).1=1),(qT B s).1,[]),(qT B s).2):=by
 rw [decide_eq_false h] at h2 ⊢;unfold Yj;rw [if_neg h,if_neg (by rintro (q | q);rw [h1] at q;cases q;exact h2 q)]
theorem qT_ok (h:rOk B s):rOk B (qT B s).2∧((qT B s).1.length:Int)≤16:=by
 have h1:=JW (m:=1) h (by decide)
 have h2:=JW (m:=16) h1.1 (by decide)
 have h3:=ZN (n:=(Qe B 16 (qA B s).2).1) h2.1 h2.2.1
 have h4:=h2.2.2.2.1 (by decide)
 exact ⟨h3.1,Int.le_trans h3.2 h4⟩
theorem qV_ok (h:rOk B s):rOk B (qV B s).2∧((qV B s).1.length:Int)≤32:=by
 have h0:=(qT_ok h).1
 have h2:=JW (m:=32) h0 (by decide)
 have h3:=ZN (n:=(Qe B 32 (qT B s).2).1) h2.1 h2.2.1
 have h4:=h2.2.2.2.1 (by decide)
 exact ⟨h3.1,Int.le_trans h3.2 h4⟩
theorem Qd9 (h:rOk B s):rOk B (Yj B s).2∧(Yj B s).1.2.1.length≤16∧(Yj B s).1.2.2.length≤32:=by
 have h1:=qT_ok h;have h2:=qV_ok h
 unfold Yj;split
 ·split
  ·exact ⟨h2.1,Nat.zero_le _,Nat.zero_le _⟩
  ·exact ⟨h2.1,by dsimp only;omega,by dsimp only;omega⟩
 ·split
  ·exact ⟨h1.1,Nat.zero_le _,Nat.zero_le _⟩
  ·exact ⟨h1.1,by dsimp only;omega,Nat.zero_le _⟩
theorem QmO : ∀ {r : Qm} {i x y n : Nat}, 1 ≤ i → vgo i x r = some (y, n) → 2 ^ (7 * i) ≤ y
  | [], i, x, y, n, _, h => by rw [vgo] at h; cases h
  | c :: r, i, x, y, n, hi, h => by
    rw [vgo] at h
    split at h
    · cases h
    · split at h
      · have h1 := QmO (by omega) h
        have h2 : 2 ^ (7 * i) ≤ 2 ^ (7 * (i + 1)) := Nat.pow_le_pow_right (by decide) (by omega)
        omega
      · split at h
        · cases h
        · rename_i h1 h2 h3
          simp only [Option.some.injEq, Prod.mk.injEq] at h
          have h4 : 1 ≤ c.toNat := by omega
          have h5 : c.toNat % 128 = c.toNat := Nat.mod_eq_of_lt (by omega)
          rw [h5] at h
          have h6 : 1 * 2 ^ (7 * i) ≤ c.toNat * 2 ^ (7 * i) := Nat.mul_le_mul_right _ h4
          omega
theorem Qom:¬ sE ([]:Qm) 1=0:=by decide
theorem Qon {c : UInt8} {r : Qm} (h : 1 < c.toNat) : ¬ sE (c :: r) 1 = 0 := by
  unfold sE QaR Qan
  rw [vgo]
  rw [if_neg (by omega)]
  by_cases hc : c.toNat ≥ 128
  · rw [if_pos hc]
    cases hv : vgo (0 + 1) (0 + c.toNat % 128 * 2 ^ (7 * 0)) r with
    | none => decide
    | some p =>
      obtain ⟨y, n⟩ := p
      have h1 := QmO (by omega) hv
      have h2 : (128 : Nat) ≤ y := h1
      dsimp only
      rw [if_neg (by omega)]; decide
  · rw [if_neg hc, if_neg (by omega)]
    have h5 : c.toNat % 128 = c.toNat := Nat.mod_eq_of_lt (by omega)
    dsimp only
    rw [if_neg (by rw [h5]; omega)]; decide
theorem QlA {c:UInt8} {r:Qm} (h:¬ 1 < c.toNat):sE (c::r) 1=0∧sX (c::r) 1=c.toNat∧sN (c::r) 1=1:=by
 have h5:c.toNat % 128=c.toNat:=Nat.mod_eq_of_lt (by omega)
 have e:QaR (c::r) 1=some (c.toNat,1):=by
  unfold QaR Qan
  rw [vgo,if_neg (by omega),if_neg (by omega),if_neg (by omega),h5]
  dsimp only
  rw [if_pos (by omega)];simp
 unfold sE sX sN;rw [e];exact ⟨rfl,rfl,rfl⟩
theorem Qbu (B:Qm) (h0:0≤a) (n:Nat):B.drop (a+(n:Int)).toNat=(B.drop a.toNat).drop n:=by
 rw [List.drop_drop];congr 1;omega
theorem Qj4 (h0:0≤a) (ha:a≤B.length) (hm:0≤m) (hm2:m≤1000):
  ((tRd (B.drop a.toNat) m).2.2=true∧Qw B (Qe B m (a,false)).1 (Qe B m (a,false)).2=((tRd (B.drop a.toNat) m).1,(a+(tRd (B.drop a.toNat) m).2.1,false)))∨
  ((tRd (B.drop a.toNat) m).2.2=false∧(Qw B (Qe B m (a,false)).1 (Qe B m (a,false)).2).2.2=true):=by
 have hb:=ZZ (B.drop a.toNat) m (by omega)
 rw [List.length_drop] at hb
 by_cases h:sE (B.drop a.toNat) m=0
 ·rw [ZB rfl h]
  by_cases h2:(sN (B.drop a.toNat) m:Int)+sX (B.drop a.toNat) m≤(B.drop a.toNat).length
  ·left
   have h2':=h2
   rw [List.length_drop] at h2'
   have e:tRd (B.drop a.toNat) m=(((B.drop a.toNat).drop (sN (B.drop a.toNat) m)).take (sX (B.drop a.toNat) m),(sN (B.drop a.toNat) m:Int)+sX (B.drop a.toNat) m,true):=if_pos ⟨h,h2⟩
   refine ⟨by rw [e],?_⟩
   rw [e,QbI rfl (by dsimp only;omega)]
   dsimp only
   rw [Qbu B h0,Int.toNat_natCast,Int.add_assoc]
  ·right
   rw [List.length_drop] at h2
   refine ⟨by rw [QfO (by rw [List.length_drop];omega)],by rw [XR (.inr (by dsimp only;omega))]⟩
 ·right
  exact ⟨by rw [QfP h],by rw [Zu rfl h,XR (.inl rfl)]⟩
theorem Qe2 (h:s.2=true):(Qe B m s).2.2=true:=by rw [Ys h];exact h
theorem QmW {n:Int} {t:RS} (h:t.2=true):(Qw B n t).2.2=true:=QgI h
theorem QnO (h0 : 0 ≤ a) (ha : a ≤ B.length) :
    ((Yb (B.drop a.toNat)).2.2 = 0 ∧ Yj B (a, false) = ((Yb (B.drop a.toNat)).1, (a + (Yb (B.drop a.toNat)).2.1, false))) ∨ (¬ (Yb (B.drop a.toNat)).2.2 = 0 ∧ (Yj B (a, false)).2.2 = true) := by
  have stuckT : (qA B (a, false)).2.2 = true → (qA B (a, false)).1 = 0 → (Yj B (a, false)).2.2 = true := fun h h1 => by
    have h2 : (qT B (a, false)).2.2 = true := QmW (Qe2 h)
    unfold Yj; rw [if_neg (by rw [h1]; decide), if_pos (.inl h2)]
  cases hb : B.drop a.toNat with
  | nil =>
    right
    refine ⟨by decide, stuckT ?_ ?_⟩ <;> (show _ = _; rw [show qA B (a, false) = (0, (a, true)) from Zu rfl (by rw [hb]; exact Qom)])
  | cons c r =>
    have hl : (B.length : Int) - a = r.length + 1 := by
      have := congrArg List.length hb; rw [List.length_drop, List.length_cons] at this; omega
    by_cases hc : 1 < c.toNat
    · right
      refine ⟨by rw [QgL (x := c) rfl (by omega)]; decide, stuckT ?_ ?_⟩ <;> (show _ = _; rw [show qA B (a, false) = (0, (a, true)) from Zu rfl (by rw [hb]; exact Qon hc)])
    · obtain ⟨e1, e2, e3⟩ := QlA (r := r) hc
      have eA : qA B (a, false) = ((c.toNat : Int), (a + 1, false)) := by
        have := ZB (B := B) (m := 1) (s := (a, false)) rfl (by rw [hb]; exact e1)
        rw [hb, e2, e3] at this; exact this
      have hd : B.drop (a + 1).toNat = r := by
        rw [show a + 1 = a + ((1 : Nat) : Int) from rfl, Qbu B h0, hb]; rfl
      have hc0 : (c :: r)[0]? = some c := rfl
      have hT := Qj4 (B := B) (a := a + 1) (m := 16) (by omega) (by omega) (by decide) (by decide)
      rw [hd] at hT
      have eT : qT B (a, false) = Qw B (Qe B 16 (a + 1, false)).1 (Qe B 16 (a + 1, false)).2 := by unfold qT; rw [eA]
      have fT := QbZ r (m := 16) (by decide) (by decide)
      rcases hT with ⟨t1, t2⟩ | ⟨t1, t2⟩
      · rw [← eT] at t2
        by_cases h1 : (c.toNat : Int) = 1
        · have hd2 : B.drop (a + 1 + (tRd r 16).2.1).toNat = (c :: r).drop (1 + (tRd r 16).2.1).toNat := by
            rw [show a + 1 + (tRd r 16).2.1 = a + (((1 + (tRd r 16).2.1).toNat : Nat) : Int) by omega, Qbu B h0, hb]
          have hV := Qj4 (B := B) (a := a + 1 + (tRd r 16).2.1) (m := 32) (by omega) (by omega) (by decide) (by decide)
          rw [hd2] at hV
          have eV : qV B (a, false) = Qw B (Qe B 32 (a + 1 + (tRd r 16).2.1, false)).1 (Qe B 32 (a + 1 + (tRd r 16).2.1, false)).2 := by unfold qV; rw [t2]
          rcases hV with ⟨v1, v2⟩ | ⟨v1, v2⟩
          · rw [← eV] at v2
            have eO : Yb (c :: r) = Qef (true, (tRd r 16).1, (tRd ((c :: r).drop (1 + (tRd r 16).2.1).toNat) 32).1) (1 + (tRd r 16).2.1 + (tRd ((c :: r).drop (1 + (tRd r 16).2.1).toNat) 32).2.1) := by
              rw [QfV (b := c :: r) (by simp; omega) hc0 (by omega) t1 h1 v1, decide_eq_true h1]; rfl
            rw [eO]
            by_cases ho : Jg (true, (tRd r 16).1, (tRd ((c :: r).drop (1 + (tRd r 16).2.1).toNat) 32).1) = 0
            · rw [Qbm (not_not_intro ho)]
              left
              refine ⟨rfl, ?_⟩
              unfold Yj; rw [eA, if_pos h1, if_neg (by rw [v2, t2]; rintro (q | q); cases q; exact q ho), v2, t2]
              simp only [Prod.mk.injEq, true_and, and_true]; omega
            · rw [Qcc ho]
              right
              refine ⟨by decide, ?_⟩
              unfold Yj; rw [eA, if_pos h1, if_pos (.inr (by rw [v2, t2]; exact ho))]
          · rw [← eV] at v2
            right
            refine ⟨by rw [QiD (b := c :: r) (by simp; omega) hc0 (by omega) t1 h1 v1]; decide, ?_⟩
            unfold Yj; rw [eA, if_pos h1, if_pos (.inl v2)]
        · have eO : Yb (c :: r) = Qef (false, (tRd r 16).1, []) (1 + (tRd r 16).2.1) := by
            rw [QfW (b := c :: r) (by simp; omega) hc0 (by omega) t1 h1, decide_eq_false h1]; rfl
          rw [eO]
          by_cases ho : Jg (false, (tRd r 16).1, []) = 0
          · rw [Qbm (not_not_intro ho)]
            left
            refine ⟨rfl, ?_⟩
            unfold Yj; rw [eA, if_neg h1, if_neg (by rw [t2]; rintro (q | q); cases q; exact q ho), t2]
            simp only [Prod.mk.injEq, true_and, and_true]; omega
          · rw [Qcc ho]
            right
            refine ⟨by decide, ?_⟩
            unfold Yj; rw [eA, if_neg h1, if_pos (.inr (by rw [t2]; exact ho))]
      · rw [← eT] at t2
        right
        refine ⟨by rw [QiE (b := c :: r) t1]; decide, ?_⟩
        unfold Yj; split
        · rename_i h1
          have hv : (qV B (a, false)).2.2 = true := QmW (Qe2 t2)
          rw [if_pos (.inl hv)]
        · rw [if_pos (.inl t2)]
def ZR (B : Qm) : Nat → RS → List DOp × RS
  | 0, s => ([], s)
  | n + 1, s => if s.2 = true then ([], s) else ((Yj B s).1 :: (ZR B n (Yj B s).2).1, (ZR B n (Yj B s).2).2)
theorem Qbk {k:Int} (h:k≤0∨s.2=true):ZR B k.toNat s=([],s):=by
 rcases h with h | h
 ·rw [show k.toNat=0 by omega];rfl
 ·cases k.toNat with
  | zero=>rfl
  | succ n=>exact if_pos h
theorem Qjr {k:Int} (h:0 < k) (hs:s.2=false):ZR B k.toNat s=((Yj B s).1::(ZR B (k - 1).toNat (Yj B s).2).1,(ZR B (k - 1).toNat (Yj B s).2).2):=by
 rw [show k.toNat=(k - 1).toNat+1 by omega,ZR,if_neg (by rw [hs];decide)]
theorem QkA {L l:List DOp} {e:RS} {k:Int} (h:(L,e)=(l++(ZR B k.toNat s).1,(ZR B k.toNat s).2)) (hk:0 < k) (hs:s.2=false):(L,e)=((l++[(Yj B s).1])++(ZR B (k - 1).toNat (Yj B s).2).1,(ZR B (k - 1).toNat (Yj B s).2).2):=by
 rw [h,Qjr hk hs];simp
theorem Qmi {L l:List DOp} {e:RS} {k:Int} (h:(L,e)=(l++(ZR B k.toNat s).1,(ZR B k.toNat s).2)) (hk:k≤0∨s.2=true):L=l∧e=s:=by
 rw [Qbk hk] at h;simp only [List.append_nil,Prod.mk.injEq] at h;exact h
theorem QkB : ∀ {n : Nat} {a : Int}, 0 ≤ a → a ≤ B.length →
    (∃ l c a', Yi n (B.drop a.toNat) = some (l, c) ∧ ZR B n (a, false) = (l, (a', false)) ∧ 0 ≤ a' ∧ a' ≤ B.length ∧ c = B.drop a'.toNat) ∨ (Yi n (B.drop a.toNat) = none ∧ (ZR B n (a, false)).2.2 = true)
  | 0, a, h0, ha => .inl ⟨[], B.drop a.toNat, a, rfl, rfl, h0, ha, rfl⟩
  | n + 1, a, h0, ha => by
    have hp : ZR B (n + 1) (a, false) = ((Yj B (a, false)).1 :: (ZR B n (Yj B (a, false)).2).1, (ZR B n (Yj B (a, false)).2).2) := if_neg Bool.false_ne_true
    rcases QnO (B := B) h0 ha with ⟨h1, h2⟩ | ⟨h1, h2⟩
    · have hz := QkD h1
      rw [List.length_drop] at hz
      have hd : (B.drop a.toNat).drop (Yb (B.drop a.toNat)).2.1.toNat = B.drop (a + (Yb (B.drop a.toNat)).2.1).toNat := by
        rw [List.drop_drop]; congr 1; omega
      rw [hp, h2, Yi, if_pos h1, hd]
      rcases QkB (n := n) (a := a + (Yb (B.drop a.toNat)).2.1) (by omega) (by omega) with ⟨l, c, a', e1, e2, e3, e4, e5⟩ | ⟨e1, e2⟩
      · exact .inl ⟨_, c, a', by rw [e1]; rfl, by rw [e2], e3, e4, e5⟩
      · exact .inr ⟨by rw [e1]; rfl, e2⟩
    · right
      refine ⟨by rw [Yi, if_neg h1], ?_⟩
      rw [hp]; dsimp only
      have : ∀ k t, t.2 = true → (ZR B k t).2.2 = true := fun k t ht => by
        cases k with
        | zero => exact ht
        | succ k => rw [ZR, if_pos ht]; exact ht
      exact this n _ h2
def Qe0 (B : Qm) : Zn × Int :=
  if ((ZR B (Qe B 1024 (Qe B bMx (Qe B bMx (0, false)).2).2).1.toNat (Qe B 1024 (Qe B bMx (Qe B bMx (0, false)).2).2).2).2.2 = false ∧ (ZR B (Qe B 1024 (Qe B bMx (Qe B bMx (0, false)).2).2).1.toNat (Qe B 1024 (Qe B bMx (Qe B bMx (0, false)).2).2).2).2.1 = B.length) ∧
    QF ((Qe B bMx (0, false)).1, (Qe B bMx (Qe B bMx (0, false)).2).1, (ZR B (Qe B 1024 (Qe B bMx (Qe B bMx (0, false)).2).2).1.toNat (Qe B 1024 (Qe B bMx (Qe B bMx (0, false)).2).2).2).1) = 0
  then (((Qe B bMx (0, false)).1, (Qe B bMx (Qe B bMx (0, false)).2).1, (ZR B (Qe B 1024 (Qe B bMx (Qe B bMx (0, false)).2).2).1.toNat (Qe B 1024 (Qe B bMx (Qe B bMx (0, false)).2).2).2).1), 0) else ((0, 0, []), 5)
theorem Qkn (B : Qm) : Qe0 B = Qi B := by
  by_cases h1 : sE B bMx = 0
  · have e1 : Qe B bMx (0, false) = ((sX B bMx : Int), (0 + (sN B bMx : Int), false)) := ZB rfl (by exact h1)
    have hb1 := ZZ B bMx (by decide)
    have d1 : B.drop (0 + (sN B bMx : Int)).toNat = dB1 B := by rw [Qbu B (Int.le_refl 0)]; rfl
    by_cases h2 : sE (dB1 B) bMx = 0
    · have e2 : Qe B bMx (0 + (sN B bMx : Int), false) = ((sX (dB1 B) bMx : Int), (0 + (sN B bMx : Int) + (sN (dB1 B) bMx : Int), false)) := by
        have := ZB (B := B) (m := bMx) (s := (0 + (sN B bMx : Int), false)) rfl (by rw [d1]; exact h2)
        rw [d1] at this; exact this
      have hb2 := ZZ (dB1 B) bMx (by decide)
      rw [List.length_drop] at hb2
      have d2 : B.drop (0 + (sN B bMx : Int) + (sN (dB1 B) bMx : Int)).toNat = dB2 B := by rw [Qbu B (by omega), d1]
      by_cases h3 : sE (dB2 B) 1024 = 0
      · have e3 : Qe B 1024 (0 + (sN B bMx : Int) + (sN (dB1 B) bMx : Int), false) = ((sX (dB2 B) 1024 : Int), (0 + (sN B bMx : Int) + (sN (dB1 B) bMx : Int) + (sN (dB2 B) 1024 : Int), false)) := by
          have := ZB (B := B) (m := 1024) (s := (0 + (sN B bMx : Int) + (sN (dB1 B) bMx : Int), false)) rfl (by rw [d2]; exact h3)
          rw [d2] at this; exact this
        have hb3 := ZZ (dB2 B) 1024 (by decide)
        rw [List.length_drop, List.length_drop] at hb3
        have d3 : B.drop (0 + (sN B bMx : Int) + (sN (dB1 B) bMx : Int) + (sN (dB2 B) 1024 : Int)).toNat = dB3 B := by rw [Qbu B (by omega), d2]
        rw [Qa4 (not_not_intro h1) (not_not_intro h2) (not_not_intro h3)]
        unfold Qe0 Qa5
        rw [e1]; dsimp only; rw [e2]; dsimp only; rw [e3]; dsimp only; rw [Int.toNat_natCast]
        rcases QkB (B := B) (n := sX (dB2 B) 1024) (a := 0 + (sN B bMx : Int) + (sN (dB1 B) bMx : Int) + (sN (dB2 B) 1024 : Int)) (by omega) (by omega) with ⟨l, c, a', q1, q2, q3, q4, q5⟩ | ⟨q1, q2⟩
        · rw [d3] at q1
          rw [q1, q2]; dsimp only
          cases c with
          | nil =>
            have hl := congrArg List.length q5
            rw [List.length_nil, List.length_drop] at hl
            by_cases hc : QF ((sX B bMx : Int), (sX (dB1 B) bMx : Int), l) = 0
            · rw [if_pos ⟨⟨rfl, by omega⟩, hc⟩]; exact (if_pos hc).symm
            · rw [if_neg (fun q => hc q.2)]; exact (if_neg hc).symm
          | cons y c =>
            have hl := congrArg List.length q5
            rw [List.length_cons, List.length_drop] at hl
            rw [if_neg (fun q => by have := q.1.2; omega)]
        · rw [d3] at q1
          rw [q1, if_neg (fun q => by have := q.1.1; rw [q2] at this; cases this)]
      · rw [Qiq h3]
        have e3 : Qe B 1024 (0 + (sN B bMx : Int) + (sN (dB1 B) bMx : Int), false) = (0, (0 + (sN B bMx : Int) + (sN (dB1 B) bMx : Int), true)) := Zu rfl (by rw [d2]; exact h3)
        unfold Qe0; rw [e1]; dsimp only; rw [e2]; dsimp only; rw [e3]; dsimp only
        exact if_neg fun q => by have := q.1.1; rw [Qbk (.inr rfl)] at this; cases this
    · rw [Qir h2]
      have e2 : Qe B bMx (0 + (sN B bMx : Int), false) = (0, (0 + (sN B bMx : Int), true)) := Zu rfl (by rw [d1]; exact h2)
      unfold Qe0; rw [e1]; dsimp only; rw [e2]; dsimp only; rw [Ys (s := (0 + (sN B bMx : Int), true)) rfl]
      exact if_neg fun q => by have := q.1.1; rw [Qbk (.inr rfl)] at this; cases this
  · rw [Qis h1]
    have e1 : Qe B bMx (0, false) = (0, (0, true)) := Zu rfl h1
    unfold Qe0; rw [e1]; dsimp only; rw [Ys (s := ((0 : Int), true)) rfl]; dsimp only; rw [Ys (s := ((0 : Int), true)) rfl]
    exact if_neg fun q => by have := q.1.1; rw [Qbk (.inr rfl)] at this; cases this
theorem Qlp {l:List DOp} {k:Int} {e:RS} (hp:ZR B (Qe B 1024 (Qe B bMx (Qe B bMx (0,false)).2).2).1.toNat (Qe B 1024 (Qe B bMx (Qe B bMx (0,false)).2).2).2=(l++(ZR B k.toNat e).1,(ZR B k.toNat e).2)) (hk:k≤0∨e.2=true):
  Qi B=if (e.2=false∧e.1=B.length)∧QF ((Qe B bMx (0,false)).1,(Qe B bMx (Qe B bMx (0,false)).2).1,l)=0 then (((Qe B bMx (0,false)).1,(Qe B bMx (Qe B bMx (0,false)).2).1,l),0) else ((0,0,[]),5):=by
 have hf:=Qmi hp hk
 rw [← Qkn];unfold Qe0;rw [← hf.1,← hf.2]
theorem QmA {l:List DOp} {k:Int} {e:RS} (hp:ZR B (Qe B 1024 (Qe B bMx (Qe B bMx (0,false)).2).2).1.toNat (Qe B 1024 (Qe B bMx (Qe B bMx (0,false)).2).2).2=(l++(ZR B k.toNat e).1,(ZR B k.toNat e).2)) (hk:k≤0∨e.2=true)
  (h:¬ (e.2=false∧e.1=B.length)):Qi B=((0,0,[]),5):=by rw [Qlp hp hk,if_neg fun q=>h q.1]
theorem Qmz {l:List DOp} {k:Int} {e:RS} (hp:ZR B (Qe B 1024 (Qe B bMx (Qe B bMx (0,false)).2).2).1.toNat (Qe B 1024 (Qe B bMx (Qe B bMx (0,false)).2).2).2=(l++(ZR B k.toNat e).1,(ZR B k.toNat e).2)) (hk:k≤0∨e.2=true)
  (h:¬ QF ((Qe B bMx (0,false)).1,(Qe B bMx (Qe B bMx (0,false)).2).1,l)=0):Qi B=((0,0,[]),5):=by rw [Qlp hp hk,if_neg fun q=>h q.2]
theorem Qmy {l:List DOp} {k:Int} {e:RS} (hp:ZR B (Qe B 1024 (Qe B bMx (Qe B bMx (0,false)).2).2).1.toNat (Qe B 1024 (Qe B bMx (Qe B bMx (0,false)).2).2).2=(l++(ZR B k.toNat e).1,(ZR B k.toNat e).2)) (hk:k≤0∨e.2=true)
  (h:¬ ¬ (e.2=false∧e.1=B.length)) (h2:¬ ¬ QF ((Qe B bMx (0,false)).1,(Qe B bMx (Qe B bMx (0,false)).2).1,l)=0):Qi B=(((Qe B bMx (0,false)).1,(Qe B bMx (Qe B bMx (0,false)).2).1,l),0):=by rw [Qlp hp hk,if_pos ⟨Decidable.not_not.1 h,Decidable.not_not.1 h2⟩]
end
end Go.Proofs.YtgmdjhdgaddigaaGreat
