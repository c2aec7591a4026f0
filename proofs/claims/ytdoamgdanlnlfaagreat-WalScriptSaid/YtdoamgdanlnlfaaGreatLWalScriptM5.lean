/- Part 5 of the proof of LWalScript: what it needs of the library, the walks and the plain laws. Conditions: those named in each theorem. -/
import Derived.Test.YtdoamgdanlnlfaaGreatLWalScriptM4
set_option linter.unusedVariables false
set_option linter.unusedSimpArgs false
set_option maxRecDepth 4000
namespace Go.Proofs.YtdoamgdanlnlfaaGreat
def onD (d : QY) : Prop := d.1 = true ∧ d.2.1 = false
instance (d : QY) : Decidable (onD d) := by unfold onD; infer_instance
def JI (d : QY) (br : Bool) : Int := if br = true ∨ ¬ onD d then 6 else 0
def Xn (d : QY) (f n : Int) : QY × Int := if ((J6 d.2.2.2.2.2.1 d.2.2.2.2.2.2 f).length : Int) = n then (d, 0) else if ¬ (Xk d f n).2 = 0 then Xk d f n else YB (Xk d f n).1
def Jc (d : QY) : List Qe × Int := Y0 (JW d 0).1
def Qp (d : QY) : QY × Int := if ¬ Jj d = 0 then (d, Jj d) else Xn d 0 (Jc d).2
abbrev WSt := QY × Bool × List Qe
def XK (q : QY × Int) (l l' : List Qe) : WSt × Int := if ¬ q.2 = 0 then ((q.1, true, l), q.2) else ((q.1, false, l'), 0)
def QK (d : QY) (br : Bool) (l : List Qe) (c : Qe) : WSt × Int :=
  if ¬ JI d br = 0 then ((d, true, l), 6) else if ¬ QW c = 0 then ((d, false, l), QW c)
  else if ¬ (Qg (Qv 0 l) l.length [c]).1 = 0 then ((d, false, l), 15) else XK (ZC d 0 (Y2 c)) l (l ++ [c])
def Z9 (d : QY) (br : Bool) (l : List Qe) : WSt × Int := if ¬ JI d br = 0 then ((d, true, l), 6) else XK (YB d) l l
def X6 (d : QY) (br : Bool) (l : List Qe) (to : Int) : WSt × Int :=
  if ¬ JI d br = 0 then ((d, true, l), 6) else if to < 0 ∨ (l.length : Int) < to then ((d, false, l), 2)
  else XK (Xk d 0 (Jo (l.take to.toNat)).length) l (l.take to.toNat)
def Xf (l : List Qe) (n most : Int) : List Qe := if n < 1 then [] else (l.drop (n - 1).toNat).take most.toNat
section
variable {d : QY} {br : Bool} {l l' : List Qe} {c : Qe} {q : QY × Int} {to n most : Int}
theorem Q3 (h:¬ JI d br=0):JI d br=6:=by
 by_cases h1:br=true∨¬ onD d
 ·exact if_pos h1
 ·exact absurd (if_neg h1) h
theorem Qir {f:Int} (d:QY) (hf:inF f):(JW d f).2=Jj d:=by
 by_cases h:Jj d=0
 ·rw [QfF h hf,h]
 ·unfold JW;rw [if_pos h]
theorem Qfa (h:onD d):Jj d=0:=by unfold Jj;rw [if_neg (by rw [h.1];decide),if_neg (by rw [h.2];decide)]
theorem Qdr (h:¬ q.2=0):XK q l l'=((q.1,true,l),q.2):=if_pos h
theorem QaG (h:¬ ¬ q.2=0):XK q l l'=((q.1,false,l'),0):=if_neg h
theorem Qln (h:¬ JI d br=0):QK d br l c=((d,true,l),6):=if_pos h
theorem Qlm (h:¬ ¬ JI d br=0) (h2:¬ QW c=0):QK d br l c=((d,false,l),QW c):=by unfold QK;rw [if_neg h,if_pos h2]
theorem Qll (h:¬ ¬ JI d br=0) (h2:¬ ¬ QW c=0) (h3:¬ (Qg (Qv 0 l) l.length [c]).1=0):QK d br l c=((d,false,l),15):=by unfold QK;rw [if_neg h,if_neg h2,if_pos h3]
theorem Qlj (h:¬ ¬ JI d br=0) (h2:¬ ¬ QW c=0) (h3:¬ ¬ (Qg (Qv 0 l) l.length [c]).1=0):QK d br l c=XK (ZC d 0 (Y2 c)) l (l++[c]):=by unfold QK;rw [if_neg h,if_neg h2,if_neg h3]
theorem QcK {c:Qe}:(Jd c).2=QW c:=by unfold Jd;split <;> (rename_i h;first | exact h.symm | rfl)
theorem app_e2 (h:¬ ¬ JI d br=0) (h2:¬ (Jd c).2=0):QK d br l c=((d,false,l),(Jd c).2):=by
 rw [QcK] at h2 ⊢;exact Qlm h h2
theorem app_e3 (h:¬ ¬ JI d br=0) (h2:¬ ¬ (Jd c).2=0) (h3:¬ (Qg (Qv 0 l) l.length [c]).1=0):QK d br l c=((d,false,l),15):=by
 rw [QcK] at h2;exact Qll h h2 h3
theorem Qlk (h2:¬ ¬ (Jd c).2=0):J8 [] (Jd c).1=(Y2 c,0):=by
 rw [QcK] at h2
 have h0:=Decidable.not_not.1 h2
 have h1:=QaY c
 rw [Z8 (by omega),show Jd c=(QeY c,0) from if_pos h0];rfl
theorem QqL (h2:¬ ¬ (Jd c).2=0):(J8 [] (Jd c).1).1.length≤710:=by
 rw [Qlk h2];rw [QcK] at h2;exact (Qev (Decidable.not_not.1 h2)).1
theorem QqK (h2:¬ ¬ (Jd c).2=0):c.2.2.length≤8:=by
 rw [QcK] at h2;exact QaF (QbC (Decidable.not_not.1 h2)).2.2.2.2
theorem Qkk (h:¬ ¬ JI d br=0) (h2:¬ ¬ (Jd c).2=0) (h3:¬ ¬ (Qg (Qv 0 l) l.length [c]).1=0):QK d br l c=XK (ZC d 0 (J8 [] (Jd c).1).1) l (l++[c]):=by
 rw [Qlk h2];rw [QcK] at h2;exact Qlj h h2 h3
theorem QoV {es:List Int} (he:es=JK l) (h2:¬ ¬ (Jd c).2=0):JK (l++[c])=es++[Qa4 es+((J8 [] (Jd c).1).1.length:Int)]:=by
 rw [Qes,he,Qlk h2,Z0]
theorem Qfi (d:QY):0≤Jj d∧Jj d≤6:=by unfold Jj;split;exact ⟨by omega,by omega⟩;split <;> exact ⟨by omega,by omega⟩
theorem Qh7 (d:QY) (f:Int) (b:Qr):0≤(ZC d f b).2∧(ZC d f b).2≤6:=by
 have h0:=Qfi d
 unfold ZC;split
 ·exact h0
 ·split
  ·exact ⟨by dsimp only;omega,by dsimp only;omega⟩
  ·rcases Qpf b.length (d:=d) (f:=f) (b:=b) with h | h <;> rw [h] <;> exact ⟨by omega,by omega⟩
theorem QnO (d:QY) (f n:Int):0≤(Xk d f n).2∧(Xk d f n).2≤6:=by
 have h0:=Qfi d
 unfold Xk;split
 ·exact h0
 ·split
  ·exact ⟨by dsimp only;omega,by dsimp only;omega⟩
  ·split <;> exact ⟨by dsimp only;omega,by dsimp only;omega⟩
theorem Qe3 (d:QY):0≤(YB d).2∧(YB d).2≤6:=by
 have h0:=Qfi d
 unfold YB;split
 ·exact h0
 ·split <;> exact ⟨by dsimp only;omega,by dsimp only;omega⟩
theorem Qaf (h:¬ JI d br=0):Z9 d br l=((d,true,l),6):=if_pos h
theorem Qn3 (h:¬ ¬ JI d br=0):Z9 d br l=XK (YB d) l l:=if_neg h
theorem Qa5 (h:¬ ¬ JI d br=0):Z9 d br l=(((YB d).1,decide (¬ (YB d).2=0),l),(YB d).2):=by
 rw [Qn3 h]
 by_cases h2:(YB d).2=0
 ·rw [QaG (not_not_intro h2)];simp [h2]
 ·rw [Qdr h2];simp [h2]
theorem Qh9 (h:¬ JI d br=0):X6 d br l to=((d,true,l),6):=if_pos h
theorem Qdl (h:¬ ¬ JI d br=0) (h2:to < 0∨(l.length:Int) < to):X6 d br l to=((d,false,l),2):=by unfold X6;rw [if_neg h,if_pos h2]
theorem Qmq (h:¬ ¬ JI d br=0) (h2:¬ to < 0) (h3:¬ (l.length:Int) < to):X6 d br l to=XK (Xk d 0 (Jo (l.take to.toNat)).length) l (l.take to.toNat):=by unfold X6;rw [if_neg h,if_neg fun q=>q.elim h2 h3]
theorem Qhn (h:¬ (JW d 0).2=0):Qp d=(d,(JW d 0).2):=by rw [Qir d (by decide)] at h ⊢;exact if_pos h
theorem Qix (h:¬ ¬ (JW d 0).2=0):Jj d=0∧JW d 0=(J6 d.2.2.2.2.2.1 d.2.2.2.2.2.2 0,0):=by
 rw [Qir d (by decide)] at h
 have h0:=Decidable.not_not.1 h
 exact ⟨h0,QfF h0 (by decide)⟩
theorem QjM (h:¬ ¬ (JW d 0).2=0):Qp d=Xn d 0 (Jc d).2:=by unfold Qp;rw [if_neg (Decidable.not_not.2 (Qix h).1)]
theorem QjL (h:¬ ¬ (JW d 0).2=0):J6 d.2.2.2.2.2.1 d.2.2.2.2.2.2 0=(JW d 0).1:=by rw [(Qix h).2]
theorem Qmn (d:QY):Qa4 (JK (Y0 (JW d 0).1).1)=(Jc d).2:=(ZT _).2.2.2.2.1.symm
theorem Qel (h:¬ ¬ (JW d 0).2=0) (h2:¬ Qa4 (JK (Y0 (JW d 0).1).1) < ((JW d 0).1.length:Int)):Qp d=(d,0):=by
 have h3:=(ZT (JW d 0).1).2.1
 rw [Qmn] at h2
 rw [QjM h];unfold Xn;rw [QjL h,if_pos]
 unfold Jc at h2 ⊢;omega
theorem Qda (h:¬ ¬ (JW d 0).2=0) (h2:Qa4 (JK (Y0 (JW d 0).1).1) < ((JW d 0).1.length:Int)) (h3:¬ (Xk d 0 (Qa4 (JK (Y0 (JW d 0).1).1))).2=0):Qp d=Xk d 0 (Qa4 (JK (Y0 (JW d 0).1).1)):=by
 rw [Qmn] at h2 h3 ⊢
 rw [QjM h];unfold Xn;rw [QjL h,if_neg (by omega),if_pos h3]
theorem QdF (h:¬ ¬ (JW d 0).2=0) (h2:Qa4 (JK (Y0 (JW d 0).1).1) < ((JW d 0).1.length:Int)) (h3:¬ ¬ (Xk d 0 (Qa4 (JK (Y0 (JW d 0).1).1))).2=0):Qp d=YB (Xk d 0 (Qa4 (JK (Y0 (JW d 0).1).1))).1:=by
 rw [Qmn] at h2 h3 ⊢
 rw [QjM h];unfold Xn;rw [QjL h,if_neg (by omega),if_neg h3]
def okL (l : List Qe) : Prop := (Qg 0 0 l).1 = 0
theorem Qp1:okL []:=rfl
theorem Qcp (d:QY):okL (Jc d).1:=(QkT _).1
theorem Qar (h:okL l):(l.length:Int)≤1048576:=by have:=QbU h (by omega);omega
theorem Qou (h:okL l) (h2:¬ ¬ (Qg (Qv 0 l) l.length [c]).1=0):okL (l++[c]):=Qcr h (Decidable.not_not.1 h2)
theorem QdG (h:okL l) (n:Nat):okL (l.take n):=by
 unfold okL at h ⊢
 rw [← List.take_append_drop n l] at h
 exact Qb6 h
theorem Qhq (h:okL l):∀ c∈l,QW c=0:=Qb1 h
theorem Qp0 {k m:Nat} {x:Qe} (h:okL l) (hx:(l.drop m)[k]? =some x):x.2.2.length≤8:=by
 rw [List.getElem?_drop] at hx
 exact QaF (QbC (Qhq h x (List.mem_of_getElem? hx))).2.2.2.2
theorem Qnj (h : ∀ c ∈ l, QW c = 0) : (Jo l).length ≤ 710 * l.length := by
  induction l with
  | nil => exact Nat.le_refl _
  | cons c l ih =>
    have h1 := (Qev (h c (.head _))).1
    have h2 := ih fun x hx => h x (.tail _ hx)
    rw [QeQ, List.length_append, List.length_cons]; omega
theorem QaJ (h:okL l):(Jo l).length≤744488960:=by
 have h1:=Qnj (Qhq h);have h2:=Qar h;omega
theorem cutAt {es:List Int} (h:okL l) (he:es=JK l) (k:Nat):Qa4 (es.take k)=((Jo (l.take k)).length:Int)∧(Jo (l.take k)).length≤744488960:=by
 rw [he,QgQ,Z0];exact ⟨rfl,QaJ (QdG h k)⟩
theorem Qg6 {es:List Int} (hl:okL l) (he:es=JK l) (h:¬ ¬ JI d br=0) (h2:¬ to < 0) (h3:¬ (l.length:Int) < to):X6 d br l to=XK (Xk d 0 (Qa4 (es.take to.toNat))) l (l.take to.toNat):=by
 rw [Qmq h h2 h3,(cutAt hl he _).1]
theorem QoL {es:List Int} (he:es=JK l) (k:Nat):JK (l.take k)=es.take k:=by rw [he,QgQ]
theorem Qkx {f:Int} (h:okD d):okD (Xn d f n).1:=by
 unfold Xn;split
 ·exact h
 ·split
  ·exact Qb7 h
  ·exact Qc8 (Qb7 h)
theorem Qjq {f:Int} (h:okD d):wD (Xn d f n).1≤wD d+3:=by
 have h1:=Ql2 (f:=f) (n:=n) h
 have h2:=Qgu (Qb7 (f:=f) (n:=n) h)
 unfold Xn;split
 ·dsimp only;omega
 ·split
  ·omega
  ·omega
theorem Qcl (h:okD d):okD (Qp d).1:=by unfold Qp;split;exact h;exact Qkx h
theorem QcW (h:okD d):wD (Qp d).1≤wD d+3:=by unfold Qp;split;(dsimp only;omega);exact Qjq h
theorem Qhb (h:okD q.1):okD (XK q l l').1.1:=by unfold XK;split <;> exact h
theorem QbH:(XK q l l').1.1=q.1:=by unfold XK;split <;> rfl
theorem Qf5 (h:okD d):okD (QK d br l c).1.1:=by
 unfold QK;split
 ·exact h
 ·split
  ·exact h
  ·split
   ·exact h
   ·exact Qhb (QeZ h)
theorem Qjb (h:okD d):wD (QK d br l c).1.1≤wD d+2131:=by
 unfold QK;split
 ·dsimp only;omega
 ·split
  ·dsimp only;omega
  ·rename_i h0;split
   ·dsimp only;omega
   ·rw [QbH]
    have h1:=Qjl (f:=0) (b:=Y2 c) h
    have h2:=(Qev (Decidable.not_not.1 h0)).1
    omega
theorem Qjc (h:okL l):okL (QK d br l c).1.2.2:=by
 unfold QK;split
 ·exact h
 ·split
  ·exact h
  ·split
   ·exact h
   ·rename_i h0;unfold XK;split
    ·exact h
    ·exact Qou h h0
theorem Qg5 (h:okD d):okD (Z9 d br l).1.1:=by unfold Z9;split;exact h;exact Qhb (Qc8 h)
theorem Qjj (h:okD d):wD (Z9 d br l).1.1≤wD d+1:=by unfold Z9;split;(dsimp only;omega);rw [QbH];exact Qgu h
theorem Qjk:(Z9 d br l).1.2.2=l:=by unfold Z9;split;rfl;unfold XK;split <;> rfl
theorem Qjn (h:okD d):okD (X6 d br l to).1.1:=by
 unfold X6;split
 ·exact h
 ·split
  ·exact h
  ·exact Qhb (Qb7 h)
theorem Qmo (h:okD d):wD (X6 d br l to).1.1≤wD d+2:=by
 unfold X6;split
 ·dsimp only;omega
 ·split
  ·dsimp only;omega
  ·rw [QbH];exact Ql2 h
theorem Qmp (h:okL l):okL (X6 d br l to).1.2.2:=by
 unfold X6;split
 ·exact h
 ·split
  ·exact h
  ·unfold XK;split
   ·exact h
   ·exact QdG h _
theorem QhD (h:¬ n < 1):Xf l n most=(l.drop (n - 1).toNat).take most.toNat:=if_neg h
theorem QdJ {k:Nat} {x:Qe} {e:Int} (hx:l[k]? =some x) (h0:(k:Int)+1=l.length):Qv e l=x.1:=by
 unfold Qv;rw [List.getLast?_eq_getElem?,show l.length - 1=k by omega,hx]
theorem QcG {e:Int} (h0:(l.length:Int)=0):Qv e l=e:=by
 have h1:l=[]:=List.eq_nil_of_length_eq_zero (by omega)
 rw [h1];rfl
theorem Qab {k:Nat} (h:¬ n < 1) (ho:l'=(l.drop (n - 1).toNat).take k) (hk:(l'.length:Int)=most):Xf l n most=l':=by
 have h1:l'.length≤k:=by rw [ho,List.length_take];omega
 rw [QhD h,ho,← hk,Int.toNat_natCast,ho,List.length_take]
 by_cases h2:k≤(l.drop (n - 1).toNat).length
 ·rw [Nat.min_eq_left h2]
 ·rw [Nat.min_eq_right (by omega),List.take_of_length_le (Nat.le_refl _),List.take_of_length_le (by omega)]
theorem Qac {k:Nat} (h:¬ n < 1) (ho:l'=(l.drop (n - 1).toNat).take k) (hk:(l.drop (n - 1).toNat).length≤k) (hm:(k:Int)≤most):Xf l n most=l':=by
 rw [QhD h,ho,List.take_of_length_le (by omega),List.take_of_length_le hk]
theorem Z1 (h:n < 1∨(l.length:Int) < n∨most < 1):Xf l n most=[]:=by
 unfold Xf
 split
 ·rfl
 ·rcases h with h | h | h
  ·contradiction
  ·rw [List.drop_eq_nil_of_le (by omega)];exact List.take_nil
  ·rw [show most.toNat=0 by omega];rfl
end
theorem QfU:JR Tryz.prog 21=true:=by kernel_rfl
theorem Qk7:JR Tryz.prog 22=true:=by kernel_rfl
theorem Qpu:JR Tryz.prog 50=true:=by kernel_rfl
theorem Qpt:JR Tryz.prog 58=true:=by kernel_rfl
theorem Qk5:JR Tryz.prog 60=true:=by kernel_rfl
theorem fnOk61:JR Tryz.prog 61=true:=by kernel_rfl
theorem Qps:JR Tryz.prog 62=true:=by kernel_rfl
theorem Qpr:JR Tryz.prog 63=true:=by kernel_rfl
theorem QiX:JR Tryz.prog 64=true:=by kernel_rfl
theorem Qns:JR Tryz.prog 65=true:=by kernel_rfl
theorem Qnr:JR Tryz.prog 66=true:=by kernel_rfl
theorem Qnq:JR Tryz.prog 67=true:=by kernel_rfl
theorem fnOk68:JR Tryz.prog 68=true:=by kernel_rfl
theorem fnOk70:JR Tryz.prog 70=true:=by kernel_rfl
theorem Qnp:JR Tryz.prog 71=true:=by kernel_rfl
theorem fnOk72:JR Tryz.prog 72=true:=by kernel_rfl
theorem Qkz:tk Tryz.prog 26=some none:=by kernel_rfl
theorem XX:tst Tryz.prog 84=some [(0,1),(1,1),(2,1),(3,1)]:=by kernel_rfl
theorem tz84:tz Tryz.prog 84=some [.pointer none,.bool false,.slice none 0 0,.slice none 0 0]:=by kernel_rfl
theorem Qbp (W:World) {v0:Value} {d0:List Int} (h0:Rd (.sl (.int .i64)) (wm W) [v0] d0):Qi Tryz.prog 64 [v0] W (Qx) (fun v m'=>v= .int .i64 (Qa4 d0)):=by
 obtain ⟨A0,c0,rfl,l0,k0⟩:=h0.slc
 refine Qi.ofA (n:=12) Tryz.func64 rfl rfl rfl ?_
 refine VC.rs (VO.as (VO.k2 0 2 (VC.seq (VC.rs (VO.mv (VO.z (.lenS rfl Qd8) (VO.z (.eql rfl rfl) (VO.k3 0 2 5 ?_))))))))
 refine VC.cond rfl (fun hc1=>?_) (fun hc1=>?_)
 refine VC.rs (VO.as (VO.p1 0 (VO.k3 0 2 5 (VC.ret (QZ ?_)))))
 exact Xl 2 rfl (by first | rfl | (first | exact congrArg (Value.int _) (Qnb ‹d0[_]? =some _› Qn).symm | exact congrArg (Value.int _) (QkW Qn).symm))
 ·refine VC.skip (Qm (VC.rs (VO.mv (VO.mv (VO.z (.lenS rfl Qd8) ?_)))))
  refine VO.z (.sub rfl rfl rfl ⟨bd,bd⟩) ?_
  obtain ⟨x2,hx2⟩:∃ z_,(d0)[(((d0.length:Nat):Int) - 1).toNat]? =some z_:=⟨_,List.getElem?_eq_getElem bd⟩
  obtain ⟨gg2,oo2,ec2,ea2,hce2,hre2⟩:=h0.elem hx2
  cases ea2
  obtain ⟨rfl,q2⟩:=hre2;simp only [inK] at q2
  refine VO.z (.ixI ((((d0.length:Nat):Int) - 1).toNat) rfl rfl Qd8 bd bd) ?_
  refine VO.z (.ld1 0 rfl tk3 rfl hce2) ?_
  refine VO.as (VO.p1 0 (VO.k3 0 2 5 (VC.ret ?_)))
  exact Xl 2 rfl (by first | rfl | (first | exact congrArg (Value.int _) (Qnb ‹d0[_]? =some _› Qn).symm | exact congrArg (Value.int _) (QkW Qn).symm))
theorem Qe0 (W:World) {es_:List Int} {l_:List Qe} {br_:Bool} {D_:QO} {gd_:Nat} {m0:Mem} (hm:mle (m0) (wm W)) {g0:Nat} (h0:Ow (.ptr Zd) m0 [.pointer (some ⟨g0,0,none⟩)] (g0,((gd_,D_),br_,l_,es_))):Qi Tryz.prog 60 [.pointer (some ⟨g0,0,none⟩)] W (m0) (fun v m'=>v= .bool (decide (False))∧Ow (.ptr Zd) m' [.pointer (some ⟨g0,0,none⟩)] (g0,((gd_,D_),br_,l_,es_))):=by
 refine Qi.ofB (n:=12) hm Tryz.func60 rfl rfl rfl ?_
 refine VC.rs (VO.as (VO.k2 0 2 (VC.rs (VO.mv ?_))))
 refine VO.z (.pnil rfl rfl Tryz.underlying30 rfl) ?_
 refine VO.mv (VO.w (.mv rfl) (VO.w (.nilp rfl) (VO.w (.fa rfl XX rfl) ?_)))
 obtain ⟨q1_E,q1_A2,q1_c2,q1_A3,q1_c3,q1_n0,q1_n2,q1_n3,_,q1_S,q1_0,q1_2,q1_3⟩:=Jf (x0:=(gd_,D_)) (x1:=br_) (x2:=l_) (x3:=es_) h0
 dsimp only at q1_0
 have q1_r2:=q1_2.rm
 have q1_r3:=q1_3.rm
 refine VO.inv _ (fun _ h=>h.parts (i:=1) rfl q1_S [105,102,103,104]) ?_
 refine VO.w (.ld1 105 rfl Qkz rfl (Qa rfl rfl)) ?_
 refine VO.w (.pnil rfl rfl Tryz.underlying26 rfl) ?_
 refine VO.z (.pF rfl rfl) (VO.as ?_)
 refine VO.clsP 106 [105,102,103,104] rfl (fun hg6=>(Js _ _ _ _ hg6 q1_0 q1_2 q1_3)) (fun mc6 ho6=>?_)
 refine VO.k2 0 2 (VC.ret ?_)
 exact Zs 2 106 rfl ho6 (by first | rfl | (simp [*];done)) (by first | rfl | (simp [*];done))
theorem Qc1 (W:World) {es_:List Int} {l_:List Qe} {br_:Bool} {D_:QO} {gd_:Nat} {m0:Mem} (hm:mle (m0) (wm W)) {g0:Nat} (h0:Ow (.ptr Zd) m0 [.pointer (some ⟨g0,0,none⟩)] (g0,((gd_,D_),br_,l_,es_))):Qi Tryz.prog 21 [.pointer (some ⟨g0,0,none⟩)] W (m0) (fun v m'=>v= .int .i64 ((l_.length:Nat):Int)∧Ow (.ptr Zd) m' [.pointer (some ⟨g0,0,none⟩)] (g0,((gd_,D_),br_,l_,es_))):=by
 refine Qi.ofB (n:=10) hm Tryz.func21 rfl rfl rfl ?_
 refine VC.rs (VO.as (VO.k2 0 2 (VC.seq (VC.rs (VO.mv ?_)))))
 refine VO.call 1 rfl Qk5 rfl rfl (fun W hW=>Qe0 W (hW.t 1) h0) (fun v1 m1 hv1=>?_)
 try dsimp only at hv1
 obtain ⟨rfl,w1_0⟩:=hv1
 refine VO.k3 0 2 4 ?_
 refine VC.cond rfl (fun hc2=>?_) (fun hc2=>?_)
 exact hc2.elim
 ·refine VC.skip (Qm (VC.rs (VO.mv (VO.z (.nilp rfl) (VO.z (.fa rfl XX rfl) ?_)))))
  obtain ⟨q3_E,q3_A2,q3_c2,q3_A3,q3_c3,q3_n0,q3_n2,q3_n3,_,q3_S,q3_0,q3_2,q3_3⟩:=Jf (x0:=(gd_,D_)) (x1:=br_) (x2:=l_) (x3:=es_) w1_0
  dsimp only at q3_0
  have q3_r2:=q3_2.rm
  have q3_r3:=q3_3.rm
  refine VO.inv _ (fun _ h=>h.parts (i:=1) rfl q3_S [107,104,105,106]) ?_
  refine VO.z (.ld1 107 rfl Qbr rfl (Qa rfl rfl)) (VO.z (.lenS rfl Jx) (VO.as ?_))
  refine VO.clsP 108 [107,104,105,106] rfl (fun hg8=>(Js _ _ _ _ hg8 q3_0 q3_2 q3_3)) (fun mc8 ho8=>?_)
  refine VO.p2 108 0 (VO.k3 0 2 4 (VC.ret ?_))
  exact Zs 2 108 rfl ho8 (by first | rfl | (simp [*];done)) (by first | rfl | (simp [*];done))
theorem Qdn (W:World) {es_:List Int} {l_:List Qe} {br_:Bool} {D_:QO} {gd_:Nat} {m0:Mem} (hm:mle (m0) (wm W)) {g0:Nat} (h0:Ow (.ptr Zd) m0 [.pointer (some ⟨g0,0,none⟩)] (g0,((gd_,D_),br_,l_,es_))):Qi Tryz.prog 22 [.pointer (some ⟨g0,0,none⟩)] W (m0) (fun v m'=>v= .int .i64 (Qv 0 l_)∧Ow (.ptr Zd) m' [.pointer (some ⟨g0,0,none⟩)] (g0,((gd_,D_),br_,l_,es_))):=by
 refine Qi.ofB (n:=19) hm Tryz.func22 rfl rfl rfl ?_
 refine VC.rs (VO.as (VO.k2 0 2 (VC.seq (VC.rs (VO.mv ?_)))))
 refine VO.call 1 rfl QfU rfl rfl (fun W hW=>Qc1 W (hW.t 1) h0) (fun v1 m1 hv1=>?_)
 try dsimp only at hv1
 obtain ⟨rfl,w1_0⟩:=hv1
 refine VO.z (.eql rfl rfl) (VO.k3 0 2 5 ?_)
 refine VC.cond rfl (fun hc2=>?_) (fun hc2=>?_)
 ·refine VC.rs (VO.as (VO.p2 1 0 (VO.k3 0 2 5 (VC.ret (QZ ?_)))))
  exact Zs 2 1 rfl w1_0 (by first | rfl | (simp [*];done)) (by first | rfl | (first | exact congrArg (Value.int _) (QdJ ‹l_[_]? =some _› Qn).symm | exact congrArg (Value.int _) (QcG Qn).symm))
 ·refine VC.skip (Qm (VC.seq ?_))
  obtain ⟨q3_E,q3_A2,q3_c2,q3_A3,q3_c3,q3_n0,q3_n2,q3_n3,_,q3_S,q3_0,q3_2,q3_3⟩:=Jf (x0:=(gd_,D_)) (x1:=br_) (x2:=l_) (x3:=es_) w1_0
  dsimp only at q3_0
  have q3_r2:=q3_2.rm
  have q3_r3:=q3_3.rm
  refine VC.inv _ (fun _ h=>h.parts (i:=1) rfl q3_S [107,104,105,106]) ?_
  refine VC.regD _ 10 [(0,true),(1,true),(2,true),(3,true),(4,true),(5,true),(6,true),(7,true),(8,true),(9,true)] follows (by kernel_rfl) (fun _ h=>h.sub [107,104,105,106,0]) ?_
  refine VD.z rfl (.mv rfl) (VD.z rfl (.nilp rfl) (VD.z rfl (.fa rfl XX rfl) (VD.z rfl (.ld1 107 rfl Qbr rfl (Qa rfl rfl)) (VD.z rfl (.mv rfl) (VD.z rfl (.nilp rfl) (VD.z rfl (.fa rfl XX rfl) (VD.z rfl (.ld1 107 rfl Qbr rfl (Qa rfl rfl)) (VD.z rfl (.lenS rfl Jx) ?_))))))))
  refine VD.z rfl (.sub rfl rfl rfl ⟨bd,bd⟩) ?_
  refine VD.nil rfl ?_ rfl
  obtain ⟨x8,hx8⟩:∃ z_,(l_)[(((l_.length:Nat):Int) - 1).toNat]? =some z_:=⟨_,List.getElem?_eq_getElem bd⟩
  obtain ⟨gg8,oo8,ec8,ea8,hce8,hre8⟩:=(Ow.rd q3_2 (Qc _)).elem hx8
  cases ea8
  obtain ⟨q8_A2,q8_c2,rfl,q8_0,q8_1,q8_2⟩:=Q4 (x0:=x8.1) (x1:=x8.2.1) (x2:=x8.2.2) hre8
  simp only [inK] at q8_0 q8_1
  have q8_r2:=Rd.room q8_2
  refine VO.z (.ixI ((((l_.length:Nat):Int) - 1).toNat) rfl rfl Jx bd bd) ?_
  refine VO.z (.fa rfl Jq rfl) ?_
  refine VO.z (.ld1 105 rfl tk3 rfl (hce8.at1 (j:=0) rfl)) ?_
  refine VO.as ?_
  refine VO.clsP 109 [107,104,105,106] rfl (fun hg9=>(Js _ _ _ _ hg9 q3_0 q3_2 q3_3)) (fun mc9 ho9=>?_)
  refine VO.p2 109 0 (VO.k3 0 2 5 (Qm (VC.ret ?_)))
  exact Zs 2 109 rfl ho9 (by first | rfl | (simp [*];done)) (by first | rfl | (first | exact congrArg (Value.int _) (QdJ ‹l_[_]? =some _› Qn).symm | exact congrArg (Value.int _) (QcG Qn).symm))
theorem Qjo (W:World) {es_:List Int} {l_:List Qe} {br_:Bool} {D_:QO} {gd_:Nat} {m0:Mem} (hm:mle (m0) (wm W)) {g0:Nat} (h0:Ow (.ptr Zd) m0 [.pointer (some ⟨g0,0,none⟩)] (g0,((gd_,D_),br_,l_,es_))):Qi Tryz.prog 18 [.pointer (some ⟨g0,0,none⟩)] W (m0) (fun v m'=>v= .int .i64 (Qa4 es_)∧Ow (.ptr Zd) m' [.pointer (some ⟨g0,0,none⟩)] (g0,((gd_,D_),br_,l_,es_))):=by
 refine Qi.ofB (n:=10) hm Tryz.func18 rfl rfl rfl ?_
 refine VC.rs (VO.as (VO.k2 0 2 (VC.seq (VC.rs (VO.mv ?_)))))
 refine VO.call 1 rfl Qk5 rfl rfl (fun W hW=>Qe0 W (hW.t 1) h0) (fun v1 m1 hv1=>?_)
 try dsimp only at hv1
 obtain ⟨rfl,w1_0⟩:=hv1
 refine VO.k3 0 2 4 ?_
 refine VC.cond rfl (fun hc2=>?_) (fun hc2=>?_)
 exact hc2.elim
 ·refine VC.skip (Qm (VC.rs (VO.mv (VO.z (.nilp rfl) (VO.z (.fa rfl XX rfl) ?_)))))
  obtain ⟨q3_E,q3_A2,q3_c2,q3_A3,q3_c3,q3_n0,q3_n2,q3_n3,_,q3_S,q3_0,q3_2,q3_3⟩:=Jf (x0:=(gd_,D_)) (x1:=br_) (x2:=l_) (x3:=es_) w1_0
  dsimp only at q3_0
  have q3_r2:=q3_2.rm
  have q3_r3:=q3_3.rm
  refine VO.inv _ (fun _ h=>h.parts (i:=1) rfl q3_S [107,104,105,106]) ?_
  refine VO.z (.ld1 107 rfl QlC rfl (Qa rfl rfl)) ?_
  refine VO.callN 108 rfl QiX rfl (fun W hW=>Qbp W (Ow.rd q3_3 (hW.t 106))) (fun v8 m8 hv8=>?_)
  subst hv8
  refine VO.as ?_
  refine VO.clsP 109 [107,104,105,106] rfl (fun hg9=>(Js _ _ _ _ hg9 q3_0 q3_2 q3_3)) (fun mc9 ho9=>?_)
  refine VO.p2 109 0 (VO.k3 0 2 4 (VC.ret ?_))
  exact Zs 2 109 rfl ho9 (by first | rfl | (simp [*];done)) (by first | rfl | (simp [*];done))
theorem Qfq (W:World) {es_:List Int} {l_:List Qe} {br_:Bool} {D_:QO} {gd_:Nat} {m0:Mem} (hm:mle (m0) (wm W)) {g0:Nat} (h0:Ow (.ptr Zd) m0 [.pointer (some ⟨g0,0,none⟩)] (g0,((gd_,D_),br_,l_,es_))) (d1:Int) (h1:inK .i64 d1):Qi Tryz.prog 71 [.pointer (some ⟨g0,0,none⟩),.int .i64 d1] W (m0) (fun v m'=>v= .int .i64 (d1)∧Ow (.ptr Zd) m' [.pointer (some ⟨g0,0,none⟩)] (g0,((gd_,D_),br_ || decide (¬ d1=0),l_,es_))):=by
 have h1':=h1;simp only [inK] at h1'
 refine Qi.ofB (n:=11) hm Tryz.func71 rfl rfl rfl ?_
 refine VC.rs (VO.as (VO.k3 0 1 4 (VC.seq (VC.rs (VO.mv (VO.z (.neq rfl rfl) (VO.k4 0 1 4 6 ?_)))))))
 refine VC.cond rfl (fun hc1=>?_) (fun hc1=>?_)
 ·refine VC.reg ?_
  refine VO.mv (VO.z (.nilp rfl) (VO.z (.fa rfl XX rfl) ?_))
  obtain ⟨q2_E,q2_A2,q2_c2,q2_A3,q2_c3,q2_n0,q2_n2,q2_n3,_,q2_S,q2_0,q2_2,q2_3⟩:=Jf (x0:=(gd_,D_)) (x1:=br_) (x2:=l_) (x3:=es_) h0
  dsimp only at q2_0
  have q2_r2:=q2_2.rm
  have q2_r3:=q2_3.rm
  refine VO.inv _ (fun _ h=>h.parts (i:=1) rfl q2_S [106,103,104,105]) ?_
  refine VO.store (k:=1) (c':=[.pointer (some ⟨gd_,0,none⟩),.bool true,.slice q2_A2 (l_.length) (q2_c2),.slice q2_A3 (es_.length) (q2_c3)]) 106 rfl rfl (.inr ⟨tk4,rfl⟩) rfl rfl rfl rfl rfl ?_
  refine VO.clsP 107 [106,103,104,105] rfl (fun hg7=>(Js _ _ _ _ hg7 q2_0 q2_2 q2_3)) (fun mc7 ho7=>?_)
  refine VO.p2 107 0 (VO.k4 0 1 4 6 (Qm (VC.rs (VO.mv (VO.as (VO.k4 0 1 4 6 (VC.ret ?_)))))))
  exact Zs 4 107 rfl ho7 (by first | rfl | (simp [*];done)) (by first | rfl | (simp [*];done))
 ·refine VC.skip (Qm (VC.rs (VO.mv (VO.as (VO.p2 0 1 (VO.k4 0 1 4 6 (VC.ret ?_)))))))
  exact Zs 4 1 rfl h0 (by first | rfl | (simp [*];done)) (by first | rfl | (simp [*];done))
theorem Qfp (W:World) {es_:List Int} {l_:List Qe} {br_:Bool} {D_:QO} {gd_:Nat} {m0:Mem} (hm:mle (m0) (wm W)) {g0:Nat} (h0:Ow (.ptr Zd) m0 [.pointer (some ⟨g0,0,none⟩)] (g0,((gd_,D_),br_,l_,es_))):Qi Tryz.prog 67 [.pointer (some ⟨g0,0,none⟩)] W (m0) (fun v m'=>v= .int .i64 (JI D_ br_)∧Ow (.ptr Zd) m' [.pointer (some ⟨g0,0,none⟩)] (g0,((gd_,D_),decide (¬ JI D_ br_=0),l_,es_))):=by
 refine Qi.ofB (n:=20) hm Tryz.func67 rfl rfl rfl ?_
 refine VC.rs (VO.as (VO.k2 0 2 (VC.seq (VC.rs (VO.mv ?_)))))
 refine VO.call 1 rfl Qk5 rfl rfl (fun W hW=>Qe0 W (hW.t 1) h0) (fun v1 m1 hv1=>?_)
 try dsimp only at hv1
 obtain ⟨rfl,w1_0⟩:=hv1
 refine VO.k3 0 2 4 ?_
 refine VC.cond rfl (fun hc2=>?_) (fun hc2=>?_)
 exact hc2.elim
 refine VC.skip (Qm (VC.seq (VC.rs (VO.mv (VO.z (.nilp rfl) (VO.z (.fa rfl XX rfl) ?_))))))
 obtain ⟨q3_E,q3_A2,q3_c2,q3_A3,q3_c3,q3_n0,q3_n2,q3_n3,_,q3_S,q3_0,q3_2,q3_3⟩:=Jf (x0:=(gd_,D_)) (x1:=br_) (x2:=l_) (x3:=es_) w1_0
 dsimp only at q3_0
 have q3_r2:=q3_2.rm
 have q3_r3:=q3_3.rm
 refine VO.inv _ (fun _ h=>h.parts (i:=1) rfl q3_S [107,104,105,106]) ?_
 refine VO.z (.ld1 107 rfl tk4 rfl (Qa rfl rfl)) (VO.mv ?_)
 refine VO.decB (t:=9) rfl (fun hc8=>?_) (fun hc8=>?_)
 ·refine VO.gN (VO.gN (VO.gN (VO.gN (VO.gN (VO.gN (VO.z (.pT rfl rfl) ?_))))))
  refine VO.clsP 109 [107,104,105,106] rfl (fun hg9=>(Js _ _ _ _ hg9 q3_0 q3_2 q3_3)) (fun mc9 ho9=>?_)
  refine VO.p2 109 0 (VO.k4 0 2 4 16 (VC.condT rfl (VC.rs (VO.mv (VO.z (.nilp rfl) (VO.z (.fa rfl XX rfl) ?_))))))
  obtain ⟨q10_E,q10_A2,q10_c2,q10_A3,q10_c3,q10_n0,q10_n2,q10_n3,_,q10_S,q10_0,q10_2,q10_3⟩:=Jf (x0:=(gd_,D_)) (x1:=br_) (x2:=l_) (x3:=es_) ho9
  dsimp only at q10_0
  have q10_r2:=q10_2.rm
  have q10_r3:=q10_3.rm
  refine VO.inv _ (fun _ h=>h.parts (i:=109) rfl q10_S [114,111,112,113]) ?_
  refine VO.store (k:=1) (c':=[.pointer (some ⟨gd_,0,none⟩),.bool true,.slice q10_A2 (l_.length) (q10_c2),.slice q10_A3 (es_.length) (q10_c3)]) 114 rfl rfl (.inr ⟨tk4,rfl⟩) rfl rfl rfl rfl rfl ?_
  refine VO.clsP 115 [114,111,112,113] rfl (fun hg15=>(Js _ _ _ _ hg15 q10_0 q10_2 q10_3)) (fun mc15 ho15=>?_)
  refine VO.k4 0 2 4 16 (VC.rs (VO.as (VO.k4 0 2 4 16 (VC.ret (QZ ?_)))))
  exact Zs 2 115 rfl ho15 (by first | rfl | (simp [JI,onD, *];done)) (by first | rfl | (simp [JI,onD, *];done))
 refine VO.w (.mv rfl) (VO.w (.nilp rfl) (VO.w (.fa rfl XX rfl) (VO.w (.ld1 107 rfl Qkz rfl (Qa rfl rfl)) ?_)))
 refine VO.gcall 104 rfl ⟨_,rfl,rfl⟩ Qpu rfl rfl (fun W hW=>QpD W (hW.t 104) q3_0) (fun v16 m16 hv16=>?_)
 obtain ⟨rfl,w16_0⟩:=hv16
 refine VO.w (.notD rfl) (VO.z (.pF rfl rfl) ?_)
 refine VO.clsP 117 [107,104,105,106] rfl (fun hg17=>(Js _ _ _ _ hg17 w16_0 q3_2 q3_3)) (fun mc17 ho17=>?_)
 refine VO.p2 117 0 (VO.k4 0 2 4 16 ?_)
 refine VC.cond rfl (fun hc18=>?_) (fun hc18=>?_)
 ·refine VC.rs (VO.mv (VO.z (.nilp rfl) (VO.z (.fa rfl XX rfl) ?_)))
  obtain ⟨q19_E,q19_A2,q19_c2,q19_A3,q19_c3,q19_n0,q19_n2,q19_n3,_,q19_S,q19_0,q19_2,q19_3⟩:=Jf (x0:=(gd_,D_)) (x1:=br_) (x2:=l_) (x3:=es_) ho17
  dsimp only at q19_0
  have q19_r2:=q19_2.rm
  have q19_r3:=q19_3.rm
  refine VO.inv _ (fun _ h=>h.parts (i:=117) rfl q19_S [123,120,121,122]) ?_
  refine VO.store (k:=1) (c':=[.pointer (some ⟨gd_,0,none⟩),.bool true,.slice q19_A2 (l_.length) (q19_c2),.slice q19_A3 (es_.length) (q19_c3)]) 123 rfl rfl (.inr ⟨tk4,rfl⟩) rfl rfl rfl rfl rfl ?_
  refine VO.clsP 124 [123,120,121,122] rfl (fun hg24=>(Js _ _ _ _ hg24 q19_0 q19_2 q19_3)) (fun mc24 ho24=>?_)
  refine VO.k4 0 2 4 16 (VC.rs (VO.as (VO.k4 0 2 4 16 (VC.ret (QZ ?_)))))
  exact Zs 2 124 rfl ho24 (by first | rfl | (simp [JI,onD, *];done)) (by first | rfl | (simp [JI,onD, *];done))
 ·refine VC.skip (Qm (VC.rs (VO.as (VO.k4 0 2 4 16 (VC.ret ?_)))))
  exact Zs 2 117 rfl ho17 (by first | rfl | (simp [JI,onD, *];done)) (by first | rfl | (simp [JI,onD, *];done))
theorem Qd7 (W:World) {es_:List Int} {l_:List Qe} {br_:Bool} {D_:QO} {gd_:Nat} {m0:Mem} (hm:mle (m0) (wm W)) {g0:Nat} (h0:Ow (.ptr Zd) m0 [.pointer (some ⟨g0,0,none⟩)] (g0,((gd_,D_),br_,l_,es_))) (e0:okL l_):Qi Tryz.prog 14 [.pointer (some ⟨g0,0,none⟩)] W (m0) (fun v m'=>∃ (s0:Value),∃ (p0:Mem),∃ (p1:Mem),v=s0∧QA m' [p0,p1]∧Ow (.sl Zt) p0 [s0] ((sOf l_).1)∧Ow (.ptr Zd) p1 [.pointer (some ⟨g0,0,none⟩)] (g0,((gd_,D_),br_,l_,es_))):=by
 have hll:=Qar e0
 refine Qi.ofB (n:=16) hm Tryz.func14 rfl rfl rfl ?_
 refine VC.rs (VO.as (VO.k2 0 2 (VC.seq (VC.rs (VO.mv ?_)))))
 refine VO.call 1 rfl Qk5 rfl rfl (fun W hW=>Qe0 W (hW.t 1) h0) (fun v1 m1 hv1=>?_)
 try dsimp only at hv1
 obtain ⟨rfl,w1_0⟩:=hv1
 refine VO.k3 0 2 6 ?_
 refine VC.cond rfl (fun hc2=>?_) (fun hc2=>?_)
 exact hc2.elim
 ·refine VC.skip (Qm (VC.rs (VO.mv (VO.z (.nilp rfl) (VO.z (.fa rfl XX rfl) ?_)))))
  obtain ⟨q3_E,q3_A2,q3_c2,q3_A3,q3_c3,q3_n0,q3_n2,q3_n3,_,q3_S,q3_0,q3_2,q3_3⟩:=Jf (x0:=(gd_,D_)) (x1:=br_) (x2:=l_) (x3:=es_) w1_0
  dsimp only at q3_0
  have q3_r2:=q3_2.rm
  have q3_r3:=q3_3.rm
  refine VO.inv _ (fun _ h=>h.parts (i:=1) rfl q3_S [107,104,105,106]) ?_
  refine VO.z (.ld1 107 rfl Qbr rfl (Qa rfl rfl)) ?_
  refine VO.callN 108 rfl fnOk61 rfl (fun W hW=>of_ok W (Ow.rd q3_2 (hW.t 105)) bd) (fun v8 m8 hv8=>?_)
  obtain ⟨s8_0,s8_1,rfl,f8_0,f8_1⟩:=hv8
  obtain ⟨A8_0,c8_0,eq8_0,l8_0,k8_0⟩:=f8_0.slc
  subst eq8_0
  obtain ⟨rfl,q8_1_0,q8_1_1⟩:=Yf (x0:=((sOf l_).2).1) (x1:=((sOf l_).2).2) (f8_1.rd (Qc _))
  simp only [inK] at q8_1_0 q8_1_1
  refine VO.mv (VO.z (.ext rfl rfl) (VO.z (.ext rfl rfl) ?_))
  refine VO.alloc 110 rfl Qft (fun g9=>?_)
  refine VO.as ?_
  refine VO.store (k:=2) (c':=[.int .i64 (((sOf l_).2).1),.int .i64 (((sOf l_).2).2)]) 110 rfl rfl (.inl Qbf) rfl rfl rfl rfl rfl ?_
  refine VO.clsP 111 [107,104,105,106] rfl (fun hg11=>(Js _ _ _ _ hg11 q3_0 q3_2 q3_3)) (fun mc11 ho11=>?_)
  refine VO.p3 111 108 0 (VO.k4 0 2 3 6 (VC.rs (VO.mv (VO.as (VO.k4 0 2 3 6 (VC.ret ?_))))))
  refine Yd 2 [108,111] fun hS_=>?_
  dsimp only [QE]
  refine ⟨.slice A8_0 (((sOf l_).1).length) (c8_0),Zc [m8],Zc [mc11],?_,?_,?_,?_⟩
  rotate_left
  ·exact QA.grp (ls:=[[m8],[mc11]]) hS_
  ·exact Ow.cg (Ow.up f8_0 ((QA.self hS_ (List.Sublist.cons_cons _ (List.Sublist.cons _ List.Sublist.slnil))).1 _ (.head _)))
  ·exact Ow.cgP (Ow.up ho11 ((QA.self hS_ (List.Sublist.cons _ (List.Sublist.cons_cons _ List.Sublist.slnil))).1 _ (.head _)))
  all_goals (first | rfl | (simp [*];done))
theorem JP {P:Prop} (h:P:=by first | exact bd | (have h_:=Qp0 e0 ‹_[k]? =some _›;omega)):P:=h
set_option maxHeartbeats 1000000 in
theorem Qe1 (W:World) {es_:List Int} {l_:List Qe} {br_:Bool} {D_:QO} {gd_:Nat} {m0:Mem} (hm:mle (m0) (wm W)) {g0:Nat} (h0:Ow (.ptr Zd) m0 [.pointer (some ⟨g0,0,none⟩)] (g0,((gd_,D_),br_,l_,es_))) (d1:Int) (h1:inK .i64 d1) (d2:Int) (h2:inK .i64 d2) (e0:okL l_):Qi Tryz.prog 12 [.pointer (some ⟨g0,0,none⟩),.int .i64 d1,.int .i64 d2] W (m0) (fun v m'=>∃ (s0:Value),∃ (p0:Mem),∃ (p1:Mem),v=s0∧QA m' [p0,p1]∧Ow (.sl Ql) p0 [s0] (Xf l_ d1 d2)∧Ow (.ptr Zd) p1 [.pointer (some ⟨g0,0,none⟩)] (g0,((gd_,D_),br_,l_,es_))):=by
 have hll:=Qar e0;have hld:(l_.drop (d1 - 1).toNat).length=l_.length - (d1 - 1).toNat:=List.length_drop
 have h1':=h1;simp only [inK] at h1'
 have h2':=h2;simp only [inK] at h2'
 refine Qi.ofB (n:=46) hm Tryz.func12 rfl rfl rfl ?_
 refine VC.rs (VO.as (VO.k4 0 1 2 6 (VC.seq (VC.rs (VO.mv (VO.z (.lss rfl rfl) (VO.mv ?_)))))))
 refine VO.dec (t:=12) rfl (fun hc1=>?_) (fun hc1=>?_)
 · refine VO.gN (VO.gN (VO.gN (VO.gN (VO.z (.pT rfl rfl) (VO.mv (VO.gN (VO.gN (VO.z (.pT rfl rfl) (VO.k5 0 1 2 6 21 (VC.condT rfl (VC.rs ?_)))))))))))
   refine VO.as (VO.p2 0 1 (VO.k5 0 1 2 6 21 (VC.ret (QZ ?_))))
   refine Yd 6 [1] fun hS_=>?_
   dsimp only [QE]
   have he0:(Xf l_ d1 d2:Ty.Den (.sl Ql))=[]:=by first | rfl | (first | exact Z1 Qn | exact Qab Qn ho Qn | exact Qac Qn ho Qn Qn)
   refine ⟨.slice none (0) (0),Zc [],Zc [m0],?_,?_,?_,?_⟩
   rotate_left
   · exact QA.grp (ls:=[[],[m0]]) hS_
   · rw [he0];exact (Ow.nil _ _)
   · exact Ow.cgP (Ow.up h0 ((QA.self hS_ (List.Sublist.cons_cons _ List.Sublist.slnil)).1 _ (.head _))) (by first | rfl | (first | exact Z1 Qn | exact Qab Qn ho Qn | exact Qac Qn ho Qn Qn))
   all_goals (first | rfl | (simp [*];done))
 refine VO.w (.mv rfl) (VO.w (.mv rfl) ?_)
 refine VO.gcall 1 rfl ⟨_,rfl,rfl⟩ QfU rfl rfl (fun W hW=>Qc1 W (hW.t 1) h0) (fun v2 m2 hv2=>?_)
 try dsimp only at hv2
 obtain ⟨rfl,w2_0⟩:=hv2
 refine VO.w (.gtr rfl rfl) (VO.z (.pF rfl rfl) (VO.mv ?_))
 refine VO.dec (t:=18) rfl (fun hc3=>?_) (fun hc3=>?_)
 · refine VO.gN (VO.gN (VO.z (.pT rfl rfl) (VO.k5 0 1 2 6 21 (VC.condT rfl (VC.rs (VO.as (VO.p2 1 0 (VO.k5 0 1 2 6 21 (VC.ret (QZ ?_))))))))))
   refine Yd 6 [1] fun hS_=>?_
   dsimp only [QE]
   have he0:(Xf l_ d1 d2:Ty.Den (.sl Ql))=[]:=by first | rfl | (first | exact Z1 Qn | exact Qab Qn ho Qn | exact Qac Qn ho Qn Qn)
   refine ⟨.slice none (0) (0),Zc [],Zc [m2],?_,?_,?_,?_⟩
   rotate_left
   · exact QA.grp (ls:=[[],[m2]]) hS_
   · rw [he0];exact (Ow.nil _ _)
   · exact Ow.cgP (Ow.up w2_0 ((QA.self hS_ (List.Sublist.cons_cons _ List.Sublist.slnil)).1 _ (.head _))) (by first | rfl | (first | exact Z1 Qn | exact Qab Qn ho Qn | exact Qac Qn ho Qn Qn))
   all_goals (first | rfl | (simp [*];done))
 refine VO.w (.mv rfl) (VO.w (.lss rfl rfl) (VO.z (.pF rfl rfl) (VO.k5 0 1 2 6 21 ?_)))
 refine VC.cond rfl (fun hc4=>?_) (fun hc4=>?_)
 · refine VC.rs (VO.as (VO.p2 1 0 (VO.k5 0 1 2 6 21 (VC.ret (QZ ?_)))))
   refine Yd 6 [1] fun hS_=>?_
   dsimp only [QE]
   have he0:(Xf l_ d1 d2:Ty.Den (.sl Ql))=[]:=by first | rfl | (first | exact Z1 Qn | exact Qab Qn ho Qn | exact Qac Qn ho Qn Qn)
   refine ⟨.slice none (0) (0),Zc [],Zc [m2],?_,?_,?_,?_⟩
   rotate_left
   · exact QA.grp (ls:=[[],[m2]]) hS_
   · rw [he0];exact (Ow.nil _ _)
   · exact Ow.cgP (Ow.up w2_0 ((QA.self hS_ (List.Sublist.cons_cons _ List.Sublist.slnil)).1 _ (.head _))) (by first | rfl | (first | exact Z1 Qn | exact Qab Qn ho Qn | exact Qac Qn ho Qn Qn))
   all_goals (first | rfl | (simp [*];done))
 refine VC.skip (Qm (VC.rs (VO.as (VO.p2 1 0 (VO.k6 0 1 2 6 7 21 (VC.seq (VC.rs (VO.mv (VO.z (.nilp rfl) (VO.z (.fa rfl XX rfl) ?_))))))))))
 obtain ⟨q5_E,q5_A2,q5_c2,q5_A3,q5_c3,q5_n0,q5_n2,q5_n3,_,q5_S,q5_0,q5_2,q5_3⟩:=Jf (x0:=(gd_,D_)) (x1:=br_) (x2:=l_) (x3:=es_) w2_0
 dsimp only at q5_0
 have q5_r2:=q5_2.rm
 have q5_r3:=q5_3.rm
 refine VO.inv _ (fun _ h=>h.parts (i:=1) rfl q5_S [109,106,107,108]) ?_
 refine VO.z (.ld1 109 rfl Qbr rfl (Qa rfl rfl)) (VO.mv ?_)
 refine VO.z (.sub rfl rfl rfl ⟨by exact JP,by exact JP⟩) ?_
 obtain ⟨A10,hA10,ho10⟩:=q5_2.drop' 3 ((d1 - 1).toNat) rfl JP
 refine VO.z (.slLI ((d1 - 1).toNat) A10 rfl rfl Jx JP hA10 JP) ?_
 refine VO.z (.lenS rfl Jx) (VO.mv (VO.k9 0 1 2 6 7 21 28 29 30 (VC.block ?_)))
 refine VC.inv ((111,Qx)::_) (fun _ h=>h.nilc 111) ?_
 refine VC.loop (G:=Nat × (List Qe) × (Option Addr) × Nat × Mem) (fun g=>[(7,.slice (g.2.2.1) ((g.2.1).length) ((g.2.2.2.1))),(30,.int .i64 ((((g.1):Nat):Int))),(0,.pointer (some ⟨g0,0,none⟩)),(1,.int .i64 (d1)),(2,.int .i64 (d2)),(21,.bool (decide (d2 < 1))),(28,.slice A10 (l_.length - ((d1 - 1).toNat)) (q5_c2 - ((d1 - 1).toNat))),(29,.int .i64 (((l_.length - ((d1 - 1).toNat):Nat):Int)))]) (fun g=>[(111,(g.2.2.2.2)),(109,QM g0 (.cells #[.pointer (some ⟨gd_,0,none⟩),.bool br_,.slice q5_A2 (l_.length) (q5_c2),.slice q5_A3 (es_.length) (q5_c3)] q5_E (0,0))),(106,q5_n0),(107,q5_n2),(108,q5_n3),(0,J4 (wm W) (m0))]) (fun g=>(((g.1):Int)≤d2∧(g.1)≤(l_.drop (d1 - 1).toNat).length)∧((g.2.1)=(l_.drop (d1 - 1).toNat).take (g.1))∧(Ow (.sl Ql) (g.2.2.2.2) [.slice (g.2.2.1) (g.2.1).length (g.2.2.2.1)] (g.2.1))) (fun g=>(l_.drop (d1 - 1).toNat).length - (g.1)) (0,[],none,0,Qx) (⟨by (dsimp only;omega),by rfl,(Ow.nil Ql Qx)⟩) ⟨esn,fun _ h=>h.sub [111,109,106,107,108,0]⟩ ?_
 rintro ⟨k,out,out_A,out_c,out_m⟩ ⟨hk,ho,h_out⟩
 replace hk:(k:Int)≤d2∧k≤(l_.drop (d1 - 1).toNat).length:=hk
 replace ho:out=(l_.drop (d1 - 1).toNat).take k:=ho
 replace h_out:Ow (.sl Ql) out_m [.slice out_A out.length out_c] out:=h_out
 show VC _ _ _ _ _ [(7,.slice out_A (out.length) (out_c)),(30,.int .i64 (((k:Nat):Int))),(0,.pointer (some ⟨g0,0,none⟩)),(1,.int .i64 (d1)),(2,.int .i64 (d2)),(21,.bool (decide (d2 < 1))),(28,.slice A10 (l_.length - ((d1 - 1).toNat)) (q5_c2 - ((d1 - 1).toNat))),(29,.int .i64 (((l_.length - ((d1 - 1).toNat):Nat):Int)))] [(111,out_m),(109,QM g0 (.cells #[.pointer (some ⟨gd_,0,none⟩),.bool br_,.slice q5_A2 (l_.length) (q5_c2),.slice q5_A3 (es_.length) (q5_c3)] q5_E (0,0))),(106,q5_n0),(107,q5_n2),(108,q5_n3),(0,J4 (wm W) (m0))]
 have l_out:out.length≤out_c:=by obtain ⟨_,_,he,hl,_⟩:=h_out.slice;simp only [Value.slice.injEq] at he;omega
 have k_out:out_c≤9223372036854775807:=by obtain ⟨_,_,he,_,hl⟩:=h_out.slice;simp only [Value.slice.injEq,maxLen] at he hl;omega
 have hlo:out.length=k:=by rw [ho,List.length_take];omega
 refine VC.rs (VO.z (.lss rfl rfl) (VO.k9 0 1 2 7 21 28 29 30 31 (VC.seq ?_)))
 refine VC.cond rfl (fun hc12=>?_) (fun hc12=>?_)
 refine VC.skip (Qm (VC.seq (VC.block (VC.rs ?_))))
 obtain ⟨x13,hx13⟩:∃ z_,(l_.drop ((d1 - 1).toNat))[k]? =some z_:=⟨_,List.getElem?_eq_getElem JP⟩
 obtain ⟨gg13,oo13,ec13,ea13,hce13,hre13⟩:=(Ow.rd ho10 (Qc _)).elem hx13
 cases ea13
 obtain ⟨q13_A2,q13_c2,rfl,q13_0,q13_1,q13_2⟩:=Q4 (x0:=x13.1) (x1:=x13.2.1) (x2:=x13.2.2) hre13
 simp only [inK] at q13_0 q13_1
 have q13_r2:=Rd.room q13_2
 refine VO.z (.ixI k rfl rfl Jx rfl JP) ?_
 refine VO.z (.ldA 107 rfl Yv rfl hce13) ?_
 refine VO.alloc 115 rfl XA (fun g14=>?_)
 refine VO.store (k:=3) (c':=[.int .i64 (x13.1),.int .i64 (x13.2.1),.slice q13_A2 (x13.2.2.length) (q13_c2)]) 115 rfl rfl (.inl Yv) rfl rfl rfl rfl rfl ?_
 refine VO.p7 115 111 109 106 107 108 0 (VO.k10 0 1 2 7 9 21 28 29 30 31 (VC.seq (VC.rs (VO.mv (VO.z (.lenS rfl Jx) (VO.mv (VO.z (.eql rfl rfl) (VO.k11 0 1 2 7 9 21 28 29 30 31 37 ?_))))))))
 refine VC.cond rfl (fun hc16=>?_) (fun hc16=>?_)
 · refine VC.rs (VO.mv (VO.as (VO.k12 0 1 2 6 7 9 21 28 29 30 31 37 (VC.ret (QZ (JO (QZ (QZ (JO (QZ ?_))))))))))
   refine Yd 6 [111,109,106,107,108] fun hS_=>?_
   dsimp only [QE]
   have hm0_:(((gd_,D_),br_,l_,es_):Qb3)=((gd_,D_),br_,l_,es_):=by first | rfl | (first | exact Z1 Qn | exact Qab Qn ho Qn | exact Qac Qn ho Qn Qn)
   refine ⟨.slice out_A (out.length) (out_c),Zc [out_m],Zc [QM g0 (.cells #[.pointer (some ⟨gd_,0,none⟩),.bool br_,.slice q5_A2 (l_.length) (q5_c2),.slice q5_A3 (es_.length) (q5_c3)] q5_E (0,0)),q5_n0,q5_n2,q5_n3],?_,?_,?_,?_⟩
   rotate_left
   · exact QA.grp (ls:=[[out_m],[QM g0 (.cells [Value.pointer (some ⟨gd_,0,none⟩),Value.bool br_,Value.slice q5_A2 (l_.length) (q5_c2),Value.slice q5_A3 (es_.length) (q5_c3)].toArray q5_E (0,0)),q5_n0,q5_n2,q5_n3]]) hS_
   · exact Ow.cg (Ow.up h_out ((QA.self hS_ (List.Sublist.cons_cons _ (List.Sublist.cons _ (List.Sublist.cons _ (List.Sublist.cons _ (List.Sublist.cons _ List.Sublist.slnil)))))).1 _ (.head _))) (by first | rfl | (first | exact Z1 Qn | exact Qab Qn ho Qn | exact Qac Qn ho Qn Qn))
   · rw [hm0_];exact (Js _ _ _ _ (QA.self hS_ (List.Sublist.cons _ (List.Sublist.cons_cons _ (List.Sublist.cons_cons _ (List.Sublist.cons_cons _ (List.Sublist.cons_cons _ List.Sublist.slnil)))))) q5_0 q5_2 q5_3)
   all_goals (first | rfl | (simp [*];done))
 refine VC.skip (Qm ?_)
 refine VC.reg ?_
 refine VO.mv (VO.z (.ldA 115 rfl Yv rfl (Qa rfl rfl)) ?_)
 refine VO.callN 117 rfl Qpt rfl (fun W hW=>Qlh W (Rd.mono hre13 (hW.t 107)) JP) (fun v17 m17 hv17=>?_)
 obtain ⟨s17_0,rfl,f17_0⟩:=hv17
 obtain ⟨q17_0_A2,q17_0_c2,q17_0_n2,rfl,q17_0_S,q17_0_0,q17_0_1,q17_0_2⟩:=ZE (x0:=x13.1) (x1:=x13.2.1) (x2:=x13.2.2) f17_0
 simp only [inK] at q17_0_0 q17_0_1
 have q17_0_r2:=q17_0_2.rm
 refine VO.inv _ (fun _ h=>h.parts (i:=117) rfl q17_0_S [118]) ?_
 refine VO.bsl (cs:=[.int .i64 (x13.1),.int .i64 (x13.2.1),.slice q17_0_A2 (x13.2.2.length) (q17_0_c2)]) 120 rfl rfl Jx XA rfl rfl (fun g19=>?_)
 refine VO.appO (e:=Ql) 111 118 120 rfl rfl rfl Jx XA rfl rfl rfl rfl h_out (show Ow Ql _ _ x13 from (Jt x13.1 x13.2.1 x13.2.2 (QA.one (Qc _)) (by simp only [inK];(exact JP)) (by simp only [inK];(exact JP)) q17_0_2)) Tryz.underlying41 (Qa rfl rfl) (by simp only [maxLen];(exact JP)) JP (by decide) (fun v21 m21 ho21=>?_)
 obtain ⟨A21,c21,rfl,l21,k21⟩:=ho21.slc
 refine VO.as (VO.k11 0 1 2 7 9 21 28 29 30 31 37 (JL (Qm ?_)))
 refine VC.reg ?_
 refine VO.z (.add (c:=((k+1:Nat):Int)) rfl rfl Qn ⟨by exact JP,by exact JP⟩) ?_
 refine VO.mv (VO.p7 111 115 109 106 107 108 0 (VO.k11 0 1 2 7 9 21 28 29 30 31 37 ?_))
 exact Qm ⟨⟨k+1,out++[x13],A21,c21,m21⟩,⟨by (dsimp only;omega),by (rw [ho];exact (QbI ‹(l_.drop (d1 - 1).toNat)[k]? =some _›).symm),ho21⟩,by exact JP,⟨esn,fun _ h=>Inv.sub h [111,109,106,107,108,0]⟩⟩
 · refine VC.exit (Zh (Zh (Zi (Qm (VC.rs (VO.mv (VO.as (VO.p6 111 109 106 107 108 0 (VO.k10 0 1 2 6 7 21 28 29 30 31 (VC.ret ?_))))))))))
   refine Yd 6 [111,109,106,107,108] fun hS_=>?_
   dsimp only [QE]
   have hm0_:(((gd_,D_),br_,l_,es_):Qb3)=((gd_,D_),br_,l_,es_):=by first | rfl | (first | exact Z1 Qn | exact Qab Qn ho Qn | exact Qac Qn ho Qn Qn)
   refine ⟨.slice out_A (out.length) (out_c),Zc [out_m],Zc [QM g0 (.cells #[.pointer (some ⟨gd_,0,none⟩),.bool br_,.slice q5_A2 (l_.length) (q5_c2),.slice q5_A3 (es_.length) (q5_c3)] q5_E (0,0)),q5_n0,q5_n2,q5_n3],?_,?_,?_,?_⟩
   rotate_left
   · exact QA.grp (ls:=[[out_m],[QM g0 (.cells [Value.pointer (some ⟨gd_,0,none⟩),Value.bool br_,Value.slice q5_A2 (l_.length) (q5_c2),Value.slice q5_A3 (es_.length) (q5_c3)].toArray q5_E (0,0)),q5_n0,q5_n2,q5_n3]]) hS_
   · exact Ow.cg (Ow.up h_out ((QA.self hS_ (List.Sublist.cons_cons _ (List.Sublist.cons _ (List.Sublist.cons _ (List.Sublist.cons _ (List.Sublist.cons _ List.Sublist.slnil)))))).1 _ (.head _))) (by first | rfl | (first | exact Z1 Qn | exact Qab Qn ho Qn | exact Qac Qn ho Qn Qn))
   · rw [hm0_];exact (Js _ _ _ _ (QA.self hS_ (List.Sublist.cons _ (List.Sublist.cons_cons _ (List.Sublist.cons_cons _ (List.Sublist.cons_cons _ (List.Sublist.cons_cons _ List.Sublist.slnil)))))) q5_0 q5_2 q5_3)
   all_goals (first | rfl | (simp [*];done))
theorem Zf {P:Prop} (h:P:=by first | (rw [Qln (by assumption)] <;> first | rfl | (simp [*];done) | (have h6_:=Q3 (by assumption);simp [h6_, *];done) | (simp_all;done)) | (rw [app_e2 (by assumption) (by assumption)] <;> first | rfl | (simp [*];done) | (have h6_:=Q3 (by assumption);simp [h6_, *];done) | (simp_all;done)) | (rw [app_e3 (by assumption) (by assumption) (by assumption)] <;> first | rfl | (simp [*];done) | (have h6_:=Q3 (by assumption);simp [h6_, *];done) | (simp_all;done)) | (rw [Qkk (by assumption) (by assumption) (by assumption),Qdr (by assumption)] <;> first | rfl | (simp [*];done) | (have h6_:=Q3 (by assumption);simp [h6_, *];done) | (simp_all;done)) | (rw [Qkk (by assumption) (by assumption) (by assumption),QaG (by first | assumption | (simp [*];done))] <;> first | rfl | (simp [*];done) | (have h6_:=Q3 (by assumption);simp [h6_, *];done) | (simp_all;done)) | (rw [Qkk (by assumption) (by assumption) (by assumption),QaG (by first | assumption | (simp [*];done))];dsimp only;rw [QoV e3 (by assumption)] <;> first | rfl | (simp [*];done))):P:=h
theorem ZQ {P:Prop} (h:P:=by first | exact bd | (have h_:=QqL ‹¬ ¬ (Jd d1).2=0›;have h2_:=QqK ‹¬ ¬ (Jd d1).2=0›;omega) | (have h_:=Qh7 D_ 0 (J8 [] (Jd d1).1).1;omega)):P:=h
theorem Yp {k:IntKind} {x:Int} (h:inK k x:=by simp only [inK];exact ZQ):inK k x:=h
set_option maxHeartbeats 4000000 in
theorem Qfr (W:World) {es_:List Int} {l_:List Qe} {br_:Bool} {D_:QO} {gd_:Nat} {m0:Mem} (hm:mle (m0) (wm W)) {g0:Nat} (h0:Ow (.ptr Zd) m0 [.pointer (some ⟨g0,0,none⟩)] (g0,((gd_,D_),br_,l_,es_))) {v1:List Value} {d1:Qe} (h1:Rd Ql (J4 (wm W) (m0)) v1 d1) (e0:okD D_) (e1:wD D_+3000≤1000000000000) (e2:okL l_) (e3:es_=JK l_):Qi Tryz.prog 16 [.pointer (some ⟨g0,0,none⟩),.agg v1.toArray] W (m0) (fun v m'=>v= .int .i64 ((QK D_ br_ l_ d1).2)∧Ow (.ptr Zd) m' [.pointer (some ⟨g0,0,none⟩)] (g0,((gd_,(QK D_ br_ l_ d1).1.1),(QK D_ br_ l_ d1).1.2.1,(QK D_ br_ l_ d1).1.2.2,JK (QK D_ br_ l_ d1).1.2.2))):=by
 have hll:=Qar e2;have hlf:=QaJ e2;have hel:=Qct l_;rw [← e3] at hel;have hlr:=Y6 e2;have hlw:=Z0 l_;rw [← e3] at hlw
 obtain ⟨p1_A2,p1_c2,rfl,p1_0,p1_1,p1_2⟩:=Q4 (x0:=d1.1) (x1:=d1.2.1) (x2:=d1.2.2) h1
 simp only [inK] at p1_0 p1_1
 have p1_r2:=Rd.room p1_2
 refine Qi.ofB (n:=79) hm Tryz.func16 rfl rfl rfl ?_
 refine VC.rs ?_
 refine VO.box (cs:=[.int .i64 (d1.1),.int .i64 (d1.2.1),.slice p1_A2 (d1.2.2.length) (p1_c2)]) 102 rfl rfl rfl (fun g1=>?_)
 refine VO.as (VO.k4 0 1 3 4 (VC.seq (VC.rs (VO.mv ?_))))
 refine VO.call 1 rfl Qnq rfl rfl (fun W hW=>Qfp W (hW.t 1) h0) (fun v3 m3 hv3=>?_)
 try dsimp only at hv3
 obtain ⟨rfl,w3_0⟩:=hv3
 refine VO.as (VO.k5 0 1 3 4 5 (VC.rs (VO.mv (VO.z (.neq rfl rfl) (VO.p3 1 102 0 (VO.k6 0 1 3 4 5 13 ?_))))))
 refine VC.cond rfl (fun hc4=>?_) (fun hc4=>?_)
 refine VC.rs (VO.mv (VO.as (VO.k6 0 1 3 4 5 13 (VC.ret (QZ ?_)))))
 exact Zs 4 1 rfl w3_0 (by first | rfl | exact Zf) (by first | rfl | exact Zf)
 refine VC.skip (Qm (VC.rs (VO.z (.ldA 102 rfl Yv rfl (Qa rfl rfl)) ?_)))
 refine VO.callN 105 rfl fnOk68 rfl (fun W hW=>Qkb W (Rd.mono h1 (hW.t 0))) (fun v5 m5 hv5=>?_)
 obtain ⟨s5_0,rfl,f5_0⟩:=hv5
 have hfa6:=QaY d1
 obtain ⟨A5_0,c5_0,eq5_0,l5_0,k5_0⟩:=f5_0.slc
 subst eq5_0
 refine VO.mv (VO.z (.ext rfl rfl) (VO.z (.ext rfl rfl) (VO.as (VO.as (VO.k8 0 1 3 4 5 6 7 13 (VC.seq (VC.rs (VO.mv (VO.z (.neq rfl rfl) (VO.k9 0 1 3 4 5 6 7 13 21 ?_))))))))))
 refine VC.cond rfl (fun hc7=>?_) (fun hc7=>?_)
 refine VC.rs (VO.mv (VO.as (VO.p4 105 1 102 0 (VO.k9 0 1 3 4 5 6 7 13 21 (VC.ret (QZ ?_))))))
 exact Zs 4 1 rfl w3_0 (by first | rfl | exact Zf) (by first | rfl | exact Zf)
 refine VC.skip (Qm ?_)
 refine VC.seqJ (G:=Mem) (fun x_m=>[(0,.pointer (some ⟨g0,0,none⟩)),(3,.pointer (some ⟨g1,0,none⟩)),(4,.int .i64 (0)),(6,.slice A5_0 (((Jd d1).1).length) (c5_0)),(7,.int .i64 ((Jd d1).2))]) (fun x_m=>[(1,x_m),(105,m5),(102,QM g1 (.cells #[.int .i64 (d1.1),.int .i64 (d1.2.1),.slice p1_A2 (d1.2.2.length) (p1_c2)] 37 (0,0))),(0,J4 (wm W) (m0))]) (fun x_m=>(¬ ¬ (Qg (Qv 0 l_) ((l_.length:Nat):Int) ([d1])).1=0)∧(Ow (.ptr Zd) x_m [.pointer (some ⟨g0,0,none⟩)] (g0,((gd_,D_),(decide (¬ JI D_ br_=0)),l_,es_)))) ?_ ?_
 rintro x_m ⟨hj,h_x⟩
 refine VC.rs (VO.mv ?_)
 refine VO.callN 115 rfl fnOk70 rfl (fun W hW=>Ql0 W (Rd.nil _ _ none 0 (Nat.zero_le _)) (Ow.rd f5_0 (hW.t 105)) ZQ) (fun v15 m15 hv15=>?_)
 obtain ⟨s15_0,rfl,f15_0⟩:=hv15
 have hfa16:=Qdg [] ((Jd d1).1)
 have hfa17:=QdR [] ((Jd d1).1)
 obtain ⟨A15_0,c15_0,eq15_0,l15_0,k15_0⟩:=f15_0.slc
 subst eq15_0
 refine VO.mv (VO.z (.ext rfl rfl) (VO.z (.ext rfl rfl) (VO.as (VO.as (VO.k6 0 3 4 6 7 8 (VC.seq (VC.rs (VO.mv (VO.z (.neq rfl rfl) (VO.k7 0 3 4 6 7 8 38 ?_))))))))))
 refine VC.cond rfl (fun hc18=>?_) (fun hc18=>?_)
 exact absurd (by rw [Qlk Qo]) hc18
 refine VC.skip (Qm (VC.seq (VC.rs (VO.mv (VO.mv (VO.z (.nilp rfl) (VO.z (.fa rfl XX rfl) ?_)))))))
 obtain ⟨q19_E,q19_A2,q19_c2,q19_A3,q19_c3,q19_n0,q19_n2,q19_n3,_,q19_S,q19_0,q19_2,q19_3⟩:=Jf (x0:=(gd_,D_)) (x1:=(decide (¬ JI D_ br_=0))) (x2:=l_) (x3:=es_) h_x
 dsimp only at q19_0
 have q19_r2:=q19_2.rm
 have q19_r3:=q19_3.rm
 refine VO.inv _ (fun _ h=>h.parts (i:=1) rfl q19_S [123,120,121,122]) ?_
 refine VO.z (.ld1 123 rfl Qkz rfl (Qa rfl rfl)) (VO.mv ?_)
 refine VO.call 120 rfl fnOk72 rfl rfl (fun W hW=>QnL W (hW.t 120) q19_0 0 Yp (Ow.rd f15_0 (hW.o 120 115)) Qo ZQ) (fun v24 m24 hv24=>?_)
 obtain ⟨rfl,w24_0⟩:=hv24
 have hfa25:=(QeZ (f:=0) (b:=((J8 [] ((Jd d1).1)).1)) (show okD D_ by assumption))
 have hfa26:=(Qjl (f:=0) (b:=((J8 [] ((Jd d1).1)).1)) (show okD D_ by assumption))
 refine VO.clsP 128 [123,120,121,122] rfl (fun hg28=>(Js _ _ _ _ hg28 w24_0 q19_2 q19_3)) (fun mc28 ho28=>?_)
 refine VO.call 128 rfl Qnp rfl rfl (fun W hW=>Qfq W (hW.t 128) ho28 ((ZC D_ 0 ((J8 [] ((Jd d1).1)).1)).2) Yp) (fun v27 m27 hv27=>?_)
 try dsimp only at hv27
 obtain ⟨rfl,w27_0⟩:=hv27
 refine VO.as (VO.p5 128 115 105 102 0 (VO.k8 0 3 4 6 7 8 9 38 (VC.rs (VO.mv (VO.z (.neq rfl rfl) (VO.k9 0 3 4 6 7 8 9 38 49 ?_))))))
 refine VC.cond rfl (fun hc29=>?_) (fun hc29=>?_)
 refine VC.rs (VO.mv (VO.as (VO.k9 0 3 4 6 7 8 9 38 49 (VC.ret (QZ ?_)))))
 exact Zs 4 128 rfl w27_0 (by first | rfl | exact Zf) (by first | rfl | exact Zf)
 refine VC.skip (Qm (VC.seq ?_))
 obtain ⟨q30_E,q30_A2,q30_c2,q30_A3,q30_c3,q30_n0,q30_n2,q30_n3,_,q30_S,q30_0,q30_2,q30_3⟩:=Jf (x0:=(gd_,((ZC D_ 0 ((J8 [] ((Jd d1).1)).1)).1))) (x1:=(decide (¬ JI D_ br_=0)) || decide (¬ ((ZC D_ 0 ((J8 [] ((Jd d1).1)).1)).2)=0)) (x2:=l_) (x3:=es_) w27_0
 dsimp only at q30_0
 have q30_r2:=q30_2.rm
 have q30_r3:=q30_3.rm
 refine VC.inv _ (fun _ h=>h.parts (i:=128) rfl q30_S [134,131,132,133]) ?_
 refine VC.regD [(134,QM g0 (.cells #[.pointer (some ⟨gd_,0,none⟩),.bool ((decide (¬ JI D_ br_=0)) || decide (¬ ((ZC D_ 0 ((J8 [] ((Jd d1).1)).1)).2)=0)),.slice q30_A2 (l_.length) (q30_c2),.slice q30_A3 (es_.length) (q30_c3)] q30_E (0,0))),(131,q30_n0),(133,q30_n3),(115,m15),(105,m5),(102,QM g1 (.cells #[.int .i64 (d1.1),.int .i64 (d1.2.1),.slice p1_A2 (d1.2.2.length) (p1_c2)] 37 (0,0))),(0,J4 (wm W) (m0))] 9 [(0,true),(1,true),(2,true),(3,true),(4,true),(5,true),(6,false),(7,false),(8,false)] follows (by kernel_rfl) (fun _ h=>h.sub [134,131,133,115,105,102,0]) ?_
 refine VD.z rfl (.mv rfl) (VD.z rfl (.mv rfl) (VD.z rfl (.nilp rfl) (VD.z rfl (.fa rfl XX rfl) (VD.z rfl (.ld1 134 rfl Qbr rfl (Qa rfl rfl)) (VD.z rfl (.ldA 102 rfl Yv rfl (Qa rfl rfl)) ?_)))))
 refine VD.callN 135 rfl rfl (.inl rfl) Qpt rfl (fun _ h=>Inv.sbK [134,131,133,115,105,102,0] h) (fun W hW=>Qlh W (Rd.mono h1 (hW.t 0)) ZQ) (fun v35 m35 hv35=>?_)
 obtain ⟨s35_0,rfl,f35_0⟩:=hv35
 obtain ⟨q35_0_A2,q35_0_c2,q35_0_n2,rfl,q35_0_S,q35_0_0,q35_0_1,q35_0_2⟩:=ZE (x0:=d1.1) (x1:=d1.2.1) (x2:=d1.2.2) f35_0
 simp only [inK] at q35_0_0 q35_0_1
 have q35_0_r2:=q35_0_2.rm
 refine VD.inv _ (fun _ h=>h.parts (i:=135) rfl q35_0_S [136]) ?_
 refine VD.bsl (cs:=[.int .i64 (d1.1),.int .i64 (d1.2.1),.slice q35_0_A2 (d1.2.2.length) (q35_0_c2)]) 138 rfl rfl rfl Jx XA rfl rfl (fun _ h=>Inv.sbK [134,131,133,115,105,102,0] h) (fun g37=>?_)
 refine VD.appO (e:=Ql) 132 136 138 rfl rfl rfl rfl Jx XA rfl rfl rfl rfl q30_2 (show Ow Ql _ _ d1 from (Jt d1.1 d1.2.1 d1.2.2 (QA.one (Qc _)) Yp Yp q35_0_2)) Tryz.underlying41 (Qa rfl rfl) (by simp only [maxLen];(exact ZQ)) ZQ (by decide) (fun _ _ h=>Inv.sbK [134,131,133,115,105,102,0] h) (fun v39 m39 ho39=>?_)
 obtain ⟨A39,c39,rfl,l39,k39⟩:=ho39.slc
 refine VD.nil rfl ?_ rfl
 refine VO.z (.nilp rfl) (VO.z (.fa rfl XX rfl) ?_)
 refine VO.store (k:=1) (c':=[.pointer (some ⟨gd_,0,none⟩),.bool ((decide (¬ JI D_ br_=0)) || decide (¬ ((ZC D_ 0 ((J8 [] ((Jd d1).1)).1)).2)=0)),.slice A39 ((l_++[d1]).length) (c39),.slice q30_A3 (es_.length) (q30_c3)]) 134 rfl rfl (.inr ⟨Qbr,rfl⟩) rfl rfl rfl rfl rfl ?_
 refine VO.clsP 140 [134,131,132,133] rfl (fun hg40=>(Js _ _ _ _ hg40 q30_0 ho39 q30_3)) (fun mc40 ho40=>?_)
 refine VO.k9 0 3 4 6 7 8 9 38 49 (Qm (VC.seq ?_))
 obtain ⟨q41_E,q41_A2,q41_c2,q41_A3,q41_c3,q41_n0,q41_n2,q41_n3,_,q41_S,q41_0,q41_2,q41_3⟩:=Jf (x0:=(gd_,((ZC D_ 0 ((J8 [] ((Jd d1).1)).1)).1))) (x1:=(decide (¬ JI D_ br_=0)) || decide (¬ ((ZC D_ 0 ((J8 [] ((Jd d1).1)).1)).2)=0)) (x2:=l_++[d1]) (x3:=es_) ho40
 dsimp only at q41_0
 have q41_r2:=q41_2.rm
 have q41_r3:=q41_3.rm
 refine VC.inv _ (fun _ h=>h.parts (i:=140) rfl q41_S [145,142,143,144]) ?_
 refine VC.regD [(145,QM g0 (.cells #[.pointer (some ⟨gd_,0,none⟩),.bool ((decide (¬ JI D_ br_=0)) || decide (¬ ((ZC D_ 0 ((J8 [] ((Jd d1).1)).1)).2)=0)),.slice q41_A2 ((l_++[d1]).length) (q41_c2),.slice q41_A3 (es_.length) (q41_c3)] q41_E (0,0))),(142,q41_n0),(143,q41_n2),(138,QM g37 (.cells #[.int .i64 (d1.1),.int .i64 (d1.2.1),.slice q35_0_A2 (d1.2.2.length) (q35_0_c2)] 37 (0,0))),(115,m15),(105,m5),(102,QM g1 (.cells #[.int .i64 (d1.1),.int .i64 (d1.2.1),.slice p1_A2 (d1.2.2.length) (p1_c2)] 37 (0,0))),(0,J4 (wm W) (m0))] 15 [(0,true),(1,true),(2,true),(3,true),(4,true),(5,true),(6,true),(7,true),(8,true),(10,true),(11,true),(9,false),(12,true),(13,false),(14,false)] follows (by kernel_rfl) (fun _ h=>h.sub [145,142,143,138,115,105,102,0]) ?_
 refine VD.z rfl (.mv rfl) (VD.z rfl (.mv rfl) (VD.z rfl (.nilp rfl) (VD.z rfl (.fa rfl XX rfl) (VD.z rfl (.ld1 145 rfl QlC rfl (Qa rfl rfl)) (VD.z rfl (.mv rfl) (VD.z rfl (.nilp rfl) (VD.z rfl (.fa rfl XX rfl) (VD.z rfl (.ld1 145 rfl QlC rfl (Qa rfl rfl)) (VD.z rfl (.mv rfl) (VD.z rfl (.lenS rfl Ji) ?_))))))))))
 refine VD.callN 146 rfl rfl (.inl rfl) QiX rfl (fun _ h=>Inv.sbK [145,142,143,138,115,105,102,0] h) (fun W hW=>Qbp W (Ow.rd q41_3 (hW.t 144))) (fun v46 m46 hv46=>?_)
 subst hv46
 refine VD.z rfl (.add rfl rfl rfl ⟨by exact ZQ,by exact ZQ⟩) ?_
 refine VD.bsl (cs:=[.int .i64 ((Qa4 es_)+((((J8 [] ((Jd d1).1)).1).length:Nat):Int))]) 148 rfl rfl rfl Qd8 tz3 rfl rfl (fun _ h=>Inv.sbK [145,142,143,138,115,105,102,0] h) (fun g47=>?_)
 obtain ⟨mo49,cs49,hM49,hA49,hC49⟩:=(Ow.ownl q41_3 rfl Qx)
 refine VD.app 144 rfl rfl rfl rfl Qd8 tz3 rfl rfl hM49 hA49 (.row 148 _ _ _ 1 1 _ _ Tryz.underlying82 rfl (Qa rfl rfl)) (by simp [Value.oneCell']) (by simp only [maxLen];(exact ZQ)) ZQ (by decide) (fun _ _ h=>Inv.sbK [145,142,143,138,115,105,102,0] h) (fun v49 m49 hN49=>?_)
 have ho49:QH (.int .i64) m49 Qx v49 (es_++[((Qa4 es_)+((((J8 [] ((Jd d1).1)).1).length:Nat):Int))]):=QH.one hC49 hN49 (show Rd (.int .i64) _ [_] _ from ⟨rfl,by simp only [inK];(exact ZQ)⟩)
 obtain ⟨A49,c49,rfl,l49,k49⟩:=ho49.slc
 refine VD.nil rfl ?_ rfl
 refine VO.z (.nilp rfl) (VO.z (.fa rfl XX rfl) ?_)
 refine VO.store (k:=1) (c':=[.pointer (some ⟨gd_,0,none⟩),.bool ((decide (¬ JI D_ br_=0)) || decide (¬ ((ZC D_ 0 ((J8 [] ((Jd d1).1)).1)).2)=0)),.slice q41_A2 ((l_++[d1]).length) (q41_c2),.slice A49 ((es_++[((Qa4 es_)+((((J8 [] ((Jd d1).1)).1).length:Nat):Int))]).length) (c49)]) 145 rfl rfl (.inr ⟨QlC,rfl⟩) rfl rfl rfl rfl rfl ?_
 refine VO.clsP 150 [145,142,143,144] rfl (fun hg50=>(Js _ _ _ _ hg50 q41_0 q41_2 (QH.ow ho49 rfl))) (fun mc50 ho50=>?_)
 refine VO.p5 150 115 105 102 0 (VO.k9 0 3 4 6 7 8 9 38 49 (Qm (VC.rs (VO.as (VO.k9 0 3 4 6 7 8 9 38 49 (VC.ret ?_))))))
 exact Zs 4 150 rfl ho50 (by first | rfl | exact Zf) (by first | rfl | exact Zf)
 intro hJ3
 refine VC.seq ?_
 refine VC.regE [(105,m5),(102,QM g1 (.cells #[.int .i64 (d1.1),.int .i64 (d1.2.1),.slice p1_A2 (d1.2.2.length) (p1_c2)] 37 (0,0))),(0,J4 (wm W) (m0))] 6 follows (by kernel_rfl) (fun _ h=>h.sub [105,102,0]) ?_
 refine VE.y 0 rfl rfl (.inl rfl) (by kernel_rfl) (.mv rfl) ?_
 refine VE.y 2 rfl rfl (.inl rfl) (by kernel_rfl) (.mv rfl) ?_
 refine VE.y 4 rfl rfl (.inl rfl) (by kernel_rfl) (.ldA 102 rfl Yv rfl (Qa rfl rfl)) ?_
 refine VE.tree [1,5] (by kernel_rfl) ⟨?_,?_,trivial⟩
 refine VI.call 1 rfl rfl (.inl rfl) Qk7 rfl rfl (fun _ _ h=>Inv.sbK [105,102,0] h) (fun W hW=>Qdn W (hW.t 1) w3_0) (fun v51 m51 hv51=>?_)
 try dsimp only at hv51
 obtain ⟨rfl,w51_0⟩:=hv51
 refine VE.tree [3,5] (by kernel_rfl) ⟨?_,?_,trivial⟩
 refine VI.call 1 rfl rfl (.inl rfl) QfU rfl rfl (fun _ _ h=>Inv.sbK [105,102,0] h) (fun W hW=>Qc1 W (hW.t 1) w51_0) (fun v52 m52 hv52=>?_)
 try dsimp only at hv52
 obtain ⟨rfl,w52_0⟩:=hv52
 refine VE.tree [5] (by kernel_rfl) ⟨?_,trivial⟩
 refine VI.bsl (cs:=[.int .i64 (d1.1),.int .i64 (d1.2.1),.slice p1_A2 (d1.2.2.length) (p1_c2)]) 154 rfl rfl rfl Jx XA rfl rfl (fun _ h=>Inv.sbK [105,102,0] h) (fun g53=>?_)
 refine VE.nil (by kernel_rfl) rfl ?_ rfl
 have ho56:QH Ql (QM g53 (.cells [Value.int .i64 (d1.1),Value.int .i64 (d1.2.1),Value.slice p1_A2 (d1.2.2.length) (p1_c2)].toArray 37 (0,0))) (J4 (wm W) (m0)) (Value.slice (some ⟨g53,0,none⟩) (1) (1)) [d1]:=QH.lit 1 (Je.cons (c1:=[Value.int .i64 (d1.1),Value.int .i64 (d1.2.1),Value.slice p1_A2 (d1.2.2.length) (p1_c2)]) (Rd.mono h1 (Qc _)) Je.nil) rfl rfl
 refine VO.callN 155 rfl QiW rfl (fun W hW=>QbA W (Qv 0 l_) Yp ((l_.length:Nat):Int) Yp (QH.rd ho56 (hW.t 154) (hW.t 0))) (fun v55 m55 hv55=>?_)
 obtain ⟨s55_0,rfl,f55_0⟩:=hv55
 obtain ⟨rfl,q55_0_0,q55_0_1⟩:=Yf (x0:=(Qg (Qv 0 l_) ((l_.length:Nat):Int) ([d1])).1) (x1:=(Qg (Qv 0 l_) ((l_.length:Nat):Int) ([d1])).2) (f55_0.rd (Qc _))
 simp only [inK] at q55_0_0 q55_0_1
 refine VO.z (.fld1 rfl Qa3 rfl Qhf rfl) ?_
 refine VO.z (.neq rfl rfl) (VO.p4 1 105 102 0 (VO.k10 0 1 3 4 5 6 7 13 21 31 (Qm ?_)))
 refine VC.cond rfl (fun hc57=>?_) (fun hc57=>?_)
 refine VC.rs (VO.as (VO.k10 0 1 3 4 5 6 7 13 21 31 (VC.ret (QZ ?_))))
 exact Zs 4 1 rfl w52_0 (by first | rfl | exact Zf) (by first | rfl | exact Zf)
 refine VC.skip ?_
 exact Qm (hJ3 m52 _ _ ⟨by assumption,w52_0⟩ ⟨esn,fun _ h=>Inv.sub h [1,105,102,0]⟩)
 refine VI.bsl (cs:=[.int .i64 (d1.1),.int .i64 (d1.2.1),.slice p1_A2 (d1.2.2.length) (p1_c2)]) 159 rfl rfl rfl Jx XA rfl rfl (fun _ h=>Inv.sbK [105,102,0] h) (fun g58=>?_)
 refine VE.tree [3] (by kernel_rfl) ⟨?_,trivial⟩
 refine VI.call 1 rfl rfl (.inl rfl) QfU rfl rfl (fun _ _ h=>Inv.sbK [105,102,0] h) (fun W hW=>Qc1 W (hW.t 1) w51_0) (fun v60 m60 hv60=>?_)
 try dsimp only at hv60
 obtain ⟨rfl,w60_0⟩:=hv60
 refine VE.nil (by kernel_rfl) rfl ?_ rfl
 have ho62:QH Ql (QM g58 (.cells [Value.int .i64 (d1.1),Value.int .i64 (d1.2.1),Value.slice p1_A2 (d1.2.2.length) (p1_c2)].toArray 37 (0,0))) (J4 (wm W) (m0)) (Value.slice (some ⟨g58,0,none⟩) (1) (1)) [d1]:=QH.lit 1 (Je.cons (c1:=[Value.int .i64 (d1.1),Value.int .i64 (d1.2.1),Value.slice p1_A2 (d1.2.2.length) (p1_c2)]) (Rd.mono h1 (Qc _)) Je.nil) rfl rfl
 refine VO.callN 161 rfl QiW rfl (fun W hW=>QbA W (Qv 0 l_) Yp ((l_.length:Nat):Int) Yp (QH.rd ho62 (hW.t 159) (hW.t 0))) (fun v61 m61 hv61=>?_)
 obtain ⟨s61_0,rfl,f61_0⟩:=hv61
 obtain ⟨rfl,q61_0_0,q61_0_1⟩:=Yf (x0:=(Qg (Qv 0 l_) ((l_.length:Nat):Int) ([d1])).1) (x1:=(Qg (Qv 0 l_) ((l_.length:Nat):Int) ([d1])).2) (f61_0.rd (Qc _))
 simp only [inK] at q61_0_0 q61_0_1
 refine VO.z (.fld1 rfl Qa3 rfl Qhf rfl) ?_
 refine VO.z (.neq rfl rfl) (VO.p4 1 105 102 0 (VO.k10 0 1 3 4 5 6 7 13 21 31 (Qm ?_)))
 refine VC.cond rfl (fun hc63=>?_) (fun hc63=>?_)
 refine VC.rs (VO.as (VO.k10 0 1 3 4 5 6 7 13 21 31 (VC.ret (QZ ?_))))
 exact Zs 4 1 rfl w60_0 (by first | rfl | exact Zf) (by first | rfl | exact Zf)
 refine VC.skip ?_
 exact Qm (hJ3 m60 _ _ ⟨by assumption,w60_0⟩ ⟨esn,fun _ h=>Inv.sub h [1,105,102,0]⟩)
 refine VI.bsl (cs:=[.int .i64 (d1.1),.int .i64 (d1.2.1),.slice p1_A2 (d1.2.2.length) (p1_c2)]) 165 rfl rfl rfl Jx XA rfl rfl (fun _ h=>Inv.sbK [105,102,0] h) (fun g64=>?_)
 refine VE.tree [1] (by kernel_rfl) ⟨?_,trivial⟩
 refine VI.call 1 rfl rfl (.inl rfl) Qk7 rfl rfl (fun _ _ h=>Inv.sbK [105,102,0] h) (fun W hW=>Qdn W (hW.t 1) w3_0) (fun v66 m66 hv66=>?_)
 try dsimp only at hv66
 obtain ⟨rfl,w66_0⟩:=hv66
 refine VE.tree [3] (by kernel_rfl) ⟨?_,trivial⟩
 refine VI.call 1 rfl rfl (.inl rfl) QfU rfl rfl (fun _ _ h=>Inv.sbK [105,102,0] h) (fun W hW=>Qc1 W (hW.t 1) w66_0) (fun v67 m67 hv67=>?_)
 try dsimp only at hv67
 obtain ⟨rfl,w67_0⟩:=hv67
 refine VE.nil (by kernel_rfl) rfl ?_ rfl
 have ho69:QH Ql (QM g64 (.cells [Value.int .i64 (d1.1),Value.int .i64 (d1.2.1),Value.slice p1_A2 (d1.2.2.length) (p1_c2)].toArray 37 (0,0))) (J4 (wm W) (m0)) (Value.slice (some ⟨g64,0,none⟩) (1) (1)) [d1]:=QH.lit 1 (Je.cons (c1:=[Value.int .i64 (d1.1),Value.int .i64 (d1.2.1),Value.slice p1_A2 (d1.2.2.length) (p1_c2)]) (Rd.mono h1 (Qc _)) Je.nil) rfl rfl
 refine VO.callN 168 rfl QiW rfl (fun W hW=>QbA W (Qv 0 l_) Yp ((l_.length:Nat):Int) Yp (QH.rd ho69 (hW.t 165) (hW.t 0))) (fun v68 m68 hv68=>?_)
 obtain ⟨s68_0,rfl,f68_0⟩:=hv68
 obtain ⟨rfl,q68_0_0,q68_0_1⟩:=Yf (x0:=(Qg (Qv 0 l_) ((l_.length:Nat):Int) ([d1])).1) (x1:=(Qg (Qv 0 l_) ((l_.length:Nat):Int) ([d1])).2) (f68_0.rd (Qc _))
 simp only [inK] at q68_0_0 q68_0_1
 refine VO.z (.fld1 rfl Qa3 rfl Qhf rfl) ?_
 refine VO.z (.neq rfl rfl) (VO.p4 1 105 102 0 (VO.k10 0 1 3 4 5 6 7 13 21 31 (Qm ?_)))
 refine VC.cond rfl (fun hc70=>?_) (fun hc70=>?_)
 refine VC.rs (VO.as (VO.k10 0 1 3 4 5 6 7 13 21 31 (VC.ret (QZ ?_))))
 exact Zs 4 1 rfl w67_0 (by first | rfl | exact Zf) (by first | rfl | exact Zf)
 refine VC.skip ?_
 exact Qm (hJ3 m67 _ _ ⟨by assumption,w67_0⟩ ⟨esn,fun _ h=>Inv.sub h [1,105,102,0]⟩)
theorem Qn4 (W:World) {es_:List Int} {l_:List Qe} {br_:Bool} {D_:QO} {gd_:Nat} {m0:Mem} (hm:mle (m0) (wm W)) {g0:Nat} (h0:Ow (.ptr Zd) m0 [.pointer (some ⟨g0,0,none⟩)] (g0,((gd_,D_),br_,l_,es_))) (e0:okD D_) (e1:wD D_+3000≤1000000000000) (e2:okL l_) (e3:es_=JK l_):Qi Tryz.prog 32 [.pointer (some ⟨g0,0,none⟩)] W (m0) (fun v m'=>v= .int .i64 ((Z9 D_ br_ l_).2)∧Ow (.ptr Zd) m' [.pointer (some ⟨g0,0,none⟩)] (g0,((gd_,(Z9 D_ br_ l_).1.1),(Z9 D_ br_ l_).1.2.1,(Z9 D_ br_ l_).1.2.2,JK (Z9 D_ br_ l_).1.2.2))):=by
 have hll:=Qar e2;have hlf:=QaJ e2;have hel:=Qct l_;rw [← e3] at hel;have hlr:=Y6 e2;have hlw:=Z0 l_;rw [← e3] at hlw
 refine Qi.ofB (n:=16) hm Tryz.func32 rfl rfl rfl ?_
 refine VC.rs (VO.as (VO.k2 0 2 (VC.seq (VC.rs (VO.mv ?_)))))
 refine VO.call 1 rfl Qnq rfl rfl (fun W hW=>Qfp W (hW.t 1) h0) (fun v1 m1 hv1=>?_)
 try dsimp only at hv1
 obtain ⟨rfl,w1_0⟩:=hv1
 refine VO.as (VO.k3 0 2 3 (VC.rs (VO.mv (VO.z (.neq rfl rfl) (VO.p2 1 0 (VO.k4 0 2 3 7 ?_))))))
 refine VC.cond rfl (fun hc2=>?_) (fun hc2=>?_)
 ·refine VC.rs (VO.mv (VO.as (VO.k4 0 2 3 7 (VC.ret (QZ ?_)))))
  exact Zs 2 1 rfl w1_0 (by first | rfl | (first | (rw [Qaf Qo] <;> first | rfl | (simp [*];done) | (have h6_:=Q3 Qo;simp [h6_, *];done) | (simp_all;done)) | (rw [Qa5 Qo] <;> first | rfl | (simp [*];done) | (have h6_:=Q3 Qo;simp [h6_, *];done) | (simp_all;done)))) (by first | rfl | (first | (rw [Qaf Qo] <;> first | rfl | (simp [*];done) | (have h6_:=Q3 Qo;simp [h6_, *];done) | (simp_all;done)) | (rw [Qa5 Qo] <;> first | rfl | (simp [*];done) | (have h6_:=Q3 Qo;simp [h6_, *];done) | (simp_all;done))))
 ·refine VC.skip (Qm (VC.rs (VO.mv (VO.mv (VO.z (.nilp rfl) (VO.z (.fa rfl XX rfl) ?_))))))
  obtain ⟨q3_E,q3_A2,q3_c2,q3_A3,q3_c3,q3_n0,q3_n2,q3_n3,_,q3_S,q3_0,q3_2,q3_3⟩:=Jf (x0:=(gd_,D_)) (x1:=decide (¬ JI D_ br_=0)) (x2:=l_) (x3:=es_) w1_0
  dsimp only at q3_0
  have q3_r2:=q3_2.rm
  have q3_r3:=q3_3.rm
  refine VO.inv _ (fun _ h=>h.parts (i:=1) rfl q3_S [107,104,105,106]) ?_
  refine VO.z (.ld1 107 rfl Qkz rfl (Qa rfl rfl)) ?_
  refine VO.call 104 rfl Qnr rfl rfl (fun W hW=>QhN W (hW.t 104) q3_0 Qo (by first | exact bd | (have h_:=Qe3 D_;omega))) (fun v8 m8 hv8=>?_)
  obtain ⟨rfl,w8_0⟩:=hv8
  have hfa9:=(Qc8 (show okD D_ by assumption))
  have hfa10:=(Qgu (show okD D_ by assumption))
  refine VO.clsP 112 [107,104,105,106] rfl (fun hg12=>(Js _ _ _ _ hg12 w8_0 q3_2 q3_3)) (fun mc12 ho12=>?_)
  refine VO.call 112 rfl Qnp rfl rfl (fun W hW=>Qfq W (hW.t 112) ho12 ((YB D_).2) (by simp only [inK];(first | exact bd | (have h_:=Qe3 D_;omega)))) (fun v11 m11 hv11=>?_)
  try dsimp only at hv11
  obtain ⟨rfl,w11_0⟩:=hv11
  refine VO.as (VO.k4 0 2 3 7 (VC.ret ?_))
  exact Zs 2 112 rfl w11_0 (by first | rfl | (first | (rw [Qaf Qo] <;> first | rfl | (simp [*];done) | (have h6_:=Q3 Qo;simp [h6_, *];done) | (simp_all;done)) | (rw [Qa5 Qo] <;> first | rfl | (simp [*];done) | (have h6_:=Q3 Qo;simp [h6_, *];done) | (simp_all;done)))) (by first | rfl | (first | (rw [Qaf Qo] <;> first | rfl | (simp [*];done) | (have h6_:=Q3 Qo;simp [h6_, *];done) | (simp_all;done)) | (rw [Qa5 Qo] <;> first | rfl | (simp [*];done) | (have h6_:=Q3 Qo;simp [h6_, *];done) | (simp_all;done))))
theorem Z6 {P:Prop} (h:P:=by first | (rw [Qh9 (by assumption)] <;> first | rfl | (simp [*];done) | (have h6_:=Q3 (by assumption);simp [h6_, *];done) | (simp_all;done)) | (rw [Qdl (by assumption) (.inl (by assumption))] <;> first | rfl | (simp [*];done) | (have h6_:=Q3 (by assumption);simp [h6_, *];done) | (simp_all;done)) | (rw [Qdl (by assumption) (.inr (by assumption))] <;> first | rfl | (simp [*];done) | (have h6_:=Q3 (by assumption);simp [h6_, *];done) | (simp_all;done)) | (rw [Qg6 e2 e3 (by assumption) (by assumption) (by assumption),Qdr (by assumption)] <;> first | rfl | (simp [*];done) | (have h6_:=Q3 (by assumption);simp [h6_, *];done) | (simp_all;done)) | (rw [Qg6 e2 e3 (by assumption) (by assumption) (by assumption),QaG (by first | assumption | (simp [*];done))] <;> first | rfl | (simp [*];done) | (have h6_:=Q3 (by assumption);simp [h6_, *];done) | (simp_all;done)) | (rw [Qg6 e2 e3 (by assumption) (by assumption) (by assumption),QaG (by first | assumption | (simp [*];done))];dsimp only;rw [QoL e3] <;> first | rfl | (simp [*];done) | (simp_all;done))):P:=h
theorem Q2 {P:Prop} (h:P:=by first | exact bd | (have h_:=QnO D_ 0 (Qa4 (es_.take d1.toNat));have h2_:=cutAt e2 e3 d1.toNat;omega)):P:=h
set_option maxHeartbeats 1000000 in
theorem QpK (W:World) {es_:List Int} {l_:List Qe} {br_:Bool} {D_:QO} {gd_:Nat} {m0:Mem} (hm:mle (m0) (wm W)) {g0:Nat} (h0:Ow (.ptr Zd) m0 [.pointer (some ⟨g0,0,none⟩)] (g0,((gd_,D_),br_,l_,es_))) (d1:Int) (h1:inK .i64 d1) (e0:okD D_) (e1:wD D_+3000≤1000000000000) (e2:okL l_) (e3:es_=JK l_):Qi Tryz.prog 34 [.pointer (some ⟨g0,0,none⟩),.int .i64 d1] W (m0) (fun v m'=>v= .int .i64 ((X6 D_ br_ l_ d1).2)∧Ow (.ptr Zd) m' [.pointer (some ⟨g0,0,none⟩)] (g0,((gd_,(X6 D_ br_ l_ d1).1.1),(X6 D_ br_ l_ d1).1.2.1,(X6 D_ br_ l_ d1).1.2.2,JK (X6 D_ br_ l_ d1).1.2.2))):=by
 have hll:=Qar e2;have hlf:=QaJ e2;have hel:=Qct l_;rw [← e3] at hel;have hlr:=Y6 e2;have hlw:=Z0 l_;rw [← e3] at hlw
 have h1':=h1;simp only [inK] at h1'
 refine Qi.ofB (n:=60) hm Tryz.func34 rfl rfl rfl ?_
 refine VC.rs (VO.as (VO.k3 0 1 4 (VC.seq (VC.rs (VO.mv ?_)))))
 refine VO.call 1 rfl Qnq rfl rfl (fun W hW=>Qfp W (hW.t 1) h0) (fun v1 m1 hv1=>?_)
 try dsimp only at hv1
 obtain ⟨rfl,w1_0⟩:=hv1
 refine VO.as (VO.k4 0 1 4 5 (VC.rs (VO.mv (VO.z (.neq rfl rfl) (VO.p2 1 0 (VO.k5 0 1 4 5 10 ?_))))))
 refine VC.cond rfl (fun hc2=>?_) (fun hc2=>?_)
 refine VC.rs (VO.mv (VO.as (VO.k5 0 1 4 5 10 (VC.ret (QZ ?_)))))
 exact Zs 4 1 rfl w1_0 (by first | rfl | exact Z6) (by first | rfl | exact Z6)
 refine VC.skip (Qm (VC.seq (VC.rs (VO.mv (VO.z (.lss rfl rfl) (VO.mv ?_))))))
 refine VO.dec (t:=14) rfl (fun hc3=>?_) (fun hc3=>?_)
 refine VO.gN (VO.gN (VO.gN (VO.gN (VO.gN (VO.gN (VO.gN (VO.z (.pT rfl rfl) (VO.k6 0 1 4 5 10 22 (VC.condT rfl (VC.rs (VO.as ?_)))))))))))
 refine VO.k6 0 1 4 5 10 22 (VC.ret (QZ ?_))
 exact Zs 4 1 rfl w1_0 (by first | rfl | exact Z6) (by first | rfl | exact Z6)
 refine VO.w (.mv rfl) (VO.w (.mv rfl) (VO.w (.nilp rfl) (VO.w (.fa rfl XX rfl) ?_)))
 obtain ⟨q4_E,q4_A2,q4_c2,q4_A3,q4_c3,q4_n0,q4_n2,q4_n3,_,q4_S,q4_0,q4_2,q4_3⟩:=Jf (x0:=(gd_,D_)) (x1:=decide (¬ JI D_ br_=0)) (x2:=l_) (x3:=es_) w1_0
 dsimp only at q4_0
 have q4_r2:=q4_2.rm
 have q4_r3:=q4_3.rm
 refine VO.inv _ (fun _ h=>h.parts (i:=1) rfl q4_S [108,105,106,107]) ?_
 refine VO.w (.ld1 108 rfl Qbr rfl (Qa rfl rfl)) (VO.w (.lenS rfl Jx) (VO.w (.gtr rfl rfl) (VO.z (.pF rfl rfl) ?_)))
 refine VO.clsP 109 [108,105,106,107] rfl (fun hg9=>(Js _ _ _ _ hg9 q4_0 q4_2 q4_3)) (fun mc9 ho9=>?_)
 refine VO.k6 0 1 4 5 10 22 ?_
 refine VC.cond rfl (fun hc10=>?_) (fun hc10=>?_)
 refine VC.rs (VO.as (VO.k6 0 1 4 5 10 22 (VC.ret (QZ ?_))))
 exact Zs 4 109 rfl ho9 (by first | rfl | exact Z6) (by first | rfl | exact Z6)
 refine VC.skip (Qm (VC.seq (VC.seq ?_)))
 obtain ⟨q11_E,q11_A2,q11_c2,q11_A3,q11_c3,q11_n0,q11_n2,q11_n3,_,q11_S,q11_0,q11_2,q11_3⟩:=Jf (x0:=(gd_,D_)) (x1:=decide (¬ JI D_ br_=0)) (x2:=l_) (x3:=es_) ho9
 dsimp only at q11_0
 have q11_r2:=q11_2.rm
 have q11_r3:=q11_3.rm
 refine VC.inv _ (fun _ h=>h.parts (i:=109) rfl q11_S [115,112,113,114]) ?_
 refine VC.regD [(115,QM g0 (.cells #[.pointer (some ⟨gd_,0,none⟩),.bool (decide (¬ JI D_ br_=0)),.slice q11_A2 (l_.length) (q11_c2),.slice q11_A3 (es_.length) (q11_c3)] q11_E (0,0))),(113,q11_n2),(114,q11_n3),(0,J4 (wm W) (m0))] 13 [(0,true),(1,true),(2,true),(3,true),(4,true),(5,true),(6,true),(7,true),(8,true),(9,true),(10,true),(11,false),(12,false)] follows (by kernel_rfl) (fun _ h=>h.sub [115,113,114,0]) ?_
 refine VD.z rfl (.mv rfl) (VD.z rfl (.mv rfl) (VD.z rfl (.nilp rfl) (VD.z rfl (.fa rfl XX rfl) (VD.z rfl (.ld1 115 rfl Qkz rfl (Qa rfl rfl)) (VD.z rfl (.mv rfl) (VD.z rfl (.nilp rfl) (VD.z rfl (.fa rfl XX rfl) (VD.z rfl (.ld1 115 rfl QlC rfl (Qa rfl rfl)) (VD.z rfl (.mv rfl) ?_)))))))))
 have hs16:=(Ow.rd q11_3 (Qc _)).pre (j:=((d1).toNat)) Q2
 refine VD.z rfl (.slHI ((d1).toNat) rfl rfl Qd8 Q2 Q2) ?_
 refine VD.callN 117 rfl rfl (.inl rfl) QiX rfl (fun _ h=>Inv.sbK [115,113,114,0] h) (fun W hW=>Qbp W (QH.rd ((Ow.ownl q11_3 rfl Qx).pre (j:=((d1).toNat)) Q2) (hW.t 114) (JF _))) (fun v17 m17 hv17=>?_)
 subst hv17
 refine VD.call 112 rfl rfl (.inl rfl) Qns rfl rfl (fun _ _ h=>Inv.sbK [115,113,114,0] h) (fun W hW=>Qj9 W (hW.t 112) q11_0 0 (by simp only [inK];(exact Q2)) (Qa4 ((es_).take ((d1).toNat))) (by simp only [inK];(exact Q2)) Qo Q2) (fun v18 m18 hv18=>?_)
 obtain ⟨rfl,w18_0⟩:=hv18
 have hfa19:=(Qb7 (f:=0) (n:=(Qa4 ((es_).take ((d1).toNat)))) (show okD D_ by assumption))
 have hfa20:=(Ql2 (f:=0) (n:=(Qa4 ((es_).take ((d1).toNat)))) (show okD D_ by assumption))
 refine VD.nil rfl ?_ rfl
 refine VO.clsP 122 [115,112,113,114] rfl (fun hg22=>(Js _ _ _ _ hg22 w18_0 q11_2 q11_3)) (fun mc22 ho22=>?_)
 refine VO.call 122 rfl Qnp rfl rfl (fun W hW=>Qfq W (hW.t 122) ho22 ((Xk D_ 0 (Qa4 ((es_).take ((d1).toNat)))).2) (by simp only [inK];(exact Q2))) (fun v21 m21 hv21=>?_)
 try dsimp only at hv21
 obtain ⟨rfl,w21_0⟩:=hv21
 refine VO.as (VO.k7 0 1 4 5 6 10 22 (Qm (VC.rs (VO.mv (VO.z (.neq rfl rfl) (VO.p2 122 0 (VO.k8 0 1 4 5 6 10 22 38 ?_)))))))
 refine VC.cond rfl (fun hc23=>?_) (fun hc23=>?_)
 refine VC.rs (VO.mv (VO.as (VO.k8 0 1 4 5 6 10 22 38 (VC.ret (QZ ?_)))))
 exact Zs 4 122 rfl w21_0 (by first | rfl | exact Z6) (by first | rfl | exact Z6)
 refine VC.skip (Qm (VC.seq ?_))
 obtain ⟨q24_E,q24_A2,q24_c2,q24_A3,q24_c3,q24_n0,q24_n2,q24_n3,_,q24_S,q24_0,q24_2,q24_3⟩:=Jf (x0:=(gd_,((Xk D_ 0 (Qa4 ((es_).take ((d1).toNat)))).1))) (x1:=(decide (¬ JI D_ br_=0)) || decide (¬ ((Xk D_ 0 (Qa4 ((es_).take ((d1).toNat)))).2)=0)) (x2:=l_) (x3:=es_) w21_0
 dsimp only at q24_0
 have q24_r2:=q24_2.rm
 have q24_r3:=q24_3.rm
 refine VC.inv _ (fun _ h=>h.parts (i:=122) rfl q24_S [128,125,126,127]) ?_
 refine VC.inv _ (fun _ h=>Inv.num h 128 2128 rfl) ?_
 refine VC.regD [(2128,QM g0 (.cells #[.pointer (some ⟨gd_,0,none⟩),.bool ((decide (¬ JI D_ br_=0)) || decide (¬ ((Xk D_ 0 (Qa4 ((es_).take ((d1).toNat)))).2)=0)),.slice q24_A2 (l_.length) (q24_c2),.slice q24_A3 (es_.length) (q24_c3)] q24_E (0,0))),(125,q24_n0),(126,q24_n2),(127,q24_n3),(0,J4 (wm W) (m0))] 19 [(0,true),(1,true),(2,true),(3,true),(4,true),(5,true),(6,true),(7,true),(8,true),(9,true),(10,true),(11,true),(12,true),(13,true),(14,true),(15,true),(16,true),(17,true),(18,false)] follows (by kernel_rfl) (fun _ h=>h.sub [2128,125,126,127,0]) ?_
 refine VD.z rfl (.mv rfl) (VD.z rfl (.mv rfl) (VD.z rfl (.mv rfl) (VD.z rfl (.nilp rfl) (VD.z rfl (.fa rfl XX rfl) ?_))))
 refine VD.yH rfl rfl (.inl rfl) (by kernel_rfl) (.ld1 2128 rfl Qbr rfl (Qa rfl rfl)) ?_
 refine VD.z rfl (.mv rfl) (VD.z rfl (.mv rfl) ?_)
 have hs29:=(Ow.rd q24_2 (Qc _)).pre3 (j:=((d1).toNat)) (k:=((d1).toNat)) Q2 Q2 Q2
 refine VD.z rfl (.sl3I ((d1).toNat) ((d1).toNat) rfl rfl rfl Jx Q2 Q2 Q2 Q2) ?_
 refine VD.z rfl (.mv rfl) (VD.z rfl (.nilp rfl) (VD.z rfl (.fa rfl XX rfl) ?_))
 refine VD.yH rfl rfl (.inl rfl) (by kernel_rfl) (.ld1 2128 rfl QlC rfl (Qa rfl rfl)) ?_
 refine VD.z rfl (.mv rfl) (VD.z rfl (.mv rfl) ?_)
 have hs30:=(Ow.rd q24_3 (Qc _)).pre3 (j:=((d1).toNat)) (k:=((d1).toNat)) Q2 Q2 Q2
 refine VD.z rfl (.sl3I ((d1).toNat) ((d1).toNat) rfl rfl rfl Qd8 Q2 Q2 Q2 Q2) ?_
 refine VD.z rfl (.nilp rfl) (VD.z rfl (.fa rfl XX rfl) ?_)
 refine VD.storeH (k:=1) (c':=[Value.pointer (some ⟨gd_,0,none⟩),Value.bool ((decide (¬ JI D_ br_=0)) || decide (¬ ((Xk D_ 0 (Qa4 ((es_).take ((d1).toNat)))).2)=0)),Value.slice q24_A2 ((d1).toNat) ((d1).toNat),Value.slice q24_A3 (es_.length) (q24_c3)]) 2128 rfl rfl rfl (.inr ⟨Qbr,rfl⟩) rfl rfl rfl rfl rfl (fun _ h=>Inv.sbK [125,126,127,0] h) ?_
 refine VD.nil rfl ?_ rfl
 refine VO.z (.nilp rfl) (VO.z (.fa rfl XX rfl) ?_)
 refine VO.store (k:=1) (c':=[.pointer (some ⟨gd_,0,none⟩),.bool ((decide (¬ JI D_ br_=0)) || decide (¬ ((Xk D_ 0 (Qa4 ((es_).take ((d1).toNat)))).2)=0)),.slice q24_A2 ((d1).toNat) ((d1).toNat),.slice q24_A3 ((d1).toNat) ((d1).toNat)]) 2128 rfl rfl (.inr ⟨QlC,rfl⟩) rfl rfl rfl rfl rfl ?_
 refine VO.clsP 131 [2128,125,126,127] rfl (fun hg31=>(Js _ _ _ _ hg31 q24_0 (q24_2.pre3 (j:=((d1).toNat)) (k:=((d1).toNat)) Q2 Q2 Q2) (QH.ow ((Ow.ownl q24_3 rfl Qx).pre3 (j:=((d1).toNat)) (k:=((d1).toNat)) Q2 Q2 Q2) rfl))) (fun mc31 ho31=>?_)
 refine VO.k8 0 1 4 5 6 10 22 38 (Qm (VC.rs (VO.as (VO.k8 0 1 4 5 6 10 22 38 (VC.ret ?_)))))
 exact Zs 4 131 rfl ho31 (by first | rfl | exact Z6) (by first | rfl | exact Z6)
theorem Qad {P:Prop} (h:P:=by first | (rw [Qhn (by assumption)] <;> first | rfl | (simp [*];done) | (have h6_:=Q3 (by assumption);simp [h6_, *];done) | (simp_all;done)) | (rw [Qel (by assumption) (by assumption)] <;> first | rfl | (simp [*];done) | (have h6_:=Q3 (by assumption);simp [h6_, *];done) | (simp_all;done)) | (rw [Qda (by assumption) (by assumption) (by assumption)] <;> first | rfl | (simp [*];done) | (have h6_:=Q3 (by assumption);simp [h6_, *];done) | (simp_all;done)) | (rw [QdF (by assumption) (by assumption) (by assumption)] <;> first | rfl | (simp [*];done) | (have h6_:=Q3 (by assumption);simp [h6_, *];done) | (simp_all;done))):P:=h
theorem Qdm (W:World) {m0:Mem} (hm:mle (m0) (wm W)) {g0:Nat} {d0:QO} (h0:Ow (.ptr QN) m0 [.pointer (some ⟨g0,0,none⟩)] (g0,d0)) (e0:okD d0) (e1:wD d0+3000≤1000000000000) (e2:(Qp d0).2=0):Qi Tryz.prog 15 [.pointer (some ⟨g0,0,none⟩)] W (m0) (fun v m'=>∃ (s0:Nat),v= .tuple #[.pointer (some ⟨s0,0,none⟩),.int .i64 (0)]∧Ow (.ptr Zd) m' [.pointer (some ⟨s0,0,none⟩)] (s0,((g0,(Qp d0).1),false,(Jc d0).1,JK (Jc d0).1))):=by
 refine Qi.ofB (n:=46) hm Tryz.func15 rfl rfl rfl ?_
 refine VC.rs (VO.as (VO.as (VO.k3 0 2 3 (VC.rs (VO.mv ?_)))))
 refine VO.call 1 rfl Qps rfl rfl (fun W hW=>Qlc W (hW.t 1) h0 0 bdk Qo bd) (fun v1 m1 hv1=>?_)
 obtain ⟨s1_0,p1_0,p1_1,rfl,hS1,f1_0,w1_0⟩:=hv1
 refine VO.inv _ (fun _ h=>h.parts (i:=1) rfl hS1 [102,103]) ?_
 have hfa4:=(Qiq d0 0)
 obtain ⟨A1_0,c1_0,eq1_0,l1_0,k1_0⟩:=f1_0.slc
 subst eq1_0
 refine VO.mv (VO.z (.ext rfl rfl) (VO.z (.ext rfl rfl) (VO.as (VO.as (VO.k5 0 2 3 4 5 (VC.seq (VC.rs (VO.mv (VO.z (.neq rfl rfl) (VO.p3 102 103 0 (VO.k6 0 2 3 4 5 17 ?_)))))))))))
 refine VC.cond rfl (fun hc5=>?_) (fun hc5=>?_)
 rw [Qhn hc5] at e2;exact absurd e2 hc5
 refine VC.skip (Qm (VC.rs (VO.mv ?_)))
 refine VO.callN 106 rfl Qpr rfl (fun W hW=>Qic W (Ow.rd f1_0 (hW.t 102)) bd) (fun v6 m6 hv6=>?_)
 obtain ⟨s6_0,s6_1,p6_0,p6_1,rfl,hS6,f6_0,f6_1⟩:=hv6
 refine VO.inv _ (fun _ h=>h.parts (i:=106) rfl hS6 [107,108]) ?_
 have hfa9:=ZT ((JW d0 0).1)
 obtain ⟨A6_0,c6_0,eq6_0,l6_0,k6_0⟩:=f6_0.slc
 subst eq6_0
 obtain ⟨A6_1,c6_1,eq6_1,l6_1,k6_1⟩:=f6_1.slc
 subst eq6_1
 refine VO.mv (VO.z (.ext rfl rfl) (VO.z (.ext rfl rfl) (VO.as (VO.as (VO.k8 0 2 3 4 5 6 7 17 (VC.seq (VC.rs (VO.mv ?_))))))))
 refine VO.callN 110 rfl QiX rfl (fun W hW=>Qbp W (Ow.rd f6_1 (hW.t 108))) (fun v10 m10 hv10=>?_)
 subst hv10
 refine VO.as (VO.k9 0 2 3 4 5 6 7 8 17 (VC.rs (VO.mv (VO.mv (VO.z (.lenS rfl Ji) (VO.z (.lss rfl rfl) (VO.p5 107 108 102 103 0 (VO.k10 0 2 3 4 5 6 7 8 17 29 ?_))))))))
 refine VC.cond rfl (fun hc11=>?_) (fun hc11=>?_)
 refine VC.seq (VC.rs (VO.mv (VO.mv ?_)))
 refine VO.call 103 rfl Qns rfl rfl (fun W hW=>Qj9 W (hW.t 103) w1_0 0 bdk (Qa4 (JK (Y0 ((JW d0 0).1)).1)) bdk Qo bd) (fun v12 m12 hv12=>?_)
 obtain ⟨rfl,w12_0⟩:=hv12
 have hfa13:=(Qb7 (f:=0) (n:=(Qa4 (JK (Y0 ((JW d0 0).1)).1))) (show okD d0 by assumption))
 have hfa14:=(Ql2 (f:=0) (n:=(Qa4 (JK (Y0 ((JW d0 0).1)).1))) (show okD d0 by assumption))
 refine VO.as (VO.k11 0 2 3 4 5 6 7 8 9 17 29 (VC.rs (VO.mv (VO.z (.neq rfl rfl) (VO.k12 0 2 3 4 5 6 7 8 9 17 29 34 ?_)))))
 refine VC.cond rfl (fun hc15=>?_) (fun hc15=>?_)
 rw [Qda Qo Qo hc15] at e2;exact absurd e2 hc15
 refine VC.skip (Qm (VC.rs (VO.mv ?_)))
 refine VO.call 103 rfl Qnr rfl rfl (fun W hW=>QhN W (hW.t 103) w12_0 Qo bd) (fun v16 m16 hv16=>?_)
 obtain ⟨rfl,w16_0⟩:=hv16
 have hfa17:=(Qc8 (show okD ((Xk d0 0 (Qa4 (JK (Y0 ((JW d0 0).1)).1))).1) by assumption))
 have hfa18:=(Qgu (show okD ((Xk d0 0 (Qa4 (JK (Y0 ((JW d0 0).1)).1))).1) by assumption))
 refine VO.as (VO.p5 103 107 108 102 0 (VO.nil (VC.rs (VO.mv (VO.z (.neq rfl rfl) (VO.nil ?_))))))
 refine VC.cond rfl (fun hc19=>?_) (fun hc19=>?_)
 rw [QdF Qo Qo Qo] at e2;exact absurd e2 hc19
 ·refine VC.skip (Qm (VC.rs (VO.mv (VO.mv (VO.mv ?_)))))
  refine VO.z (.bst (cs:=[.pointer (some ⟨g0,0,none⟩),.bool false,.slice A6_0 (((Y0 ((JW d0 0).1)).1).length) (c6_0),.slice A6_1 ((JK (Y0 ((JW d0 0).1)).1).length) (c6_1)]) rfl XX tz84 rfl) ?_
  refine VO.box (cs:=[.pointer (some ⟨g0,0,none⟩),.bool false,.slice A6_0 (((Y0 ((JW d0 0).1)).1).length) (c6_0),.slice A6_1 ((JK (Y0 ((JW d0 0).1)).1).length) (c6_1)]) 121 rfl rfl rfl (fun g20=>?_)
  refine VO.as (VO.as (VO.nil (VC.ret ?_)))
  refine Qef 2 3 [121,103,107,108] fun hS_=>?_
  dsimp only [QE]
  have he0:(((g0,(Qp d0).1),false,(Jc d0).1,JK (Jc d0).1):Qb3)=((g0,(YB ((Xk d0 0 (Qa4 (JK (Y0 ((JW d0 0).1)).1))).1)).1),false,(Y0 ((JW d0 0).1)).1,JK (Y0 ((JW d0 0).1)).1):=by first | rfl | (exact Qad)
  refine ⟨g20,?_,?_⟩
  rotate_left
  ·rw [he0];exact (Js _ _ _ _ hS_ w16_0 f6_0 f6_1)
  all_goals (first | rfl | (exact Qad))
 ·refine VC.skip (Qm (VC.rs (VO.mv (VO.mv (VO.mv ?_)))))
  refine VO.z (.bst (cs:=[.pointer (some ⟨g0,0,none⟩),.bool false,.slice A6_0 (((Y0 ((JW d0 0).1)).1).length) (c6_0),.slice A6_1 ((JK (Y0 ((JW d0 0).1)).1).length) (c6_1)]) rfl XX tz84 rfl) ?_
  refine VO.box (cs:=[.pointer (some ⟨g0,0,none⟩),.bool false,.slice A6_0 (((Y0 ((JW d0 0).1)).1).length) (c6_0),.slice A6_1 ((JK (Y0 ((JW d0 0).1)).1).length) (c6_1)]) 123 rfl rfl rfl (fun g22=>?_)
  refine VO.as (VO.as (VO.k10 0 2 3 4 5 6 7 8 17 29 (VC.ret ?_)))
  refine Qef 2 3 [123,103,107,108] fun hS_=>?_
  dsimp only [QE]
  have he0:(((g0,(Qp d0).1),false,(Jc d0).1,JK (Jc d0).1):Qb3)=((g0,d0),false,(Y0 ((JW d0 0).1)).1,JK (Y0 ((JW d0 0).1)).1):=by first | rfl | (exact Qad)
  refine ⟨g22,?_,?_⟩
  rotate_left
  ·rw [he0];exact (Js _ _ _ _ hS_ w1_0 f6_0 f6_1)
  all_goals (first | rfl | (exact Qad))
theorem YT {P:Prop} (h:P:=by first | (rw [Qhn (by assumption)] <;> first | rfl | (simp [*];done) | (have h6_:=Q3 (by assumption);simp [h6_, *];done) | (simp_all;done)) | (rw [Qel (by assumption) (by assumption)] <;> first | rfl | (simp [*];done) | (have h6_:=Q3 (by assumption);simp [h6_, *];done) | (simp_all;done)) | (rw [Qda (by assumption) (by assumption) (by assumption)] <;> first | rfl | (simp [*];done) | (have h6_:=Q3 (by assumption);simp [h6_, *];done) | (simp_all;done)) | (rw [QdF (by assumption) (by assumption) (by assumption)] <;> first | rfl | (simp [*];done) | (have h6_:=Q3 (by assumption);simp [h6_, *];done) | (simp_all;done))):P:=h
theorem Qmr (W:World) {m0:Mem} (hm:mle (m0) (wm W)) {g0:Nat} {d0:QO} (h0:Ow (.ptr QN) m0 [.pointer (some ⟨g0,0,none⟩)] (g0,d0)) (e0:okD d0) (e1:wD d0+3000≤1000000000000) (e2:¬ (Qp d0).2=0):Qi Tryz.prog 15 [.pointer (some ⟨g0,0,none⟩)] W (m0) (fun v m'=>v= .tuple #[.pointer none,.int .i64 ((Qp d0).2)]∧Ow (.ptr QN) m' [.pointer (some ⟨g0,0,none⟩)] (g0,(Qp d0).1)):=by
 refine Qi.ofB (n:=46) hm Tryz.func15 rfl rfl rfl ?_
 refine VC.rs (VO.as (VO.as (VO.k3 0 2 3 (VC.rs (VO.mv ?_)))))
 refine VO.call 1 rfl Qps rfl rfl (fun W hW=>Qlc W (hW.t 1) h0 0 bdk Qo bd) (fun v1 m1 hv1=>?_)
 obtain ⟨s1_0,p1_0,p1_1,rfl,hS1,f1_0,w1_0⟩:=hv1
 refine VO.inv _ (fun _ h=>h.parts (i:=1) rfl hS1 [102,103]) ?_
 have hfa4:=(Qiq d0 0)
 obtain ⟨A1_0,c1_0,eq1_0,l1_0,k1_0⟩:=f1_0.slc
 subst eq1_0
 refine VO.mv (VO.z (.ext rfl rfl) (VO.z (.ext rfl rfl) (VO.as (VO.as (VO.k5 0 2 3 4 5 (VC.seq (VC.rs (VO.mv (VO.z (.neq rfl rfl) (VO.p3 102 103 0 (VO.k6 0 2 3 4 5 17 ?_)))))))))))
 refine VC.cond rfl (fun hc5=>?_) (fun hc5=>?_)
 refine VC.rs (VO.mv (VO.as (VO.as (VO.k6 0 2 3 4 5 17 (VC.ret (QZ ?_))))))
 refine Qef 2 3 [103] fun hS_=>?_
 dsimp only [QE]
 exact ⟨(by first | rfl | exact YT),(Ow.cgP (Ow.up w1_0 (hS_.1 _ (.head _))) (by first | rfl | exact YT))⟩
 refine VC.skip (Qm (VC.rs (VO.mv ?_)))
 refine VO.callN 106 rfl Qpr rfl (fun W hW=>Qic W (Ow.rd f1_0 (hW.t 102)) bd) (fun v6 m6 hv6=>?_)
 obtain ⟨s6_0,s6_1,p6_0,p6_1,rfl,hS6,f6_0,f6_1⟩:=hv6
 refine VO.inv _ (fun _ h=>h.parts (i:=106) rfl hS6 [107,108]) ?_
 have hfa9:=ZT ((JW d0 0).1)
 obtain ⟨A6_0,c6_0,eq6_0,l6_0,k6_0⟩:=f6_0.slc
 subst eq6_0
 obtain ⟨A6_1,c6_1,eq6_1,l6_1,k6_1⟩:=f6_1.slc
 subst eq6_1
 refine VO.mv (VO.z (.ext rfl rfl) (VO.z (.ext rfl rfl) (VO.as (VO.as (VO.k8 0 2 3 4 5 6 7 17 (VC.seq (VC.rs (VO.mv ?_))))))))
 refine VO.callN 110 rfl QiX rfl (fun W hW=>Qbp W (Ow.rd f6_1 (hW.t 108))) (fun v10 m10 hv10=>?_)
 subst hv10
 refine VO.as (VO.k9 0 2 3 4 5 6 7 8 17 (VC.rs (VO.mv (VO.mv (VO.z (.lenS rfl Ji) (VO.z (.lss rfl rfl) (VO.p5 107 108 102 103 0 (VO.k10 0 2 3 4 5 6 7 8 17 29 ?_))))))))
 refine VC.cond rfl (fun hc11=>?_) (fun hc11=>?_)
 refine VC.seq (VC.rs (VO.mv (VO.mv ?_)))
 refine VO.call 103 rfl Qns rfl rfl (fun W hW=>Qj9 W (hW.t 103) w1_0 0 bdk (Qa4 (JK (Y0 ((JW d0 0).1)).1)) bdk Qo bd) (fun v12 m12 hv12=>?_)
 obtain ⟨rfl,w12_0⟩:=hv12
 have hfa13:=(Qb7 (f:=0) (n:=(Qa4 (JK (Y0 ((JW d0 0).1)).1))) (show okD d0 by assumption))
 have hfa14:=(Ql2 (f:=0) (n:=(Qa4 (JK (Y0 ((JW d0 0).1)).1))) (show okD d0 by assumption))
 refine VO.as (VO.k11 0 2 3 4 5 6 7 8 9 17 29 (VC.rs (VO.mv (VO.z (.neq rfl rfl) (VO.k12 0 2 3 4 5 6 7 8 9 17 29 34 ?_)))))
 refine VC.cond rfl (fun hc15=>?_) (fun hc15=>?_)
 refine VC.rs (VO.mv (VO.as (VO.as (VO.p5 103 107 108 102 0 (VO.k12 0 2 3 4 5 6 7 8 9 17 29 34 (VC.ret (QZ (QZ ?_))))))))
 refine Qef 2 3 [103] fun hS_=>?_
 dsimp only [QE]
 exact ⟨(by first | rfl | exact YT),(Ow.cgP (Ow.up w12_0 (hS_.1 _ (.head _))) (by first | rfl | exact YT))⟩
 refine VC.skip (Qm (VC.rs (VO.mv ?_)))
 refine VO.call 103 rfl Qnr rfl rfl (fun W hW=>QhN W (hW.t 103) w12_0 Qo bd) (fun v16 m16 hv16=>?_)
 obtain ⟨rfl,w16_0⟩:=hv16
 have hfa17:=(Qc8 (show okD ((Xk d0 0 (Qa4 (JK (Y0 ((JW d0 0).1)).1))).1) by assumption))
 have hfa18:=(Qgu (show okD ((Xk d0 0 (Qa4 (JK (Y0 ((JW d0 0).1)).1))).1) by assumption))
 refine VO.as (VO.p5 103 107 108 102 0 (VO.nil (VC.rs (VO.mv (VO.z (.neq rfl rfl) (VO.nil ?_))))))
 refine VC.cond rfl (fun hc19=>?_) (fun hc19=>?_)
 refine VC.rs (VO.mv (VO.as (VO.as (VO.nil (VC.ret (QZ ?_))))))
 refine Qef 2 3 [103] fun hS_=>?_
 dsimp only [QE]
 exact ⟨(by first | rfl | exact YT),(Ow.cgP (Ow.up w16_0 (hS_.1 _ (.head _))) (by first | rfl | exact YT))⟩
 rw [QdF Qo Qo Qo] at e2;exact absurd (Decidable.not_not.1 hc19) e2
 rw [Qel Qo hc11] at e2;exact absurd rfl e2
theorem QlY (S:List Zj) (c:Qe):∃ s,(Yh S c).getLast? =some s∧s.1=c.1:=by
 rcases List.eq_nil_or_concat S with rfl | ⟨S',s,rfl⟩
 ·rw [Xi (.inl rfl)];exact ⟨(c.1,c.2.1),by simp,rfl⟩
 ·by_cases h:s.1=c.1
  ·rw [QaQ (k:=S'.length) (s:=s) (by simp) (by simp) h]
   exact ⟨s,by simp,h⟩
  ·rw [Xi (.inr ⟨S'.length,s,by simp,by simp,h⟩)]
   exact ⟨(c.1,c.2.1),by simp,rfl⟩
theorem Qih {l:List Qe} {k:Nat} {y:Qe} (hy:l[k]? =some y):∃ s,((l.take (k+1)).foldl Yh []).getLast? =some s∧s.1=y.1:=by
 rw [QdM hy];exact QlY _ _
theorem Qfv {l:List Qe} {out:List Zj} {k:Nat} {x y:Qe} (h:out=(l.take k).foldl Yh []) (hk:0 < k) (hx:l[k]? =some x) (hy:l[k - 1]? =some y) (e:x.1=y.1):out=(l.take (k+1)).foldl Yh []:=by
 obtain ⟨s,h1,h2⟩:=Qih hy
 rw [show k - 1+1=k by omega,← h] at h1
 rw [QdM hx,← h]
 rcases List.eq_nil_or_concat out with e0 | ⟨S',s',e0⟩
 ·rw [e0] at h1;cases h1
 ·rw [e0] at h1 ⊢
  have e1:s'=s:=by simpa using h1
  exact (QaQ (k:=S'.length) (s:=s') (by simp) (by simp) (by rw [e1,h2,e])).symm
theorem Qcx {l:List Qe} {out:List Zj} {k:Nat} {x:Qe} (h:out=(l.take k).foldl Yh []) (hx:l[k]? =some x) (e:k=0∨∃ y,l[k - 1]? =some y∧¬ x.1=y.1):out++[(x.1,x.2.1)]=(l.take (k+1)).foldl Yh []:=by
 rw [QdM hx,← h]
 refine (Xi ?_).symm
 rcases List.eq_nil_or_concat out with e0 | ⟨S',s',e0⟩
 ·exact .inl e0
 ·rcases e with rfl | ⟨y,hy,hn⟩
  ·rw [h] at e0;simp at e0
  ·by_cases hk:k=0
   ·subst hk;rw [h] at e0;simp at e0
   ·obtain ⟨s,h1,h2⟩:=Qih hy
    rw [show k - 1+1=k by omega,← h,e0] at h1
    have e1:s'=s:=by simpa using h1
    exact .inr ⟨S'.length,s',by rw [e0];simp,by rw [e0];simp,by rw [e1,h2];exact fun q=>hn q.symm⟩
theorem Qe6 {l:List Qe} (h:¬ ((Qg 0 0 l).1=0∧(Qg 0 0 l).2=0)):sOf l=([],Qg 0 0 l):=by
 unfold sOf;rw [if_pos];intro e;exact h (QkP.2 e)
theorem Qe5 {l:List Qe} (h:¬ ¬ ((Qg 0 0 l).1=0∧(Qg 0 0 l).2=0)):sOf l=(l.foldl Yh [],Qg 0 0 l):=by
 have h':=Decidable.not_not.1 h
 unfold sOf;rw [if_neg (fun e=>e h'.1)]
 exact Prod.ext rfl (Prod.ext h'.1.symm h'.2.symm)
theorem Qoy {l cs:List Qe} {p a:Int} {x:Qe} (h:cs=(l.drop p.toNat).take (a - p).toNat) (h0:0≤p) (h1:p≤a) (hx:l[a.toNat]? =some x):cs++[x]=(l.drop p.toNat).take (a+1 - p).toNat:=by
 have e:(l.drop p.toNat)[(a - p).toNat]? =some x:=by rw [List.getElem?_drop,← hx];congr 1;omega
 rw [show (a+1 - p).toNat=(a - p).toNat+1 by omega,QbI e,h]
theorem Qqk:JR Tryz.prog 120=true:=by kernel_rfl
theorem QiV:JR Tryz.prog 83=true:=by kernel_rfl
theorem Qf0 (W:World) {v0:List Value} {d0:Qe} (h0:Rd Ql (wm W) v0 d0) (e0:d0.2.2.length≤3518437208800):Qi Tryz.prog 87 [.agg v0.toArray] W (Qx) (fun v m'=>∃ (s0:List Value),v= .agg s0.toArray∧Ow Ql m' s0 (d0)):=by
 obtain ⟨p0_A2,p0_c2,rfl,p0_0,p0_1,p0_2⟩:=Q4 (x0:=d0.1) (x1:=d0.2.1) (x2:=d0.2.2) h0
 simp only [inK] at p0_0 p0_1
 have p0_r2:=Rd.room p0_2
 refine Qi.ofA (n:=13) Tryz.func87 rfl rfl rfl ?_
 refine VC.rs ?_
 refine VO.box (cs:=[.int .i64 (d0.1),.int .i64 (d0.2.1),.slice p0_A2 (d0.2.2.length) (p0_c2)]) 102 rfl rfl rfl (fun g1=>?_)
 refine VO.alloc 104 rfl XA (fun g3=>?_)
 refine VO.k3 0 1 2 (VC.rs (VO.as (VO.k4 0 1 2 3 (VC.seq ?_))))
 refine VC.regD _ 8 [(0,true),(1,true),(2,true),(3,true),(4,true),(5,true),(6,true),(7,false)] follows (by kernel_rfl) (fun _ h=>h.sub [104,102,0]) ?_
 refine VD.z rfl (.fa rfl Jq rfl) (VD.z rfl (.ld1 102 rfl tk3 rfl (Qa rfl rfl)) (VD.z rfl (.fa rfl Jq rfl) (VD.z rfl (.ld1 102 rfl tk3 rfl (Qa rfl rfl)) (VD.z rfl (.mv rfl) (VD.z rfl (.fa rfl Jq rfl) (VD.z rfl (.ld1 102 rfl Qc6 rfl (Qa rfl rfl)) ?_))))))
 refine VD.inv _ (fun _ h=>h.nilc 106) ?_
 obtain ⟨mo5,cs5,hM5,hA5,hC5⟩:=(QH.nil TOp Qx Qx)
 obtain ⟨all5,hS5,hR5⟩:=Rd.srcI (P:=Tryz.prog) (p0_2) Tryz.underlying35
 refine VD.app 106 rfl rfl rfl rfl ZH QcS rfl rfl hM5 hA5 (hS5 _ 0 rfl) hR5.nice bdm bd (by decide) (fun _ _ h=>h.sub [104,102,0]) (fun v5 m5 hN5=>?_)
 have ho5:QH TOp m5 Qx v5 (d0.2.2):=QH.more hC5 hN5 (Je.mono hR5 fun _ _ h=>Rd.flat rfl h _)
 obtain ⟨A5,c5,rfl,l5,k5⟩:=ho5.slc
 refine VD.nil rfl ?_ rfl
 refine VO.z (.bst (cs:=[.int .i64 (d0.1),.int .i64 (d0.2.1),.slice A5 ((d0.2.2).length) (c5)]) rfl Jq XA rfl) ?_
 refine VO.store (k:=3) (c':=[.int .i64 (d0.1),.int .i64 (d0.2.1),.slice A5 ((d0.2.2).length) (c5)]) 104 rfl rfl (.inl Yv) rfl rfl rfl rfl rfl ?_
 refine VO.p4 106 104 102 0 (VO.k4 0 1 2 3 (Qm (VC.ret ?_)))
 refine ⟨_,_,Jr (rs:=[.cell 2 37]) rfl (.agg 104 rfl Yv rfl ⟨_,_,_,QJ _ _,Nat.le_of_ble_eq_true rfl,rfl⟩ .nil),fun W_ hI=>JZ (l:=[m5]) hI [106] rfl rfl (Qc _) (fun hS_=>?_)⟩
 dsimp only [QE]
 have he0:(d0:Ty.Den Ql)=d0:=by first | rfl | (simp [*];done)
 refine ⟨[.int .i64 (d0.1),.int .i64 (d0.2.1),.slice A5 ((d0.2.2).length) (c5)],?_,?_⟩
 rotate_left
 ·rw [he0];exact (show Ow Ql _ _ d0 from (Jt d0.1 d0.2.1 d0.2.2 hS_ bdk bdk (QH.ow ho5 rfl)))
 all_goals (first | rfl | (simp [*];done))
set_option maxHeartbeats 1000000 in
theorem QpL (W:World) {v0:Value} {d0:List Qe} (h0:Rd (.sl Ql) (wm W) [v0] d0) (e0:d0.length≤8796093020000):Qi Tryz.prog 120 [v0] W (Qx) (fun v m'=>∃ (s0:Value),v=s0∧Ow (.sl Zt) m' [s0] (d0.foldl Yh [])):=by
 obtain ⟨A0,c0,rfl,l0,k0⟩:=h0.slc
 refine Qi.ofA (n:=42) Tryz.func120 rfl rfl rfl ?_
 refine VC.rs (VO.as (VO.k2 0 2 (VC.rs (VO.as (VO.k3 0 2 3 (VC.seq (VC.rs (VO.as (VO.p1 0 (VO.k4 0 2 3 4 (VC.block ?_)))))))))))
 refine VC.inv ((101,Qx)::_) (fun _ h=>h.nilc 101) ?_
 refine VC.loop (G:=Nat × (List Zj) × (Option Addr) × Nat × Mem) (fun g=>[(3,.slice (g.2.2.1) ((g.2.1).length) ((g.2.2.2.1))),(4,.int .i64 ((((g.1):Nat):Int))),(0,.slice A0 (d0.length) (c0)),(2,.slice none (0) (0))]) (fun g=>[(101,(g.2.2.2.2)),(0,wm W)]) (fun g=>((g.1)≤d0.length)∧((g.2.1)=(d0.take (g.1)).foldl Yh [])∧(QH Zt (g.2.2.2.2) Qx (.slice (g.2.2.1) (g.2.1).length (g.2.2.2.1)) (g.2.1))) (fun g=>d0.length - (g.1)) (0,[],none,0,Qx) (⟨by omega,by rfl,(QH.nil Zt Qx Qx)⟩) ⟨esn,fun _ h=>h.sub [101,0]⟩ ?_
 rintro ⟨k,out,out_A,out_c,out_m⟩ ⟨hk,ho,h_out⟩
 replace hk:k≤d0.length:=hk
 replace ho:out=(d0.take k).foldl Yh []:=ho
 replace h_out:QH Zt out_m Qx (.slice out_A out.length out_c) out:=h_out
 show VC _ _ _ _ _ [(3,.slice out_A (out.length) (out_c)),(4,.int .i64 (((k:Nat):Int))),(0,.slice A0 (d0.length) (c0)),(2,.slice none (0) (0))] [(101,out_m),(0,wm W)]
 have l_out:out.length≤out_c:=by obtain ⟨_,_,he,hl,_⟩:=h_out.slice;simp only [Value.slice.injEq] at he;omega
 have k_out:out_c≤9223372036854775807:=by obtain ⟨_,_,he,_,hl⟩:=h_out.slice;simp only [Value.slice.injEq,maxLen] at he hl;omega
 have hlo:out.length≤k:=by have:=Qk1 (d0.take k) [];rw [ho];simp at this;omega
 refine VC.seq (VC.rs (VO.mv (VO.mv (VO.z (.lenS rfl Jx) (VO.z (.lss rfl rfl) (VO.k5 0 2 3 4 8 ?_))))))
 refine VC.cond rfl (fun hc2=>?_) (fun hc2=>?_)
 refine VC.skip (Qm (VC.seq (VC.block (VC.seq ?_))))
 refine VC.regD _ 14 [(0,true),(1,true),(2,true),(3,true),(4,true),(5,true),(6,true),(7,true),(8,true),(9,true),(10,true),(11,true),(12,true),(13,true)] follows (by kernel_rfl) (fun _ h=>h.sub [101,0]) ?_
 refine VD.z rfl (.mv rfl) (VD.z rfl (.eql rfl rfl) (VD.z rfl (.mv rfl) ?_))
 refine VD.dec (s:=13) rfl (fun hc3=>?_) (fun hc3=>?_)
 · refine VD.gN rfl (VD.gN rfl (VD.gN rfl (VD.gN rfl (VD.gN rfl (VD.gN rfl (VD.gN rfl (VD.gN rfl (VD.gN rfl (VD.gN rfl (VD.gN rfl ?_))))))))))
   refine VD.nil rfl ?_ rfl
   refine VO.gN (VO.z (.pT rfl rfl) (VO.k6 0 2 3 4 8 26 (Qm (VC.condT rfl ?_))))
   refine VC.regD _ 13 [(0,true),(1,true),(2,true),(3,true),(4,true),(5,true),(6,true),(7,true),(8,true),(9,true),(10,true),(11,true),(12,false)] follows (by kernel_rfl) (fun _ h=>h.sub [101,0]) ?_
   refine VD.z rfl (.mv rfl) (VD.z rfl (.mv rfl) (VD.z rfl (.mv rfl) ?_))
   obtain ⟨x4,hx4⟩:∃ z_,(d0)[k]? =some z_:=⟨_,List.getElem?_eq_getElem bd⟩
   obtain ⟨gg4,oo4,ec4,ea4,hce4,hre4⟩:=h0.elem hx4
   cases ea4
   obtain ⟨q4_A2,q4_c2,rfl,q4_0,q4_1,q4_2⟩:=Q4 (x0:=x4.1) (x1:=x4.2.1) (x2:=x4.2.2) hre4
   simp only [inK] at q4_0 q4_1
   have q4_r2:=Rd.room q4_2
   refine VD.z rfl (.ixI k rfl rfl Jx rfl bd) ?_
   refine VD.z rfl (.fa rfl Jq rfl) ?_
   refine VD.z rfl (.ld1 0 rfl tk3 rfl (hce4.at1 (j:=0) rfl)) ?_
   refine VD.z rfl (.mv rfl) (VD.z rfl (.mv rfl) ?_)
   refine VD.z rfl (.ixI k rfl rfl Jx rfl bd) ?_
   refine VD.z rfl (.fa rfl Jq rfl) ?_
   refine VD.z rfl (.ld1 0 rfl tk3 rfl (hce4.at1 (j:=1) rfl)) ?_
   refine VD.z rfl (.bst (cs:=[.int .i64 (x4.1),.int .i64 (x4.2.1)]) rfl QeU Qjf rfl) ?_
   refine VD.bsl (cs:=[.int .i64 (x4.1),.int .i64 (x4.2.1)]) 107 rfl rfl rfl Qah Qjf rfl rfl (fun _ h=>h.sub [101,0]) (fun g6=>?_)
   refine VD.nil rfl ?_ rfl
   obtain ⟨mo8,cs8,hM8,hA8,hC8⟩:=h_out
   refine VO.app 101 rfl rfl rfl Qah Qjf rfl rfl hM8 hA8 (.row 107 _ _ _ 1 1 _ _ Tryz.underlying45 rfl (Qa rfl rfl)) (by simp [Value.oneCell']) bdm bd (by decide) (fun v8 m8 hN8=>?_)
   have ho8:QH Zt m8 Qx v8 (out++[(x4.1,x4.2.1)]):=QH.one hC8 hN8 (QcD (m:=_) x4.1 x4.2.1 bdk bdk)
   obtain ⟨A8,c8,rfl,l8,k8⟩:=ho8.slc
   refine VO.as (VO.p2 101 0 (VO.k6 0 2 3 4 8 26 (JL (Qm ?_))))
   refine VC.reg ?_
   refine VO.mv ?_
   refine VO.z (.add (c:=((k+1:Nat):Int)) rfl rfl Qn ⟨bd,bd⟩) ?_
   refine VO.as (VO.k6 0 2 3 4 8 26 ?_)
   exact Qm ⟨⟨k+1,out++[(x4.1,x4.2.1)],A8,c8,m8⟩,⟨by omega,by first | exact Qfv ho Qn ‹d0[k]? =some _› (by first | assumption | (rw [show k - 1=((k:Int) - 1).toNat from by omega];assumption)) (Decidable.not_not.1 Qo) | exact Qcx ho ‹d0[k]? =some _› (.inl Qn) | exact Qcx ho ‹d0[k]? =some _› (.inr ⟨_,by first | assumption | (rw [show k - 1=((k:Int) - 1).toNat from by omega];assumption),by assumption⟩),ho8⟩,bd,⟨esn,fun _ h=>Inv.sub h [101,0]⟩⟩
 refine VD.w rfl (.mv rfl) (VD.w rfl (.mv rfl) ?_)
 obtain ⟨x9,hx9⟩:∃ z_,(d0)[k]? =some z_:=⟨_,List.getElem?_eq_getElem bd⟩
 obtain ⟨gg9,oo9,ec9,ea9,hce9,hre9⟩:=h0.elem hx9
 cases ea9
 obtain ⟨q9_A2,q9_c2,rfl,q9_0,q9_1,q9_2⟩:=Q4 (x0:=x9.1) (x1:=x9.2.1) (x2:=x9.2.2) hre9
 simp only [inK] at q9_0 q9_1
 have q9_r2:=Rd.room q9_2
 refine VD.w rfl (.ixI k rfl rfl Jx rfl bd) ?_
 refine VD.w rfl (.fa rfl Jq rfl) ?_
 refine VD.w rfl (.ld1 0 rfl tk3 rfl (hce9.at1 (j:=0) rfl)) ?_
 refine VD.w rfl (.mv rfl) (VD.w rfl (.mv rfl) ?_)
 refine VD.w rfl (.sub rfl rfl rfl ⟨bd,bd⟩) ?_
 obtain ⟨x10,hx10⟩:∃ z_,(d0)[(((k:Nat):Int) - 1).toNat]? =some z_:=⟨_,List.getElem?_eq_getElem bd⟩
 obtain ⟨gg10,oo10,ec10,ea10,hce10,hre10⟩:=h0.elem hx10
 cases ea10
 obtain ⟨q10_A2,q10_c2,rfl,q10_0,q10_1,q10_2⟩:=Q4 (x0:=x10.1) (x1:=x10.2.1) (x2:=x10.2.2) hre10
 simp only [inK] at q10_0 q10_1
 have q10_r2:=Rd.room q10_2
 refine VD.w rfl (.ixI ((((k:Nat):Int) - 1).toNat) rfl rfl Jx bd bd) ?_
 refine VD.w rfl (.fa rfl Jq rfl) ?_
 refine VD.w rfl (.ld1 0 rfl tk3 rfl (hce10.at1 (j:=0) rfl)) ?_
 refine VD.nil rfl ?_ rfl
 refine VO.w (.neq rfl rfl) (VO.z (.pF rfl rfl) (VO.k6 0 2 3 4 8 26 (Qm ?_)))
 refine VC.cond rfl (fun hc11=>?_) (fun hc11=>?_)
 refine VC.regD _ 13 [(0,true),(1,true),(2,true),(3,true),(4,true),(5,true),(6,true),(7,true),(8,true),(9,true),(10,true),(11,true),(12,false)] follows (by kernel_rfl) (fun _ h=>h.sub [101,0]) ?_
 refine VD.z rfl (.mv rfl) (VD.z rfl (.mv rfl) (VD.z rfl (.mv rfl) ?_))
 refine VD.z rfl (.ixI k rfl rfl Jx rfl bd) ?_
 refine VD.z rfl (.fa rfl Jq rfl) ?_
 refine VD.z rfl (.ld1 0 rfl tk3 rfl (hce9.at1 (j:=0) rfl)) ?_
 refine VD.z rfl (.mv rfl) (VD.z rfl (.mv rfl) ?_)
 refine VD.z rfl (.ixI k rfl rfl Jx rfl bd) ?_
 refine VD.z rfl (.fa rfl Jq rfl) ?_
 refine VD.z rfl (.ld1 0 rfl tk3 rfl (hce9.at1 (j:=1) rfl)) ?_
 refine VD.z rfl (.bst (cs:=[.int .i64 (x9.1),.int .i64 (x9.2.1)]) rfl QeU Qjf rfl) ?_
 refine VD.bsl (cs:=[.int .i64 (x9.1),.int .i64 (x9.2.1)]) 115 rfl rfl rfl Qah Qjf rfl rfl (fun _ h=>h.sub [101,0]) (fun g14=>?_)
 refine VD.nil rfl ?_ rfl
 obtain ⟨mo16,cs16,hM16,hA16,hC16⟩:=h_out
 refine VO.app 101 rfl rfl rfl Qah Qjf rfl rfl hM16 hA16 (.row 115 _ _ _ 1 1 _ _ Tryz.underlying45 rfl (Qa rfl rfl)) (by simp [Value.oneCell']) bdm bd (by decide) (fun v16 m16 hN16=>?_)
 have ho16:QH Zt m16 Qx v16 (out++[(x9.1,x9.2.1)]):=QH.one hC16 hN16 (QcD (m:=_) x9.1 x9.2.1 bdk bdk)
 obtain ⟨A16,c16,rfl,l16,k16⟩:=ho16.slc
 refine VO.as (VO.p2 101 0 (VO.k6 0 2 3 4 8 26 (JL (Qm ?_))))
 refine VC.reg ?_
 refine VO.mv ?_
 refine VO.z (.add (c:=((k+1:Nat):Int)) rfl rfl Qn ⟨bd,bd⟩) ?_
 refine VO.as (VO.k6 0 2 3 4 8 26 ?_)
 exact Qm ⟨⟨k+1,out++[(x9.1,x9.2.1)],A16,c16,m16⟩,⟨by omega,by first | exact Qfv ho Qn ‹d0[k]? =some _› (by first | assumption | (rw [show k - 1=((k:Int) - 1).toNat from by omega];assumption)) (Decidable.not_not.1 Qo) | exact Qcx ho ‹d0[k]? =some _› (.inl Qn) | exact Qcx ho ‹d0[k]? =some _› (.inr ⟨_,by first | assumption | (rw [show k - 1=((k:Int) - 1).toNat from by omega];assumption),by assumption⟩),ho16⟩,bd,⟨esn,fun _ h=>Inv.sub h [101,0]⟩⟩
 refine VC.skip (JL (Qm ?_))
 refine VC.reg ?_
 refine VO.mv ?_
 refine VO.z (.add (c:=((k+1:Nat):Int)) rfl rfl Qn ⟨bd,bd⟩) ?_
 refine VO.as (VO.p2 101 0 (VO.k6 0 2 3 4 8 26 ?_))
 exact Qm ⟨⟨k+1,out,out_A,out_c,out_m⟩,⟨by omega,by first | exact Qfv ho Qn ‹d0[k]? =some _› (by first | assumption | (rw [show k - 1=((k:Int) - 1).toNat from by omega];assumption)) (Decidable.not_not.1 Qo) | exact Qcx ho ‹d0[k]? =some _› (.inl Qn) | exact Qcx ho ‹d0[k]? =some _› (.inr ⟨_,by first | assumption | (rw [show k - 1=((k:Int) - 1).toNat from by omega];assumption),by assumption⟩),h_out⟩,bd,⟨esn,fun _ h=>Inv.sub h [101,0]⟩⟩
 · refine VC.exit (Zh (Zh (Zi (Qm (VC.rs (VO.mv (VO.as (VO.k5 0 2 3 4 8 (VC.ret ?_)))))))))
   refine Yd 2 [101] fun hS_=>?_
   dsimp only [QE]
   exact ⟨Value.slice out_A (out.length) (out_c),(by first | rfl | (simp [*];done)),(Ow.cg (Ow.up (QH.ow h_out rfl) (hS_.1 _ (.head _))) (by first | rfl | (rw [ho,List.take_of_length_le Qn])))⟩
theorem of8_ok (W:World) {v0:Value} {d0:List Qe} (h0:Rd (.sl Ql) (wm W) [v0] d0) (e0:d0.length≤8796093020000):Qi Tryz.prog 100 [v0] W (Qx) (fun v m'=>∃ (s0:Value),∃ (s1:List Value),v= .tuple #[s0,.agg s1.toArray]∧Ow (.sl Zt) m' [s0] ((sOf d0).1)∧Ow Xm m' s1 ((sOf d0).2)):=by
 obtain ⟨A0,c0,rfl,l0,k0⟩:=h0.slc
 refine Qi.ofA (n:=14) Tryz.func100 rfl rfl rfl ?_
 refine VC.rs (VO.as ?_)
 refine VO.alloc 102 rfl Qft (fun g1=>?_)
 refine VO.k3 0 2 3 (VC.rs (VO.mv ?_))
 refine VO.callN 103 rfl QiV rfl (fun W hW=>Qao W 0 bdk 0 bdk (Rd.mono h0 (hW.t 0))) (fun v3 m3 hv3=>?_)
 obtain ⟨s3_0,rfl,f3_0⟩:=hv3
 obtain ⟨rfl,q3_0_0,q3_0_1⟩:=Yf (x0:=(Qg 0 0 d0).1) (x1:=(Qg 0 0 d0).2) (f3_0.rd (Qc _))
 simp only [inK] at q3_0_0 q3_0_1
 refine VO.alloc 105 rfl Qft (fun g4=>?_)
 refine VO.store (k:=2) (c':=[.int .i64 ((Qg 0 0 d0).1),.int .i64 ((Qg 0 0 d0).2)]) 105 rfl rfl (.inl Qbf) rfl rfl rfl rfl rfl ?_
 refine VO.k4 0 2 3 4 (VC.seq (VC.rs (VO.z (.ldA 105 rfl Qbf rfl (Qa rfl rfl)) ?_)))
 refine VO.z (.bst (cs:=[.int .i64 (0),.int .i64 (0)]) rfl Qa3 Qft rfl) ?_
 refine VO.z (.stneq (p:=((Qg 0 0 d0).1)=0∧((Qg 0 0 d0).2)=0) rfl rfl (Qb8 ((Qg 0 0 d0).1) ((Qg 0 0 d0).2)) (Qb8 0 0) (by simp [ceq,Xy])) ?_
 refine VO.p3 105 102 0 (VO.k5 0 2 3 4 9 ?_)
 refine VC.cond rfl (fun hc6=>?_) (fun hc6=>?_)
 ·refine VC.seq ?_
  refine VC.regD _ 2 [(0,true),(1,true)] follows (by kernel_rfl) (fun _ h=>h.sub [105,102,0]) ?_
  refine VD.z rfl (.ldA 105 rfl Qbf rfl (Qa rfl rfl)) (VD.z rfl (.as rfl) ?_)
  refine VD.nil rfl ?_ rfl
  refine VO.store (k:=2) (c':=[.int .i64 ((Qg 0 0 d0).1),.int .i64 ((Qg 0 0 d0).2)]) 102 rfl rfl (.inl Qbf) rfl rfl rfl rfl rfl ?_
  refine VO.k5 0 2 3 4 9 (Qm (VC.ret (QZ ?_)))
  refine ⟨_,_,Jr (rs:=[.tmp 2,.cell 3 89]) rfl (.tmp rfl (.agg 102 rfl Qbf rfl ⟨_,_,_,QJ _ _,Nat.le_of_ble_eq_true rfl,rfl⟩ .nil)),fun W_ hI=>JZ (l:=[]) hI [] rfl rfl (Qc _) (fun hS_=>?_)⟩
  dsimp only [QE]
  have he0:((sOf d0).1:Ty.Den (.sl Zt))=[]:=by first | rfl | (first | (rw [Qe6 Qo] <;> rfl) | (rw [Qe5 Qo] <;> rfl))
  have he1:((sOf d0).2:Ty.Den Xm)=(Qg 0 0 d0):=by first | rfl | (first | (rw [Qe6 Qo] <;> rfl) | (rw [Qe5 Qo] <;> rfl))
  refine ⟨.slice none (0) (0),[.int .i64 ((Qg 0 0 d0).1),.int .i64 ((Qg 0 0 d0).2)],?_,?_,?_⟩
  rotate_left
  ·rw [he0];exact (Ow.nil _ _)
  ·rw [he1];exact (Ow.of (m:=Qx) rfl (show Rd Xm _ _ (Qg 0 0 d0) from (Xj (m:=_) ((Qg 0 0 d0).1) ((Qg 0 0 d0).2) bdk bdk)))
  all_goals (first | rfl | (simp [*];done))
 ·refine VC.skip (Qm (VC.seq ?_))
  refine VC.regD _ 4 [(0,true),(2,true),(1,false),(3,true)] follows (by kernel_rfl) (fun _ h=>h.sub [105,102,0]) ?_
  refine VD.z rfl (.mv rfl) (VD.z rfl (.ldA 105 rfl Qbf rfl (Qa rfl rfl)) ?_)
  refine VD.callN 107 rfl rfl (.inl rfl) Qqk rfl (fun _ h=>h.sub [105,102,0]) (fun W hW=>QpL W (Rd.mono h0 (hW.t 0)) bd) (fun v7 m7 hv7=>?_)
  obtain ⟨s7_0,rfl,f7_0⟩:=hv7
  obtain ⟨A7_0,c7_0,eq7_0,l7_0,k7_0⟩:=f7_0.slc
  subst eq7_0
  refine VD.z rfl (.as rfl) ?_
  refine VD.nil rfl ?_ rfl
  refine VO.store (k:=2) (c':=[.int .i64 ((Qg 0 0 d0).1),.int .i64 ((Qg 0 0 d0).2)]) 102 rfl rfl (.inl Qbf) rfl rfl rfl rfl rfl ?_
  refine VO.k5 0 2 3 4 9 (Qm (VC.ret ?_))
  refine ⟨_,_,Jr (rs:=[.tmp 2,.cell 3 89]) rfl (.tmp rfl (.agg 102 rfl Qbf rfl ⟨_,_,_,QJ _ _,Nat.le_of_ble_eq_true rfl,rfl⟩ .nil)),fun W_ hI=>JZ (l:=[m7]) hI [107] rfl rfl (Qc _) (fun hS_=>?_)⟩
  dsimp only [QE]
  have he1:((sOf d0).2:Ty.Den Xm)=(Qg 0 0 d0):=by first | rfl | (first | (rw [Qe6 Qo] <;> rfl) | (rw [Qe5 Qo] <;> rfl))
  refine ⟨.slice A7_0 ((d0.foldl Yh []).length) (c7_0),[.int .i64 ((Qg 0 0 d0).1),.int .i64 ((Qg 0 0 d0).2)],?_,?_,?_⟩
  rotate_left
  ·exact Ow.cg (Ow.up f7_0 (hS_.1 _ (.head _))) (by first | rfl | (first | (rw [Qe6 Qo] <;> rfl) | (rw [Qe5 Qo] <;> rfl)))
  ·rw [he1];exact (Ow.of (m:=Qx) rfl (show Rd Xm _ _ (Qg 0 0 d0) from (Xj (m:=_) ((Qg 0 0 d0).1) ((Qg 0 0 d0).2) bdk bdk)))
  all_goals (first | rfl | (simp [*];done))
theorem Qh4 (W:World) {v0:Value} {d0:List Zj} (h0:Rd (.sl Zt) (wm W) [v0] d0) (e0:d0.length≤8796093020000):Qi Tryz.prog 59 [v0] W (Qx) (fun v m'=>∃ (s0:Value),v=s0∧Ow (.sl Zt) m' [s0] (d0)):=by
 obtain ⟨A0,c0,rfl,l0,k0⟩:=h0.slc
 refine Qi.ofA (n:=6) Tryz.func59 rfl rfl rfl ?_
 refine VC.rs (VO.as (VO.k2 0 2 (VC.rs ?_)))
 refine VO.bsl (cs:=[]) 102 rfl rfl Qah Qjf rfl rfl (fun g1=>?_)
 refine VO.mv ?_
 have ho4:QH Zt (QM g1 (.cells [].toArray 87 (0,0))) Qx (Value.slice (some ⟨g1,0,none⟩) (0) (0)) []:=QH.lit 0 Je.nil rfl rfl
 obtain ⟨mo3,cs3,hM3,hA3,hC3⟩:=ho4
 obtain ⟨all3,hS3,hR3⟩:=Rd.srcI (P:=Tryz.prog) (h0) Tryz.underlying45
 refine VO.app 102 rfl rfl rfl Qah Qjf rfl rfl hM3 hA3 (hS3 _ 0 rfl) hR3.nice bdm bd (by decide) (fun v3 m3 hN3=>?_)
 have ho3:QH Zt m3 Qx v3 (d0):=QH.more hC3 hN3 (Je.mono hR3 fun _ _ h=>Rd.flat rfl h _)
 obtain ⟨A3,c3,rfl,l3,k3⟩:=ho3.slc
 refine VO.as (VO.k2 0 2 (VC.ret ?_))
 refine Yd 2 [102] fun hS_=>?_
 dsimp only [QE]
 exact ⟨Value.slice A3 ((d0).length) (c3),(by first | rfl | (simp [*];done)),(Ow.cg (Ow.up (QH.ow ho3 rfl) (hS_.1 _ (.head _))))⟩
section
variable {m : Y3}
end
abbrev DBuf := (List UInt8)
instance decBuf : DecidableEq DBuf := inferInstance
def Qo4 (m : Y3) : Prop := (∀ c ∈ m.2.2.2.2.2.2.2, c.2.2.length ≤ 40) ∧ m.2.2.2.2.1.length ≤ 40 ∧ m.2.2.2.2.2.2.2.length ≤ 40
instance (m : Y3) : Decidable (Qo4 m) := by unfold Qo4; infer_instance
def QpW (s : Zj) : Zj := (-s.1 - 1, s.2)
theorem Qpv:JR Tryz.prog 43=true:=by kernel_rfl
theorem fnOk59:JR Tryz.prog 59=true:=by kernel_rfl
theorem tk45:tk Tryz.prog 45=some none:=by kernel_rfl
theorem Qha:tsl Tryz.prog 47=some (45,1,24):=by kernel_rfl
theorem tz45:tz Tryz.prog 45=some [.slice none 0 0]:=by kernel_rfl
theorem Qq {P:Prop} (h:P:=by first | exact bd | exact e1 _ (List.mem_of_getElem? ‹d1[_]? =some _›)):P:=h
set_option maxHeartbeats 1000000 in
theorem Qgk (W:World) {m0:Mem} (hm:mle (m0) (wm W)) {v0:Value} {d0:List Zj} (h0:Ow (.sl Zt) m0 [v0] d0) {v1:Value} {d1:List (List Zj)} (h1:Rd (.sl (.sl Zt)) (J4 (wm W) (m0)) [v1] d1) (e0:d1.length≤1000) (e1:∀ x∈d1,x.length≤8796093020000):Qi Tryz.prog 13 [v0,v1] W (m0) (fun v m'=>v= .bool true):=by
 obtain ⟨A0,c0,e0_,l0,k0⟩:=h0.slc
 subst e0_
 obtain ⟨A1,c1,rfl,l1,k1⟩:=h1.slc
 refine Qi.ofB (n:=69) hm Tryz.func13 rfl rfl rfl ?_
 refine VC.rs (VO.as (VO.k3 0 1 4 (VC.rs (VO.mv (VO.z (.lenS rfl Qha) ?_)))))
 refine VO.mks (e:=(.sl Zt)) (a:=((d1.length:Nat):Int)) (k:=d1.length) 106 rfl rfl rfl rfl Qha tz45 (y:=[]) (Ow.nil _ Qx) (by simp only [maxLen];(exact Qq)) Qq (by decide) (fun v6 m6 hk6=>?_)
 obtain ⟨A6,c6,rfl,l6,k6⟩:=hk6.slc
 have ln6:(List.replicate d1.length ([]:List Zj)).length=d1.length:=List.length_replicate
 refine VO.as (VO.k4 0 1 4 5 (VC.seq (VC.rs (VO.as (VO.p3 106 0 1 (VO.k5 0 1 4 5 6 (VC.block ?_)))))))
 refine VC.loop (G:=Nat × (List (List Zj)) × Mem) (fun g=>[(5,.slice A6 ((List.replicate d1.length ([]:List Zj)).length) (c6)),(6,.int .i64 ((((g.1):Nat):Int))),(0,.slice A0 (d0.length) (c0)),(1,.slice A1 (d1.length) (c1)),(4,.bool false)]) (fun g=>[(106,(g.2.2)),(0,J4 (wm W) (m0)),(1,m0)]) (fun g=>((g.1)≤d1.length)∧((g.2.1)=d1.take (g.1)++List.replicate (d1.length - (g.1)) [])∧(Ow (.sl (.sl Zt)) (g.2.2) [.slice A6 ((List.replicate d1.length ([]:List Zj)).length) (c6)] (g.2.1))) (fun g=>d1.length - (g.1)) (0,List.replicate d1.length ([]:List Zj),m6) (⟨by omega,by simp,hk6⟩) ⟨esn,fun _ h=>h.sub [106,0,1]⟩ ?_
 rintro ⟨i,was,was_m⟩ ⟨hi,hw,h_was⟩
 replace hi:i≤d1.length:=hi
 replace hw:was=d1.take i++List.replicate (d1.length - i) []:=hw
 replace h_was:Ow (.sl (.sl Zt)) was_m [.slice A6 ((List.replicate d1.length ([]:List Zj)).length) (c6)] was:=h_was
 show VC _ _ _ _ _ [(5,.slice A6 ((List.replicate d1.length ([]:List Zj)).length) (c6)),(6,.int .i64 (((i:Nat):Int))),(0,.slice A0 (d0.length) (c0)),(1,.slice A1 (d1.length) (c1)),(4,.bool false)] [(106,was_m),(0,J4 (wm W) (m0)),(1,m0)]
 have ll_was:=JA h_was
 refine VC.seq (VC.rs (VO.mv (VO.mv (VO.z (.lenS rfl Qha) (VO.z (.lss rfl rfl) (VO.k6 0 1 4 5 6 16 ?_))))))
 refine VC.cond rfl (fun hc7=>?_) (fun hc7=>?_)
 · refine VC.skip (Qm (VC.seq (VC.block ?_)))
   refine VC.reg ?_
   refine VO.mv (VO.mv (VO.mv (VO.mv ?_)))
   obtain ⟨x8,hx8⟩:∃ z_,(d1)[i]? =some z_:=⟨_,List.getElem?_eq_getElem Qq⟩
   obtain ⟨gg8,oo8,ec8,ea8,hce8,hre8⟩:=h1.elem hx8
   cases ea8
   have hr8:=hre8
   obtain ⟨A8_,c8_,rfl,_⟩:=hre8
   have rr8:=Rd.room hr8
   refine VO.z (.ixI i rfl rfl Qha rfl Qq) ?_
   refine VO.z (.ld1 0 rfl tk45 rfl hce8) ?_
   refine VO.callN 109 rfl fnOk59 rfl (fun W hW=>Qh4 W (Rd.mono hr8 (hW.t 0)) Qq) (fun v9 m9 hv9=>?_)
   obtain ⟨s9_0,rfl,f9_0⟩:=hv9
   obtain ⟨A9_0,c9_0,eq9_0,l9_0,k9_0⟩:=f9_0.slc
   subst eq9_0
   obtain ⟨x10,hx10⟩:∃ z_,(was)[i]? =some z_:=⟨_,List.getElem?_eq_getElem Qq⟩
   obtain ⟨gg10,oo10,ec10,ea10,hce10,hre10⟩:=(Ow.rd h_was (Qc _)).elem hx10
   cases ea10
   have hr10:=hre10
   obtain ⟨A10_,c10_,rfl,_⟩:=hre10
   have rr10:=Rd.room hr10
   refine VO.z (.ixI i rfl rfl Qha rfl Qq) ?_
   refine VO.setE (e:=(.sl Zt)) (k:=1) (i:=i) 106 109 rfl rfl (.inr ⟨tk45,rfl⟩) rfl rfl rfl rfl h_was rfl hx10 (x':=x8) (Ow.up f9_0 ((QA.one (Qc _)).1 _ (.head _))) (fun mu11 hu11=>?_)
   have hl11:=JA hu11
   refine VO.k6 0 1 4 5 6 16 (JL (Qm ?_))
   refine VC.reg ?_
   refine VO.mv ?_
   refine VO.z (.add (c:=((i+1:Nat):Int)) rfl rfl Qn ⟨by exact Qq,by exact Qq⟩) ?_
   refine VO.as (VO.p3 106 0 1 (VO.k6 0 1 4 5 6 16 ?_))
   exact Qm ⟨⟨i+1,(was).set i x8,mu11⟩,⟨by omega,by exact QfV hw ‹d1[i]? =some _›,hu11⟩,by exact Qq,⟨esn,fun _ h=>Inv.sub h [106,0,1]⟩⟩
 refine VC.exit (Zh (Zh (Zi (Qm (VC.seq (VC.rs (VO.as (VO.k7 0 1 4 5 6 7 16 (VC.block ?_)))))))))
 refine VC.loop (G:=Nat × (List Zj) × Mem) (fun g=>[(0,.slice A0 (d0.length) (c0)),(7,.int .i64 ((((g.1):Nat):Int))),(1,.slice A1 (d1.length) (c1)),(4,.bool false),(5,.slice A6 ((List.replicate d1.length ([]:List Zj)).length) (c6)),(6,.int .i64 (((i:Nat):Int))),(16,.bool (decide (((i:Nat):Int) < ((d1.length:Nat):Int))))]) (fun g=>[(106,was_m),(0,J4 (wm W) (m0)),(1,(g.2.2))]) (fun g=>((g.1)≤d0.length)∧((g.2.1)=(d0.take (g.1)).map QpW++d0.drop (g.1))∧(QH Zt (g.2.2) Qx (.slice A0 (d0.length) (c0)) (g.2.1))) (fun g=>d0.length - (g.1)) (0,d0,m0) (⟨by omega,by simp,(Ow.ownl h0 rfl Qx)⟩) ⟨esn,fun _ h=>h.sub [106,0,1]⟩ ?_
 rintro ⟨k,l,l_m⟩ ⟨hk,hl,h_l⟩
 replace hk:k≤d0.length:=hk
 replace hl:l=(d0.take k).map QpW++d0.drop k:=hl
 replace h_l:QH Zt l_m Qx (.slice A0 (d0.length) (c0)) l:=h_l
 show VC _ _ _ _ _ [(0,.slice A0 (d0.length) (c0)),(7,.int .i64 (((k:Nat):Int))),(1,.slice A1 (d1.length) (c1)),(4,.bool false),(5,.slice A6 ((List.replicate d1.length ([]:List Zj)).length) (c6)),(6,.int .i64 (((i:Nat):Int))),(16,.bool (decide (((i:Nat):Int) < ((d1.length:Nat):Int))))] [(106,was_m),(0,J4 (wm W) (m0)),(1,l_m)]
 have ll_l:=JA (QH.ow h_l rfl)
 refine VC.seq (VC.rs (VO.mv (VO.mv (VO.z (.lenS rfl Qah) (VO.z (.lss rfl rfl) (VO.p3 106 0 1 (VO.k8 0 1 4 5 6 7 16 30 ?_)))))))
 refine VC.cond rfl (fun hc12=>?_) (fun hc12=>?_)
 · refine VC.skip (Qm (VC.seq (VC.block ?_)))
   refine VC.reg ?_
   refine VO.mv (VO.mv (VO.mv (VO.mv ?_)))
   obtain ⟨x13,hx13⟩:∃ z_,(l)[k]? =some z_:=⟨_,List.getElem?_eq_getElem Qq⟩
   obtain ⟨gg13,oo13,ec13,ea13,hce13,hre13⟩:=h_l.elem hx13
   cases ea13
   obtain ⟨rfl,q13_0,q13_1⟩:=Qbx (x0:=x13.1) (x1:=x13.2) hre13
   simp only [inK] at q13_0 q13_1
   refine VO.z (.ixI k rfl rfl Qah rfl Qq) ?_
   refine VO.z (.fa rfl QeU rfl) ?_
   refine VO.z (.ld1 1 rfl tk3 rfl (hce13.at1 (j:=0) rfl)) ?_
   refine VO.z (.cpl rfl ⟨by exact Qq,by exact Qq⟩) ?_
   refine VO.z (.ixI k rfl rfl Qah rfl Qq) ?_
   refine VO.z (.fa rfl QeU rfl) ?_
   refine VO.upd (e:=Zt) (k:=1) (i:=k) (x':=(-x13.1 - 1,x13.2)) 1 0 rfl rfl (.inr ⟨tk3,rfl⟩) rfl rfl rfl (QH.ow h_l rfl) rfl hx13 rfl (fun mi ec he=>by obtain ⟨rfl,z0,z1⟩:=Qbx (x0:=x13.1) (x1:=x13.2) (he.rd (Qc _));exact Ow.of (m:=Qx) rfl (QcD (-x13.1 - 1) x13.2 (by simp only [inK];(exact Qq)) z1)) (fun mu15 hu15=>?_)
   have hl15:=JA hu15
   refine VO.k8 0 1 4 5 6 7 16 30 (JL (Qm ?_))
   refine VC.reg ?_
   refine VO.mv ?_
   refine VO.z (.add (c:=((k+1:Nat):Int)) rfl rfl Qn ⟨by exact Qq,by exact Qq⟩) ?_
   refine VO.as (VO.k8 0 1 4 5 6 7 16 30 ?_)
   exact Qm ⟨⟨k+1,(l).set k (-x13.1 - 1,x13.2),mu15⟩,⟨by omega,by exact (X8 (f:=QpW) hl ‹l[k]? =some _›).2,(Ow.ownl hu15 rfl Qx)⟩,by exact Qq,⟨esn,fun _ h=>Inv.sub h [106,0,1]⟩⟩
 refine VC.exit (Zh (Zh (Zi (Qm (VC.seq (VC.rs (VO.mv (VO.z (.capS rfl Qah) (VO.as (VO.k9 0 1 4 5 6 7 8 16 30 (VC.block ?_)))))))))))
 refine VC.loop (G:=(List Zj) × Mem × Nat) (fun g=>[(0,.slice A0 ((g.2.2)) (c0)),(1,.slice A1 (d1.length) (c1)),(4,.bool false),(5,.slice A6 ((List.replicate d1.length ([]:List Zj)).length) (c6)),(6,.int .i64 (((i:Nat):Int))),(7,.int .i64 (((k:Nat):Int))),(8,.int .i64 (((c0:Nat):Int))),(16,.bool (decide (((i:Nat):Int) < ((d1.length:Nat):Int)))),(30,.bool (decide (((k:Nat):Int) < ((d0.length:Nat):Int))))]) (fun g=>[(106,was_m),(0,J4 (wm W) (m0)),(1,(g.2.1))]) (fun g=>((g.2.2)≤c0)∧(QH Zt (g.2.1) Qx (.slice A0 ((g.2.2)) (c0)) (g.1))) (fun g=>c0 - (g.2.2)) (l,l_m,d0.length) (⟨by omega,h_l⟩) ⟨esn,fun _ h=>h.sub [106,0,1]⟩ ?_
 rintro ⟨l2,l2_m,l2_n⟩ ⟨hc,h_l2⟩
 replace hc:l2_n≤c0:=hc
 replace h_l2:QH Zt l2_m Qx (.slice A0 (l2_n) (c0)) l2:=h_l2
 show VC _ _ _ _ _ [(0,.slice A0 (l2_n) (c0)),(1,.slice A1 (d1.length) (c1)),(4,.bool false),(5,.slice A6 ((List.replicate d1.length ([]:List Zj)).length) (c6)),(6,.int .i64 (((i:Nat):Int))),(7,.int .i64 (((k:Nat):Int))),(8,.int .i64 (((c0:Nat):Int))),(16,.bool (decide (((i:Nat):Int) < ((d1.length:Nat):Int)))),(30,.bool (decide (((k:Nat):Int) < ((d0.length:Nat):Int))))] [(106,was_m),(0,J4 (wm W) (m0)),(1,l2_m)]
 have ll_l2:=JA (QH.ow h_l2 rfl)
 refine VC.seq (VC.rs (VO.mv (VO.z (.lenS rfl Qah) (VO.mv (VO.z (.lss rfl rfl) (VO.k10 0 1 4 5 6 7 8 16 30 48 ?_))))))
 refine VC.cond rfl (fun hc16=>?_) (fun hc16=>?_)
 refine VC.skip (Qm (VC.block ?_))
 refine VC.reg ?_
 refine VO.mv ?_
 refine VO.z (.bst (cs:=[.int .i64 (55),.int .i64 (0)]) rfl QeU Qjf rfl) ?_
 refine VO.bsl (cs:=[.int .i64 (55),.int .i64 (0)]) 118 rfl rfl Qah Qjf rfl rfl (fun g17=>?_)
 refine VO.inv ((120,Qx)::_) (fun _ h=>h.nilc 120) ?_
 have hxl19:=JA (QH.ow h_l2 rfl)
 refine VO.appI (e:=Zt) (xs:=l2) (cap:=c0) (A:=A0) (l:=l2_n) 1 120 118 rfl rfl rfl Qah rfl rfl rfl (QH.ow h_l2 rfl) (Ow.of (m:=Qx) rfl (QcD (m:=_) 55 0 (by simp only [inK];(exact Qq)) (by simp only [inK];(exact Qq)))) Tryz.underlying45 (Qa rfl rfl) Qq (fun m19 ho19=>?_)
 refine VO.as (VO.p3 1 106 0 (VO.k10 0 1 4 5 6 7 8 16 30 48 (JL ?_)))
 exact Qm ⟨⟨l2++[(55,0)],m19,l2_n+1⟩,⟨by dsimp only;omega,(Ow.ownl ho19 rfl Qx)⟩,by (dsimp only;omega),⟨esn,fun _ h=>Inv.sub h [106,0,1]⟩⟩
 refine VC.exit (Zh (Zh (Zi (Qm (VC.seq (VC.rs (VO.as (VO.p3 106 0 1 (VO.k11 0 1 4 5 6 7 8 9 16 30 48 (VC.block ?_))))))))))
 refine VC.loop (G:=Nat) (fun p=>[(9,.int .i64 (((p:Nat):Int))),(0,.slice A0 (l2_n) (c0)),(1,.slice A1 (d1.length) (c1)),(5,.slice A6 ((List.replicate d1.length ([]:List Zj)).length) (c6)),(6,.int .i64 (((i:Nat):Int))),(7,.int .i64 (((k:Nat):Int))),(8,.int .i64 (((c0:Nat):Int))),(16,.bool (decide (((i:Nat):Int) < ((d1.length:Nat):Int)))),(30,.bool (decide (((k:Nat):Int) < ((d0.length:Nat):Int)))),(48,.bool (decide (((l2_n:Nat):Int) < ((c0:Nat):Int))))]) (fun p=>[(106,was_m),(0,J4 (wm W) (m0)),(1,l2_m)]) (fun p=>(was=d1)∧(p≤d1.length)) (fun p=>d1.length - p) 0 (⟨by exact QhJ hw Qn,by omega⟩) ⟨esn,fun _ h=>h.sub [106,0,1]⟩ ?_
 rintro p ⟨hw2,hp⟩
 refine VC.seq (VC.rs (VO.mv (VO.mv (VO.z (.lenS rfl Qha) (VO.z (.lss rfl rfl) (VO.k11 0 1 5 6 7 8 9 16 30 48 56 ?_))))))
 refine VC.cond rfl (fun hc21=>?_) (fun hc21=>?_)
 refine VC.skip (Qm (VC.seq (VC.block (VC.seq ?_))))
 refine VC.regD _ 8 [(0,true),(1,true),(2,true),(3,true),(4,true),(5,true),(6,true),(7,true)] follows (by kernel_rfl) (fun _ h=>h.sub [106,0,1]) ?_
 refine VD.z rfl (.mv rfl) (VD.z rfl (.mv rfl) ?_)
 obtain ⟨x22,hx22⟩:∃ z_,(d1)[p]? =some z_:=⟨_,List.getElem?_eq_getElem Qq⟩
 obtain ⟨gg22,oo22,ec22,ea22,hce22,hre22⟩:=h1.elem hx22
 cases ea22
 have hr22:=hre22
 obtain ⟨A22_,c22_,rfl,_⟩:=hre22
 have rr22:=Rd.room hr22
 refine VD.z rfl (.ixI p rfl rfl Qha rfl Qq) ?_
 refine VD.z rfl (.ld1 0 rfl tk45 rfl hce22) ?_
 refine VD.z rfl (.mv rfl) (VD.z rfl (.mv rfl) ?_)
 obtain ⟨x23,hx23⟩:∃ z_,(was)[p]? =some z_:=⟨_,List.getElem?_eq_getElem Qq⟩
 obtain ⟨gg23,oo23,ec23,ea23,hce23,hre23⟩:=(Ow.rd h_was (Qc _)).elem hx23
 cases ea23
 have hr23:=hre23
 obtain ⟨A23_,c23_,rfl,_⟩:=hre23
 have rr23:=Rd.room hr23
 refine VD.z rfl (.ixI p rfl rfl Qha rfl Qq) ?_
 refine VD.z rfl (.ld1 106 rfl tk45 rfl hce23) ?_
 refine VD.nil rfl ?_ rfl
 refine VO.callN 124 rfl Qpv rfl (fun W hW=>QdY W (Rd.mono hr22 (hW.t 0)) (Rd.mono hr23 (hW.t 106))) (fun v24 m24 hv24=>?_)
 subst hv24
 refine VO.z (.notD rfl) (VO.k12 0 1 5 6 7 8 9 16 30 48 56 68 (Qm ?_))
 refine VC.cond rfl (fun hc25=>?_) (fun hc25=>?_)
 exact absurd (by have h_:=‹was[p]? =some _›;rw [hw2] at h_;exact Option.some.inj (‹d1[p]? =some _›.symm.trans h_)) hc25
 refine VC.skip (JL (Qm ?_))
 refine VC.reg ?_
 refine VO.mv ?_
 refine VO.z (.add (c:=((p+1:Nat):Int)) rfl rfl Qn ⟨by exact Qq,by exact Qq⟩) ?_
 refine VO.as (VO.p3 106 0 1 (VO.k12 0 1 5 6 7 8 9 16 30 48 56 68 ?_))
 exact Qm ⟨p+1,⟨by exact hw2,by omega⟩,by exact Qq,⟨esn,fun _ h=>Inv.sub h [106,0,1]⟩⟩
 · refine VC.exit (Zh (Zh (Zi (Qm (VC.rs (VO.as (VO.k12 0 1 4 5 6 7 8 9 16 30 48 56 (VC.ret ?_))))))))
   exact Xl 4 rfl (by first | rfl | (simp [*];done))
abbrev WAct := QbF
def Qgz (l : List WAct) : Prop := (∀ a ∈ l, a.2.2.2.2.2.length ≤ 60) ∧ l.length ≤ 60
instance (l : List WAct) : Decidable (Qgz l) := by unfold Qgz; infer_instance
def Qms (l f : List Qe) : Prop := f.length ≤ l.length ∧ l.take f.length = f
instance (l f : List Qe) : Decidable (Qms l f) := by unfold Qms; infer_instance
section
variable {B : Qr} {l : List Qe} {a ep nn : Int}
theorem QjN (h1:¬ ¬ (Qw B).2.2=0) (h2:¬ ¬ (Qf (Qw B).1).2=0) (he:ep=Qv 0 l) (hn:nn=l.length) (h3:¬ ¬ ((Qg ep nn [(Qf (Qw B).1).1]).1=0∧(Qg ep nn [(Qf (Qw B).1).1]).2=0)):QbS (Qv 0 l) l.length B:=
 ⟨Decidable.not_not.1 h1,Decidable.not_not.1 h2,by rw [← he,← hn];exact (Decidable.not_not.1 h3).1⟩
theorem Qo9 (he:ep=Qv 0 l) (hn:nn=l.length) (h3:¬ ((Qg ep nn [(Qf (Qw B).1).1]).1=0∧(Qg ep nn [(Qf (Qw B).1).1]).2=0)):¬ QbS (Qv 0 l) l.length B:=
 fun h=>Qph h3 (by rw [he,hn];exact h.2.2)
theorem Qov (h:QbS (Qv 0 l) l.length B):(Qf (Qw B).1).1.2.1=((l++[(Qf (Qw B).1).1]).length:Int):=by
 have:=(QjU h.2.2).2.1
 rw [this];simp
theorem QfL (h:okL l):∀ c∈l,c.2.2.length≤3518437208800∧∀ o∈c.2.2,o.2.1.length≤140737488400000:=by
 intro c hc
 have h5:=(Yq (Qhq h c hc)).2.2.2.2
 exact ⟨by have:=QaF h5;omega,fun o ho=>by have:=(JJ h5 ho).2.1;omega⟩
def fr1 : Qr := [9, 1, 1, 1, 1, 0, 1, 97, 1, 49]
def fr2 : Qr := [9, 1, 2, 1, 1, 0, 1, 97, 1, 49]
theorem Qnk:Y2 (ofC 1 1)=fr1:=by simp [Y2,Qgh,QeY,ofC,fr1,JQ,Y1,QcQ,QI,QaM]
theorem Qpg:Y2 (ofC 1 2)=fr2:=by simp [Y2,Qgh,QeY,ofC,fr2,JQ,Y1,QcQ,QI,QaM]
def Qpc : QY := (true, false, false, 0, 1, ([], [], [], []), [(0, 0, fr1, 0)])
def lvD2 : QY := (true, false, false, 0, 2, ([], [], [], []), [(0, 0, fr1, 0), (0, 0, fr2, 0)])
theorem lv0:Qp Qz=(Qz,0):=by decide+kernel
theorem Qbb:(Jc Qz).1=[]:=by decide+kernel
theorem lv1:QK Qz false [] (ofC 1 1)=((Qpc,false,[ofC 1 1]),0):=by
 rw [Qlj (by decide) (by decide) (by decide),Qnk];decide+kernel
theorem lv3:QK Qpc false [ofC 1 1] (ofC 1 3)=((Qpc,false,[ofC 1 1]),15):=by decide+kernel
theorem lv2:QK Qpc false [ofC 1 1] (ofC 1 2)=((lvD2,false,[ofC 1 1,ofC 1 2]),0):=by
 rw [Qlj (by decide) (by decide) (by decide),Qpg];decide+kernel
theorem lvw:Qa4 (JK [ofC 1 1,ofC 1 2])=20:=by
 rw [Z0];simp [Jo,Qnk,Qpg,fr1,fr2]
theorem lvp:(Z4 lvD2).2=0:=by decide+kernel
theorem lvs:(Za (Z4 lvD2).1 1 4).2=0:=by decide+kernel
theorem lvo:(Qp (Za (Z4 lvD2).1 1 4).1).2=0:=by decide+kernel
theorem lvl:(Jc (Za (Z4 lvD2).1 1 4).1).1=[ofC 1 1]:=by decide+kernel
theorem Qbh:Qa4 (JK [ofC 1 1])=10:=by rw [Z0];simp [Jo,Qnk,fr1]
theorem Qbk:X6 Qpc false [ofC 1 1] 2=((Qpc,false,[ofC 1 1]),2):=by decide+kernel
theorem Yr:(X6 Qpc false [ofC 1 1] 0).2=0∧(X6 Qpc false [ofC 1 1] 0).1.2.2=[]:=by decide+kernel
theorem Qbj:Y0 [9,1,2,1,1,0,1,97,1,49]=([],0):=by decide+kernel
theorem Qbi:Y0 [9,1,1,1,1,0,1,97,1,49,3]=([ofC 1 1],10):=by decide+kernel
end
theorem Qqo:JR Tryz.prog 114=true:=by kernel_rfl
theorem Qqn:JR Tryz.prog 115=true:=by kernel_rfl
theorem Qi0:JR Tryz.prog 15=true:=by kernel_rfl
theorem QiZ:JR Tryz.prog 16=true:=by kernel_rfl
theorem Qnx:JR Tryz.prog 17=true:=by kernel_rfl
theorem Qnw:JR Tryz.prog 18=true:=by kernel_rfl
theorem QpA:JR Tryz.prog 19=true:=by kernel_rfl
theorem Qpz:JR Tryz.prog 20=true:=by kernel_rfl
theorem Qpy:JR Tryz.prog 24=true:=by kernel_rfl
theorem fnOk6:JR Tryz.prog 6=true:=by kernel_rfl
theorem Qmw:tsl Tryz.prog 22=some (39,6,64):=by kernel_rfl
theorem QbG:tst Tryz.prog 39=some [(0,1),(1,1),(2,1),(3,3)]:=by kernel_rfl
theorem YA {P:Prop} (h:P:=by first | exact congrArg Prod.fst (ZI hl (QcY (by assumption))) | (rw [ZI hl (QcY (by assumption))];done) | exact congrArg Prod.fst (ZI hl (QkQ (by assumption))) | (rw [ZI hl (QkQ (by assumption))];done) | exact congrArg Prod.fst (ZI hl (Qo9 hep hnn (by assumption))) | (rw [ZI hl (Qo9 hep hnn (by assumption))];done)):P:=h
set_option maxHeartbeats 4000000 in
theorem QgY (W:World) {v0:Value} {d0:List UInt8} (h0:Rd (.sl .byte) (wm W) [v0] d0) (e0:d0.length≤140737488355000):Qi Tryz.prog 77 [v0] W (Qx) (fun v m'=>∃ (s0:Value),v= .tuple #[s0,.int .i64 ((Y0 d0).2)]∧Ow (.sl Ql) m' [s0] ((Y0 d0).1)):=by
 obtain ⟨A0,c0,rfl,l0,k0⟩:=h0.slc
 refine Qi.ofA (n:=53) Tryz.func77 rfl rfl rfl ?_
 refine VC.rs (VO.as (VO.as (VO.k3 0 2 3 (VC.rs (VO.as (VO.k4 0 2 3 4 (VC.rs (VO.as (VO.p1 0 (VO.k5 0 2 3 4 5 (VC.rs ?_)))))))))))
 refine VO.as (VO.as (VO.k7 0 2 3 4 5 6 7 (VC.block ?_)))
 refine VC.inv ((101,Qx)::_) (fun _ h=>h.nilc 101) ?_
 refine VC.loop (G:=(List Qe) × (Option Addr) × Nat × Mem × Int × Int × Int) (fun g=>[(4,.slice (g.2.1) ((g.1).length) ((g.2.2.1))),(5,.int .i64 ((g.2.2.2.2.1))),(6,.int .i64 ((g.2.2.2.2.2.1))),(7,.int .i64 ((g.2.2.2.2.2.2))),(0,.slice A0 (d0.length) (c0))]) (fun g=>[(101,(g.2.2.2.1)),(0,wm W)]) (fun g=>(QfP d0 (g.1) (g.2.2.2.2.1))∧((g.2.2.2.2.2.1)=Qv 0 (g.1))∧((g.2.2.2.2.2.2)=(g.1).length)∧(Ow (.sl Ql) (g.2.2.2.1) [.slice (g.2.1) (g.1).length (g.2.2.1)] (g.1))) (fun g=>((d0.length:Int) - (g.2.2.2.2.1)).toNat) ([],none,0,Qx,0,0,0) (⟨by exact Qna d0,by rfl,by rfl,(Ow.nil Ql Qx)⟩) ⟨esn,fun _ h=>h.sub [101,0]⟩ ?_
 rintro ⟨l,l_A,l_c,l_m,at_,ep,nn⟩ ⟨hl,hep,hnn,h_l⟩
 replace hl:QfP d0 l at_:=hl
 replace hep:ep=Qv 0 l:=hep
 replace hnn:nn=l.length:=hnn
 replace h_l:Ow (.sl Ql) l_m [.slice l_A l.length l_c] l:=h_l
 show VC _ _ _ _ _ [(4,.slice l_A (l.length) (l_c)),(5,.int .i64 (at_)),(6,.int .i64 (ep)),(7,.int .i64 (nn)),(0,.slice A0 (d0.length) (c0))] [(101,l_m),(0,wm W)]
 have l_l:l.length≤l_c:=by obtain ⟨_,_,he,hl,_⟩:=h_l.slice;simp only [Value.slice.injEq] at he;omega
 have k_l:l_c≤9223372036854775807:=by obtain ⟨_,_,he,_,hl⟩:=h_l.slice;simp only [Value.slice.injEq,maxLen] at he hl;omega
 have hat1:=hl.2.1;have hat0:0≤at_:=by have h_:=hl.1;omega
 have hrb:=Xa (d0.drop at_.toNat)
 have hll:=QiJ hl
 have hlr:=Y6 hl.2.2.1;rw [← hep] at hlr
 refine VC.block (VC.rs (VO.mv (VO.mv ?_)))
 obtain ⟨A2,hA2,hs2⟩:=h0.drop 1 ((at_).toNat) rfl bd
 refine VO.z (.slLI ((at_).toNat) A2 rfl rfl Ji bd hA2 bd) ?_
 refine VO.callN 103 rfl Qqo rfl (fun W hW=>QnI W (Rd.mono hs2 (hW.t 0))) (fun v3 m3 hv3=>?_)
 obtain ⟨s3_0,rfl,f3_0⟩:=hv3
 have hfa4:=Xa (d0.drop ((at_).toNat))
 obtain ⟨A3_0,c3_0,eq3_0,l3_0,k3_0⟩:=f3_0.slc
 subst eq3_0
 refine VO.mv (VO.z (.ext rfl rfl) (VO.z (.ext rfl rfl) (VO.z (.ext rfl rfl) (VO.as (VO.as (VO.as (VO.k8 0 4 5 6 7 8 9 10 (VC.seq (VC.rs (VO.mv (VO.z (.neq rfl rfl) ?_)))))))))))
 refine VO.p3 103 101 0 (VO.k9 0 4 5 6 7 8 9 10 21 ?_)
 refine VC.cond rfl (fun hc5=>?_) (fun hc5=>?_)
 refine VC.rs (VO.mv (VO.mv (VO.as (VO.as (VO.k11 0 2 3 4 5 6 7 8 9 10 21 (VC.ret (QZ (JO (QZ (JO ?_))))))))))
 refine Qef 2 3 [101] fun hS_=>?_
 dsimp only [QE]
 exact ⟨Value.slice l_A (l.length) (l_c),(by first | rfl | exact YA),(Ow.cg (Ow.up h_l (hS_.1 _ (.head _))) (by first | rfl | exact YA))⟩
 refine VC.skip (Qm (VC.rs (VO.mv ?_)))
 refine VO.callN 106 rfl Qqn rfl (fun W hW=>Qkf W (Ow.rd f3_0 (hW.t 103))) (fun v6 m6 hv6=>?_)
 obtain ⟨s6_0,rfl,f6_0⟩:=hv6
 have hfa7:=QeR ((Qw (d0.drop ((at_).toNat))).1)
 obtain ⟨q6_0_A2,q6_0_c2,q6_0_n2,rfl,q6_0_S,q6_0_0,q6_0_1,q6_0_2⟩:=ZE (x0:=((Qf ((Qw (d0.drop ((at_).toNat))).1)).1).1) (x1:=((Qf ((Qw (d0.drop ((at_).toNat))).1)).1).2.1) (x2:=((Qf ((Qw (d0.drop ((at_).toNat))).1)).1).2.2) f6_0
 simp only [inK] at q6_0_0 q6_0_1
 have q6_0_r2:=q6_0_2.rm
 refine VO.inv _ (fun _ h=>h.parts (i:=106) rfl q6_0_S [108]) ?_
 refine VO.mv (VO.z (.ext rfl rfl) (VO.z (.ext rfl rfl) ?_))
 refine VO.alloc 110 rfl XA (fun g9=>?_)
 refine VO.store (k:=3) (c':=[.int .i64 (((Qf ((Qw (d0.drop ((at_).toNat))).1)).1).1),.int .i64 (((Qf ((Qw (d0.drop ((at_).toNat))).1)).1).2.1),.slice q6_0_A2 ((((Qf ((Qw (d0.drop ((at_).toNat))).1)).1).2.2).length) (q6_0_c2)]) 110 rfl rfl (.inl Yv) rfl rfl rfl rfl rfl ?_
 refine VO.as (VO.k10 0 4 5 6 7 8 9 10 11 21 (VC.seq (VC.rs (VO.mv (VO.z (.neq rfl rfl) (VO.mv ?_))))))
 refine VO.dec (t:=31) rfl (fun hc11=>?_) (fun hc11=>?_)
 refine VO.gN (VO.gN (VO.gN (VO.gN (VO.gN (VO.gN (VO.gN (VO.z (.pT rfl rfl) (VO.k11 0 4 5 6 7 8 9 10 11 21 39 (VC.condT rfl (VC.rs (VO.mv ?_)))))))))))
 refine VO.mv (VO.as (VO.as (VO.p5 110 108 103 101 0 (VO.nil (VC.ret (QZ (JO (QZ (JO ?_)))))))))
 refine Qef 2 3 [101] fun hS_=>?_
 dsimp only [QE]
 exact ⟨Value.slice l_A (l.length) (l_c),(by first | rfl | exact YA),(Ow.cg (Ow.up h_l (hS_.1 _ (.head _))) (by first | rfl | exact YA))⟩
 refine VO.w (.mv rfl) (VO.w (.mv rfl) (VO.w (.ldA 110 rfl Yv rfl (Qa rfl rfl)) ?_))
 refine VO.gbsl (cs:=[Value.int .i64 (((Qf ((Qw (d0.drop ((at_).toNat))).1)).1).1),Value.int .i64 (((Qf ((Qw (d0.drop ((at_).toNat))).1)).1).2.1),Value.slice q6_0_A2 ((((Qf ((Qw (d0.drop ((at_).toNat))).1)).1).2.2).length) (q6_0_c2)]) 113 rfl ⟨_,rfl,rfl⟩ rfl Jx XA rfl rfl (fun g12=>?_)
 refine VO.gather (l:=[QM g12 (.cells [Value.int .i64 (((Qf ((Qw (d0.drop ((at_).toNat))).1)).1).1),Value.int .i64 (((Qf ((Qw (d0.drop ((at_).toNat))).1)).1).2.1),Value.slice q6_0_A2 ((((Qf ((Qw (d0.drop ((at_).toNat))).1)).1).2.2).length) (q6_0_c2)].toArray 37 (0,0)),q6_0_n2]) 116 [113,108] rfl (fun hg15=>?_)
 have ho15:Ow (.sl Ql) (Zc [QM g12 (.cells [Value.int .i64 (((Qf ((Qw (d0.drop ((at_).toNat))).1)).1).1),Value.int .i64 (((Qf ((Qw (d0.drop ((at_).toNat))).1)).1).2.1),Value.slice q6_0_A2 ((((Qf ((Qw (d0.drop ((at_).toNat))).1)).1).2.2).length) (q6_0_c2)].toArray 37 (0,0)),q6_0_n2]) [Value.slice (some ⟨g12,0,none⟩) (1) (1)] [((Qf ((Qw (d0.drop ((at_).toNat))).1)).1)]:=Ow.lit 1 (QA.grp1 (ls:=[[q6_0_n2]]) hg15) (Qg2.cons (m:=Zc [q6_0_n2]) (c1:=[Value.int .i64 (((Qf ((Qw (d0.drop ((at_).toNat))).1)).1).1),Value.int .i64 (((Qf ((Qw (d0.drop ((at_).toNat))).1)).1).2.1),Value.slice q6_0_A2 ((((Qf ((Qw (d0.drop ((at_).toNat))).1)).1).2.2).length) (q6_0_c2)]) (show Ow Ql _ _ ((Qf ((Qw (d0.drop ((at_).toNat))).1)).1) from (Jt (((Qf ((Qw (d0.drop ((at_).toNat))).1)).1).1) (((Qf ((Qw (d0.drop ((at_).toNat))).1)).1).2.1) (((Qf ((Qw (d0.drop ((at_).toNat))).1)).1).2.2) (QA.self hg15 (List.Sublist.cons _ (List.Sublist.cons_cons _ List.Sublist.slnil))) bdk bdk q6_0_2)) Qg2.nil) rfl rfl
 refine VO.gcallN 114 rfl ⟨_,rfl,rfl⟩ QiV rfl (fun W hW=>Qao W ep bdk nn bdk (Ow.rd ho15 (hW.t 116))) (fun v14 m14 hv14=>?_)
 obtain ⟨s14_0,rfl,f14_0⟩:=hv14
 obtain ⟨rfl,q14_0_0,q14_0_1⟩:=Yf (x0:=(Qg ep nn ([((Qf ((Qw (d0.drop ((at_).toNat))).1)).1)])).1) (x1:=(Qg ep nn ([((Qf ((Qw (d0.drop ((at_).toNat))).1)).1)])).2) (f14_0.rd (Qc _))
 simp only [inK] at q14_0_0 q14_0_1
 refine VO.parts 116 [113,108] rfl hg15 ?_
 refine VO.w (.bst (cs:=[.int .i64 (0),.int .i64 (0)]) rfl Qa3 Qft rfl) ?_
 refine VO.w (.stneq (p:=((Qg ep nn ([((Qf ((Qw (d0.drop ((at_).toNat))).1)).1)])).1)=0∧((Qg ep nn ([((Qf ((Qw (d0.drop ((at_).toNat))).1)).1)])).2)=0) rfl rfl (Qb8 ((Qg ep nn ([((Qf ((Qw (d0.drop ((at_).toNat))).1)).1)])).1) ((Qg ep nn ([((Qf ((Qw (d0.drop ((at_).toNat))).1)).1)])).2)) (Qb8 0 0) (by simp [ceq,Xy])) ?_
 refine VO.z (.pF rfl rfl) (VO.k11 0 4 5 6 7 8 9 10 11 21 39 ?_)
 refine VC.cond rfl (fun hc17=>?_) (fun hc17=>?_)
 refine VC.rs (VO.mv (VO.mv (VO.as (VO.as (VO.p5 108 110 103 101 0 (VO.nil (VC.ret (QZ (JO (QZ (JO ?_)))))))))))
 refine Qef 2 3 [101] fun hS_=>?_
 dsimp only [QE]
 exact ⟨Value.slice l_A (l.length) (l_c),(by first | rfl | exact YA),(Ow.cg (Ow.up h_l (hS_.1 _ (.head _))) (by first | rfl | exact YA))⟩
 refine VC.skip (Qm (VC.rs (VO.mv (VO.z (.ldA 110 rfl Yv rfl (Qa rfl rfl)) ?_))))
 refine VO.bsl (cs:=[.int .i64 (((Qf ((Qw (d0.drop ((at_).toNat))).1)).1).1),.int .i64 (((Qf ((Qw (d0.drop ((at_).toNat))).1)).1).2.1),.slice q6_0_A2 ((((Qf ((Qw (d0.drop ((at_).toNat))).1)).1).2.2).length) (q6_0_c2)]) 119 rfl rfl Jx XA rfl rfl (fun g18=>?_)
 refine VO.appO (e:=Ql) 101 108 119 rfl rfl rfl Jx XA rfl rfl rfl rfl h_l (show Ow Ql _ _ ((Qf ((Qw (d0.drop ((at_).toNat))).1)).1) from (Jt (((Qf ((Qw (d0.drop ((at_).toNat))).1)).1).1) (((Qf ((Qw (d0.drop ((at_).toNat))).1)).1).2.1) (((Qf ((Qw (d0.drop ((at_).toNat))).1)).1).2.2) (QA.one (Qc _)) bdk bdk q6_0_2)) Tryz.underlying41 (Qa rfl rfl) bdm bd (by decide) (fun v20 m20 ho20=>?_)
 obtain ⟨A20,c20,rfl,l20,k20⟩:=ho20.slc
 refine VO.as (VO.p4 101 110 103 0 (VO.k11 0 4 5 6 7 8 9 10 11 21 39 (VC.seq ?_)))
 refine VC.regD _ 5 [(0,true),(1,true),(2,true),(3,true),(4,true)] follows (by kernel_rfl) (fun _ h=>h.sub [101,110,103,0]) ?_
 refine VD.z rfl (.fa rfl Jq rfl) (VD.z rfl (.ld1 110 rfl tk3 rfl (Qa rfl rfl)) (VD.z rfl (.fa rfl Jq rfl) (VD.z rfl (.ld1 110 rfl tk3 rfl (Qa rfl rfl)) (VD.z rfl (.as rfl) ?_))))
 refine VD.nil rfl ?_ rfl
 refine VO.as (VO.k11 0 4 5 6 7 8 9 10 11 21 39 (Qm ?_))
 refine VC.reg ?_
 refine VO.mv (VO.mv ?_)
 refine VO.z (.add rfl rfl rfl ⟨bd,bd⟩) ?_
 refine VO.as (VO.k11 0 4 5 6 7 8 9 10 11 21 39 (JL ?_))
 exact Qm ⟨⟨l++[((Qf ((Qw (d0.drop ((at_).toNat))).1)).1)],A20,c20,m20,at_+((Qw (d0.drop ((at_).toNat))).2.1),((Qf ((Qw (d0.drop ((at_).toNat))).1)).1).1,((Qf ((Qw (d0.drop ((at_).toNat))).1)).1).2.1⟩,⟨by exact QcF hl (QjN Qo Qo hep hnn Qo),by exact QbT.symm,by exact Qov (QjN Qo Qo hep hnn Qo),ho20⟩,by (have h_:=QiB (QjN Qo Qo hep hnn Qo);simp only [List.length_drop] at*;omega),⟨esn,fun _ h=>Inv.sub h [101,0]⟩⟩
theorem Qhm (W:World) (d0:Int) (h0:inK .i64 d0) (d1:Int) (h1:inK .i64 d1):Qi Tryz.prog 17 [.int .i64 d0,.int .i64 d1] W (Qx) (fun v m'=>∃ (s0:List Value),v= .agg s0.toArray∧Ow Ql m' s0 (ofC d0 d1)):=by
 have h0':=h0;simp only [inK] at h0'
 have h1':=h1;simp only [inK] at h1'
 refine Qi.ofA (n:=10) Tryz.func17 rfl rfl rfl ?_
 refine VC.rs ?_
 refine VO.alloc 102 rfl XA (fun g1=>?_)
 refine VO.k3 0 1 4 (VC.rs (VO.mv (VO.mv ?_)))
 refine VO.z (.bst (cs:=[.bool true,str ([97]),str ([49])]) rfl Zy QcS rfl) ?_
 refine VO.bsl (cs:=[.bool true,str ([97]),str ([49])]) 104 rfl rfl ZH QcS rfl rfl (fun g3=>?_)
 refine VO.z (.bst (cs:=[.int .i64 (d0),.int .i64 (d1),.slice (some ⟨g3,0,none⟩) (1) (1)]) rfl Jq XA rfl) ?_
 refine VO.store (k:=3) (c':=[.int .i64 (d0),.int .i64 (d1),.slice (some ⟨g3,0,none⟩) (1) (1)]) 102 rfl rfl (.inl Yv) rfl rfl rfl rfl rfl ?_
 refine VO.k3 0 1 4 (VC.ret ?_)
 have ho5:QH TOp (QM g3 (.cells [Value.bool true,str ([97]),str ([49])].toArray 71 (0,0))) Qx (Value.slice (some ⟨g3,0,none⟩) (1) (1)) [(true,[97],[49])]:=QH.lit 1 (Je.cons (c1:=[Value.bool true,str ([97]),str ([49])]) (QdI (m:=_) true ([97]) ([49]) bdm bdm) Je.nil) rfl rfl
 refine ⟨_,_,Jr (rs:=[.cell 4 37]) rfl (.agg 102 rfl Yv rfl ⟨_,_,_,QJ _ _,Nat.le_of_ble_eq_true rfl,rfl⟩ .nil),fun W_ hI=>JZ (l:=[QM g3 (.cells #[.bool true,str ([97]),str ([49])] 71 (0,0))]) hI [104] rfl rfl (Qc _) (fun hS_=>?_)⟩
 dsimp only [QE]
 have he0:(ofC d0 d1:Ty.Den Ql)=(d0,d1,[(true,[97],[49])]):=by first | rfl | (simp [*];done)
 refine ⟨[.int .i64 (d0),.int .i64 (d1),.slice (some ⟨g3,0,none⟩) (1) (1)],?_,?_⟩
 rotate_left
 ·rw [he0];exact (Jt _ _ _ hS_ bdk bdk (QH.ow ho5 rfl))
 all_goals (first | rfl | (simp [*];done))
theorem QdH (W:World) {v0:List Value} {d0:QbF} (h0:Rd QbD (wm W) v0 d0) (d1:Int) (h1:inK .i64 d1) (d2:Int) (h2:inK .i64 d2) (e0: -9000000000000000000≤d1∧d1≤9000000000000000000∧ -9000000000000000000≤d2∧d2≤9000000000000000000):Qi Tryz.prog 28 [.agg v0.toArray,.int .i64 d1,.int .i64 d2] W (Qx) (fun v m'=>v= .agg [.int .i64 (max 1 d1+J5 d0.2.1 3),.int .i64 (d2+1),v0.getD 5 undef].toArray):=by
 obtain ⟨p0_A5,p0_c5,rfl,p0_0,p0_1,p0_2,p0_3,p0_4,p0_5⟩:=Qay (x0:=d0.1) (x1:=d0.2.1) (x2:=d0.2.2.1) (x3:=d0.2.2.2.1) (x4:=d0.2.2.2.2.1) (x5:=d0.2.2.2.2.2) h0
 simp only [inK] at p0_0 p0_1 p0_2 p0_3 p0_4
 have p0_r5:=Rd.room p0_5
 have h1':=h1;simp only [inK] at h1'
 have h2':=h2;simp only [inK] at h2'
 refine Qi.ofA (n:=19) Tryz.func28 rfl rfl rfl ?_
 refine VC.rs ?_
 refine VO.box (cs:=[.int .i64 (d0.1),.int .i64 (d0.2.1),.int .i64 (d0.2.2.1),.int .i64 (d0.2.2.2.1),.int .i64 (d0.2.2.2.2.1),.slice p0_A5 (d0.2.2.2.2.2.length) (p0_c5)]) 102 rfl rfl rfl (fun g1=>?_)
 refine VO.alloc 104 rfl XA (fun g3=>?_)
 refine VO.k5 0 1 2 3 6 (VC.seq ?_)
 refine VC.regD _ 11 [(0,true),(1,true),(2,true),(3,true),(6,true),(7,true),(8,true),(9,true),(10,true),(4,false),(5,true)] follows (by kernel_rfl) (fun _ h=>h.sub [104,102,0]) ?_
 refine VD.z rfl (.mv rfl) (VD.z rfl (.maxM rfl rfl) (VD.z rfl (.fa rfl QbG rfl) (VD.z rfl (.ld1 102 rfl tk3 rfl (Qa rfl rfl)) (VD.z rfl (.mv rfl) ?_))))
 refine VD.z rfl (.add rfl rfl rfl ⟨bd,bd⟩) ?_
 refine VD.z rfl (.fa rfl QbG rfl) (VD.z rfl (.fa rfl Jq rfl) (VD.z rfl (.ld1 102 rfl Qc6 rfl (Qa rfl rfl)) ?_))
 refine VD.callN 105 rfl rfl (.inl rfl) Qpy rfl (fun _ h=>h.sub [104,102,0]) (fun W hW=>QmX W d0.2.1 bdk 3 bdk bd) (fun v5 m5 hv5=>?_)
 subst hv5
 have hfa6:=Y5 d0.2.1 3 Qn
 refine VD.z rfl (.add rfl rfl rfl ⟨bd,bd⟩) ?_
 refine VD.nil rfl ?_ rfl
 refine VO.z (.bst (cs:=[.int .i64 ((max 1 d1)+(J5 d0.2.1 3)),.int .i64 (d2+1),.slice p0_A5 (d0.2.2.2.2.2.length) (p0_c5)]) rfl Jq XA rfl) ?_
 refine VO.store (k:=3) (c':=[.int .i64 ((max 1 d1)+(J5 d0.2.1 3)),.int .i64 (d2+1),.slice p0_A5 (d0.2.2.2.2.2.length) (p0_c5)]) 104 rfl rfl (.inl Yv) rfl rfl rfl rfl rfl ?_
 refine VO.k5 0 1 2 3 6 (Qm (VC.ret ?_))
 refine ⟨_,_,Jr (rs:=[.cell 6 37]) rfl (.agg 104 rfl Yv rfl ⟨_,_,_,QJ _ _,Nat.le_of_ble_eq_true rfl,rfl⟩ .nil),fun W_ hI=>JZ (l:=[]) hI [] rfl rfl (Qc _) (fun hS_=>?_)⟩
 dsimp only [QE]
 all_goals (first | rfl | (simp [*];done))
theorem QlF (W:World) {v0:Value} {d0:List QbF} (h0:Rd (.sl QbD) (wm W) [v0] d0):Qi Tryz.prog 5 [v0] W (Qx) (fun v m'=>v= .bool (decide (Qgz d0))):=by
 obtain ⟨A0,c0,rfl,l0,k0⟩:=h0.slc
 refine Qi.ofA (n:=21) Tryz.func5 rfl rfl rfl ?_
 refine VC.rs (VO.as (VO.k2 0 2 (VC.seq (VC.rs (VO.as (VO.k3 0 2 3 (VC.block ?_)))))))
 refine VC.loop (G:=Nat) (fun k=>[(3,.int .i64 (((k:Nat):Int))),(0,.slice A0 (d0.length) (c0))]) (fun k=>[(0,wm W)]) (fun k=>(k≤d0.length)∧(∀ a∈d0.take k,a.2.2.2.2.2.length≤60)) (fun k=>d0.length - k) 0 (⟨by omega,by simp⟩) ⟨⟨rfl,rfl,trivial⟩,fun _ h=>h.sub [0]⟩ ?_
 rintro k ⟨hk,ha⟩
 refine VC.seq (VC.rs (VO.mv (VO.mv (VO.z (.lenS rfl Qmw) (VO.z (.lss rfl rfl) (VO.p1 0 (VO.k3 0 3 7 ?_)))))))
 refine VC.cond rfl (fun hc1=>?_) (fun hc1=>?_)
 refine VC.skip (Qm (VC.seq (VC.block (VC.rs (VO.mv (VO.mv ?_))))))
 obtain ⟨x2,hx2⟩:∃ z_,(d0)[k]? =some z_:=⟨_,List.getElem?_eq_getElem bd⟩
 obtain ⟨gg2,oo2,ec2,ea2,hce2,hre2⟩:=h0.elem hx2
 cases ea2
 obtain ⟨q2_A5,q2_c5,rfl,q2_0,q2_1,q2_2,q2_3,q2_4,q2_5⟩:=Qay (x0:=x2.1) (x1:=x2.2.1) (x2:=x2.2.2.1) (x3:=x2.2.2.2.1) (x4:=x2.2.2.2.2.1) (x5:=x2.2.2.2.2.2) hre2
 simp only [inK] at q2_0 q2_1 q2_2 q2_3 q2_4
 have q2_r5:=Rd.room q2_5
 refine VO.z (.ixI k rfl rfl Qmw rfl bd) ?_
 refine VO.z (.fa rfl QbG rfl) (VO.z (.fa rfl Jq rfl) ?_)
 refine VO.z (.ld1 0 rfl Qc6 rfl (hce2.at1 (j:=5) rfl)) ?_
 refine VO.z (.lenS rfl ZH) (VO.z (.gtr rfl rfl) (VO.k4 0 3 7 17 ?_))
 refine VC.cond rfl (fun hc3=>?_) (fun hc3=>?_)
 refine VC.rs (VO.as (VO.k5 0 2 3 7 17 (VC.ret (JO (QZ (QZ (JO (QZ ?_))))))))
 exact Xl 2 rfl (by first | rfl | (first | exact congrArg Value.bool (decide_eq_false (fun e=>by have:=e.1 _ (List.mem_of_getElem? ‹d0[k]? =some _›);omega)).symm | exact congrArg Value.bool (decide_eq_false (fun e=>by have:=e.2;omega)).symm | exact congrArg Value.bool (decide_eq_decide.2 (by have ha2:=ha;rw [List.take_of_length_le Qn] at ha2;exact ⟨fun h=>⟨ha2,by omega⟩,fun h=>by have:=h.2;omega⟩))))
 refine VC.skip (JL (Qm ?_))
 refine VC.reg ?_
 refine VO.mv ?_
 refine VO.z (.add (c:=((k+1:Nat):Int)) rfl rfl Qn ⟨bd,bd⟩) ?_
 refine VO.as (VO.k4 0 3 7 17 ?_)
 exact Qm ⟨k+1,⟨by omega,by exact QhY ha ‹d0[k]? =some _› Qn⟩,bd,⟨⟨rfl,rfl,trivial⟩,fun _ h=>Inv.sub h [0]⟩⟩
 refine VC.exit (Zh (Zh (Zi (Qm (VC.rs (VO.mv (VO.z (.lenS rfl Qmw) (VO.z (.leq rfl rfl) (VO.as (VO.k4 0 2 3 7 (VC.ret ?_)))))))))))
 exact Xl 2 rfl (by first | rfl | (first | exact congrArg Value.bool (decide_eq_false (fun e=>by have:=e.1 _ (List.mem_of_getElem? ‹d0[k]? =some _›);omega)).symm | exact congrArg Value.bool (decide_eq_false (fun e=>by have:=e.2;omega)).symm | exact congrArg Value.bool (decide_eq_decide.2 (by have ha2:=ha;rw [List.take_of_length_le Qn] at ha2;exact ⟨fun h=>⟨ha2,by omega⟩,fun h=>by have:=h.2;omega⟩))))
set_option maxHeartbeats 4000000 in
theorem QlW (W:World):Qi Tryz.prog 4 [] W (Qx) (fun v m'=>v= .bool true):=by
 refine Qi.ofA (n:=70) Tryz.func4 rfl rfl rfl ?_
 refine VC.rs (VO.as (VO.k1 0 (VC.rs ?_)))
 refine VO.callN 101 rfl fnOk6 rfl (fun W hW=>QnN W) (fun v1 m1 hv1=>?_)
 obtain ⟨s1_0,rfl,f1_0⟩:=hv1
 have hfa2:=Qen
 have hfa3:=(show wD Qz=0 from rfl)
 refine VO.as (VO.k2 0 1 (VC.rs (VO.mv ?_)))
 by_cases hsp4:(Qp Qz).2=0
 refine VO.call 101 rfl Qi0 rfl rfl (fun W hW=>Qdm W (hW.t 101) f1_0 Qo (by first | (simp only [lv0,Qbb,lv1,lv2,lv3,lvw,Qbh,lvp,lvs,lvo,lvl,Qbk,Yr.1,Yr.2,Qbj,Qbi];decide+kernel) | decide+kernel) Qo) (fun v5 m5 hv5=>?_)
 obtain ⟨s5_0,rfl,f5_0⟩:=hv5
 have hfa6:=(Qcl (show okD Qz by assumption))
 have hfa7:=(QcW (show okD Qz by assumption))
 have hfa8:=(ZT (JW Qz 0).1)
 have hfa9:=(Qcp Qz)
 refine VO.mv (VO.z (.ext rfl rfl) (VO.z (.ext rfl rfl) (VO.as (VO.as (VO.p2 101 0 (VO.k4 0 1 2 3 (VC.seq (VC.rs (VO.mv (VO.z (.neq rfl rfl) (VO.mv ?_)))))))))))
 refine VO.dec (t:=13) rfl (fun hc10=>?_) (fun hc10=>?_)
 · first | exact absurd rfl hc10 | exact absurd (by first | rfl | decide | (simp only [lv0,Qbb,lv1,lv2,lv3,lvw,Qbh,lvp,lvs,lvo,lvl,Qbk,Yr.1,Yr.2,Qbj,Qbi];first | done | rfl | decide | omega)) hc10 | exact absurd hc10 (by first | decide | (simp only [lv0,Qbb,lv1,lv2,lv3,lvw,Qbh,lvp,lvs,lvo,lvl,Qbk,Yr.1,Yr.2,Qbj,Qbi];first | done | rfl | decide | omega)) | (simp only [lv0,Qbb,lv1,lv2,lv3,lvw,Qbh,lvp,lvs,lvo,lvl,Qbk,Yr.1,Yr.2,Qbj,Qbi] at hc10;first | done | exact absurd hc10 (by decide) | exact absurd rfl hc10)
 refine VO.w (.mv rfl) ?_
 refine VO.w (.pnil rfl rfl Tryz.underlying30 rfl) ?_
 refine VO.z (.pF rfl rfl) (VO.mv (VO.w (.mv rfl) ?_))
 refine VO.gcallN 111 rfl ⟨_,rfl,rfl⟩ Qnx rfl (fun W hW=>Qhm W 1 bdk 1 bdk) (fun v11 m11 hv11=>?_)
 obtain ⟨s11_0,rfl,f11_0⟩:=hv11
 obtain ⟨q11_0_A2,q11_0_c2,q11_0_n2,rfl,q11_0_S,q11_0_0,q11_0_1,q11_0_2⟩:=ZE (x0:=(ofC 1 1).1) (x1:=(ofC 1 1).2.1) (x2:=(ofC 1 1).2.2) f11_0
 simp only [inK] at q11_0_0 q11_0_1
 have q11_0_r2:=q11_0_2.rm
 refine VO.inv _ (fun _ h=>h.parts (i:=111) rfl q11_0_S [112]) ?_
 refine VO.gcall 101 rfl ⟨_,rfl,rfl⟩ QiZ rfl rfl (fun W hW=>Qfr W (hW.t 101) f5_0 (show Rd Ql _ _ (ofC 1 1) from (YM (m:=J4 (wm W) (m5)) ((ofC 1 1).1) ((ofC 1 1).2.1) ((ofC 1 1).2.2) bdk bdk (Ow.rd q11_0_2 (hW.o 101 112)))) Qo (by first | (simp only [lv0,Qbb,lv1,lv2,lv3,lvw,Qbh,lvp,lvs,lvo,lvl,Qbk,Yr.1,Yr.2,Qbj,Qbi];decide+kernel) | decide+kernel) Qo (by first | assumption | rfl)) (fun v13 m13 hv13=>?_)
 try dsimp only at hv13
 obtain ⟨rfl,w13_0⟩:=hv13
 have hfa14:=(Qf5 (br:=false) (l:=((Jc Qz).1)) (c:=(ofC 1 1)) (show okD ((Qp Qz).1) by assumption))
 have hfa15:=(Qjb (br:=false) (l:=((Jc Qz).1)) (c:=(ofC 1 1)) (show okD ((Qp Qz).1) by assumption))
 have hfa16:=(Qjc (d:=((Qp Qz).1)) (br:=false) (c:=(ofC 1 1)) (show okL ((Jc Qz).1) by assumption))
 refine VO.w (.neq rfl rfl) (VO.z (.pF rfl rfl) (VO.mv ?_))
 refine VO.dec (t:=23) rfl (fun hc17=>?_) (fun hc17=>?_)
 · first | exact absurd rfl hc17 | exact absurd (by first | rfl | decide | (simp only [lv0,Qbb,lv1,lv2,lv3,lvw,Qbh,lvp,lvs,lvo,lvl,Qbk,Yr.1,Yr.2,Qbj,Qbi];first | done | rfl | decide | omega)) hc17 | exact absurd hc17 (by first | decide | (simp only [lv0,Qbb,lv1,lv2,lv3,lvw,Qbh,lvp,lvs,lvo,lvl,Qbk,Yr.1,Yr.2,Qbj,Qbi];first | done | rfl | decide | omega)) | (simp only [lv0,Qbb,lv1,lv2,lv3,lvw,Qbh,lvp,lvs,lvo,lvl,Qbk,Yr.1,Yr.2,Qbj,Qbi] at hc17;first | done | exact absurd hc17 (by decide) | exact absurd rfl hc17)
 refine VO.w (.mv rfl) ?_
 refine VO.gcallN 118 rfl ⟨_,rfl,rfl⟩ Qnx rfl (fun W hW=>Qhm W 1 bdk 3 bdk) (fun v18 m18 hv18=>?_)
 obtain ⟨s18_0,rfl,f18_0⟩:=hv18
 obtain ⟨q18_0_A2,q18_0_c2,q18_0_n2,rfl,q18_0_S,q18_0_0,q18_0_1,q18_0_2⟩:=ZE (x0:=(ofC 1 3).1) (x1:=(ofC 1 3).2.1) (x2:=(ofC 1 3).2.2) f18_0
 simp only [inK] at q18_0_0 q18_0_1
 have q18_0_r2:=q18_0_2.rm
 refine VO.inv _ (fun _ h=>h.parts (i:=118) rfl q18_0_S [119]) ?_
 refine VO.gcall 101 rfl ⟨_,rfl,rfl⟩ QiZ rfl rfl (fun W hW=>Qfr W (hW.t 101) w13_0 (show Rd Ql _ _ (ofC 1 3) from (YM (m:=J4 (wm W) (m13)) ((ofC 1 3).1) ((ofC 1 3).2.1) ((ofC 1 3).2.2) bdk bdk (Ow.rd q18_0_2 (hW.o 101 119)))) Qo (by first | (simp only [lv0,Qbb,lv1,lv2,lv3,lvw,Qbh,lvp,lvs,lvo,lvl,Qbk,Yr.1,Yr.2,Qbj,Qbi];decide+kernel) | decide+kernel) Qo (by first | assumption | rfl)) (fun v20 m20 hv20=>?_)
 try dsimp only at hv20
 obtain ⟨rfl,w20_0⟩:=hv20
 have hfa21:=(Qf5 (br:=((QK ((Qp Qz).1) false ((Jc Qz).1) (ofC 1 1)).1.2.1)) (l:=((QK ((Qp Qz).1) false ((Jc Qz).1) (ofC 1 1)).1.2.2)) (c:=(ofC 1 3)) (show okD ((QK ((Qp Qz).1) false ((Jc Qz).1) (ofC 1 1)).1.1) by assumption))
 have hfa22:=(Qjb (br:=((QK ((Qp Qz).1) false ((Jc Qz).1) (ofC 1 1)).1.2.1)) (l:=((QK ((Qp Qz).1) false ((Jc Qz).1) (ofC 1 1)).1.2.2)) (c:=(ofC 1 3)) (show okD ((QK ((Qp Qz).1) false ((Jc Qz).1) (ofC 1 1)).1.1) by assumption))
 have hfa23:=(Qjc (d:=((QK ((Qp Qz).1) false ((Jc Qz).1) (ofC 1 1)).1.1)) (br:=((QK ((Qp Qz).1) false ((Jc Qz).1) (ofC 1 1)).1.2.1)) (c:=(ofC 1 3)) (show okL ((QK ((Qp Qz).1) false ((Jc Qz).1) (ofC 1 1)).1.2.2) by assumption))
 refine VO.w (.neq rfl rfl) (VO.z (.pF rfl rfl) (VO.mv ?_))
 refine VO.dec (t:=29) rfl (fun hc24=>?_) (fun hc24=>?_)
 · first | exact absurd rfl hc24 | exact absurd (by first | rfl | decide | (simp only [lv0,Qbb,lv1,lv2,lv3,lvw,Qbh,lvp,lvs,lvo,lvl,Qbk,Yr.1,Yr.2,Qbj,Qbi];first | done | rfl | decide | omega)) hc24 | exact absurd hc24 (by first | decide | (simp only [lv0,Qbb,lv1,lv2,lv3,lvw,Qbh,lvp,lvs,lvo,lvl,Qbk,Yr.1,Yr.2,Qbj,Qbi];first | done | rfl | decide | omega)) | (simp only [lv0,Qbb,lv1,lv2,lv3,lvw,Qbh,lvp,lvs,lvo,lvl,Qbk,Yr.1,Yr.2,Qbj,Qbi] at hc24;first | done | exact absurd hc24 (by decide) | exact absurd rfl hc24)
 refine VO.w (.mv rfl) ?_
 refine VO.gcallN 125 rfl ⟨_,rfl,rfl⟩ Qnx rfl (fun W hW=>Qhm W 1 bdk 2 bdk) (fun v25 m25 hv25=>?_)
 obtain ⟨s25_0,rfl,f25_0⟩:=hv25
 obtain ⟨q25_0_A2,q25_0_c2,q25_0_n2,rfl,q25_0_S,q25_0_0,q25_0_1,q25_0_2⟩:=ZE (x0:=(ofC 1 2).1) (x1:=(ofC 1 2).2.1) (x2:=(ofC 1 2).2.2) f25_0
 simp only [inK] at q25_0_0 q25_0_1
 have q25_0_r2:=q25_0_2.rm
 refine VO.inv _ (fun _ h=>h.parts (i:=125) rfl q25_0_S [126]) ?_
 refine VO.gcall 101 rfl ⟨_,rfl,rfl⟩ QiZ rfl rfl (fun W hW=>Qfr W (hW.t 101) w20_0 (show Rd Ql _ _ (ofC 1 2) from (YM (m:=J4 (wm W) (m20)) ((ofC 1 2).1) ((ofC 1 2).2.1) ((ofC 1 2).2.2) bdk bdk (Ow.rd q25_0_2 (hW.o 101 126)))) Qo (by first | (simp only [lv0,Qbb,lv1,lv2,lv3,lvw,Qbh,lvp,lvs,lvo,lvl,Qbk,Yr.1,Yr.2,Qbj,Qbi];decide+kernel) | decide+kernel) Qo (by first | assumption | rfl)) (fun v27 m27 hv27=>?_)
 try dsimp only at hv27
 obtain ⟨rfl,w27_0⟩:=hv27
 have hfa28:=(Qf5 (br:=((QK ((QK ((Qp Qz).1) false ((Jc Qz).1) (ofC 1 1)).1.1) ((QK ((Qp Qz).1) false ((Jc Qz).1) (ofC 1 1)).1.2.1) ((QK ((Qp Qz).1) false ((Jc Qz).1) (ofC 1 1)).1.2.2) (ofC 1 3)).1.2.1)) (l:=((QK ((QK ((Qp Qz).1) false ((Jc Qz).1) (ofC 1 1)).1.1) ((QK ((Qp Qz).1) false ((Jc Qz).1) (ofC 1 1)).1.2.1) ((QK ((Qp Qz).1) false ((Jc Qz).1) (ofC 1 1)).1.2.2) (ofC 1 3)).1.2.2)) (c:=(ofC 1 2)) (show okD ((QK ((QK ((Qp Qz).1) false ((Jc Qz).1) (ofC 1 1)).1.1) ((QK ((Qp Qz).1) false ((Jc Qz).1) (ofC 1 1)).1.2.1) ((QK ((Qp Qz).1) false ((Jc Qz).1) (ofC 1 1)).1.2.2) (ofC 1 3)).1.1) by assumption))
 have hfa29:=(Qjb (br:=((QK ((QK ((Qp Qz).1) false ((Jc Qz).1) (ofC 1 1)).1.1) ((QK ((Qp Qz).1) false ((Jc Qz).1) (ofC 1 1)).1.2.1) ((QK ((Qp Qz).1) false ((Jc Qz).1) (ofC 1 1)).1.2.2) (ofC 1 3)).1.2.1)) (l:=((QK ((QK ((Qp Qz).1) false ((Jc Qz).1) (ofC 1 1)).1.1) ((QK ((Qp Qz).1) false ((Jc Qz).1) (ofC 1 1)).1.2.1) ((QK ((Qp Qz).1) false ((Jc Qz).1) (ofC 1 1)).1.2.2) (ofC 1 3)).1.2.2)) (c:=(ofC 1 2)) (show okD ((QK ((QK ((Qp Qz).1) false ((Jc Qz).1) (ofC 1 1)).1.1) ((QK ((Qp Qz).1) false ((Jc Qz).1) (ofC 1 1)).1.2.1) ((QK ((Qp Qz).1) false ((Jc Qz).1) (ofC 1 1)).1.2.2) (ofC 1 3)).1.1) by assumption))
 have hfa30:=(Qjc (d:=((QK ((QK ((Qp Qz).1) false ((Jc Qz).1) (ofC 1 1)).1.1) ((QK ((Qp Qz).1) false ((Jc Qz).1) (ofC 1 1)).1.2.1) ((QK ((Qp Qz).1) false ((Jc Qz).1) (ofC 1 1)).1.2.2) (ofC 1 3)).1.1)) (br:=((QK ((QK ((Qp Qz).1) false ((Jc Qz).1) (ofC 1 1)).1.1) ((QK ((Qp Qz).1) false ((Jc Qz).1) (ofC 1 1)).1.2.1) ((QK ((Qp Qz).1) false ((Jc Qz).1) (ofC 1 1)).1.2.2) (ofC 1 3)).1.2.1)) (c:=(ofC 1 2)) (show okL ((QK ((QK ((Qp Qz).1) false ((Jc Qz).1) (ofC 1 1)).1.1) ((QK ((Qp Qz).1) false ((Jc Qz).1) (ofC 1 1)).1.2.1) ((QK ((Qp Qz).1) false ((Jc Qz).1) (ofC 1 1)).1.2.2) (ofC 1 3)).1.2.2) by assumption))
 refine VO.w (.neq rfl rfl) (VO.z (.pF rfl rfl) (VO.mv ?_))
 refine VO.dec (t:=35) rfl (fun hc31=>?_) (fun hc31=>?_)
 · first | exact absurd rfl hc31 | exact absurd (by first | rfl | decide | (simp only [lv0,Qbb,lv1,lv2,lv3,lvw,Qbh,lvp,lvs,lvo,lvl,Qbk,Yr.1,Yr.2,Qbj,Qbi];first | done | rfl | decide | omega)) hc31 | exact absurd hc31 (by first | decide | (simp only [lv0,Qbb,lv1,lv2,lv3,lvw,Qbh,lvp,lvs,lvo,lvl,Qbk,Yr.1,Yr.2,Qbj,Qbi];first | done | rfl | decide | omega)) | (simp only [lv0,Qbb,lv1,lv2,lv3,lvw,Qbh,lvp,lvs,lvo,lvl,Qbk,Yr.1,Yr.2,Qbj,Qbi] at hc31;first | done | exact absurd hc31 (by decide) | exact absurd rfl hc31)
 refine VO.w (.mv rfl) ?_
 refine VO.gcall 101 rfl ⟨_,rfl,rfl⟩ Qnw rfl rfl (fun W hW=>Qjo W (hW.t 101) w27_0) (fun v32 m32 hv32=>?_)
 try dsimp only at hv32
 obtain ⟨rfl,w32_0⟩:=hv32
 refine VO.w (.neq rfl rfl) (VO.z (.pF rfl rfl) (VO.k5 0 1 2 3 39 ?_))
 refine VC.cond rfl (fun hc33=>?_) (fun hc33=>?_)
 · first | exact absurd rfl hc33 | exact absurd (by first | rfl | decide | (simp only [lv0,Qbb,lv1,lv2,lv3,lvw,Qbh,lvp,lvs,lvo,lvl,Qbk,Yr.1,Yr.2,Qbj,Qbi];first | done | rfl | decide | omega)) hc33 | exact absurd hc33 (by first | decide | (simp only [lv0,Qbb,lv1,lv2,lv3,lvw,Qbh,lvp,lvs,lvo,lvl,Qbk,Yr.1,Yr.2,Qbj,Qbi];first | done | rfl | decide | omega)) | (simp only [lv0,Qbb,lv1,lv2,lv3,lvw,Qbh,lvp,lvs,lvo,lvl,Qbk,Yr.1,Yr.2,Qbj,Qbi] at hc33;first | done | exact absurd hc33 (by decide) | exact absurd rfl hc33)
 refine VC.skip (Qm (VC.seq (VC.rs (VO.mv ?_))))
 obtain ⟨q35_E,q35_A2,q35_c2,q35_A3,q35_c3,q35_n0,q35_n2,q35_n3,_,q35_S,q35_0,q35_2,q35_3⟩:=Jf (x0:=(s1_0,((QK ((QK ((QK ((Qp Qz).1) false ((Jc Qz).1) (ofC 1 1)).1.1) ((QK ((Qp Qz).1) false ((Jc Qz).1) (ofC 1 1)).1.2.1) ((QK ((Qp Qz).1) false ((Jc Qz).1) (ofC 1 1)).1.2.2) (ofC 1 3)).1.1) ((QK ((QK ((Qp Qz).1) false ((Jc Qz).1) (ofC 1 1)).1.1) ((QK ((Qp Qz).1) false ((Jc Qz).1) (ofC 1 1)).1.2.1) ((QK ((Qp Qz).1) false ((Jc Qz).1) (ofC 1 1)).1.2.2) (ofC 1 3)).1.2.1) ((QK ((QK ((Qp Qz).1) false ((Jc Qz).1) (ofC 1 1)).1.1) ((QK ((Qp Qz).1) false ((Jc Qz).1) (ofC 1 1)).1.2.1) ((QK ((Qp Qz).1) false ((Jc Qz).1) (ofC 1 1)).1.2.2) (ofC 1 3)).1.2.2) (ofC 1 2)).1.1))) (x1:=((QK ((QK ((QK ((Qp Qz).1) false ((Jc Qz).1) (ofC 1 1)).1.1) ((QK ((Qp Qz).1) false ((Jc Qz).1) (ofC 1 1)).1.2.1) ((QK ((Qp Qz).1) false ((Jc Qz).1) (ofC 1 1)).1.2.2) (ofC 1 3)).1.1) ((QK ((QK ((Qp Qz).1) false ((Jc Qz).1) (ofC 1 1)).1.1) ((QK ((Qp Qz).1) false ((Jc Qz).1) (ofC 1 1)).1.2.1) ((QK ((Qp Qz).1) false ((Jc Qz).1) (ofC 1 1)).1.2.2) (ofC 1 3)).1.2.1) ((QK ((QK ((Qp Qz).1) false ((Jc Qz).1) (ofC 1 1)).1.1) ((QK ((Qp Qz).1) false ((Jc Qz).1) (ofC 1 1)).1.2.1) ((QK ((Qp Qz).1) false ((Jc Qz).1) (ofC 1 1)).1.2.2) (ofC 1 3)).1.2.2) (ofC 1 2)).1.2.1)) (x2:=((QK ((QK ((QK ((Qp Qz).1) false ((Jc Qz).1) (ofC 1 1)).1.1) ((QK ((Qp Qz).1) false ((Jc Qz).1) (ofC 1 1)).1.2.1) ((QK ((Qp Qz).1) false ((Jc Qz).1) (ofC 1 1)).1.2.2) (ofC 1 3)).1.1) ((QK ((QK ((Qp Qz).1) false ((Jc Qz).1) (ofC 1 1)).1.1) ((QK ((Qp Qz).1) false ((Jc Qz).1) (ofC 1 1)).1.2.1) ((QK ((Qp Qz).1) false ((Jc Qz).1) (ofC 1 1)).1.2.2) (ofC 1 3)).1.2.1) ((QK ((QK ((Qp Qz).1) false ((Jc Qz).1) (ofC 1 1)).1.1) ((QK ((Qp Qz).1) false ((Jc Qz).1) (ofC 1 1)).1.2.1) ((QK ((Qp Qz).1) false ((Jc Qz).1) (ofC 1 1)).1.2.2) (ofC 1 3)).1.2.2) (ofC 1 2)).1.2.2)) (x3:=(JK (QK ((QK ((QK ((Qp Qz).1) false ((Jc Qz).1) (ofC 1 1)).1.1) ((QK ((Qp Qz).1) false ((Jc Qz).1) (ofC 1 1)).1.2.1) ((QK ((Qp Qz).1) false ((Jc Qz).1) (ofC 1 1)).1.2.2) (ofC 1 3)).1.1) ((QK ((QK ((Qp Qz).1) false ((Jc Qz).1) (ofC 1 1)).1.1) ((QK ((Qp Qz).1) false ((Jc Qz).1) (ofC 1 1)).1.2.1) ((QK ((Qp Qz).1) false ((Jc Qz).1) (ofC 1 1)).1.2.2) (ofC 1 3)).1.2.1) ((QK ((QK ((Qp Qz).1) false ((Jc Qz).1) (ofC 1 1)).1.1) ((QK ((Qp Qz).1) false ((Jc Qz).1) (ofC 1 1)).1.2.1) ((QK ((Qp Qz).1) false ((Jc Qz).1) (ofC 1 1)).1.2.2) (ofC 1 3)).1.2.2) (ofC 1 2)).1.2.2)) w32_0
 dsimp only at q35_0
 have q35_r2:=q35_2.rm
 have q35_r3:=q35_3.rm
 refine VO.inv _ (fun _ h=>h.parts (i:=101) rfl q35_S [139,136,137,138]) ?_
 refine VO.call 136 rfl QpA rfl rfl (fun W hW=>Qld W (hW.t 136) q35_0 Qo) (fun v34 m34 hv34=>?_)
 obtain ⟨rfl,w34_0⟩:=hv34
 have hfa40:=(Qej (show okD ((QK ((QK ((QK ((Qp Qz).1) false ((Jc Qz).1) (ofC 1 1)).1.1) ((QK ((Qp Qz).1) false ((Jc Qz).1) (ofC 1 1)).1.2.1) ((QK ((Qp Qz).1) false ((Jc Qz).1) (ofC 1 1)).1.2.2) (ofC 1 3)).1.1) ((QK ((QK ((Qp Qz).1) false ((Jc Qz).1) (ofC 1 1)).1.1) ((QK ((Qp Qz).1) false ((Jc Qz).1) (ofC 1 1)).1.2.1) ((QK ((Qp Qz).1) false ((Jc Qz).1) (ofC 1 1)).1.2.2) (ofC 1 3)).1.2.1) ((QK ((QK ((Qp Qz).1) false ((Jc Qz).1) (ofC 1 1)).1.1) ((QK ((Qp Qz).1) false ((Jc Qz).1) (ofC 1 1)).1.2.1) ((QK ((Qp Qz).1) false ((Jc Qz).1) (ofC 1 1)).1.2.2) (ofC 1 3)).1.2.2) (ofC 1 2)).1.1) by assumption))
 have hfa41:=(QkJ ((QK ((QK ((QK ((Qp Qz).1) false ((Jc Qz).1) (ofC 1 1)).1.1) ((QK ((Qp Qz).1) false ((Jc Qz).1) (ofC 1 1)).1.2.1) ((QK ((Qp Qz).1) false ((Jc Qz).1) (ofC 1 1)).1.2.2) (ofC 1 3)).1.1) ((QK ((QK ((Qp Qz).1) false ((Jc Qz).1) (ofC 1 1)).1.1) ((QK ((Qp Qz).1) false ((Jc Qz).1) (ofC 1 1)).1.2.1) ((QK ((Qp Qz).1) false ((Jc Qz).1) (ofC 1 1)).1.2.2) (ofC 1 3)).1.2.1) ((QK ((QK ((Qp Qz).1) false ((Jc Qz).1) (ofC 1 1)).1.1) ((QK ((Qp Qz).1) false ((Jc Qz).1) (ofC 1 1)).1.2.1) ((QK ((Qp Qz).1) false ((Jc Qz).1) (ofC 1 1)).1.2.2) (ofC 1 3)).1.2.2) (ofC 1 2)).1.1))
 refine VO.z (.neq rfl rfl) (VO.mv ?_)
 refine VO.dec (t:=43) rfl (fun hc42=>?_) (fun hc42=>?_)
 · first | exact absurd rfl hc42 | exact absurd (by first | rfl | decide | (simp only [lv0,Qbb,lv1,lv2,lv3,lvw,Qbh,lvp,lvs,lvo,lvl,Qbk,Yr.1,Yr.2,Qbj,Qbi];first | done | rfl | decide | omega)) hc42 | exact absurd hc42 (by first | decide | (simp only [lv0,Qbb,lv1,lv2,lv3,lvw,Qbh,lvp,lvs,lvo,lvl,Qbk,Yr.1,Yr.2,Qbj,Qbi];first | done | rfl | decide | omega)) | (simp only [lv0,Qbb,lv1,lv2,lv3,lvw,Qbh,lvp,lvs,lvo,lvl,Qbk,Yr.1,Yr.2,Qbj,Qbi] at hc42;first | done | exact absurd hc42 (by decide) | exact absurd rfl hc42)
 refine VO.w (.mv rfl) ?_
 refine VO.gcall 136 rfl ⟨_,rfl,rfl⟩ Qpz rfl rfl (fun W hW=>Qi4 W (hW.t 136) w34_0 1 bdk 4 bdk Qo (by first | (simp only [lv0,Qbb,lv1,lv2,lv3,lvw,Qbh,lvp,lvs,lvo,lvl,Qbk,Yr.1,Yr.2,Qbj,Qbi];decide+kernel) | decide+kernel)) (fun v43 m43 hv43=>?_)
 obtain ⟨rfl,w43_0⟩:=hv43
 have hfa44:=(Qcy (k:=1) (t:=4) (show okD ((Z4 ((QK ((QK ((QK ((Qp Qz).1) false ((Jc Qz).1) (ofC 1 1)).1.1) ((QK ((Qp Qz).1) false ((Jc Qz).1) (ofC 1 1)).1.2.1) ((QK ((Qp Qz).1) false ((Jc Qz).1) (ofC 1 1)).1.2.2) (ofC 1 3)).1.1) ((QK ((QK ((Qp Qz).1) false ((Jc Qz).1) (ofC 1 1)).1.1) ((QK ((Qp Qz).1) false ((Jc Qz).1) (ofC 1 1)).1.2.1) ((QK ((Qp Qz).1) false ((Jc Qz).1) (ofC 1 1)).1.2.2) (ofC 1 3)).1.2.1) ((QK ((QK ((Qp Qz).1) false ((Jc Qz).1) (ofC 1 1)).1.1) ((QK ((Qp Qz).1) false ((Jc Qz).1) (ofC 1 1)).1.2.1) ((QK ((Qp Qz).1) false ((Jc Qz).1) (ofC 1 1)).1.2.2) (ofC 1 3)).1.2.2) (ofC 1 2)).1.1)).1) by assumption))
 have hfa45:=(Qhi ((Z4 ((QK ((QK ((QK ((Qp Qz).1) false ((Jc Qz).1) (ofC 1 1)).1.1) ((QK ((Qp Qz).1) false ((Jc Qz).1) (ofC 1 1)).1.2.1) ((QK ((Qp Qz).1) false ((Jc Qz).1) (ofC 1 1)).1.2.2) (ofC 1 3)).1.1) ((QK ((QK ((Qp Qz).1) false ((Jc Qz).1) (ofC 1 1)).1.1) ((QK ((Qp Qz).1) false ((Jc Qz).1) (ofC 1 1)).1.2.1) ((QK ((Qp Qz).1) false ((Jc Qz).1) (ofC 1 1)).1.2.2) (ofC 1 3)).1.2.1) ((QK ((QK ((Qp Qz).1) false ((Jc Qz).1) (ofC 1 1)).1.1) ((QK ((Qp Qz).1) false ((Jc Qz).1) (ofC 1 1)).1.2.1) ((QK ((Qp Qz).1) false ((Jc Qz).1) (ofC 1 1)).1.2.2) (ofC 1 3)).1.2.2) (ofC 1 2)).1.1)).1) 1 4)
 refine VO.w (.neq rfl rfl) (VO.z (.pF rfl rfl) ?_)
 refine VO.clsP 146 [139,136,137,138] rfl (fun hg46=>(Js _ _ _ _ hg46 w43_0 q35_2 q35_3)) (fun mc46 ho46=>?_)
 refine VO.k6 0 1 2 3 39 47 ?_
 refine VC.cond rfl (fun hc47=>?_) (fun hc47=>?_)
 · first | exact absurd rfl hc47 | exact absurd (by first | rfl | decide | (simp only [lv0,Qbb,lv1,lv2,lv3,lvw,Qbh,lvp,lvs,lvo,lvl,Qbk,Yr.1,Yr.2,Qbj,Qbi];first | done | rfl | decide | omega)) hc47 | exact absurd hc47 (by first | decide | (simp only [lv0,Qbb,lv1,lv2,lv3,lvw,Qbh,lvp,lvs,lvo,lvl,Qbk,Yr.1,Yr.2,Qbj,Qbi];first | done | rfl | decide | omega)) | (simp only [lv0,Qbb,lv1,lv2,lv3,lvw,Qbh,lvp,lvs,lvo,lvl,Qbk,Yr.1,Yr.2,Qbj,Qbi] at hc47;first | done | exact absurd hc47 (by decide) | exact absurd rfl hc47)
 refine VC.skip (Qm (VC.rs (VO.mv ?_)))
 obtain ⟨q48_E,q48_A2,q48_c2,q48_A3,q48_c3,q48_n0,q48_n2,q48_n3,_,q48_S,q48_0,q48_2,q48_3⟩:=Jf (x0:=(s1_0,(Za ((Z4 ((QK ((QK ((QK ((Qp Qz).1) false ((Jc Qz).1) (ofC 1 1)).1.1) ((QK ((Qp Qz).1) false ((Jc Qz).1) (ofC 1 1)).1.2.1) ((QK ((Qp Qz).1) false ((Jc Qz).1) (ofC 1 1)).1.2.2) (ofC 1 3)).1.1) ((QK ((QK ((Qp Qz).1) false ((Jc Qz).1) (ofC 1 1)).1.1) ((QK ((Qp Qz).1) false ((Jc Qz).1) (ofC 1 1)).1.2.1) ((QK ((Qp Qz).1) false ((Jc Qz).1) (ofC 1 1)).1.2.2) (ofC 1 3)).1.2.1) ((QK ((QK ((Qp Qz).1) false ((Jc Qz).1) (ofC 1 1)).1.1) ((QK ((Qp Qz).1) false ((Jc Qz).1) (ofC 1 1)).1.2.1) ((QK ((Qp Qz).1) false ((Jc Qz).1) (ofC 1 1)).1.2.2) (ofC 1 3)).1.2.2) (ofC 1 2)).1.1)).1) 1 4).1)) (x1:=((QK ((QK ((QK ((Qp Qz).1) false ((Jc Qz).1) (ofC 1 1)).1.1) ((QK ((Qp Qz).1) false ((Jc Qz).1) (ofC 1 1)).1.2.1) ((QK ((Qp Qz).1) false ((Jc Qz).1) (ofC 1 1)).1.2.2) (ofC 1 3)).1.1) ((QK ((QK ((Qp Qz).1) false ((Jc Qz).1) (ofC 1 1)).1.1) ((QK ((Qp Qz).1) false ((Jc Qz).1) (ofC 1 1)).1.2.1) ((QK ((Qp Qz).1) false ((Jc Qz).1) (ofC 1 1)).1.2.2) (ofC 1 3)).1.2.1) ((QK ((QK ((Qp Qz).1) false ((Jc Qz).1) (ofC 1 1)).1.1) ((QK ((Qp Qz).1) false ((Jc Qz).1) (ofC 1 1)).1.2.1) ((QK ((Qp Qz).1) false ((Jc Qz).1) (ofC 1 1)).1.2.2) (ofC 1 3)).1.2.2) (ofC 1 2)).1.2.1)) (x2:=((QK ((QK ((QK ((Qp Qz).1) false ((Jc Qz).1) (ofC 1 1)).1.1) ((QK ((Qp Qz).1) false ((Jc Qz).1) (ofC 1 1)).1.2.1) ((QK ((Qp Qz).1) false ((Jc Qz).1) (ofC 1 1)).1.2.2) (ofC 1 3)).1.1) ((QK ((QK ((Qp Qz).1) false ((Jc Qz).1) (ofC 1 1)).1.1) ((QK ((Qp Qz).1) false ((Jc Qz).1) (ofC 1 1)).1.2.1) ((QK ((Qp Qz).1) false ((Jc Qz).1) (ofC 1 1)).1.2.2) (ofC 1 3)).1.2.1) ((QK ((QK ((Qp Qz).1) false ((Jc Qz).1) (ofC 1 1)).1.1) ((QK ((Qp Qz).1) false ((Jc Qz).1) (ofC 1 1)).1.2.1) ((QK ((Qp Qz).1) false ((Jc Qz).1) (ofC 1 1)).1.2.2) (ofC 1 3)).1.2.2) (ofC 1 2)).1.2.2)) (x3:=(JK (QK ((QK ((QK ((Qp Qz).1) false ((Jc Qz).1) (ofC 1 1)).1.1) ((QK ((Qp Qz).1) false ((Jc Qz).1) (ofC 1 1)).1.2.1) ((QK ((Qp Qz).1) false ((Jc Qz).1) (ofC 1 1)).1.2.2) (ofC 1 3)).1.1) ((QK ((QK ((Qp Qz).1) false ((Jc Qz).1) (ofC 1 1)).1.1) ((QK ((Qp Qz).1) false ((Jc Qz).1) (ofC 1 1)).1.2.1) ((QK ((Qp Qz).1) false ((Jc Qz).1) (ofC 1 1)).1.2.2) (ofC 1 3)).1.2.1) ((QK ((QK ((Qp Qz).1) false ((Jc Qz).1) (ofC 1 1)).1.1) ((QK ((Qp Qz).1) false ((Jc Qz).1) (ofC 1 1)).1.2.1) ((QK ((Qp Qz).1) false ((Jc Qz).1) (ofC 1 1)).1.2.2) (ofC 1 3)).1.2.2) (ofC 1 2)).1.2.2)) ho46
 dsimp only at q48_0
 have q48_r2:=q48_2.rm
 have q48_r3:=q48_3.rm
 refine VO.inv _ (fun _ h=>h.parts (i:=146) rfl q48_S [152,149,150,151]) ?_
 by_cases hsp53:(Qp ((Za ((Z4 ((QK ((QK ((QK ((Qp Qz).1) false ((Jc Qz).1) (ofC 1 1)).1.1) ((QK ((Qp Qz).1) false ((Jc Qz).1) (ofC 1 1)).1.2.1) ((QK ((Qp Qz).1) false ((Jc Qz).1) (ofC 1 1)).1.2.2) (ofC 1 3)).1.1) ((QK ((QK ((Qp Qz).1) false ((Jc Qz).1) (ofC 1 1)).1.1) ((QK ((Qp Qz).1) false ((Jc Qz).1) (ofC 1 1)).1.2.1) ((QK ((Qp Qz).1) false ((Jc Qz).1) (ofC 1 1)).1.2.2) (ofC 1 3)).1.2.1) ((QK ((QK ((Qp Qz).1) false ((Jc Qz).1) (ofC 1 1)).1.1) ((QK ((Qp Qz).1) false ((Jc Qz).1) (ofC 1 1)).1.2.1) ((QK ((Qp Qz).1) false ((Jc Qz).1) (ofC 1 1)).1.2.2) (ofC 1 3)).1.2.2) (ofC 1 2)).1.1)).1) 1 4).1)).2=0
 refine VO.call 149 rfl Qi0 rfl rfl (fun W hW=>Qdm W (hW.t 149) q48_0 Qo (by first | (simp only [lv0,Qbb,lv1,lv2,lv3,lvw,Qbh,lvp,lvs,lvo,lvl,Qbk,Yr.1,Yr.2,Qbj,Qbi];decide+kernel) | decide+kernel) Qo) (fun v54 m54 hv54=>?_)
 obtain ⟨s54_0,rfl,f54_0⟩:=hv54
 have hfa55:=(Qcl (show okD ((Za ((Z4 ((QK ((QK ((QK ((Qp Qz).1) false ((Jc Qz).1) (ofC 1 1)).1.1) ((QK ((Qp Qz).1) false ((Jc Qz).1) (ofC 1 1)).1.2.1) ((QK ((Qp Qz).1) false ((Jc Qz).1) (ofC 1 1)).1.2.2) (ofC 1 3)).1.1) ((QK ((QK ((Qp Qz).1) false ((Jc Qz).1) (ofC 1 1)).1.1) ((QK ((Qp Qz).1) false ((Jc Qz).1) (ofC 1 1)).1.2.1) ((QK ((Qp Qz).1) false ((Jc Qz).1) (ofC 1 1)).1.2.2) (ofC 1 3)).1.2.1) ((QK ((QK ((Qp Qz).1) false ((Jc Qz).1) (ofC 1 1)).1.1) ((QK ((Qp Qz).1) false ((Jc Qz).1) (ofC 1 1)).1.2.1) ((QK ((Qp Qz).1) false ((Jc Qz).1) (ofC 1 1)).1.2.2) (ofC 1 3)).1.2.2) (ofC 1 2)).1.1)).1) 1 4).1) by assumption))
 have hfa56:=(QcW (show okD ((Za ((Z4 ((QK ((QK ((QK ((Qp Qz).1) false ((Jc Qz).1) (ofC 1 1)).1.1) ((QK ((Qp Qz).1) false ((Jc Qz).1) (ofC 1 1)).1.2.1) ((QK ((Qp Qz).1) false ((Jc Qz).1) (ofC 1 1)).1.2.2) (ofC 1 3)).1.1) ((QK ((QK ((Qp Qz).1) false ((Jc Qz).1) (ofC 1 1)).1.1) ((QK ((Qp Qz).1) false ((Jc Qz).1) (ofC 1 1)).1.2.1) ((QK ((Qp Qz).1) false ((Jc Qz).1) (ofC 1 1)).1.2.2) (ofC 1 3)).1.2.1) ((QK ((QK ((Qp Qz).1) false ((Jc Qz).1) (ofC 1 1)).1.1) ((QK ((Qp Qz).1) false ((Jc Qz).1) (ofC 1 1)).1.2.1) ((QK ((Qp Qz).1) false ((Jc Qz).1) (ofC 1 1)).1.2.2) (ofC 1 3)).1.2.2) (ofC 1 2)).1.1)).1) 1 4).1) by assumption))
 have hfa57:=(ZT (JW ((Za ((Z4 ((QK ((QK ((QK ((Qp Qz).1) false ((Jc Qz).1) (ofC 1 1)).1.1) ((QK ((Qp Qz).1) false ((Jc Qz).1) (ofC 1 1)).1.2.1) ((QK ((Qp Qz).1) false ((Jc Qz).1) (ofC 1 1)).1.2.2) (ofC 1 3)).1.1) ((QK ((QK ((Qp Qz).1) false ((Jc Qz).1) (ofC 1 1)).1.1) ((QK ((Qp Qz).1) false ((Jc Qz).1) (ofC 1 1)).1.2.1) ((QK ((Qp Qz).1) false ((Jc Qz).1) (ofC 1 1)).1.2.2) (ofC 1 3)).1.2.1) ((QK ((QK ((Qp Qz).1) false ((Jc Qz).1) (ofC 1 1)).1.1) ((QK ((Qp Qz).1) false ((Jc Qz).1) (ofC 1 1)).1.2.1) ((QK ((Qp Qz).1) false ((Jc Qz).1) (ofC 1 1)).1.2.2) (ofC 1 3)).1.2.2) (ofC 1 2)).1.1)).1) 1 4).1) 0).1)
 have hfa58:=(Qcp ((Za ((Z4 ((QK ((QK ((QK ((Qp Qz).1) false ((Jc Qz).1) (ofC 1 1)).1.1) ((QK ((Qp Qz).1) false ((Jc Qz).1) (ofC 1 1)).1.2.1) ((QK ((Qp Qz).1) false ((Jc Qz).1) (ofC 1 1)).1.2.2) (ofC 1 3)).1.1) ((QK ((QK ((Qp Qz).1) false ((Jc Qz).1) (ofC 1 1)).1.1) ((QK ((Qp Qz).1) false ((Jc Qz).1) (ofC 1 1)).1.2.1) ((QK ((Qp Qz).1) false ((Jc Qz).1) (ofC 1 1)).1.2.2) (ofC 1 3)).1.2.1) ((QK ((QK ((Qp Qz).1) false ((Jc Qz).1) (ofC 1 1)).1.1) ((QK ((Qp Qz).1) false ((Jc Qz).1) (ofC 1 1)).1.2.1) ((QK ((Qp Qz).1) false ((Jc Qz).1) (ofC 1 1)).1.2.2) (ofC 1 3)).1.2.2) (ofC 1 2)).1.1)).1) 1 4).1))
 refine VO.mv (VO.z (.ext rfl rfl) (VO.z (.ext rfl rfl) (VO.as (VO.as (VO.p5 149 152 150 151 0 (VO.k7 0 1 2 3 4 39 47 (VC.rs (VO.mv (VO.z (.eql rfl rfl) (VO.mv ?_))))))))))
 refine VO.dec (t:=55) rfl (fun hc59=>?_) (fun hc59=>?_)
 refine VO.w (.mv rfl) ?_
 refine VO.gcall 149 rfl ⟨_,rfl,rfl⟩ QfU rfl rfl (fun W hW=>Qc1 W (hW.t 149) f54_0) (fun v60 m60 hv60=>?_)
 try dsimp only at hv60
 obtain ⟨rfl,w60_0⟩:=hv60
 refine VO.w (.eql rfl rfl) (VO.z (.pT rfl rfl) (VO.mv ?_))
 refine VO.dec (t:=60) rfl (fun hc61=>?_) (fun hc61=>?_)
 refine VO.w (.mv rfl) ?_
 refine VO.gcall 149 rfl ⟨_,rfl,rfl⟩ Qnw rfl rfl (fun W hW=>Qjo W (hW.t 149) w60_0) (fun v62 m62 hv62=>?_)
 try dsimp only at hv62
 obtain ⟨rfl,w62_0⟩:=hv62
 refine VO.w (.eql rfl rfl) (VO.z (.pT rfl rfl) (VO.mv ?_))
 refine VO.dec (t:=65) rfl (fun hc63=>?_) (fun hc63=>?_)
 · refine VO.w (.mv rfl) ?_
   refine VO.gcall 149 rfl ⟨_,rfl,rfl⟩ Qk7 rfl rfl (fun W hW=>Qdn W (hW.t 149) w62_0) (fun v64 m64 hv64=>?_)
   try dsimp only at hv64
   obtain ⟨rfl,w64_0⟩:=hv64
   refine VO.w (.eql rfl rfl) (VO.z (.pT rfl rfl) (VO.as (VO.k7 0 1 2 3 4 39 47 (VC.ret ?_))))
   exact Xl 0 rfl (by first | rfl | (first | exact congrArg Value.bool (decide_eq_true (by (simp only [lv0,Qbb,lv1,lv2,lv3,lvw,Qbh,lvp,lvs,lvo,lvl,Qbk,Yr.1,Yr.2,Qbj,Qbi];first | done | rfl | decide | omega))) | rfl))
 · first | exact absurd rfl hc63 | exact absurd (by first | rfl | decide | (simp only [lv0,Qbb,lv1,lv2,lv3,lvw,Qbh,lvp,lvs,lvo,lvl,Qbk,Yr.1,Yr.2,Qbj,Qbi];first | done | rfl | decide | omega)) hc63 | exact absurd hc63 (by first | decide | (simp only [lv0,Qbb,lv1,lv2,lv3,lvw,Qbh,lvp,lvs,lvo,lvl,Qbk,Yr.1,Yr.2,Qbj,Qbi];first | done | rfl | decide | omega)) | (simp only [lv0,Qbb,lv1,lv2,lv3,lvw,Qbh,lvp,lvs,lvo,lvl,Qbk,Yr.1,Yr.2,Qbj,Qbi] at hc63;first | done | exact absurd hc63 (by decide) | exact absurd rfl hc63)
 · first | exact absurd rfl hc61 | exact absurd (by first | rfl | decide | (simp only [lv0,Qbb,lv1,lv2,lv3,lvw,Qbh,lvp,lvs,lvo,lvl,Qbk,Yr.1,Yr.2,Qbj,Qbi];first | done | rfl | decide | omega)) hc61 | exact absurd hc61 (by first | decide | (simp only [lv0,Qbb,lv1,lv2,lv3,lvw,Qbh,lvp,lvs,lvo,lvl,Qbk,Yr.1,Yr.2,Qbj,Qbi];first | done | rfl | decide | omega)) | (simp only [lv0,Qbb,lv1,lv2,lv3,lvw,Qbh,lvp,lvs,lvo,lvl,Qbk,Yr.1,Yr.2,Qbj,Qbi] at hc61;first | done | exact absurd hc61 (by decide) | exact absurd rfl hc61)
 · first | exact absurd rfl hc59 | exact absurd (by first | rfl | decide | (simp only [lv0,Qbb,lv1,lv2,lv3,lvw,Qbh,lvp,lvs,lvo,lvl,Qbk,Yr.1,Yr.2,Qbj,Qbi];first | done | rfl | decide | omega)) hc59 | exact absurd hc59 (by first | decide | (simp only [lv0,Qbb,lv1,lv2,lv3,lvw,Qbh,lvp,lvs,lvo,lvl,Qbk,Yr.1,Yr.2,Qbj,Qbi];first | done | rfl | decide | omega)) | (simp only [lv0,Qbb,lv1,lv2,lv3,lvw,Qbh,lvp,lvs,lvo,lvl,Qbk,Yr.1,Yr.2,Qbj,Qbi] at hc59;first | done | exact absurd hc59 (by decide) | exact absurd rfl hc59)
 · first | exact absurd rfl hsp53 | exact absurd (by first | rfl | decide | (simp only [lv0,Qbb,lv1,lv2,lv3,lvw,Qbh,lvp,lvs,lvo,lvl,Qbk,Yr.1,Yr.2,Qbj,Qbi];first | done | rfl | decide | omega)) hsp53 | exact absurd hsp53 (by first | decide | (simp only [lv0,Qbb,lv1,lv2,lv3,lvw,Qbh,lvp,lvs,lvo,lvl,Qbk,Yr.1,Yr.2,Qbj,Qbi];first | done | rfl | decide | omega)) | (simp only [lv0,Qbb,lv1,lv2,lv3,lvw,Qbh,lvp,lvs,lvo,lvl,Qbk,Yr.1,Yr.2,Qbj,Qbi] at hsp53;first | done | exact absurd hsp53 (by decide) | exact absurd rfl hsp53)
 · first | exact absurd rfl hsp4 | exact absurd (by first | rfl | decide | (simp only [lv0,Qbb,lv1,lv2,lv3,lvw,Qbh,lvp,lvs,lvo,lvl,Qbk,Yr.1,Yr.2,Qbj,Qbi];first | done | rfl | decide | omega)) hsp4 | exact absurd hsp4 (by first | decide | (simp only [lv0,Qbb,lv1,lv2,lv3,lvw,Qbh,lvp,lvs,lvo,lvl,Qbk,Yr.1,Yr.2,Qbj,Qbi];first | done | rfl | decide | omega)) | (simp only [lv0,Qbb,lv1,lv2,lv3,lvw,Qbh,lvp,lvs,lvo,lvl,Qbk,Yr.1,Yr.2,Qbj,Qbi] at hsp4;first | done | exact absurd hsp4 (by decide) | exact absurd rfl hsp4)
theorem QgL:JR Tryz.prog 96=true:=by kernel_rfl
theorem QdN:JR Tryz.prog 98=true:=by kernel_rfl
theorem Qhe:tk Tryz.prog 116=some (some 4):=by kernel_rfl
theorem Qf7:tk Tryz.prog 61=some none:=by kernel_rfl
theorem Qdq:tsl Tryz.prog 61=some (116,4,48):=by kernel_rfl
theorem YX:tst Tryz.prog 116=some [(0,1),(1,1),(2,1),(3,1)]:=by kernel_rfl
theorem J3:tst Tryz.prog 63=some [(0,1),(1,4),(5,1),(6,1),(7,1),(8,1),(9,1)]:=by kernel_rfl
theorem QeT:tz Tryz.prog 116=some [.int .i64 0,.bool false,.int .i64 0,.slice none 0 0]:=by kernel_rfl
theorem tz63:tz Tryz.prog 63=some [.bool false,.slice none 0 0,.slice none 0 0,.slice none 0 0,.slice none 0 0,.slice none 0 0,.bool false,.bool false,.int .i64 0,.int .i64 0]:=by kernel_rfl
theorem QpT (W:World):Qi Tryz.prog 7 [] W (Qx) (fun v m'=>∃ (s0:Nat),v= .pointer (some ⟨s0,0,none⟩)∧Ow (.ptr QD) m' [.pointer (some ⟨s0,0,none⟩)] (s0,Qd0)):=by
 refine Qi.ofA (n:=3) Tryz.func7 rfl rfl rfl ?_
 refine VC.rs (VO.as (VO.k1 0 (VC.rs ?_)))
 refine VO.z (.bst (cs:=[.bool true,.slice none (0) (0),.slice none (0) (0),.slice none (0) (0),.slice none (0) (0),.slice none (0) (0),.bool true,.bool false,.int .i64 (0),.int .i64 (0)]) rfl J3 tz63 rfl) ?_
 refine VO.box (cs:=[.bool true,.slice none (0) (0),.slice none (0) (0),.slice none (0) (0),.slice none (0) (0),.slice none (0) (0),.bool true,.bool false,.int .i64 (0),.int .i64 (0)]) 102 rfl rfl rfl (fun g1=>?_)
 refine VO.as (VO.k1 0 (VC.ret ?_))
 refine Yd 0 [102] fun hS_=>?_
 dsimp only [QE]
 have he0:(Qd0:Qy)=(true,([],[],[],[]),[],true,false,0,0):=by first | rfl | (simp [*];done)
 refine ⟨g1,?_,?_⟩
 rotate_left
 ·rw [he0];exact (Jl _ _ _ _ _ _ _ _ _ _ (QA.nilAt 5 (QA.nilAt 4 (QA.nilAt 3 (QA.nilAt 2 (QA.nilAt 1 hS_))))) (Ow.nil _ _) (Ow.nil _ _) (Ow.nil _ _) (Ow.nil _ _) (Ow.nil _ _) bdk bdk)
 all_goals (first | rfl | (simp [*];done))
theorem QcC (W:World) {m0:Mem} (hm:mle (m0) (wm W)) {g0:Nat} {d0:Qy} (h0:Ow (.ptr QD) m0 [.pointer (some ⟨g0,0,none⟩)] (g0,d0)):Qi Tryz.prog 96 [.pointer (some ⟨g0,0,none⟩)] W (m0) (fun v m'=>v= .bool (decide (d0.1=false))∧Ow (.ptr QD) m' [.pointer (some ⟨g0,0,none⟩)] (g0,d0)):=by
 refine Qi.ofB (n:=12) hm Tryz.func96 rfl rfl rfl ?_
 refine VC.rs (VO.as (VO.k2 0 2 (VC.rs (VO.mv ?_))))
 refine VO.z (.pnil rfl rfl Tryz.underlying28 rfl) ?_
 refine VO.mv (VO.w (.mv rfl) (VO.w (.nilp rfl) (VO.w (.fa rfl J3 rfl) ?_)))
 obtain ⟨q1_E,q1_A1,q1_c1,q1_A2,q1_c2,q1_A3,q1_c3,q1_A4,q1_c4,q1_A5,q1_c5,q1_n1,q1_n2,q1_n3,q1_n4,q1_n5,_,q1_S,q1_1,q1_2,q1_3,q1_4,q1_5,q1_8,q1_9⟩:=Qt h0
 have q1_r1:=q1_1.rm
 have q1_r2:=q1_2.rm
 have q1_r3:=q1_3.rm
 have q1_r4:=q1_4.rm
 have q1_r5:=q1_5.rm
 simp only [inK] at q1_8 q1_9
 refine VO.inv _ (fun _ h=>h.parts (i:=1) rfl q1_S [107,102,103,104,105,106]) ?_
 refine VO.w (.ld1 107 rfl tk4 rfl (Qa rfl rfl)) (VO.w (.not rfl) (VO.z (.pF rfl rfl) (VO.as ?_)))
 refine VO.clsP 108 [107,102,103,104,105,106] rfl (fun hg8=>(QP d0 hg8 q1_1 q1_2 q1_3 q1_4 q1_5 bdk bdk)) (fun mc8 ho8=>?_)
 refine VO.k2 0 2 (VC.ret ?_)
 exact Zs 2 108 rfl ho8 (by first | rfl | (simp [*];done)) (by first | rfl | (cases d0.1 <;> rfl))
theorem Qcj (W:World) {m0:Mem} (hm:mle (m0) (wm W)) {g0:Nat} {d0:Qy} (h0:Ow (.ptr QD) m0 [.pointer (some ⟨g0,0,none⟩)] (g0,d0)):Qi Tryz.prog 95 [.pointer (some ⟨g0,0,none⟩)] W (m0) (fun v m'=>v= .int .i64 (Jj (Qd d0))∧Ow (.ptr QD) m' [.pointer (some ⟨g0,0,none⟩)] (g0,d0)):=by
 refine Qi.ofB (n:=10) hm Tryz.func95 rfl rfl rfl ?_
 refine VC.rs (VO.as (VO.k2 0 2 (VC.seq (VC.rs (VO.mv ?_)))))
 refine VO.call 1 rfl QgL rfl rfl (fun W hW=>QcC W (hW.t 1) h0) (fun v1 m1 hv1=>?_)
 obtain ⟨rfl,w1_0⟩:=hv1
 refine VO.k3 0 2 4 ?_
 refine VC.cond rfl (fun hc2=>?_) (fun hc2=>?_)
 ·refine VC.rs (VO.as (VO.p2 1 0 (VO.k3 0 2 4 (VC.ret (QZ ?_)))))
  exact Zs 2 1 rfl w1_0 (by first | rfl | (simp [*];done)) (by first | rfl | (simp [Jj,Qd, *]))
 refine VC.skip (Qm (VC.seq (VC.rs (VO.mv (VO.z (.nilp rfl) (VO.z (.fa rfl J3 rfl) ?_))))))
 obtain ⟨q3_E,q3_A1,q3_c1,q3_A2,q3_c2,q3_A3,q3_c3,q3_A4,q3_c4,q3_A5,q3_c5,q3_n1,q3_n2,q3_n3,q3_n4,q3_n5,_,q3_S,q3_1,q3_2,q3_3,q3_4,q3_5,q3_8,q3_9⟩:=Qt w1_0
 have q3_r1:=q3_1.rm
 have q3_r2:=q3_2.rm
 have q3_r3:=q3_3.rm
 have q3_r4:=q3_4.rm
 have q3_r5:=q3_5.rm
 simp only [inK] at q3_8 q3_9
 refine VO.inv _ (fun _ h=>h.parts (i:=1) rfl q3_S [109,104,105,106,107,108]) ?_
 refine VO.z (.ld1 109 rfl tk4 rfl (Qa rfl rfl)) (VO.z (.not rfl) ?_)
 refine VO.clsP 110 [109,104,105,106,107,108] rfl (fun hg10=>(QP d0 hg10 q3_1 q3_2 q3_3 q3_4 q3_5 bdk bdk)) (fun mc10 ho10=>?_)
 refine VO.p2 110 0 (VO.k4 0 2 4 9 ?_)
 refine VC.condBN rfl (fun hc11=>?_) (fun hc11=>?_)
 ·refine VC.rs (VO.as (VO.k4 0 2 4 9 (VC.ret (QZ ?_))))
  exact Zs 2 110 rfl ho10 (by first | rfl | (simp [*];done)) (by first | rfl | (simp [Jj,Qd, *]))
 ·refine VC.skip (Qm (VC.rs (VO.as (VO.k4 0 2 4 9 (VC.ret ?_)))))
  exact Zs 2 110 rfl ho10 (by first | rfl | (simp [*];done)) (by first | rfl | (simp [Jj,Qd, *]))
theorem YK {P:Prop} (h:P:=by first | exact bd | (rw [if_pos (by assumption)] at hfu;omega)):P:=h
theorem JV {k:IntKind} {x:Int} (h:inK k x:=by simp only [inK];exact YK):inK k x:=h
set_option maxHeartbeats 1000000 in
theorem Qhk (W:World) {m0:Mem} (hm:mle (m0) (wm W)) {g0:Nat} {d0:Qy} (h0:Ow (.ptr QD) m0 [.pointer (some ⟨g0,0,none⟩)] (g0,d0)) (e0:okR d0) (e1:wD (Qd d0)≤2*1000000000000):Qi Tryz.prog 117 [.pointer (some ⟨g0,0,none⟩)] W (m0) (fun v m'=>v= .int .i64 (if (Q9 (Qd d0)).2=true then 0 else 6)∧Ow (.ptr QD) m' [.pointer (some ⟨g0,0,none⟩)] (g0,toR (Q9 (Qd d0)).1 d0.2.2.2.2.2.1)):=by
 have hok0:okD (Qd d0):=e0;obtain ⟨hg,hfu,hst⟩:=hok0;have hok0:okD (Qd d0):=e0;simp only [wD,YU] at e1;simp only [Qd] at e1 hfu hst
 refine Qi.ofB (n:=35) hm Tryz.func117 rfl rfl rfl ?_
 refine VC.rs (VO.as (VO.k2 0 2 (VC.seq (VC.rs (VO.mv (VO.z (.nilp rfl) (VO.z (.fa rfl J3 rfl) ?_)))))))
 obtain ⟨q1_E,q1_A1,q1_c1,q1_A2,q1_c2,q1_A3,q1_c3,q1_A4,q1_c4,q1_A5,q1_c5,q1_n1,q1_n2,q1_n3,q1_n4,q1_n5,_,q1_S,q1_1,q1_2,q1_3,q1_4,q1_5,q1_8,q1_9⟩:=Qt h0
 have q1_r1:=q1_1.rm
 have q1_r2:=q1_2.rm
 have q1_r3:=q1_3.rm
 have q1_r4:=q1_4.rm
 have q1_r5:=q1_5.rm
 simp only [inK] at q1_8 q1_9
 refine VO.inv _ (fun _ h=>h.parts (i:=1) rfl q1_S [107,102,103,104,105,106]) ?_
 refine VO.z (.ld1 107 rfl tk4 rfl (Qa rfl rfl)) (VO.mv ?_)
 refine VO.decB (t:=7) rfl (fun hc8=>?_) (fun hc8=>?_)
 refine VO.w (.mv rfl) (VO.w (.nilp rfl) (VO.w (.fa rfl J3 rfl) (VO.w (.ld1 107 rfl tk3 rfl (Qa rfl rfl)) (VO.w (.eql rfl rfl) (VO.z (.pT rfl rfl) ?_)))))
 refine VO.clsP 109 [107,102,103,104,105,106] rfl (fun hg9=>(QP d0 hg9 q1_1 q1_2 q1_3 q1_4 q1_5 JV JV)) (fun mc9 ho9=>?_)
 refine VO.k3 0 2 13 ?_
 refine VC.cond rfl (fun hc10=>?_) (fun hc10=>?_)
 refine VC.rs (VO.mv (VO.z (.nilp rfl) (VO.z (.fa rfl J3 rfl) ?_)))
 obtain ⟨q11_E,q11_A1,q11_c1,q11_A2,q11_c2,q11_A3,q11_c3,q11_A4,q11_c4,q11_A5,q11_c5,q11_n1,q11_n2,q11_n3,q11_n4,q11_n5,_,q11_S,q11_1,q11_2,q11_3,q11_4,q11_5,q11_8,q11_9⟩:=Qt ho9
 have q11_r1:=q11_1.rm
 have q11_r2:=q11_2.rm
 have q11_r3:=q11_3.rm
 have q11_r4:=q11_4.rm
 have q11_r5:=q11_5.rm
 simp only [inK] at q11_8 q11_9
 refine VO.inv _ (fun _ h=>h.parts (i:=109) rfl q11_S [117,112,113,114,115,116]) ?_
 refine VO.s1 117 tk4 ?_
 refine VO.clsP 118 [117,112,113,114,115,116] rfl (fun hg18=>(Jl _ _ _ _ _ _ _ _ _ _ hg18 q11_1 q11_2 q11_3 q11_4 q11_5 JV JV)) (fun mc18 ho18=>?_)
 refine VO.p2 118 0 (VO.k3 0 2 13 (VC.rs (VO.as (VO.k3 0 2 13 (VC.ret (QZ ?_))))))
 exact Zs 2 118 rfl ho18 (by first | rfl | (first | exact (Qbv Qo Qo).1 | exact (Qbw Qo Qo).1 | exact (QaH Qo).1)) (by first | rfl | (first | (rw [(Qbv (r:=d0) Qo Qo).2];rfl) | (rw [(Qbw (r:=d0) Qo Qo).2];rfl) | (rw [(QaH (r:=d0) Qo).2];rfl)))
 refine VC.skip (Qm (VC.seq (VC.rs (VO.mv (VO.z (.nilp rfl) (VO.z (.fa rfl J3 rfl) ?_))))))
 obtain ⟨q19_E,q19_A1,q19_c1,q19_A2,q19_c2,q19_A3,q19_c3,q19_A4,q19_c4,q19_A5,q19_c5,q19_n1,q19_n2,q19_n3,q19_n4,q19_n5,_,q19_S,q19_1,q19_2,q19_3,q19_4,q19_5,q19_8,q19_9⟩:=Qt ho9
 have q19_r1:=q19_1.rm
 have q19_r2:=q19_2.rm
 have q19_r3:=q19_3.rm
 have q19_r4:=q19_4.rm
 have q19_r5:=q19_5.rm
 simp only [inK] at q19_8 q19_9
 refine VO.inv _ (fun _ h=>h.parts (i:=109) rfl q19_S [125,120,121,122,123,124]) ?_
 refine VO.z (.ld1 125 rfl tk4 rfl (Qa rfl rfl)) ?_
 refine VO.clsP 126 [125,120,121,122,123,124] rfl (fun hg26=>(QP d0 hg26 q19_1 q19_2 q19_3 q19_4 q19_5 JV JV)) (fun mc26 ho26=>?_)
 refine VO.p2 126 0 (VO.k4 0 2 13 20 ?_)
 refine VC.condKT rfl hc8 ?_
 refine VC.reg ?_
 refine VO.mv (VO.z (.nilp rfl) (VO.z (.fa rfl J3 rfl) ?_))
 obtain ⟨q27_E,q27_A1,q27_c1,q27_A2,q27_c2,q27_A3,q27_c3,q27_A4,q27_c4,q27_A5,q27_c5,q27_n1,q27_n2,q27_n3,q27_n4,q27_n5,_,q27_S,q27_1,q27_2,q27_3,q27_4,q27_5,q27_8,q27_9⟩:=Qt ho26
 have q27_r1:=q27_1.rm
 have q27_r2:=q27_2.rm
 have q27_r3:=q27_3.rm
 have q27_r4:=q27_4.rm
 have q27_r5:=q27_5.rm
 simp only [inK] at q27_8 q27_9
 refine VO.inv _ (fun _ h=>h.parts (i:=126) rfl q27_S [133,128,129,130,131,132]) ?_
 refine VO.z (.ld1 133 rfl tk3 rfl (Qa rfl rfl)) ?_
 refine VO.z (.sub rfl rfl rfl ⟨by exact YK,by exact YK⟩) ?_
 refine VO.z (.nilp rfl) (VO.z (.fa rfl J3 rfl) ?_)
 refine VO.s1 133 tk3 ?_
 refine VO.clsP 134 [133,128,129,130,131,132] rfl (fun hg34=>(Jl _ _ _ _ _ _ _ _ _ _ hg34 q27_1 q27_2 q27_3 q27_4 q27_5 JV JV)) (fun mc34 ho34=>?_)
 refine VO.k4 0 2 13 20 (Qm (VC.rs (VO.mv (VO.z (.nilp rfl) (VO.z (.fa rfl J3 rfl) ?_)))))
 obtain ⟨q35_E,q35_A1,q35_c1,q35_A2,q35_c2,q35_A3,q35_c3,q35_A4,q35_c4,q35_A5,q35_c5,q35_n1,q35_n2,q35_n3,q35_n4,q35_n5,_,q35_S,q35_1,q35_2,q35_3,q35_4,q35_5,q35_8,q35_9⟩:=Qcm (x0:=d0.1) (x1:=d0.2.1.1) (x2:=d0.2.1.2.1) (x3:=d0.2.1.2.2.1) (x4:=d0.2.1.2.2.2) (x5:=d0.2.2.1) (x6:=d0.2.2.2.1) (x7:=d0.2.2.2.2.1) (x8:=d0.2.2.2.2.2.1 - 1) (x9:=d0.2.2.2.2.2.2) ho34
 have q35_r1:=q35_1.rm
 have q35_r2:=q35_2.rm
 have q35_r3:=q35_3.rm
 have q35_r4:=q35_4.rm
 have q35_r5:=q35_5.rm
 simp only [inK] at q35_8 q35_9
 refine VO.inv _ (fun _ h=>h.parts (i:=134) rfl q35_S [141,136,137,138,139,140]) ?_
 refine VO.z (.ld1 141 rfl tk3 rfl (Qa rfl rfl)) ?_
 refine VO.z (.add rfl rfl rfl ⟨by exact YK,by exact YK⟩) ?_
 refine VO.z (.nilp rfl) (VO.z (.fa rfl J3 rfl) ?_)
 refine VO.s1 141 tk3 ?_
 refine VO.clsP 142 [141,136,137,138,139,140] rfl (fun hg42=>(Jl _ _ _ _ _ _ _ _ _ _ hg42 q35_1 q35_2 q35_3 q35_4 q35_5 JV JV)) (fun mc42 ho42=>?_)
 refine VO.k4 0 2 13 20 (VC.rs (VO.as (VO.p2 142 0 (VO.k4 0 2 13 20 (VC.ret ?_)))))
 exact Zs 2 142 rfl ho42 (by first | rfl | (first | exact (Qbv Qo Qo).1 | exact (Qbw Qo Qo).1 | exact (QaH Qo).1)) (by first | rfl | (first | (rw [(Qbv (r:=d0) Qo Qo).2];rfl) | (rw [(Qbw (r:=d0) Qo Qo).2];rfl) | (rw [(QaH (r:=d0) Qo).2];rfl)))
 refine VO.gN (VO.gN (VO.gN (VO.gN (VO.gN (VO.z (.pF rfl rfl) ?_)))))
 refine VO.clsP 143 [107,102,103,104,105,106] rfl (fun hg43=>(QP d0 hg43 q1_1 q1_2 q1_3 q1_4 q1_5 JV JV)) (fun mc43 ho43=>?_)
 refine VO.k3 0 2 13 (VC.condF rfl (VC.skip (Qm (VC.seq (VC.rs (VO.mv (VO.z (.nilp rfl) (VO.z (.fa rfl J3 rfl) ?_))))))))
 obtain ⟨q44_E,q44_A1,q44_c1,q44_A2,q44_c2,q44_A3,q44_c3,q44_A4,q44_c4,q44_A5,q44_c5,q44_n1,q44_n2,q44_n3,q44_n4,q44_n5,_,q44_S,q44_1,q44_2,q44_3,q44_4,q44_5,q44_8,q44_9⟩:=Qt ho43
 have q44_r1:=q44_1.rm
 have q44_r2:=q44_2.rm
 have q44_r3:=q44_3.rm
 have q44_r4:=q44_4.rm
 have q44_r5:=q44_5.rm
 simp only [inK] at q44_8 q44_9
 refine VO.inv _ (fun _ h=>h.parts (i:=143) rfl q44_S [150,145,146,147,148,149]) ?_
 refine VO.z (.ld1 150 rfl tk4 rfl (Qa rfl rfl)) ?_
 refine VO.clsP 151 [150,145,146,147,148,149] rfl (fun hg51=>(QP d0 hg51 q44_1 q44_2 q44_3 q44_4 q44_5 JV JV)) (fun mc51 ho51=>?_)
 refine VO.p2 151 0 (VO.k4 0 2 13 20 ?_)
 refine VC.condKF rfl hc8 ?_
 refine VC.skip (Qm (VC.rs (VO.mv (VO.z (.nilp rfl) (VO.z (.fa rfl J3 rfl) ?_)))))
 obtain ⟨q52_E,q52_A1,q52_c1,q52_A2,q52_c2,q52_A3,q52_c3,q52_A4,q52_c4,q52_A5,q52_c5,q52_n1,q52_n2,q52_n3,q52_n4,q52_n5,_,q52_S,q52_1,q52_2,q52_3,q52_4,q52_5,q52_8,q52_9⟩:=Qt ho51
 have q52_r1:=q52_1.rm
 have q52_r2:=q52_2.rm
 have q52_r3:=q52_3.rm
 have q52_r4:=q52_4.rm
 have q52_r5:=q52_5.rm
 simp only [inK] at q52_8 q52_9
 refine VO.inv _ (fun _ h=>h.parts (i:=151) rfl q52_S [158,153,154,155,156,157]) ?_
 refine VO.z (.ld1 158 rfl tk3 rfl (Qa rfl rfl)) ?_
 refine VO.z (.add rfl rfl rfl ⟨by exact YK,by exact YK⟩) ?_
 refine VO.z (.nilp rfl) (VO.z (.fa rfl J3 rfl) ?_)
 refine VO.s1 158 tk3 ?_
 refine VO.clsP 159 [158,153,154,155,156,157] rfl (fun hg59=>(Jl _ _ _ _ _ _ _ _ _ _ hg59 q52_1 q52_2 q52_3 q52_4 q52_5 JV JV)) (fun mc59 ho59=>?_)
 refine VO.k4 0 2 13 20 (VC.rs (VO.as (VO.k4 0 2 13 20 (VC.ret ?_))))
 exact Zs 2 159 rfl ho59 (by first | rfl | (first | exact (Qbv Qo Qo).1 | exact (Qbw Qo Qo).1 | exact (QaH Qo).1)) (by first | rfl | (first | (rw [(Qbv (r:=d0) Qo Qo).2];rfl) | (rw [(Qbw (r:=d0) Qo Qo).2];rfl) | (rw [(QaH (r:=d0) Qo).2];rfl)))
theorem Qaw (W:World) {v0:Value} {d0:List UInt8} (h0:Rd (.sl .byte) (wm W) [v0] d0) {v1:List Value} {d1:XV} (h1:Rd YO (wm W) v1 d1) (e0:d1.2.1=true→0≤d1.2.2.1∧d1.2.2.1≤d0.length) (e1:d0.length+d1.2.2.2.length≤140737488355000):Qi Tryz.prog 98 [v0,.agg v1.toArray] W (Qx) (fun v m'=>∃ (s0:Value),v=s0∧Ow (.sl .byte) m' [s0] (Qb9 d0 d1)):=by
 obtain ⟨A0,c0,rfl,l0,k0⟩:=h0.slc
 obtain ⟨p1_A3,p1_c3,rfl,p1_0,p1_2,p1_3⟩:=Qax (x0:=d1.1) (x1:=d1.2.1) (x2:=d1.2.2.1) (x3:=d1.2.2.2) h1
 simp only [inK] at p1_0 p1_2
 have p1_r3:=Rd.room p1_3
 refine Qi.ofA (n:=21) Tryz.func98 rfl rfl rfl ?_
 refine VC.rs ?_
 refine VO.box (cs:=[.int .i64 (d1.1),.bool d1.2.1,.int .i64 (d1.2.2.1),.slice p1_A3 (d1.2.2.2.length) (p1_c3)]) 102 rfl rfl rfl (fun g1=>?_)
 refine VO.as (VO.k4 0 1 3 4 (VC.rs (VO.as (VO.k5 0 1 3 4 5 (VC.seq (VC.rs (VO.z (.fa rfl YX rfl) (VO.z (.ld1 102 rfl tk4 rfl (Qa rfl rfl)) (VO.p2 102 0 (VO.k6 0 1 3 4 5 7 ?_))))))))))
 refine VC.condB rfl (fun hc3=>?_) (fun hc3=>?_)
 ·refine VC.rs (VO.mv (VO.mv (VO.z (.fa rfl YX rfl) (VO.z (.ld1 102 rfl tk3 rfl (Qa rfl rfl)) ?_))))
  have hs4:=h0.pre (j:=((d1.2.2.1).toNat)) (by first | exact bd | (have h_:=e0 Qo;omega))
  refine VO.z (.slHI ((d1.2.2.1).toNat) rfl rfl Ji (by first | exact bd | (have h_:=e0 Qo;omega)) (by first | exact bd | (have h_:=e0 Qo;omega))) ?_
  refine VO.inv _ (fun _ h=>h.nilc 106) ?_
  obtain ⟨mo5,cs5,hM5,hA5,hC5⟩:=(QH.nil .byte Qx Qx)
  obtain ⟨all5,hS5,hR5⟩:=Rd.srcI (P:=Tryz.prog) (hs4) Tryz.underlying56
  refine VO.app 106 rfl rfl rfl Ji tz5 rfl rfl hM5 hA5 (hS5 _ 0 rfl) hR5.nice (by simp only [maxLen];(first | exact bd | (have h_:=e0 Qo;omega))) (by first | exact bd | (have h_:=e0 Qo;omega)) (by decide) (fun v5 m5 hN5=>?_)
  have ho5:QH .byte m5 Qx v5 ((d0).take ((d1.2.2.1).toNat)):=QH.more hC5 hN5 (Je.mono hR5 fun _ _ h=>Rd.flat rfl h _)
  obtain ⟨A5,c5,rfl,l5,k5⟩:=ho5.slc
  refine VO.as (VO.k6 0 1 3 4 5 7 (VC.ret (QZ ?_)))
  refine Yd 4 [106] fun hS_=>?_
  dsimp only [QE]
  exact ⟨Value.slice A5 (((d0).take ((d1.2.2.1).toNat)).length) (c5),(by first | rfl | (simp [*];done)),(Ow.cg (Ow.up (QH.ow ho5 rfl) (hS_.1 _ (.head _))) (by first | rfl | (simp [Qb9, *];done)))⟩
 ·refine VC.skip (Qm (VC.rs (VO.mv (VO.mv ?_))))
  refine VO.inv _ (fun _ h=>h.nilc 108) ?_
  obtain ⟨mo7,cs7,hM7,hA7,hC7⟩:=(QH.nil .byte Qx Qx)
  obtain ⟨all7,hS7,hR7⟩:=Rd.srcI (P:=Tryz.prog) (h0) Tryz.underlying56
  refine VO.app 108 rfl rfl rfl Ji tz5 rfl rfl hM7 hA7 (hS7 _ 0 rfl) hR7.nice (by simp only [maxLen];(first | exact bd | (have h_:=e0 Qo;omega))) (by first | exact bd | (have h_:=e0 Qo;omega)) (by decide) (fun v7 m7 hN7=>?_)
  have ho7:QH .byte m7 Qx v7 (d0):=QH.more hC7 hN7 (Je.mono hR7 fun _ _ h=>Rd.flat rfl h _)
  obtain ⟨A7,c7,rfl,l7,k7⟩:=ho7.slc
  refine VO.as (VO.k6 0 1 3 4 5 7 (VC.rs (VO.mv (VO.z (.fa rfl YX rfl) (VO.z (.ld1 102 rfl Y4 rfl (Qa rfl rfl)) ?_)))))
  obtain ⟨mo9,cs9,hM9,hA9,hC9⟩:=ho7
  obtain ⟨all9,hS9,hR9⟩:=Rd.srcI (P:=Tryz.prog) (p1_3) Tryz.underlying56
  refine VO.app 108 rfl rfl rfl Ji tz5 rfl rfl hM9 hA9 (hS9 _ 0 rfl) hR9.nice (by simp only [maxLen];(first | exact bd | (have h_:=e0 Qo;omega))) (by first | exact bd | (have h_:=e0 Qo;omega)) (by decide) (fun v9 m9 hN9=>?_)
  have ho9:QH .byte m9 Qx v9 (d0++d1.2.2.2):=QH.more hC9 hN9 (Je.mono hR9 fun _ _ h=>Rd.flat rfl h _)
  obtain ⟨A9,c9,rfl,l9,k9⟩:=ho9.slc
  refine VO.as (VO.k6 0 1 3 4 5 7 (VC.ret ?_))
  refine Yd 4 [108] fun hS_=>?_
  dsimp only [QE]
  exact ⟨Value.slice A9 ((d0++d1.2.2.2).length) (c9),(by first | rfl | (simp [*];done)),(Ow.cg (Ow.up (QH.ow ho9 rfl) (hS_.1 _ (.head _))) (by first | rfl | (simp [Qb9, *];done)))⟩
set_option maxHeartbeats 1000000 in
theorem Qdy (W:World) {m0:Mem} (hm:mle (m0) (wm W)) {g0:Nat} {d0:Qy} (h0:Ow (.ptr QD) m0 [.pointer (some ⟨g0,0,none⟩)] (g0,d0)) (d1:Int) (h1:inK .i64 d1) (e0:okR d0) (e1:wD (Qd d0)≤2*1000000000000) (e2:inF d1):Qi Tryz.prog 78 [.pointer (some ⟨g0,0,none⟩),.int .i64 d1] W (m0) (fun v m'=>∃ (s0:Value),∃ (p0:Mem),∃ (p1:Mem),v=s0∧QA m' [p0,p1]∧Ow (.sl .byte) p0 [s0] (J6 d0.2.1 (d0.2.2.1.map Q6) d1)∧Ow (.ptr QD) p1 [.pointer (some ⟨g0,0,none⟩)] (g0,d0)):=by
 have hok0:okD (Qd d0):=e0;obtain ⟨hg,hfu,hst⟩:=hok0;have hok0:okD (Qd d0):=e0;simp only [wD,YU] at e1;simp only [Qd] at e1 hfu hst;have hin:=e2;simp only [inF] at hin
 have h1':=h1;simp only [inK] at h1'
 refine Qi.ofB (n:=44) hm Tryz.func78 rfl rfl rfl ?_
 refine VC.rs (VO.as (VO.k3 0 1 4 (VC.rs (VO.as (VO.k4 0 1 4 5 ?_)))))
 refine VC.seqJ (G:=(List UInt8) × (Option Addr) × Nat × Mem × Mem) (fun g=>[(5,.slice (g.2.1) ((g.1).length) ((g.2.2.1))),(0,.pointer (some ⟨g0,0,none⟩)),(1,.int .i64 (d1)),(4,.slice none (0) (0))]) (fun g=>[(111,(g.2.2.2.2)),(110,(g.2.2.2.1)),(0,J4 (wm W) (m0))]) (fun g=>((g.1)=J6 d0.2.1 ((d0.2.2.1.map Q6).take 0) d1)∧(QH .byte (g.2.2.2.1) Qx (.slice (g.2.1) (g.1).length (g.2.2.1)) (g.1))∧(Ow (.ptr QD) (g.2.2.2.2) [.pointer (some ⟨g0,0,none⟩)] (g0,d0))) ?_ ?_
 rintro ⟨bj,bj_A,bj_c,bj_m,dd_m⟩ ⟨hbj,h_bj,h_dd⟩
 replace hbj:bj=J6 d0.2.1 ((d0.2.2.1.map Q6).take 0) d1:=hbj
 replace h_bj:QH .byte bj_m Qx (.slice bj_A bj.length bj_c) bj:=h_bj
 replace h_dd:Ow (.ptr QD) dd_m [.pointer (some ⟨g0,0,none⟩)] (g0,d0):=h_dd
 show VC _ _ _ _ _ [(5,.slice bj_A (bj.length) (bj_c)),(0,.pointer (some ⟨g0,0,none⟩)),(1,.int .i64 (d1)),(4,.slice none (0) (0))] [(111,dd_m),(110,bj_m),(0,J4 (wm W) (m0))]
 have l_bj:bj.length≤bj_c:=by obtain ⟨_,_,he,hl,_⟩:=h_bj.slice;simp only [Value.slice.injEq] at he;omega
 have k_bj:bj_c≤9223372036854775807:=by obtain ⟨_,_,he,_,hl⟩:=h_bj.slice;simp only [Value.slice.injEq,maxLen] at he hl;omega
 obtain ⟨q12_E,q12_A1,q12_c1,q12_A2,q12_c2,q12_A3,q12_c3,q12_A4,q12_c4,q12_A5,q12_c5,q12_n1,q12_n2,q12_n3,q12_n4,q12_n5,_,q12_S,q12_1,q12_2,q12_3,q12_4,q12_5,q12_8,q12_9⟩:=Qt h_dd
 have q12_r1:=q12_1.rm
 have q12_r2:=q12_2.rm
 have q12_r3:=q12_3.rm
 have q12_r4:=q12_4.rm
 have q12_r5:=q12_5.rm
 simp only [inK] at q12_8 q12_9
 refine VC.inv _ (fun _ h=>h.parts (i:=111) rfl q12_S [118,113,114,115,116,117]) ?_
 refine VC.seq (VC.rs (VO.as (VO.k5 0 1 4 5 6 (VC.block ?_))))
 refine VC.loop (G:=Nat × (List UInt8) × (Option Addr) × Nat × Mem) (fun g=>[(5,.slice (g.2.2.1) ((g.2.1).length) ((g.2.2.2.1))),(6,.int .i64 ((((g.1):Nat):Int))),(0,.pointer (some ⟨g0,0,none⟩)),(1,.int .i64 (d1)),(4,.slice none (0) (0))]) (fun g=>[(118,QM g0 (.cells #[.bool d0.1,.slice q12_A1 (d0.2.1.1.length) (q12_c1),.slice q12_A2 (d0.2.1.2.1.length) (q12_c2),.slice q12_A3 (d0.2.1.2.2.1.length) (q12_c3),.slice q12_A4 (d0.2.1.2.2.2.length) (q12_c4),.slice q12_A5 (d0.2.2.1.length) (q12_c5),.bool d0.2.2.2.1,.bool d0.2.2.2.2.1,.int .i64 (d0.2.2.2.2.2.1),.int .i64 (d0.2.2.2.2.2.2)] q12_E (0,0))),(113,q12_n1),(114,q12_n2),(115,q12_n3),(116,q12_n4),(117,q12_n5),(110,(g.2.2.2.2)),(0,J4 (wm W) (m0))]) (fun g=>((g.1)≤d0.2.2.1.length)∧((g.2.1)=J6 d0.2.1 ((d0.2.2.1.map Q6).take (g.1)) d1)∧(QH .byte (g.2.2.2.2) Qx (.slice (g.2.2.1) (g.2.1).length (g.2.2.2.1)) (g.2.1))) (fun g=>d0.2.2.1.length - (g.1)) (0,bj,bj_A,bj_c,bj_m) (⟨by omega,by exact hbj,h_bj⟩) ⟨esn,fun _ h=>h.sub [118,113,114,115,116,117,110,0]⟩ ?_
 rintro ⟨k,b,b_A,b_c,b_m⟩ ⟨hk,hb,h_b⟩
 replace hk:k≤d0.2.2.1.length:=hk
 replace hb:b=J6 d0.2.1 ((d0.2.2.1.map Q6).take k) d1:=hb
 replace h_b:QH .byte b_m Qx (.slice b_A b.length b_c) b:=h_b
 show VC _ _ _ _ _ [(5,.slice b_A (b.length) (b_c)),(6,.int .i64 (((k:Nat):Int))),(0,.pointer (some ⟨g0,0,none⟩)),(1,.int .i64 (d1)),(4,.slice none (0) (0))] [(118,QM g0 (.cells #[.bool d0.1,.slice q12_A1 (d0.2.1.1.length) (q12_c1),.slice q12_A2 (d0.2.1.2.1.length) (q12_c2),.slice q12_A3 (d0.2.1.2.2.1.length) (q12_c3),.slice q12_A4 (d0.2.1.2.2.2.length) (q12_c4),.slice q12_A5 (d0.2.2.1.length) (q12_c5),.bool d0.2.2.2.1,.bool d0.2.2.2.2.1,.int .i64 (d0.2.2.2.2.2.1),.int .i64 (d0.2.2.2.2.2.2)] q12_E (0,0))),(113,q12_n1),(114,q12_n2),(115,q12_n3),(116,q12_n4),(117,q12_n5),(110,b_m),(0,J4 (wm W) (m0))]
 have l_b:b.length≤b_c:=by obtain ⟨_,_,he,hl,_⟩:=h_b.slice;simp only [Value.slice.injEq] at he;omega
 have k_b:b_c≤9223372036854775807:=by obtain ⟨_,_,he,_,hl⟩:=h_b.slice;simp only [Value.slice.injEq,maxLen] at he hl;omega
 refine VC.seq (VC.rs (VO.mv (VO.mv (VO.z (.nilp rfl) (VO.z (.fa rfl J3 rfl) (VO.z (.ld1 118 rfl Qf7 rfl (Qa rfl rfl)) (VO.z (.lenS rfl Qdq) (VO.z (.lss rfl rfl) (VO.k6 0 1 4 5 6 21 ?_)))))))))
 refine VC.cond rfl (fun hc19=>?_) (fun hc19=>?_)
 refine VC.skip (Qm (VC.seq (VC.block (VC.rs (VO.mv (VO.z (.nilp rfl) (VO.z (.fa rfl J3 rfl) (VO.z (.ld1 118 rfl Qf7 rfl (Qa rfl rfl)) (VO.mv ?_)))))))))
 obtain ⟨x20,hx20⟩:∃ z_,(d0.2.2.1)[k]? =some z_:=⟨_,List.getElem?_eq_getElem bd⟩
 obtain ⟨gg20,oo20,ec20,ea20,hce20,hre20⟩:=(Ow.rd q12_5 (Qc _)).elem hx20
 cases ea20
 obtain ⟨q20_A3,q20_c3,rfl,q20_0,q20_2,q20_3⟩:=Qax (x0:=x20.1) (x1:=x20.2.1) (x2:=x20.2.2.1) (x3:=x20.2.2.2) hre20
 simp only [inK] at q20_0 q20_2
 have q20_r3:=Rd.room q20_3
 refine VO.z (.ixI k rfl rfl Qdq rfl bd) ?_
 refine VO.z (.fa rfl YX rfl) ?_
 refine VO.z (.ld1 117 rfl tk3 rfl (hce20.at1 (j:=0) rfl)) ?_
 refine VO.mv (VO.z (.eql rfl rfl) (VO.p8 118 113 114 115 116 117 110 0 (VO.k7 0 1 4 5 6 21 33 ?_)))
 refine VC.cond rfl (fun hc21=>?_) (fun hc21=>?_)
 refine VC.reg ?_
 refine VO.mv (VO.mv (VO.z (.nilp rfl) (VO.z (.fa rfl J3 rfl) (VO.z (.ld1 118 rfl Qf7 rfl (Qa rfl rfl)) (VO.mv ?_)))))
 refine VO.z (.ixI k rfl rfl Qdq rfl bd) ?_
 refine VO.z (.ldA 117 rfl Qhe rfl hce20) ?_
 refine VO.callN 123 rfl QdN rfl (fun W hW=>Qaw W (QH.rd h_b (hW.t 110) (JF _)) (Rd.mono hre20 (hW.t 117)) (by (have h_:=QkX hok0.1 hb (Jz ‹d0.2.2.1[k]? =some _›) e2 ‹_=d1›;exact fun hc_=>h_ (QlE hc_))) (by (have h_:=QiM hb (Jz ‹d0.2.2.1[k]? =some _›);simp only [YU,Q6] at h_;omega))) (fun v23 m23 hv23=>?_)
 obtain ⟨s23_0,rfl,f23_0⟩:=hv23
 obtain ⟨A23_0,c23_0,eq23_0,l23_0,k23_0⟩:=f23_0.slc
 subst eq23_0
 refine VO.as (VO.k7 0 1 4 5 6 21 33 (JL (Qm ?_)))
 refine VC.reg ?_
 refine VO.mv ?_
 refine VO.z (.add (c:=((k+1:Nat):Int)) rfl rfl Qn ⟨bd,bd⟩) ?_
 refine VO.as (VO.k7 0 1 4 5 6 21 33 ?_)
 exact Qm ⟨⟨k+1,Qb9 b x20,A23_0,c23_0,m23⟩,⟨by omega,by first | (have h_:=Qfb hb (Jz ‹d0.2.2.1[k]? =some _›) ‹_=d1›;rw [← Yc] at h_;exact h_) | exact QhB hb (Jz ‹d0.2.2.1[k]? =some _›) ‹¬ _=d1›,(Ow.ownl f23_0 rfl Qx)⟩,by (dsimp only;omega),⟨esn,fun _ h=>Inv.sub (Inv.num h 123 110 rfl) [118,113,114,115,116,117,110,0]⟩⟩
 refine VC.skip (JL (Qm ?_))
 refine VC.reg ?_
 refine VO.mv ?_
 refine VO.z (.add (c:=((k+1:Nat):Int)) rfl rfl Qn ⟨bd,bd⟩) ?_
 refine VO.as (VO.k7 0 1 4 5 6 21 33 ?_)
 exact Qm ⟨⟨k+1,b,b_A,b_c,b_m⟩,⟨by omega,by first | (have h_:=Qfb hb (Jz ‹d0.2.2.1[k]? =some _›) ‹_=d1›;rw [← Yc] at h_;exact h_) | exact QhB hb (Jz ‹d0.2.2.1[k]? =some _›) ‹¬ _=d1›,h_b⟩,by (dsimp only;omega),⟨esn,fun _ h=>Inv.sub h [118,113,114,115,116,117,110,0]⟩⟩
 · refine VC.exit (Zh (Zh (Zi (Qm (VC.rs (VO.mv (VO.as (VO.p8 118 113 114 115 116 117 110 0 (VO.k6 0 1 4 5 6 21 (VC.ret ?_))))))))))
   refine Yd 4 [110,118,113,114,115,116,117] fun hS_=>?_
   dsimp only [QE]
   have hm0_:(d0:Qy)=d0:=by first | rfl | (rw [hb,List.take_of_length_le (by rw [List.length_map];omega)])
   refine ⟨.slice b_A (b.length) (b_c),Zc [b_m],Zc [QM g0 (.cells #[.bool d0.1,.slice q12_A1 (d0.2.1.1.length) (q12_c1),.slice q12_A2 (d0.2.1.2.1.length) (q12_c2),.slice q12_A3 (d0.2.1.2.2.1.length) (q12_c3),.slice q12_A4 (d0.2.1.2.2.2.length) (q12_c4),.slice q12_A5 (d0.2.2.1.length) (q12_c5),.bool d0.2.2.2.1,.bool d0.2.2.2.2.1,.int .i64 (d0.2.2.2.2.2.1),.int .i64 (d0.2.2.2.2.2.2)] q12_E (0,0)),q12_n1,q12_n2,q12_n3,q12_n4,q12_n5],?_,?_,?_,?_⟩
   rotate_left
   · exact QA.grp (ls:=[[b_m],[QM g0 (.cells [Value.bool d0.1,Value.slice q12_A1 (d0.2.1.1.length) (q12_c1),Value.slice q12_A2 (d0.2.1.2.1.length) (q12_c2),Value.slice q12_A3 (d0.2.1.2.2.1.length) (q12_c3),Value.slice q12_A4 (d0.2.1.2.2.2.length) (q12_c4),Value.slice q12_A5 (d0.2.2.1.length) (q12_c5),Value.bool d0.2.2.2.1,Value.bool d0.2.2.2.2.1,Value.int .i64 (d0.2.2.2.2.2.1),Value.int .i64 (d0.2.2.2.2.2.2)].toArray q12_E (0,0)),q12_n1,q12_n2,q12_n3,q12_n4,q12_n5]]) hS_
   · exact Ow.cg (Ow.up (QH.ow h_b rfl) ((QA.self hS_ (List.Sublist.cons_cons _ (List.Sublist.cons _ (List.Sublist.cons _ (List.Sublist.cons _ (List.Sublist.cons _ (List.Sublist.cons _ (List.Sublist.cons _ List.Sublist.slnil)))))))).1 _ (.head _))) (by first | rfl | (rw [hb,List.take_of_length_le (by rw [List.length_map];omega)]))
   · rw [hm0_];exact (QP d0 (QA.self hS_ (List.Sublist.cons _ (List.Sublist.cons_cons _ (List.Sublist.cons_cons _ (List.Sublist.cons_cons _ (List.Sublist.cons_cons _ (List.Sublist.cons_cons _ (List.Sublist.cons_cons _ List.Sublist.slnil)))))))) q12_1 q12_2 q12_3 q12_4 q12_5 bdk bdk)
   all_goals (first | rfl | (simp [*];done))
 intro hJ1
 refine VC.reg ?_
 refine VO.mv (VO.mv (VO.mv (VO.z (.nilp rfl) (VO.z (.fa rfl J3 rfl) ?_))))
 rcases (show d1=(0:Int)∨d1=(1:Int)∨d1=(2:Int)∨d1=(3:Int) from by first | exact bd) with hi24 | hi24 | hi24 | hi24
 refine VO.z (.ixa (i:=0) (o:=1) rfl rfl Ya hi24 rfl rfl) ?_
 obtain ⟨q25_E,q25_A1,q25_c1,q25_A2,q25_c2,q25_A3,q25_c3,q25_A4,q25_c4,q25_A5,q25_c5,q25_n1,q25_n2,q25_n3,q25_n4,q25_n5,_,q25_S,q25_1,q25_2,q25_3,q25_4,q25_5,q25_8,q25_9⟩:=Qt h0
 have q25_r1:=q25_1.rm
 have q25_r2:=q25_2.rm
 have q25_r3:=q25_3.rm
 have q25_r4:=q25_4.rm
 have q25_r5:=q25_5.rm
 simp only [inK] at q25_8 q25_9
 refine VO.inv _ (fun _ h=>h.parts (i:=1) rfl q25_S [131,126,127,128,129,130]) ?_
 refine VO.z (.ld1 131 rfl Y4 rfl (Qa rfl rfl)) ?_
 refine VO.inv _ (fun _ h=>h.nilc 133) ?_
 obtain ⟨mo32,cs32,hM32,hA32,hC32⟩:=(QH.nil .byte Qx Qx)
 obtain ⟨all32,hS32,hR32⟩:=Rd.srcI (P:=Tryz.prog) ((Ow.rd q25_1 (Qc _))) Tryz.underlying56
 refine VO.app 133 rfl rfl rfl Ji tz5 rfl rfl hM32 hA32 (hS32 _ 126 rfl) hR32.nice bdm bd (by decide) (fun v32 m32 hN32=>?_)
 have ho32:QH .byte m32 Qx v32 (d0.2.1.1):=QH.more hC32 hN32 (Je.mono hR32 fun _ _ h=>Rd.flat rfl h _)
 obtain ⟨A32,c32,rfl,l32,k32⟩:=ho32.slc
 refine VO.as ?_
 refine VO.clsP 134 [131,126,127,128,129,130] rfl (fun hg34=>(QP d0 hg34 q25_1 q25_2 q25_3 q25_4 q25_5 bdk bdk)) (fun mc34 ho34=>?_)
 refine VO.p3 134 133 0 (VO.k4 0 1 4 5 ?_)
 exact Qm (hJ1 ⟨d0.2.1.1,A32,c32,m32,mc34⟩ _ _ ⟨by first | exact (Xv ‹d1=(0:Int)›).symm | exact (Xu ‹d1=(1:Int)›).symm | exact (Xt ‹d1=(2:Int)›).symm | exact (Xs ‹d1=(3:Int)›).symm,ho32,ho34⟩ ⟨esn,fun _ h=>Inv.sub (Inv.num (Inv.num h 133 110 rfl) 134 111 rfl) [111,110,0]⟩)
 refine VO.z (.ixa (i:=1) (o:=2) rfl rfl Ya hi24 rfl rfl) ?_
 obtain ⟨q35_E,q35_A1,q35_c1,q35_A2,q35_c2,q35_A3,q35_c3,q35_A4,q35_c4,q35_A5,q35_c5,q35_n1,q35_n2,q35_n3,q35_n4,q35_n5,_,q35_S,q35_1,q35_2,q35_3,q35_4,q35_5,q35_8,q35_9⟩:=Qt h0
 have q35_r1:=q35_1.rm
 have q35_r2:=q35_2.rm
 have q35_r3:=q35_3.rm
 have q35_r4:=q35_4.rm
 have q35_r5:=q35_5.rm
 simp only [inK] at q35_8 q35_9
 refine VO.inv _ (fun _ h=>h.parts (i:=1) rfl q35_S [141,136,137,138,139,140]) ?_
 refine VO.z (.ld1 141 rfl Y4 rfl (Qa rfl rfl)) ?_
 refine VO.inv _ (fun _ h=>h.nilc 143) ?_
 obtain ⟨mo42,cs42,hM42,hA42,hC42⟩:=(QH.nil .byte Qx Qx)
 obtain ⟨all42,hS42,hR42⟩:=Rd.srcI (P:=Tryz.prog) ((Ow.rd q35_2 (Qc _))) Tryz.underlying56
 refine VO.app 143 rfl rfl rfl Ji tz5 rfl rfl hM42 hA42 (hS42 _ 137 rfl) hR42.nice bdm bd (by decide) (fun v42 m42 hN42=>?_)
 have ho42:QH .byte m42 Qx v42 (d0.2.1.2.1):=QH.more hC42 hN42 (Je.mono hR42 fun _ _ h=>Rd.flat rfl h _)
 obtain ⟨A42,c42,rfl,l42,k42⟩:=ho42.slc
 refine VO.as ?_
 refine VO.clsP 144 [141,136,137,138,139,140] rfl (fun hg44=>(QP d0 hg44 q35_1 q35_2 q35_3 q35_4 q35_5 bdk bdk)) (fun mc44 ho44=>?_)
 refine VO.p3 144 143 0 (VO.k4 0 1 4 5 ?_)
 exact Qm (hJ1 ⟨d0.2.1.2.1,A42,c42,m42,mc44⟩ _ _ ⟨by first | exact (Xv ‹d1=(0:Int)›).symm | exact (Xu ‹d1=(1:Int)›).symm | exact (Xt ‹d1=(2:Int)›).symm | exact (Xs ‹d1=(3:Int)›).symm,ho42,ho44⟩ ⟨esn,fun _ h=>Inv.sub (Inv.num (Inv.num h 143 110 rfl) 144 111 rfl) [111,110,0]⟩)
 refine VO.z (.ixa (i:=2) (o:=3) rfl rfl Ya hi24 rfl rfl) ?_
 obtain ⟨q45_E,q45_A1,q45_c1,q45_A2,q45_c2,q45_A3,q45_c3,q45_A4,q45_c4,q45_A5,q45_c5,q45_n1,q45_n2,q45_n3,q45_n4,q45_n5,_,q45_S,q45_1,q45_2,q45_3,q45_4,q45_5,q45_8,q45_9⟩:=Qt h0
 have q45_r1:=q45_1.rm
 have q45_r2:=q45_2.rm
 have q45_r3:=q45_3.rm
 have q45_r4:=q45_4.rm
 have q45_r5:=q45_5.rm
 simp only [inK] at q45_8 q45_9
 refine VO.inv _ (fun _ h=>h.parts (i:=1) rfl q45_S [151,146,147,148,149,150]) ?_
 refine VO.z (.ld1 151 rfl Y4 rfl (Qa rfl rfl)) ?_
 refine VO.inv _ (fun _ h=>h.nilc 153) ?_
 obtain ⟨mo52,cs52,hM52,hA52,hC52⟩:=(QH.nil .byte Qx Qx)
 obtain ⟨all52,hS52,hR52⟩:=Rd.srcI (P:=Tryz.prog) ((Ow.rd q45_3 (Qc _))) Tryz.underlying56
 refine VO.app 153 rfl rfl rfl Ji tz5 rfl rfl hM52 hA52 (hS52 _ 148 rfl) hR52.nice bdm bd (by decide) (fun v52 m52 hN52=>?_)
 have ho52:QH .byte m52 Qx v52 (d0.2.1.2.2.1):=QH.more hC52 hN52 (Je.mono hR52 fun _ _ h=>Rd.flat rfl h _)
 obtain ⟨A52,c52,rfl,l52,k52⟩:=ho52.slc
 refine VO.as ?_
 refine VO.clsP 154 [151,146,147,148,149,150] rfl (fun hg54=>(QP d0 hg54 q45_1 q45_2 q45_3 q45_4 q45_5 bdk bdk)) (fun mc54 ho54=>?_)
 refine VO.p3 154 153 0 (VO.k4 0 1 4 5 ?_)
 exact Qm (hJ1 ⟨d0.2.1.2.2.1,A52,c52,m52,mc54⟩ _ _ ⟨by first | exact (Xv ‹d1=(0:Int)›).symm | exact (Xu ‹d1=(1:Int)›).symm | exact (Xt ‹d1=(2:Int)›).symm | exact (Xs ‹d1=(3:Int)›).symm,ho52,ho54⟩ ⟨esn,fun _ h=>Inv.sub (Inv.num (Inv.num h 153 110 rfl) 154 111 rfl) [111,110,0]⟩)
 refine VO.z (.ixa (i:=3) (o:=4) rfl rfl Ya hi24 rfl rfl) ?_
 obtain ⟨q55_E,q55_A1,q55_c1,q55_A2,q55_c2,q55_A3,q55_c3,q55_A4,q55_c4,q55_A5,q55_c5,q55_n1,q55_n2,q55_n3,q55_n4,q55_n5,_,q55_S,q55_1,q55_2,q55_3,q55_4,q55_5,q55_8,q55_9⟩:=Qt h0
 have q55_r1:=q55_1.rm
 have q55_r2:=q55_2.rm
 have q55_r3:=q55_3.rm
 have q55_r4:=q55_4.rm
 have q55_r5:=q55_5.rm
 simp only [inK] at q55_8 q55_9
 refine VO.inv _ (fun _ h=>h.parts (i:=1) rfl q55_S [161,156,157,158,159,160]) ?_
 refine VO.z (.ld1 161 rfl Y4 rfl (Qa rfl rfl)) ?_
 refine VO.inv _ (fun _ h=>h.nilc 163) ?_
 obtain ⟨mo62,cs62,hM62,hA62,hC62⟩:=(QH.nil .byte Qx Qx)
 obtain ⟨all62,hS62,hR62⟩:=Rd.srcI (P:=Tryz.prog) ((Ow.rd q55_4 (Qc _))) Tryz.underlying56
 refine VO.app 163 rfl rfl rfl Ji tz5 rfl rfl hM62 hA62 (hS62 _ 159 rfl) hR62.nice bdm bd (by decide) (fun v62 m62 hN62=>?_)
 have ho62:QH .byte m62 Qx v62 (d0.2.1.2.2.2):=QH.more hC62 hN62 (Je.mono hR62 fun _ _ h=>Rd.flat rfl h _)
 obtain ⟨A62,c62,rfl,l62,k62⟩:=ho62.slc
 refine VO.as ?_
 refine VO.clsP 164 [161,156,157,158,159,160] rfl (fun hg64=>(QP d0 hg64 q55_1 q55_2 q55_3 q55_4 q55_5 bdk bdk)) (fun mc64 ho64=>?_)
 refine VO.p3 164 163 0 (VO.k4 0 1 4 5 ?_)
 exact Qm (hJ1 ⟨d0.2.1.2.2.2,A62,c62,m62,mc64⟩ _ _ ⟨by first | exact (Xv ‹d1=(0:Int)›).symm | exact (Xu ‹d1=(1:Int)›).symm | exact (Xt ‹d1=(2:Int)›).symm | exact (Xs ‹d1=(3:Int)›).symm,ho62,ho64⟩ ⟨esn,fun _ h=>Inv.sub (Inv.num (Inv.num h 163 110 rfl) 164 111 rfl) [111,110,0]⟩)
theorem QaA {P:Prop} (h:P:=by first | (have h_:=(X7 hok0.1 hb (Jz ‹d0.2.2.1[k]? =some _›)).2;rw [Xv (YC ‹_=(0:Int)›)] at h_;exact fun hc_=>h_ (QlE hc_)) | (have h_:=(X7 hok0.1 hb (Jz ‹d0.2.2.1[k]? =some _›)).2;rw [Xu (YC ‹_=(1:Int)›)] at h_;exact fun hc_=>h_ (QlE hc_)) | (have h_:=(X7 hok0.1 hb (Jz ‹d0.2.2.1[k]? =some _›)).2;rw [Xt (YC ‹_=(2:Int)›)] at h_;exact fun hc_=>h_ (QlE hc_)) | (have h_:=(X7 hok0.1 hb (Jz ‹d0.2.2.1[k]? =some _›)).2;rw [Xs (YC ‹_=(3:Int)›)] at h_;exact fun hc_=>h_ (QlE hc_))):P:=h
theorem Qaz {P:Prop} (h:P:=by first | (have h_:=Xr hb (Jz ‹d0.2.2.1[k]? =some _›);rw [Xv (YC ‹_=(0:Int)›)] at h_;simp only [YU,Q6] at h_;omega) | (have h_:=Xr hb (Jz ‹d0.2.2.1[k]? =some _›);rw [Xu (YC ‹_=(1:Int)›)] at h_;simp only [YU,Q6] at h_;omega) | (have h_:=Xr hb (Jz ‹d0.2.2.1[k]? =some _›);rw [Xt (YC ‹_=(2:Int)›)] at h_;simp only [YU,Q6] at h_;omega) | (have h_:=Xr hb (Jz ‹d0.2.2.1[k]? =some _›);rw [Xs (YC ‹_=(3:Int)›)] at h_;simp only [YU,Q6] at h_;omega)):P:=h
theorem Zl {P:Prop} (h:P:=by first | exact bd | (have h_:=(X7 hok0.1 hb (Jz ‹d0.2.2.1[k]? =some _›)).1;simp only [inF,Q6] at h_;omega)):P:=h
theorem Qbd {k:IntKind} {x:Int} (h:inK k x:=by simp only [inK];exact Zl):inK k x:=h
set_option maxHeartbeats 1000000 in
theorem QkH (W:World) {m0:Mem} (hm:mle (m0) (wm W)) {g0:Nat} {d0:Qy} (h0:Ow (.ptr QD) m0 [.pointer (some ⟨g0,0,none⟩)] (g0,d0)) (d1:Int) (h1:inK .i64 d1) (e0:okR d0) (e1:wD (Qd d0)≤2*1000000000000) (e2:0≤d1):Qi Tryz.prog 97 [.pointer (some ⟨g0,0,none⟩),.int .i64 d1] W (m0) (fun v m'=>v= .tuple #[]∧Ow (.ptr QD) m' [.pointer (some ⟨g0,0,none⟩)] (g0,toR (JB (Qd d0) d1.toNat) d0.2.2.2.2.2.1)):=by
 have hok0:okD (Qd d0):=e0;obtain ⟨hg,hfu,hst⟩:=hok0;have hok0:okD (Qd d0):=e0;simp only [wD,YU] at e1;simp only [Qd] at e1 hfu hst
 have h1':=h1;simp only [inK] at h1'
 refine Qi.ofB (n:=42) hm Tryz.func97 rfl rfl rfl ?_
 refine VC.rs (VO.as (VO.k3 0 1 4 (VC.block ?_)))
 obtain ⟨q1_E,q1_A1,q1_c1,q1_A2,q1_c2,q1_A3,q1_c3,q1_A4,q1_c4,q1_A5,q1_c5,q1_n1,q1_n2,q1_n3,q1_n4,q1_n5,_,q1_S,q1_1,q1_2,q1_3,q1_4,q1_5,q1_8,q1_9⟩:=Qt h0
 have q1_r1:=q1_1.rm
 have q1_r2:=q1_2.rm
 have q1_r3:=q1_3.rm
 have q1_r4:=q1_4.rm
 have q1_r5:=q1_5.rm
 simp only [inK] at q1_8 q1_9
 refine VC.inv _ (fun _ h=>h.parts (i:=1) rfl q1_S [107,102,103,104,105,106]) ?_
 refine VC.loop (G:=Nat × (List UInt8) × (Option Addr) × Nat × Mem × (List UInt8) × (Option Addr) × Nat × Mem × (List UInt8) × (Option Addr) × Nat × Mem × (List UInt8) × (Option Addr) × Nat × Mem) (fun g=>[(4,.int .i64 ((((g.1):Nat):Int))),(0,.pointer (some ⟨g0,0,none⟩)),(1,.int .i64 (d1))]) (fun g=>[(107,QM g0 (.cells #[.bool d0.1,.slice (g.2.2.1) ((g.2.1).length) ((g.2.2.2.1)),.slice (g.2.2.2.2.2.2.1) ((g.2.2.2.2.2.1).length) ((g.2.2.2.2.2.2.2.1)),.slice (g.2.2.2.2.2.2.2.2.2.2.1) ((g.2.2.2.2.2.2.2.2.2.1).length) ((g.2.2.2.2.2.2.2.2.2.2.2.1)),.slice (g.2.2.2.2.2.2.2.2.2.2.2.2.2.2.1) ((g.2.2.2.2.2.2.2.2.2.2.2.2.2.1).length) ((g.2.2.2.2.2.2.2.2.2.2.2.2.2.2.2.1)),.slice q1_A5 (d0.2.2.1.length) (q1_c5),.bool d0.2.2.2.1,.bool d0.2.2.2.2.1,.int .i64 (d0.2.2.2.2.2.1),.int .i64 (d0.2.2.2.2.2.2)] q1_E (0,0))),(102,(g.2.2.2.2.1)),(103,(g.2.2.2.2.2.2.2.2.1)),(104,(g.2.2.2.2.2.2.2.2.2.2.2.2.1)),(105,(g.2.2.2.2.2.2.2.2.2.2.2.2.2.2.2.2)),(106,q1_n5),(0,J4 (wm W) (m0))]) (fun g=>((g.1)≤d1.toNat∧(g.1)≤d0.2.2.1.length)∧(((g.2.1),(g.2.2.2.2.2.1),(g.2.2.2.2.2.2.2.2.2.1),(g.2.2.2.2.2.2.2.2.2.2.2.2.2.1))=QcU d0.2.1 ((d0.2.2.1.map Q6).take (g.1)))∧(QH .byte (g.2.2.2.2.1) Qx (.slice (g.2.2.1) (g.2.1).length (g.2.2.2.1)) (g.2.1))∧(QH .byte (g.2.2.2.2.2.2.2.2.1) Qx (.slice (g.2.2.2.2.2.2.1) (g.2.2.2.2.2.1).length (g.2.2.2.2.2.2.2.1)) (g.2.2.2.2.2.1))∧(QH .byte (g.2.2.2.2.2.2.2.2.2.2.2.2.1) Qx (.slice (g.2.2.2.2.2.2.2.2.2.2.1) (g.2.2.2.2.2.2.2.2.2.1).length (g.2.2.2.2.2.2.2.2.2.2.2.1)) (g.2.2.2.2.2.2.2.2.2.1))∧(QH .byte (g.2.2.2.2.2.2.2.2.2.2.2.2.2.2.2.2) Qx (.slice (g.2.2.2.2.2.2.2.2.2.2.2.2.2.2.1) (g.2.2.2.2.2.2.2.2.2.2.2.2.2.1).length (g.2.2.2.2.2.2.2.2.2.2.2.2.2.2.2.1)) (g.2.2.2.2.2.2.2.2.2.2.2.2.2.1))) (fun g=>d1.toNat - (g.1)) (0,d0.2.1.1,q1_A1,q1_c1,q1_n1,d0.2.1.2.1,q1_A2,q1_c2,q1_n2,d0.2.1.2.2.1,q1_A3,q1_c3,q1_n3,d0.2.1.2.2.2,q1_A4,q1_c4,q1_n4) (⟨by omega,by rfl,(Ow.ownl q1_1 rfl Qx),(Ow.ownl q1_2 rfl Qx),(Ow.ownl q1_3 rfl Qx),(Ow.ownl q1_4 rfl Qx)⟩) ⟨esn,fun _ h=>h.sub [107,102,103,104,105,106,0]⟩ ?_
 rintro ⟨k,b0,b0_A,b0_c,b0_m,b1,b1_A,b1_c,b1_m,b2,b2_A,b2_c,b2_m,b3,b3_A,b3_c,b3_m⟩ ⟨hk,hb,h_b0,h_b1,h_b2,h_b3⟩
 replace hk:k≤d1.toNat∧k≤d0.2.2.1.length:=hk
 replace hb:(b0,b1,b2,b3)=QcU d0.2.1 ((d0.2.2.1.map Q6).take k):=hb
 replace h_b0:QH .byte b0_m Qx (.slice b0_A b0.length b0_c) b0:=h_b0
 replace h_b1:QH .byte b1_m Qx (.slice b1_A b1.length b1_c) b1:=h_b1
 replace h_b2:QH .byte b2_m Qx (.slice b2_A b2.length b2_c) b2:=h_b2
 replace h_b3:QH .byte b3_m Qx (.slice b3_A b3.length b3_c) b3:=h_b3
 show VC _ _ _ _ _ [(4,.int .i64 (((k:Nat):Int))),(0,.pointer (some ⟨g0,0,none⟩)),(1,.int .i64 (d1))] [(107,QM g0 (.cells #[.bool d0.1,.slice b0_A (b0.length) (b0_c),.slice b1_A (b1.length) (b1_c),.slice b2_A (b2.length) (b2_c),.slice b3_A (b3.length) (b3_c),.slice q1_A5 (d0.2.2.1.length) (q1_c5),.bool d0.2.2.2.1,.bool d0.2.2.2.2.1,.int .i64 (d0.2.2.2.2.2.1),.int .i64 (d0.2.2.2.2.2.2)] q1_E (0,0))),(102,b0_m),(103,b1_m),(104,b2_m),(105,b3_m),(106,q1_n5),(0,J4 (wm W) (m0))]
 have l_b0:b0.length≤b0_c:=by obtain ⟨_,_,he,hl,_⟩:=h_b0.slice;simp only [Value.slice.injEq] at he;omega
 have k_b0:b0_c≤9223372036854775807:=by obtain ⟨_,_,he,_,hl⟩:=h_b0.slice;simp only [Value.slice.injEq,maxLen] at he hl;omega
 have l_b1:b1.length≤b1_c:=by obtain ⟨_,_,he,hl,_⟩:=h_b1.slice;simp only [Value.slice.injEq] at he;omega
 have k_b1:b1_c≤9223372036854775807:=by obtain ⟨_,_,he,_,hl⟩:=h_b1.slice;simp only [Value.slice.injEq,maxLen] at he hl;omega
 have l_b2:b2.length≤b2_c:=by obtain ⟨_,_,he,hl,_⟩:=h_b2.slice;simp only [Value.slice.injEq] at he;omega
 have k_b2:b2_c≤9223372036854775807:=by obtain ⟨_,_,he,_,hl⟩:=h_b2.slice;simp only [Value.slice.injEq,maxLen] at he hl;omega
 have l_b3:b3.length≤b3_c:=by obtain ⟨_,_,he,hl,_⟩:=h_b3.slice;simp only [Value.slice.injEq] at he;omega
 have k_b3:b3_c≤9223372036854775807:=by obtain ⟨_,_,he,_,hl⟩:=h_b3.slice;simp only [Value.slice.injEq,maxLen] at he hl;omega
 refine VC.seq (VC.rs (VO.mv (VO.mv (VO.z (.lss rfl rfl) (VO.mv ?_)))))
 refine VO.dec (t:=9) rfl (fun hc8=>?_) (fun hc8=>?_)
 refine VO.w (.mv rfl) (VO.w (.mv rfl) (VO.w (.nilp rfl) (VO.w (.fa rfl J3 rfl) (VO.w (.ld1 107 rfl Qf7 rfl (Qa rfl rfl)) (VO.w (.lenS rfl Qdq) (VO.w (.lss rfl rfl) (VO.z (.pT rfl rfl) (VO.k4 0 1 4 17 ?_))))))))
 refine VC.cond rfl (fun hc9=>?_) (fun hc9=>?_)
 refine VC.skip (Qm (VC.seq (VC.block (VC.rs (VO.mv (VO.z (.nilp rfl) (VO.z (.fa rfl J3 rfl) (VO.z (.ld1 107 rfl Qf7 rfl (Qa rfl rfl)) (VO.mv ?_)))))))))
 obtain ⟨x10,hx10⟩:∃ z_,(d0.2.2.1)[k]? =some z_:=⟨_,List.getElem?_eq_getElem Zl⟩
 obtain ⟨gg10,oo10,ec10,ea10,hce10,hre10⟩:=(Ow.rd q1_5 (Qc _)).elem hx10
 cases ea10
 obtain ⟨q10_A3,q10_c3,rfl,q10_0,q10_2,q10_3⟩:=Qax (x0:=x10.1) (x1:=x10.2.1) (x2:=x10.2.2.1) (x3:=x10.2.2.2) hre10
 simp only [inK] at q10_0 q10_2
 have q10_r3:=Rd.room q10_3
 refine VO.z (.ixI k rfl rfl Qdq rfl Zl) ?_
 refine VO.z (.ldA 106 rfl Qhe rfl hce10) ?_
 refine VO.alloc 112 rfl QeT (fun g11=>?_)
 refine VO.store (k:=4) (c':=[.int .i64 (x10.1),.bool x10.2.1,.int .i64 (x10.2.2.1),.slice q10_A3 (x10.2.2.2.length) (q10_c3)]) 112 rfl rfl (.inl Qhe) rfl rfl rfl rfl rfl ?_
 refine VO.p8 112 107 102 103 104 105 106 0 (VO.k5 0 1 4 5 17 ?_)
 refine VC.regD _ 14 [(0,true),(1,true),(2,true),(3,true),(4,true),(5,true),(6,true),(7,true),(8,true),(9,true),(10,true),(12,true),(13,true),(11,false)] follows (by kernel_rfl) (fun _ h=>h.sub [112,107,102,103,104,105,106,0]) ?_
 refine VD.z rfl (.mv rfl) (VD.z rfl (.fa rfl YX rfl) (VD.z rfl (.ld1 112 rfl tk3 rfl (Qa rfl rfl)) (VD.z rfl (.mv rfl) (VD.z rfl (.fa rfl YX rfl) (VD.z rfl (.ld1 112 rfl tk3 rfl (Qa rfl rfl)) (VD.z rfl (.nilp rfl) (VD.z rfl (.fa rfl J3 rfl) ?_)))))))
 rcases (show x10.1=(0:Int)∨x10.1=(1:Int)∨x10.1=(2:Int)∨x10.1=(3:Int) from by exact Zl) with hi13 | hi13 | hi13 | hi13
 refine VD.z rfl (.ixa (i:=0) (o:=1) rfl rfl Ya hi13 rfl rfl) ?_
 refine VD.z rfl (.ld1 107 rfl Y4 rfl (Qa rfl rfl)) (VD.z rfl (.ldA 112 rfl Qhe rfl (Qa rfl rfl)) (VD.z rfl (.nilp rfl) (VD.z rfl (.fa rfl J3 rfl) ?_)))
 refine VD.callN 114 rfl rfl (.inl rfl) QdN rfl (fun _ h=>h.sub [112,107,102,103,104,105,106,0]) (fun W hW=>Qaw W (QH.rd h_b0 (hW.t 102) (JF _)) (Rd.mono hre10 (hW.t 106)) QaA Qaz) (fun v14 m14 hv14=>?_)
 obtain ⟨s14_0,rfl,f14_0⟩:=hv14
 obtain ⟨A14_0,c14_0,eq14_0,l14_0,k14_0⟩:=f14_0.slc
 subst eq14_0
 refine VD.nil rfl ?_ rfl
 refine VO.z (.ixa (i:=0) (o:=1) rfl rfl Ya hi13 rfl rfl) ?_
 refine VO.s1 107 Y4 ?_
 refine VO.k5 0 1 4 5 17 (JL (Qm ?_))
 refine VC.reg ?_
 refine VO.mv ?_
 refine VO.z (.add (c:=((k+1:Nat):Int)) rfl rfl Qn ⟨by exact Zl,by exact Zl⟩) ?_
 refine VO.as (VO.k5 0 1 4 5 17 ?_)
 exact Qm ⟨⟨k+1,Qb9 b0 x10,A14_0,c14_0,m14,b1,b1_A,b1_c,b1_m,b2,b2_A,b2_c,b2_m,b3,b3_A,b3_c,b3_m⟩,⟨by omega,by first | (have h_:=Jn hb (Jz ‹d0.2.2.1[k]? =some _›);rw [ZW,← Yc,Qgb (YC ‹_=(0:Int)›),Xv (YC ‹_=(0:Int)›)] at h_;exact h_) | (have h_:=Jn hb (Jz ‹d0.2.2.1[k]? =some _›);rw [ZW,← Yc,Qga (YC ‹_=(1:Int)›),Xu (YC ‹_=(1:Int)›)] at h_;exact h_) | (have h_:=Jn hb (Jz ‹d0.2.2.1[k]? =some _›);rw [ZW,← Yc,Qf9 (YC ‹_=(2:Int)›),Xt (YC ‹_=(2:Int)›)] at h_;exact h_) | (have h_:=Jn hb (Jz ‹d0.2.2.1[k]? =some _›);rw [ZW,← Yc,Qf8 (YC ‹_=(3:Int)›),Xs (YC ‹_=(3:Int)›)] at h_;exact h_),(Ow.ownl f14_0 rfl Qx),h_b1,h_b2,h_b3⟩,by (dsimp only;omega),⟨esn,fun _ h=>Inv.sub (Inv.num h 114 102 rfl) [107,102,103,104,105,106,0]⟩⟩
 refine VD.z rfl (.ixa (i:=1) (o:=2) rfl rfl Ya hi13 rfl rfl) ?_
 refine VD.z rfl (.ld1 107 rfl Y4 rfl (Qa rfl rfl)) (VD.z rfl (.ldA 112 rfl Qhe rfl (Qa rfl rfl)) (VD.z rfl (.nilp rfl) (VD.z rfl (.fa rfl J3 rfl) ?_)))
 refine VD.callN 115 rfl rfl (.inl rfl) QdN rfl (fun _ h=>h.sub [112,107,102,103,104,105,106,0]) (fun W hW=>Qaw W (QH.rd h_b1 (hW.t 103) (JF _)) (Rd.mono hre10 (hW.t 106)) QaA Qaz) (fun v15 m15 hv15=>?_)
 obtain ⟨s15_0,rfl,f15_0⟩:=hv15
 obtain ⟨A15_0,c15_0,eq15_0,l15_0,k15_0⟩:=f15_0.slc
 subst eq15_0
 refine VD.nil rfl ?_ rfl
 refine VO.z (.ixa (i:=1) (o:=2) rfl rfl Ya hi13 rfl rfl) ?_
 refine VO.s1 107 Y4 ?_
 refine VO.k5 0 1 4 5 17 (JL (Qm ?_))
 refine VC.reg ?_
 refine VO.mv ?_
 refine VO.z (.add (c:=((k+1:Nat):Int)) rfl rfl Qn ⟨by exact Zl,by exact Zl⟩) ?_
 refine VO.as (VO.k5 0 1 4 5 17 ?_)
 exact Qm ⟨⟨k+1,b0,b0_A,b0_c,b0_m,Qb9 b1 x10,A15_0,c15_0,m15,b2,b2_A,b2_c,b2_m,b3,b3_A,b3_c,b3_m⟩,⟨by omega,by first | (have h_:=Jn hb (Jz ‹d0.2.2.1[k]? =some _›);rw [ZW,← Yc,Qgb (YC ‹_=(0:Int)›),Xv (YC ‹_=(0:Int)›)] at h_;exact h_) | (have h_:=Jn hb (Jz ‹d0.2.2.1[k]? =some _›);rw [ZW,← Yc,Qga (YC ‹_=(1:Int)›),Xu (YC ‹_=(1:Int)›)] at h_;exact h_) | (have h_:=Jn hb (Jz ‹d0.2.2.1[k]? =some _›);rw [ZW,← Yc,Qf9 (YC ‹_=(2:Int)›),Xt (YC ‹_=(2:Int)›)] at h_;exact h_) | (have h_:=Jn hb (Jz ‹d0.2.2.1[k]? =some _›);rw [ZW,← Yc,Qf8 (YC ‹_=(3:Int)›),Xs (YC ‹_=(3:Int)›)] at h_;exact h_),h_b0,(Ow.ownl f15_0 rfl Qx),h_b2,h_b3⟩,by (dsimp only;omega),⟨esn,fun _ h=>Inv.sub (Inv.num h 115 103 rfl) [107,102,103,104,105,106,0]⟩⟩
 refine VD.z rfl (.ixa (i:=2) (o:=3) rfl rfl Ya hi13 rfl rfl) ?_
 refine VD.z rfl (.ld1 107 rfl Y4 rfl (Qa rfl rfl)) (VD.z rfl (.ldA 112 rfl Qhe rfl (Qa rfl rfl)) (VD.z rfl (.nilp rfl) (VD.z rfl (.fa rfl J3 rfl) ?_)))
 refine VD.callN 116 rfl rfl (.inl rfl) QdN rfl (fun _ h=>h.sub [112,107,102,103,104,105,106,0]) (fun W hW=>Qaw W (QH.rd h_b2 (hW.t 104) (JF _)) (Rd.mono hre10 (hW.t 106)) QaA Qaz) (fun v16 m16 hv16=>?_)
 obtain ⟨s16_0,rfl,f16_0⟩:=hv16
 obtain ⟨A16_0,c16_0,eq16_0,l16_0,k16_0⟩:=f16_0.slc
 subst eq16_0
 refine VD.nil rfl ?_ rfl
 refine VO.z (.ixa (i:=2) (o:=3) rfl rfl Ya hi13 rfl rfl) ?_
 refine VO.s1 107 Y4 ?_
 refine VO.k5 0 1 4 5 17 (JL (Qm ?_))
 refine VC.reg ?_
 refine VO.mv ?_
 refine VO.z (.add (c:=((k+1:Nat):Int)) rfl rfl Qn ⟨by exact Zl,by exact Zl⟩) ?_
 refine VO.as (VO.k5 0 1 4 5 17 ?_)
 exact Qm ⟨⟨k+1,b0,b0_A,b0_c,b0_m,b1,b1_A,b1_c,b1_m,Qb9 b2 x10,A16_0,c16_0,m16,b3,b3_A,b3_c,b3_m⟩,⟨by omega,by first | (have h_:=Jn hb (Jz ‹d0.2.2.1[k]? =some _›);rw [ZW,← Yc,Qgb (YC ‹_=(0:Int)›),Xv (YC ‹_=(0:Int)›)] at h_;exact h_) | (have h_:=Jn hb (Jz ‹d0.2.2.1[k]? =some _›);rw [ZW,← Yc,Qga (YC ‹_=(1:Int)›),Xu (YC ‹_=(1:Int)›)] at h_;exact h_) | (have h_:=Jn hb (Jz ‹d0.2.2.1[k]? =some _›);rw [ZW,← Yc,Qf9 (YC ‹_=(2:Int)›),Xt (YC ‹_=(2:Int)›)] at h_;exact h_) | (have h_:=Jn hb (Jz ‹d0.2.2.1[k]? =some _›);rw [ZW,← Yc,Qf8 (YC ‹_=(3:Int)›),Xs (YC ‹_=(3:Int)›)] at h_;exact h_),h_b0,h_b1,(Ow.ownl f16_0 rfl Qx),h_b3⟩,by (dsimp only;omega),⟨esn,fun _ h=>Inv.sub (Inv.num h 116 104 rfl) [107,102,103,104,105,106,0]⟩⟩
 refine VD.z rfl (.ixa (i:=3) (o:=4) rfl rfl Ya hi13 rfl rfl) ?_
 refine VD.z rfl (.ld1 107 rfl Y4 rfl (Qa rfl rfl)) (VD.z rfl (.ldA 112 rfl Qhe rfl (Qa rfl rfl)) (VD.z rfl (.nilp rfl) (VD.z rfl (.fa rfl J3 rfl) ?_)))
 refine VD.callN 117 rfl rfl (.inl rfl) QdN rfl (fun _ h=>h.sub [112,107,102,103,104,105,106,0]) (fun W hW=>Qaw W (QH.rd h_b3 (hW.t 105) (JF _)) (Rd.mono hre10 (hW.t 106)) QaA Qaz) (fun v17 m17 hv17=>?_)
 obtain ⟨s17_0,rfl,f17_0⟩:=hv17
 obtain ⟨A17_0,c17_0,eq17_0,l17_0,k17_0⟩:=f17_0.slc
 subst eq17_0
 refine VD.nil rfl ?_ rfl
 refine VO.z (.ixa (i:=3) (o:=4) rfl rfl Ya hi13 rfl rfl) ?_
 refine VO.s1 107 Y4 ?_
 refine VO.k5 0 1 4 5 17 (JL (Qm ?_))
 refine VC.reg ?_
 refine VO.mv ?_
 refine VO.z (.add (c:=((k+1:Nat):Int)) rfl rfl Qn ⟨by exact Zl,by exact Zl⟩) ?_
 refine VO.as (VO.k5 0 1 4 5 17 ?_)
 exact Qm ⟨⟨k+1,b0,b0_A,b0_c,b0_m,b1,b1_A,b1_c,b1_m,b2,b2_A,b2_c,b2_m,Qb9 b3 x10,A17_0,c17_0,m17⟩,⟨by omega,by first | (have h_:=Jn hb (Jz ‹d0.2.2.1[k]? =some _›);rw [ZW,← Yc,Qgb (YC ‹_=(0:Int)›),Xv (YC ‹_=(0:Int)›)] at h_;exact h_) | (have h_:=Jn hb (Jz ‹d0.2.2.1[k]? =some _›);rw [ZW,← Yc,Qga (YC ‹_=(1:Int)›),Xu (YC ‹_=(1:Int)›)] at h_;exact h_) | (have h_:=Jn hb (Jz ‹d0.2.2.1[k]? =some _›);rw [ZW,← Yc,Qf9 (YC ‹_=(2:Int)›),Xt (YC ‹_=(2:Int)›)] at h_;exact h_) | (have h_:=Jn hb (Jz ‹d0.2.2.1[k]? =some _›);rw [ZW,← Yc,Qf8 (YC ‹_=(3:Int)›),Xs (YC ‹_=(3:Int)›)] at h_;exact h_),h_b0,h_b1,h_b2,(Ow.ownl f17_0 rfl Qx)⟩,by (dsimp only;omega),⟨esn,fun _ h=>Inv.sub (Inv.num h 117 105 rfl) [107,102,103,104,105,106,0]⟩⟩
 · refine VC.exit (Zh (Zh (Zi ?_)))
   refine ⟨_,_,Jr (rs:=[]) rfl .nil,fun W_ hI=>JZ (l:=[QM g0 (.cells #[.bool d0.1,.slice b0_A (b0.length) (b0_c),.slice b1_A (b1.length) (b1_c),.slice b2_A (b2.length) (b2_c),.slice b3_A (b3.length) (b3_c),.slice q1_A5 (d0.2.2.1.length) (q1_c5),.bool d0.2.2.2.1,.bool d0.2.2.2.2.1,.int .i64 (d0.2.2.2.2.2.1),.int .i64 (d0.2.2.2.2.2.2)] q1_E (0,0)),b0_m,b1_m,b2_m,b3_m,q1_n5]) hI [107,102,103,104,105,106] rfl rfl (Qc _) (fun hS_=>?_)⟩
   dsimp only [QE]
   have hm0_:(toR (JB (Qd d0) d1.toNat) d0.2.2.2.2.2.1:Qy)=(d0.1,(b0,b1,b2,b3),d0.2.2):=by first | rfl | (exact Qnd hb Qn)
   refine ⟨?_,?_⟩
   rotate_left
   · rw [hm0_];exact (Jl _ _ _ _ _ _ _ _ _ _ hS_ (QH.ow h_b0 rfl) (QH.ow h_b1 rfl) (QH.ow h_b2 rfl) (QH.ow h_b3 rfl) q1_5 Qbd Qbd)
   all_goals (first | rfl | (simp [*];done))
 · refine VO.gN (VO.gN (VO.gN (VO.gN (VO.gN (VO.gN (VO.gN (VO.z (.pF rfl rfl) (VO.k4 0 1 4 17 (VC.condF rfl (VC.exit (Zh ?_)))))))))))
   refine Zh (Zi ?_)
   refine ⟨_,_,Jr (rs:=[]) rfl .nil,fun W_ hI=>JZ (l:=[QM g0 (.cells #[.bool d0.1,.slice b0_A (b0.length) (b0_c),.slice b1_A (b1.length) (b1_c),.slice b2_A (b2.length) (b2_c),.slice b3_A (b3.length) (b3_c),.slice q1_A5 (d0.2.2.1.length) (q1_c5),.bool d0.2.2.2.1,.bool d0.2.2.2.2.1,.int .i64 (d0.2.2.2.2.2.1),.int .i64 (d0.2.2.2.2.2.2)] q1_E (0,0)),b0_m,b1_m,b2_m,b3_m,q1_n5]) hI [107,102,103,104,105,106] rfl rfl (Qc _) (fun hS_=>?_)⟩
   dsimp only [QE]
   have hm0_:(toR (JB (Qd d0) d1.toNat) d0.2.2.2.2.2.1:Qy)=(d0.1,(b0,b1,b2,b3),d0.2.2):=by first | rfl | (exact Qnd hb Qn)
   refine ⟨?_,?_⟩
   rotate_left
   · rw [hm0_];exact (Jl _ _ _ _ _ _ _ _ _ _ hS_ (QH.ow h_b0 rfl) (QH.ow h_b1 rfl) (QH.ow h_b2 rfl) (QH.ow h_b3 rfl) q1_5 Qbd Qbd)
   all_goals (first | rfl | (simp [*];done))
theorem QjY:JR Tryz.prog 117=true:=by kernel_rfl
theorem QiU:JR Tryz.prog 95=true:=by kernel_rfl
theorem Xx {P:Prop} (h:P:=by first | rfl | (rw [Qd3 (by assumption)] <;> rfl) | (rw [Qd2 (by assumption) (fun q_:inF d1=>by obtain ⟨q1_,q2_⟩:=q_;omega)] <;> rfl) | (rw [Qa6 (by assumption) (Decidable.not_not.2 (show inF d1 from ⟨by omega,by omega⟩)),Qcd hp hn (by simp only [List.length_drop];omega) (by rw [← hfr];exact ZD (by assumption))] <;> rfl) | (rw [Qa6 (by assumption) (Decidable.not_not.2 (show inF d1 from ⟨by omega,by omega⟩)),Qfj hp (by simp only [List.length_drop];omega)] <;> rfl) | (rw [Qa6 (by assumption) (Decidable.not_not.2 (show inF d1 from ⟨by omega,by omega⟩)),Qcd hp hn (by simp only [List.length_drop];omega) (by rw [← hfr];exact ZD (by assumption)),if_neg (by assumption)];rfl) | (rw [Qa6 (by assumption) (Decidable.not_not.2 (show inF d1 from ⟨by omega,by omega⟩)),Qcd hp hn (by simp only [List.length_drop];omega) (by rw [← hfr];exact ZD (by assumption))];exact congrArg (Value.int _) (if_neg (ZD (by assumption))))):P:=h
theorem Xw {P:Prop} (h:P:=by first | rfl | (rw [Qd3 (by assumption),QQ];done) | (rw [Qd2 (by assumption) (fun q_:inF d1=>by obtain ⟨q1_,q2_⟩:=q_;omega),QQ];done) | (rw [Qa6 (by assumption) (Decidable.not_not.2 (show inF d1 from ⟨by omega,by omega⟩)),Qcd hp hn (by simp only [List.length_drop];omega) (by rw [← hfr];exact ZD (by assumption))];exact QlH hr hfr) | (rw [Qa6 (by assumption) (Decidable.not_not.2 (show inF d1 from ⟨by omega,by omega⟩)),Qfj hp (by simp only [List.length_drop];omega)];exact hr.symm)):P:=h
set_option maxHeartbeats 1000000 in
theorem QmS (W:World) {m0:Mem} (hm:mle (m0) (wm W)) {g0:Nat} {d0:Qy} (h0:Ow (.ptr QD) m0 [.pointer (some ⟨g0,0,none⟩)] (g0,d0)) (d1:Int) (h1:inK .i64 d1) {v2:Value} {d2:List UInt8} (h2:Rd (.sl .byte) (J4 (wm W) (m0)) [v2] d2) (e0:okR d0) (e1:wD (Qd d0)+3*d2.length≤1000000000000):Qi Tryz.prog 85 [.pointer (some ⟨g0,0,none⟩),.int .i64 d1,v2] W (m0) (fun v m'=>v= .int .i64 ((ZC (Qd d0) d1 d2).2)∧Ow (.ptr QD) m' [.pointer (some ⟨g0,0,none⟩)] (g0,toR (ZC (Qd d0) d1 d2).1 d0.2.2.2.2.2.1)):=by
 have h1':=h1;simp only [inK] at h1'
 obtain ⟨A2,c2,rfl,l2,k2⟩:=h2.slc
 refine Qi.ofB (n:=53) hm Tryz.func85 rfl rfl rfl ?_
 refine VC.rs (VO.as (VO.k4 0 1 2 6 (VC.rs (VO.mv ?_))))
 refine VO.call 1 rfl QiU rfl rfl (fun W hW=>Qcj W (hW.t 1) h0) (fun v1 m1 hv1=>?_)
 obtain ⟨rfl,w1_0⟩:=hv1
 refine VO.as (VO.k5 0 1 2 6 7 (VC.seq (VC.rs (VO.mv (VO.z (.neq rfl rfl) (VO.p2 1 0 (VO.k6 0 1 2 6 7 13 ?_)))))))
 refine VC.cond rfl (fun hc2=>?_) (fun hc2=>?_)
 refine VC.rs (VO.mv (VO.as (VO.k6 0 1 2 6 7 13 (VC.ret (QZ ?_)))))
 exact Zs 6 1 rfl w1_0 (by first | rfl | exact Xw) (by first | rfl | exact Xx)
 refine VC.skip (Qm (VC.seq (VC.rs (VO.mv (VO.z (.lss rfl rfl) (VO.mv ?_))))))
 refine VO.dec (t:=17) rfl (fun hc3=>?_) (fun hc3=>?_)
 refine VO.gN (VO.gN (VO.z (.pT rfl rfl) (VO.k7 0 1 2 6 7 13 20 (VC.condT rfl (VC.rs (VO.as (VO.k7 0 1 2 6 7 13 20 (VC.ret (QZ ?_)))))))))
 exact Zs 6 1 rfl w1_0 (by first | rfl | exact Xw) (by first | rfl | exact Xx)
 refine VO.w (.mv rfl) (VO.w (.geq rfl rfl) (VO.z (.pF rfl rfl) (VO.k7 0 1 2 6 7 13 20 ?_)))
 refine VC.cond rfl (fun hc4=>?_) (fun hc4=>?_)
 refine VC.rs (VO.as (VO.k7 0 1 2 6 7 13 20 (VC.ret (QZ ?_))))
 exact Zs 6 1 rfl w1_0 (by first | rfl | exact Xw) (by first | rfl | exact Xx)
 refine VC.skip (Qm (VC.seq (VC.rs (VO.as (VO.k8 0 1 2 6 7 8 13 20 (VC.block ?_))))))
 refine VC.loop (G:=Qy × Mem × Nat × Nat × QY) (fun g=>[(8,.int .i64 ((((g.2.2.1):Nat):Int))),(0,.pointer (some ⟨g0,0,none⟩)),(1,.int .i64 (d1)),(2,.slice A2 (d2.length) (c2)),(13,.bool (decide (¬ (Jj (Qd d0))=0))),(20,.bool (decide (4≤d1)))]) (fun g=>[(1,(g.2.1)),(0,J4 (wm W) (m0))]) (fun g=>((g.1)=toR (g.2.2.2.2) d0.2.2.2.2.2.1)∧(okD (g.2.2.2.2)∧nf (g.2.2.2.2))∧(Zx d2.length (Qd d0) d1 d2=Zx (g.2.2.2.1) (g.2.2.2.2) d1 (d2.drop (g.2.2.1)))∧((d2.drop (g.2.2.1)).length≤(g.2.2.2.1))∧(wD (g.2.2.2.2)+3*(d2.drop (g.2.2.1)).length≤1000000000000)∧((g.2.2.1)≤d2.length+64)∧(Ow (.ptr QD) (g.2.1) [.pointer (some ⟨g0,0,none⟩)] (g0,(g.1)))) (fun g=>d2.length - (g.2.2.1)) (d0,m1,0,d2.length,Qd d0) (⟨by exact (QQ d0).symm,by exact ⟨e0,Zz d0⟩,by rfl,by simp,by simpa using e1,by (dsimp only;omega),w1_0⟩) ⟨esn,fun _ h=>h.sub [1,0]⟩ ?_
 rintro ⟨r,r_m,at_,n,D⟩ ⟨hr,hD,hp,hn,hw,hat,h_r⟩
 replace hr:r=toR D d0.2.2.2.2.2.1:=hr
 replace hD:okD D∧nf D:=hD
 replace hp:Zx d2.length (Qd d0) d1 d2=Zx n D d1 (d2.drop at_):=hp
 replace hn:(d2.drop at_).length≤n:=hn
 replace hw:wD D+3*(d2.drop at_).length≤1000000000000:=hw
 replace hat:at_≤d2.length+64:=hat
 replace h_r:Ow (.ptr QD) r_m [.pointer (some ⟨g0,0,none⟩)] (g0,r):=h_r
 show VC _ _ _ _ _ [(8,.int .i64 (((at_:Nat):Int))),(0,.pointer (some ⟨g0,0,none⟩)),(1,.int .i64 (d1)),(2,.slice A2 (d2.length) (c2)),(13,.bool (decide (¬ (Jj (Qd d0))=0))),(20,.bool (decide (4≤d1)))] [(1,r_m),(0,J4 (wm W) (m0))]
 have hfr:Qd r=D:=by rw [hr];exact YV hD.1 hD.2
 have hok:okR r:=by unfold okR;rw [hfr];exact hD.1
 have hwr:wD (Qd r)=wD D:=by rw [hfr]
 refine VC.seq (VC.rs (VO.mv (VO.mv (VO.z (.lenS rfl Ji) (VO.z (.lss rfl rfl) (VO.p2 1 0 (VO.k7 0 1 2 8 13 20 24 ?_)))))))
 refine VC.cond rfl (fun hc5=>?_) (fun hc5=>?_)
 refine VC.skip (Qm (VC.seq (VC.block (VC.rs (VO.mv ?_)))))
 refine VO.call 1 rfl QjY rfl rfl (fun W hW=>Qhk W (hW.t 1) h_r Qo bd) (fun v6 m6 hv6=>?_)
 obtain ⟨rfl,w6_0⟩:=hv6
 have hfa7:=(QjA (show okR r by assumption))
 have hfa8:=(Qjz (show okR r by assumption))
 have hfa9:=(Qg7 (show okD (Qd r) from (show okR r by assumption)))
 refine VO.as (VO.k8 0 1 2 7 8 13 20 24 (VC.seq (VC.rs (VO.mv (VO.z (.neq rfl rfl) (VO.k9 0 1 2 7 8 13 20 24 30 ?_))))))
 refine VC.cond rfl (fun hc10=>?_) (fun hc10=>?_)
 refine VC.rs (VO.mv (VO.as (VO.p2 1 0 (VO.k10 0 1 2 6 7 8 13 20 24 30 (VC.ret (QZ (JO (QZ (QZ (JO (QZ ?_)))))))))))
 exact Zs 6 1 rfl w6_0 (by first | rfl | exact Xw) (by first | rfl | exact Xx)
 refine VC.skip (Qm (VC.rs (VO.as (VO.p2 1 0 (VO.k10 0 1 2 7 8 9 13 20 24 30 ?_)))))
 obtain ⟨q11_E,q11_A1,q11_c1,q11_A2,q11_c2,q11_A3,q11_c3,q11_A4,q11_c4,q11_A5,q11_c5,q11_n1,q11_n2,q11_n3,q11_n4,q11_n5,_,q11_S,q11_1,q11_2,q11_3,q11_4,q11_5,q11_8,q11_9⟩:=Qt w6_0
 have q11_r1:=q11_1.rm
 have q11_r2:=q11_2.rm
 have q11_r3:=q11_3.rm
 have q11_r4:=q11_4.rm
 have q11_r5:=q11_5.rm
 simp only [inK] at q11_8 q11_9
 refine VC.inv _ (fun _ h=>h.parts (i:=1) rfl q11_S [117,112,113,114,115,116]) ?_
 refine VC.regD _ 19 [(0,true),(1,true),(2,true),(3,true),(4,true),(5,true),(6,true),(7,true),(8,true),(9,true),(10,true),(11,true),(12,true),(13,true),(14,true),(15,false),(16,true),(17,false),(18,false)] follows (by kernel_rfl) (fun _ h=>h.sub [117,112,113,114,115,0]) ?_
 refine VD.z rfl (.mv rfl) (VD.z rfl (.mv rfl) (VD.z rfl (.nilp rfl) (VD.z rfl (.fa rfl J3 rfl) (VD.z rfl (.ld1 117 rfl Qf7 rfl (Qa rfl rfl)) (VD.z rfl (.mv rfl) (VD.z rfl (.mv rfl) (VD.z rfl (.mv rfl) (VD.z rfl (.mv rfl) (VD.z rfl (.mv rfl) (VD.z rfl (.lenS rfl Ji) (VD.z rfl (.mv rfl) ?_)))))))))))
 refine VD.z rfl (.add (c:=((at_+64:Nat):Int)) rfl rfl Qn ⟨bd,bd⟩) ?_
 refine VD.z rfl (.minM rfl rfl) ?_
 obtain ⟨A18,hA18,hs18⟩:=h2.sub' 1 at_ ((min ((d2.length:Nat):Int) ((at_+64:Nat):Int)).toNat) rfl bd bd
 refine VD.z rfl (.slI at_ ((min ((d2.length:Nat):Int) ((at_+64:Nat):Int)).toNat) A18 rfl rfl rfl Ji rfl bd hA18 bd bd) ?_
 refine VD.inv _ (fun _ h=>h.nilc 120) ?_
 obtain ⟨mo19,cs19,hM19,hA19,hC19⟩:=(QH.nil .byte Qx Qx)
 obtain ⟨all19,hS19,hR19⟩:=Rd.srcI (P:=Tryz.prog) (hs18) Tryz.underlying56
 refine VD.app 120 rfl rfl rfl rfl Ji tz5 rfl rfl hM19 hA19 (hS19 _ 0 rfl) hR19.nice bdm bd (by decide) (fun _ _ h=>h.sub [117,112,113,114,115,0]) (fun v19 m19 hN19=>?_)
 have ho19:QH .byte m19 Qx v19 ((d2.take ((min ((d2.length:Nat):Int) ((at_+64:Nat):Int)).toNat)).drop at_):=QH.more hC19 hN19 (Je.mono hR19 fun _ _ h=>Rd.flat rfl h _)
 obtain ⟨A19,c19,rfl,l19,k19⟩:=ho19.slc
 refine VD.z rfl (.bst (cs:=[.int .i64 (d1),.bool false,.int .i64 (0),.slice A19 (((d2.take ((min ((d2.length:Nat):Int) ((at_+64:Nat):Int)).toNat)).drop at_).length) (c19)]) rfl YX QeT rfl) ?_
 refine VD.bsl (cs:=[.int .i64 (d1),.bool false,.int .i64 (0),.slice A19 (((d2.take ((min ((d2.length:Nat):Int) ((at_+64:Nat):Int)).toNat)).drop at_).length) (c19)]) 122 rfl rfl rfl Qdq QeT rfl rfl (fun _ h=>h.sub [117,112,113,114,115,0]) (fun g21=>?_)
 refine VD.appO (e:=YO) 116 120 122 rfl rfl rfl rfl Qdq QeT rfl rfl rfl rfl q11_5 (QeI _ _ _ _ (QA.one (Qc _)) bdk bdk (QH.ow ho19 rfl)) Tryz.underlying61 (Qa rfl rfl) bdm bd (by decide) (fun _ _ h=>h.sub [117,112,113,114,115,0]) (fun v23 m23 ho23=>?_)
 obtain ⟨A23,c23,rfl,l23,k23⟩:=ho23.slc
 refine VD.nil rfl ?_ rfl
 refine VO.z (.nilp rfl) (VO.z (.fa rfl J3 rfl) ?_)
 refine VO.s1 117 Qf7 ?_
 refine VO.clsP 124 [117,112,113,114,115,116] rfl (fun hg24=>(Jl _ _ _ _ _ _ _ _ _ _ hg24 q11_1 q11_2 q11_3 q11_4 ho23 bdk bdk)) (fun mc24 ho24=>?_)
 refine VO.k10 0 1 2 7 8 9 13 20 24 30 (JL (Qm ?_))
 refine VC.reg ?_
 refine VO.mv ?_
 refine VO.z (.add (c:=((at_+64:Nat):Int)) rfl rfl Qn ⟨bd,bd⟩) ?_
 refine VO.as (VO.k10 0 1 2 7 8 9 13 20 24 30 ?_)
 exact Qm ⟨⟨((toR (Q9 (Qd r)).1 r.2.2.2.2.2.1).1,((toR (Q9 (Qd r)).1 r.2.2.2.2.2.1).2.1),((toR (Q9 (Qd r)).1 r.2.2.2.2.2.1).2.2.1)++[((d1,false,0,(d2.take ((min ((d2.length:Nat):Int) ((at_+64:Nat):Int)).toNat)).drop at_):XV)],(toR (Q9 (Qd r)).1 r.2.2.2.2.2.1).2.2.2),mc24,at_+64,n - 1,Qgi (Q9 D).1 (0,d1,(d2.drop at_).take 64,0)⟩,⟨by exact Qjy hr hfr (Qon Qn),by exact QmJ hD.1 hD.2 (show inF d1 from ⟨by omega,by omega⟩) (by simp only [List.length_drop];omega),by exact Qjx hp hn (by simp only [List.length_drop];omega) (by rw [← hfr];exact QaE Qo),by (simp only [List.length_drop] at*;omega),by exact Nat.le_trans (Qob hD.1 (by simp only [List.length_drop];omega)) hw,by (dsimp only;omega),ho24⟩,by (dsimp only;omega),⟨esn,fun _ h=>Inv.sub (Inv.num h 124 1 rfl) [1,0]⟩⟩
 refine VC.exit (Zh (Zh (Zi (Qm (VC.rs (VO.as (VO.k8 0 1 2 6 8 13 20 24 (VC.ret ?_))))))))
 exact Zs 6 1 rfl h_r (by first | rfl | exact Xw) (by first | rfl | exact Xx)
end Go.Proofs.YtdoamgdanlnlfaaGreat
