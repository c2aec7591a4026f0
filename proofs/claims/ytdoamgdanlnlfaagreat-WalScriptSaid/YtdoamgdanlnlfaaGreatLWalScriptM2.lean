/- Part 2 of the proof of LWalScript: what it needs of the library, the walks and the plain laws. Conditions: those named in each theorem. -/
import Derived.Test.YtdoamgdanlnlfaaGreatLWalScriptM1
set_option linter.unusedVariables false
set_option linter.unusedSimpArgs false
set_option maxRecDepth 4000
namespace Go.Proofs.YtdoamgdanlnlfaaGreat
abbrev Qr := List UInt8
theorem QkV {α:Type} {a b:List α} (h:¬ (a.length:Int)=b.length):¬ a=b:=fun e=>h (by rw [e])
theorem Qe2 {α:Type} {a b:List α} {k:Nat} (h:a.take k=b.take k) (ha:¬ (k:Int) < a.length) (hl:(a.length:Int)=b.length):a=b:=by
 rwa [List.take_of_length_le (by omega),List.take_of_length_le (by omega)] at h
theorem Qbs {α:Type} {a b:List α} {k:Nat} {x y:α} (h:a.take k=b.take k) (hx:a[k]? =some x) (hy:b[k]? =some y) (hxy:x=y):a.take (k+1)=b.take (k+1):=by
 rw [List.take_add_one,List.take_add_one,h,hx,hy,hxy]
theorem QiQ {α:Type} {a b:List α} {k:Nat} {x y:α} (hx:a[k]? =some x) (hy:b[k]? =some y) (h:¬ x=y):¬ a=b:=fun e=>by
 subst e;rw [hx] at hy;exact h (Option.some.inj hy)
theorem QhV {x y:UInt8} (h:(x.toNat:Int)=y.toNat):x=y:=UInt8.toNat_inj.1 (by omega)
theorem QnQ {x y:UInt8} (h:¬ (x.toNat:Int)=y.toNat):¬ x=y:=fun e=>h (by rw [e])
def Qjh (o : DOp) : Prop := 1 ≤ o.2.1.length ∧ o.2.1.length ≤ 16 ∧ o.2.2.length ≤ 32 ∧ (o.1 = true ∨ o.2.2 = [])
instance (o : DOp) : Decidable (Qjh o) := by unfold Qjh; infer_instance
def Qco (o : DOp) : Int := if Qjh o then 0 else 2
theorem QaT {o:DOp} (h:¬ Qjh o):Qco o=2:=if_neg h
theorem Qcn {o:DOp} (h:Qjh o):Qco o=0:=if_pos h
theorem Qm1 {o:DOp} (h:Qco o=0):Qjh o:=by
 unfold Qco at h
 split at h
 ·assumption
 ·cases h
def JY (x : Nat) : Qr := if h : x < 128 then [UInt8.ofNat x] else UInt8.ofNat (x % 128 + 128) :: JY (x / 128)
  termination_by x
def vgo : Nat → Nat → Qr → Option (Nat × Nat)
  | _, _, [] => none
  | i, x, c :: r => if i = 9 ∧ c.toNat > 1 then none else if c.toNat ≥ 128 then vgo (i + 1) (x + c.toNat % 128 * 2 ^ (7 * i)) r
    else if c.toNat = 0 ∧ i > 0 then none else some (x + c.toNat % 128 * 2 ^ (7 * i), i + 1)
def Qa2 (b : Qr) : Option (Nat × Nat) := vgo 0 0 b
def QaL (b : Qr) (most : Int) : Option (Nat × Nat) := match Qa2 b with
  | some (x, n) => if (x : Int) ≤ most then some (x, n) else none
  | none => none
theorem QaM {x:Nat} (h:x < 128):JY x=[UInt8.ofNat (x % 256)]:=by
 rw [JY,dif_pos h,Nat.mod_eq_of_lt (by omega)]
theorem Qmv {x:Nat} (h:¬ x < 128) (out:Qr):out++JY x=(out++[UInt8.ofNat (x % 256 % 128+128)])++JY (x / 128):=by
 rw [JY,dif_neg h]
 have:x % 256 % 128=x % 128:=by omega
 rw [this];simp
theorem Qlx {x:Nat} (h:¬ x < 128) (out:Qr):out++JY x=(out++[UInt8.ofNat (x % 128 % 256+128)])++JY (x / 128):=by
 rw [JY,dif_neg h]
 have:x % 128 % 256=x % 128:=by omega
 rw [this];simp
theorem Qc2 : ∀ (k x : Nat), x < 128 ^ (k + 1) → (JY x).length ≤ k + 1
  | 0, x, h => by rw [JY, dif_pos (by omega)]; simp
  | k + 1, x, h => by
    rw [JY]
    split
    · simp
    · have := Qc2 k (x / 128) (by rw [Nat.pow_succ] at h; omega)
      simp; omega
theorem JT {x:Nat} (h:x < 18446744073709551616):(JY x).length≤10:=Qc2 9 x (by omega)
theorem Qks (x:Nat):1≤(JY x).length:=by
 rw [JY];split <;> simp
theorem Qid {x y:Nat} {out b:Qr} (hx:x < 18446744073709551616) (hy:y < 18446744073709551616) (h:out++JY x=b++JY y):out.length≤b.length+9:=by
 have h1:=congrArg List.length h
 have h2:=JT hy
 have h3:=Qks x
 simp at h1;omega
def Xp : List DOp := [(true, [98, 101, 104, 105, 110, 100], []), (true, [98, 101, 104, 105, 110, 100], []), (true, [98, 101, 104, 105, 110, 100], [])]
theorem Qjw {out d:List DOp} {k:Nat} (h:out=d++Xp.take k) (hk:k < 3):out++[(true,[98,101,104,105,110,100],[])]=d++Xp.take (k+1):=by
 subst h
 match k,hk with
 | 0,_=>simp [Xp]
 | 1,_=>simp [Xp]
 | 2,_=>simp [Xp]
theorem op_eq {x y:DOp} (h:x.1=y.1∧x.2.1=y.2.1∧x.2.2=y.2.2):x=y:=Prod.ext h.1 (Prod.ext h.2.1 h.2.2)
theorem op_ne {x y:DOp} (h:¬ (x.1=y.1∧x.2.1=y.2.1∧x.2.2=y.2.2)):¬ x=y:=fun e=>h (by rw [e];exact ⟨rfl,rfl,rfl⟩)
def QI : Qr → Qr → Nat
  | a :: r, b :: s => if a = b then QI r s + 1 else 0
  | _, _ => 0
def Qs (l : List DOp) : Int := if l.length = 0 then 2 else if 8 < l.length then 3 else if ∀ o ∈ l, Qjh o then 0 else 2
def QcQ (last : Qr) (o : DOp) : Qr :=
  (if o.1 then 1 else 0) :: (JY (QI last o.2.1) ++ (JY (o.2.1.length - QI last o.2.1) ++ (o.2.1.drop (QI last o.2.1) ++ (if o.1 then JY o.2.2.length ++ o.2.2 else []))))
def Y1 : Qr → List DOp → Qr
  | _, [] => []
  | last, o :: r => QcQ last o ++ Y1 o.2.1 r
def JQ (l : List DOp) : Qr := JY l.length ++ Y1 [] l
theorem Qj2:JR Tryz.prog 102=true:=by kernel_rfl
theorem Qpn:JR Tryz.prog 80=true:=by kernel_rfl
theorem Qnl:JR Tryz.prog 90=true:=by kernel_rfl
theorem teq71 (a0:Bool) (a1:List UInt8) (a2:List UInt8):QfG Tryz.prog 71 [.bool a0,str a1,str a2]=true:=by kernel_rfl
theorem tk4:tk Tryz.prog 4=some none:=by kernel_rfl
theorem tk5:tk Tryz.prog 5=some none:=by kernel_rfl
theorem Qc5:tk Tryz.prog 71=some (some 3):=by kernel_rfl
theorem tk9:tk Tryz.prog 9=some none:=by kernel_rfl
theorem ZH:tsl Tryz.prog 35=some (71,3,40):=by kernel_rfl
theorem Ji:tsl Tryz.prog 56=some (5,1,1):=by kernel_rfl
theorem Zy:tst Tryz.prog 71=some [(0,1),(1,1),(2,1)]:=by kernel_rfl
theorem tz5:tz Tryz.prog 5=some [.int .u8 0]:=by kernel_rfl
theorem QcS:tz Tryz.prog 71=some [.bool false,.string ⟨#[]⟩,.string ⟨#[]⟩]:=by kernel_rfl
theorem follows:Tryz.prog.follows .mixedOrders=true:=by kernel_rfl
theorem Qjd (W:World) {v0:Value} {d0:List UInt8} (h0:Rd (.sl .byte) (wm W) [v0] d0) {v1:Value} {d1:List UInt8} (h1:Rd (.sl .byte) (wm W) [v1] d1):Qi Tryz.prog 45 [v0,v1] W (Qx) (fun v m'=>v= .bool (decide (d0=d1))):=by
 obtain ⟨A0,c0,rfl,l0,k0⟩:=h0.slc
 obtain ⟨A1,c1,rfl,l1,k1⟩:=h1.slc
 refine Qi.ofA (n:=26) Tryz.func45 rfl rfl rfl ?_
 refine VC.rs (VO.as (VO.k3 0 1 4 (VC.seq (VC.rs (VO.mv (VO.z (.lenS rfl Ji) (VO.mv (VO.z (.lenS rfl Ji) (VO.z (.neq rfl rfl) (VO.k4 0 1 4 10 ?_))))))))))
 refine VC.cond rfl (fun hc1=>?_) (fun hc1=>?_)
 refine VC.rs (VO.as (VO.p1 0 (VO.k4 0 1 4 10 (VC.ret (QZ ?_)))))
 exact Xl 4 rfl (by first | rfl | (simp [QkV hc1]))
 refine VC.skip (Qm (VC.seq (VC.rs (VO.as (VO.p1 0 (VO.k5 0 1 4 5 10 (VC.block ?_)))))))
 refine VC.loop (G:=Nat) (fun k=>[(5,.int .i64 (((k:Nat):Int))),(0,.slice A0 (d0.length) (c0)),(1,.slice A1 (d1.length) (c1)),(10,.bool (decide (¬ ((d0.length:Nat):Int)=((d1.length:Nat):Int))))]) (fun k=>[(0,wm W)]) (fun k=>(k≤d0.length)∧(d0.take k=d1.take k)) (fun k=>d0.length - k) 0 (⟨by omega,by rfl⟩) ⟨esn,fun _ h=>h.sub [0]⟩ ?_
 rintro k ⟨hk,ht⟩
 refine VC.seq (VC.rs (VO.mv (VO.mv (VO.z (.lenS rfl Ji) (VO.z (.lss rfl rfl) (VO.k5 0 1 5 10 14 ?_))))))
 refine VC.cond rfl (fun hc2=>?_) (fun hc2=>?_)
 refine VC.skip (Qm (VC.seq (VC.block (VC.seq ?_))))
 refine VC.regD _ 8 [(0,true),(1,true),(2,true),(3,true),(4,true),(5,true),(6,true),(7,true)] follows (by kernel_rfl) (fun _ h=>h.sub [0]) ?_
 refine VD.z rfl (.mv rfl) (VD.z rfl (.mv rfl) ?_)
 obtain ⟨x3,hx3⟩:∃ z_,(d0)[k]? =some z_:=⟨_,List.getElem?_eq_getElem bd⟩
 obtain ⟨gg3,oo3,ec3,ea3,hce3,hre3⟩:=h0.elem hx3
 cases ea3
 obtain rfl:=(show _=_ from hre3)
 have xb3:=x3.toNat_lt
 refine VD.z rfl (.ixI k rfl rfl Ji rfl bd) ?_
 refine VD.z rfl (.ld1 0 rfl tk5 rfl hce3) ?_
 refine VD.z rfl (.mv rfl) (VD.z rfl (.mv rfl) ?_)
 obtain ⟨x4,hx4⟩:∃ z_,(d1)[k]? =some z_:=⟨_,List.getElem?_eq_getElem bd⟩
 obtain ⟨gg4,oo4,ec4,ea4,hce4,hre4⟩:=h1.elem hx4
 cases ea4
 obtain rfl:=(show _=_ from hre4)
 have xb4:=x4.toNat_lt
 refine VD.z rfl (.ixI k rfl rfl Ji rfl bd) ?_
 refine VD.z rfl (.ld1 0 rfl tk5 rfl hce4) ?_
 refine VD.nil rfl ?_ rfl
 refine VO.z (.neq rfl rfl) (VO.k6 0 1 5 10 14 25 (Qm ?_))
 refine VC.cond rfl (fun hc5=>?_) (fun hc5=>?_)
 refine VC.rs (VO.as (VO.p1 0 (VO.k7 0 1 4 5 10 14 25 (VC.ret (JO (QZ (QZ (JO (QZ ?_)))))))))
 exact Xl 4 rfl (by first | rfl | (simp [QiQ ‹d0[k]? =some _› ‹d1[k]? =some _› (QnQ ‹_›)]))
 refine VC.skip (JL (Qm ?_))
 refine VC.reg ?_
 refine VO.mv ?_
 refine VO.z (.add (c:=((k+1:Nat):Int)) rfl rfl Qn ⟨bd,bd⟩) ?_
 refine VO.as (VO.p1 0 (VO.k6 0 1 5 10 14 25 ?_))
 exact Qm ⟨k+1,⟨by omega,by exact Qbs ht ‹d0[k]? =some _› ‹d1[k]? =some _› (QhV Qn)⟩,bd,⟨esn,fun _ h=>Inv.sub h [0]⟩⟩
 refine VC.exit (Zh (Zh (Zi (Qm (VC.rs (VO.as (VO.k6 0 1 4 5 10 14 (VC.ret ?_))))))))
 exact Xl 4 rfl (by first | rfl | (simp [Qe2 ht Qn Qn]))
theorem QeA (W:World) {v0:Value} {d0:List DOp} (h0:Rd (.sl TOp) (wm W) [v0] d0) {v1:Value} {d1:List DOp} (h1:Rd (.sl TOp) (wm W) [v1] d1):Qi Tryz.prog 102 [v0,v1] W (Qx) (fun v m'=>v= .bool (decide (d0=d1))):=by
 obtain ⟨A0,c0,rfl,l0,k0⟩:=h0.slc
 obtain ⟨A1,c1,rfl,l1,k1⟩:=h1.slc
 refine Qi.ofA (n:=26) Tryz.func102 rfl rfl rfl ?_
 refine VC.rs (VO.as (VO.k3 0 1 4 (VC.seq (VC.rs (VO.mv (VO.z (.lenS rfl ZH) (VO.mv (VO.z (.lenS rfl ZH) (VO.z (.neq rfl rfl) (VO.k4 0 1 4 10 ?_))))))))))
 refine VC.cond rfl (fun hc1=>?_) (fun hc1=>?_)
 refine VC.rs (VO.as (VO.p1 0 (VO.k4 0 1 4 10 (VC.ret (QZ ?_)))))
 exact Xl 4 rfl (by first | rfl | (simp [QkV hc1]))
 refine VC.skip (Qm (VC.seq (VC.rs (VO.as (VO.p1 0 (VO.k5 0 1 4 5 10 (VC.block ?_)))))))
 refine VC.loop (G:=Nat) (fun k=>[(5,.int .i64 (((k:Nat):Int))),(0,.slice A0 (d0.length) (c0)),(1,.slice A1 (d1.length) (c1)),(10,.bool (decide (¬ ((d0.length:Nat):Int)=((d1.length:Nat):Int))))]) (fun k=>[(0,wm W)]) (fun k=>(k≤d0.length)∧(d0.take k=d1.take k)) (fun k=>d0.length - k) 0 (⟨by omega,by rfl⟩) ⟨esn,fun _ h=>h.sub [0]⟩ ?_
 rintro k ⟨hk,ht⟩
 refine VC.seq (VC.rs (VO.mv (VO.mv (VO.z (.lenS rfl ZH) (VO.z (.lss rfl rfl) (VO.k5 0 1 5 10 14 ?_))))))
 refine VC.cond rfl (fun hc2=>?_) (fun hc2=>?_)
 refine VC.skip (Qm (VC.seq (VC.block (VC.seq ?_))))
 refine VC.regD _ 8 [(0,true),(1,true),(2,true),(3,true),(4,true),(5,true),(6,true),(7,true)] follows (by kernel_rfl) (fun _ h=>h.sub [0]) ?_
 refine VD.z rfl (.mv rfl) (VD.z rfl (.mv rfl) ?_)
 obtain ⟨x3,hx3⟩:∃ z_,(d0)[k]? =some z_:=⟨_,List.getElem?_eq_getElem bd⟩
 obtain ⟨gg3,oo3,ec3,ea3,hce3,hre3⟩:=h0.elem hx3
 cases ea3
 obtain ⟨rfl,q3_1,q3_2⟩:=XF (x0:=x3.1) (x1:=x3.2.1) (x2:=x3.2.2) hre3
 simp only [maxLen] at q3_1
 simp only [maxLen] at q3_2
 refine VD.z rfl (.ixI k rfl rfl ZH rfl bd) ?_
 refine VD.z rfl (.ldA 0 rfl Qc5 rfl hce3) ?_
 refine VD.z rfl (.mv rfl) (VD.z rfl (.mv rfl) ?_)
 obtain ⟨x4,hx4⟩:∃ z_,(d1)[k]? =some z_:=⟨_,List.getElem?_eq_getElem bd⟩
 obtain ⟨gg4,oo4,ec4,ea4,hce4,hre4⟩:=h1.elem hx4
 cases ea4
 obtain ⟨rfl,q4_1,q4_2⟩:=XF (x0:=x4.1) (x1:=x4.2.1) (x2:=x4.2.2) hre4
 simp only [maxLen] at q4_1
 simp only [maxLen] at q4_2
 refine VD.z rfl (.ixI k rfl rfl ZH rfl bd) ?_
 refine VD.z rfl (.ldA 0 rfl Qc5 rfl hce4) ?_
 refine VD.nil rfl ?_ rfl
 refine VO.z (.stneq (p:=x3.1=x4.1∧x3.2.1=x4.2.1∧x3.2.2=x4.2.2) rfl rfl (teq71 x3.1 x3.2.1 x3.2.2) (teq71 x4.1 x4.2.1 x4.2.2) (by simp [ceq,Xy])) ?_
 refine VO.k6 0 1 5 10 14 25 (Qm ?_)
 refine VC.cond rfl (fun hc5=>?_) (fun hc5=>?_)
 refine VC.rs (VO.as (VO.p1 0 (VO.k7 0 1 4 5 10 14 25 (VC.ret (JO (QZ (QZ (JO (QZ ?_)))))))))
 exact Xl 4 rfl (by first | rfl | (simp [QiQ ‹d0[k]? =some _› ‹d1[k]? =some _› (op_ne ‹_›)]))
 refine VC.skip (JL (Qm ?_))
 refine VC.reg ?_
 refine VO.mv ?_
 refine VO.z (.add (c:=((k+1:Nat):Int)) rfl rfl Qn ⟨bd,bd⟩) ?_
 refine VO.as (VO.p1 0 (VO.k6 0 1 5 10 14 25 ?_))
 exact Qm ⟨k+1,⟨by omega,by exact Qbs ht ‹d0[k]? =some _› ‹d1[k]? =some _› (op_eq (by simpa using ‹¬ ¬ _›))⟩,bd,⟨esn,fun _ h=>Inv.sub h [0]⟩⟩
 refine VC.exit (Zh (Zh (Zi (Qm (VC.rs (VO.as (VO.k6 0 1 4 5 10 14 (VC.ret ?_))))))))
 exact Xl 4 rfl (by first | rfl | (simp [Qe2 ht Qn Qn]))
theorem QeB (W:World) {v0:Value} {d0:List DOp} (h0:Rd (.sl TOp) (wm W) [v0] d0) (e0:d0.length≤3518437208800):Qi Tryz.prog 90 [v0] W (Qx) (fun v m'=>∃ (s0:Value),v=s0∧Ow (.sl TOp) m' [s0] (d0)):=by
 obtain ⟨A0,c0,rfl,l0,k0⟩:=h0.slc
 refine Qi.ofA (n:=6) Tryz.func90 rfl rfl rfl ?_
 refine VC.rs (VO.as (VO.k2 0 2 (VC.rs ?_)))
 refine VO.bsl (cs:=[]) 102 rfl rfl ZH QcS rfl rfl (fun g1=>?_)
 refine VO.mv ?_
 have ho4:QH TOp (QM g1 (.cells [].toArray 71 (0,0))) Qx (Value.slice (some ⟨g1,0,none⟩) (0) (0)) []:=QH.lit 0 Je.nil rfl rfl
 obtain ⟨mo3,cs3,hM3,hA3,hC3⟩:=ho4
 obtain ⟨all3,hS3,hR3⟩:=Rd.srcI (P:=Tryz.prog) (h0) Tryz.underlying35
 refine VO.app 102 rfl rfl rfl ZH QcS rfl rfl hM3 hA3 (hS3 _ 0 rfl) hR3.nice bdm bd (by decide) (fun v3 m3 hN3=>?_)
 have ho3:QH TOp m3 Qx v3 (d0):=QH.more hC3 hN3 (Je.mono hR3 fun _ _ h=>Rd.flat rfl h _)
 obtain ⟨A3,c3,rfl,l3,k3⟩:=ho3.slc
 refine VO.as (VO.k2 0 2 (VC.ret ?_))
 refine Yd 2 [102] fun hS_=>?_
 dsimp only [QE]
 exact ⟨Value.slice A3 ((d0).length) (c3),(by first | rfl | (simp [*];done)),(Ow.cg (Ow.up (QH.ow ho3 rfl) (hS_.1 _ (.head _))))⟩
theorem Qg3 (W:World) {v0:Value} {d0:List DOp} (h0:Rd (.sl TOp) (wm W) [v0] d0) (e0:d0.length≤3518437208800):Qi Tryz.prog 80 [v0] W (Qx) (fun v m'=>∃ (s0:Value),v=s0∧Ow (.sl TOp) m' [s0] (d0++Xp)):=by
 obtain ⟨A0,c0,rfl,l0,k0⟩:=h0.slc
 refine Qi.ofA (n:=16) Tryz.func80 rfl rfl rfl ?_
 refine VC.rs (VO.as (VO.k2 0 2 (VC.rs (VO.mv ?_))))
 refine VO.callN 101 rfl Qnl rfl (fun W hW=>QeB W (Rd.mono h0 (hW.t 0)) bd) (fun v1 m1 hv1=>?_)
 obtain ⟨s1_0,rfl,f1_0⟩:=hv1
 obtain ⟨A1_0,c1_0,eq1_0,l1_0,k1_0⟩:=f1_0.slc
 subst eq1_0
 refine VO.as (VO.k3 0 2 3 (VC.seq (VC.rs (VO.as (VO.p2 101 0 (VO.k4 0 2 3 4 (VC.block ?_)))))))
 refine VC.loop (G:=Nat × (List DOp) × (Option Addr) × Nat × Mem) (fun g=>[(3,.slice (g.2.2.1) ((g.2.1).length) ((g.2.2.2.1))),(4,.int .i64 ((((g.1):Nat):Int))),(0,.slice A0 (d0.length) (c0)),(2,.slice none (0) (0))]) (fun g=>[(101,(g.2.2.2.2)),(0,wm W)]) (fun g=>((g.1)≤3)∧((g.2.1)=d0++Xp.take (g.1))∧(QH TOp (g.2.2.2.2) Qx (.slice (g.2.2.1) (g.2.1).length (g.2.2.2.1)) (g.2.1))) (fun g=>3 - (g.1)) (0,d0,A1_0,c1_0,m1) (⟨by omega,by simp,(Ow.ownl f1_0 rfl Qx)⟩) ⟨esn,fun _ h=>h.sub [101,0]⟩ ?_
 rintro ⟨k,out,out_A,out_c,out_m⟩ ⟨hk,ho,h_out⟩
 replace hk:k≤3:=hk
 replace ho:out=d0++Xp.take k:=ho
 replace h_out:QH TOp out_m Qx (.slice out_A out.length out_c) out:=h_out
 show VC _ _ _ _ _ [(3,.slice out_A (out.length) (out_c)),(4,.int .i64 (((k:Nat):Int))),(0,.slice A0 (d0.length) (c0)),(2,.slice none (0) (0))] [(101,out_m),(0,wm W)]
 have l_out:out.length≤out_c:=by obtain ⟨_,_,he,hl,_⟩:=h_out.slice;simp only [Value.slice.injEq] at he;omega
 have k_out:out_c≤9223372036854775807:=by obtain ⟨_,_,he,_,hl⟩:=h_out.slice;simp only [Value.slice.injEq,maxLen] at he hl;omega
 have hlo:out.length≤d0.length+3:=by rw [ho];simp [Xp];omega
 refine VC.seq (VC.rs (VO.mv (VO.z (.lss rfl rfl) (VO.k5 0 2 3 4 8 ?_))))
 refine VC.cond rfl (fun hc2=>?_) (fun hc2=>?_)
 refine VC.skip (Qm (VC.seq (VC.block ?_)))
 refine VC.reg ?_
 refine VO.mv ?_
 refine VO.z (.bst (cs:=[.bool true,str ([98,101,104,105,110,100]),str ([])]) rfl Zy QcS rfl) ?_
 refine VO.bsl (cs:=[.bool true,str ([98,101,104,105,110,100]),str ([])]) 104 rfl rfl ZH QcS rfl rfl (fun g3=>?_)
 obtain ⟨mo5,cs5,hM5,hA5,hC5⟩:=h_out
 refine VO.app 101 rfl rfl rfl ZH QcS rfl rfl hM5 hA5 (.row 104 _ _ _ 1 1 _ _ Tryz.underlying35 rfl (Qa rfl rfl)) (by simp [Value.oneCell']) bdm bd (by decide) (fun v5 m5 hN5=>?_)
 have ho5:QH TOp m5 Qx v5 (out++[(true,[98,101,104,105,110,100],[])]):=QH.one hC5 hN5 (QdI (m:=_) true ([98,101,104,105,110,100]) [] bdm bdm)
 obtain ⟨A5,c5,rfl,l5,k5⟩:=ho5.slc
 refine VO.as (VO.k5 0 2 3 4 8 (JL (Qm ?_)))
 refine VC.reg ?_
 refine VO.mv ?_
 refine VO.z (.add (c:=((k+1:Nat):Int)) rfl rfl Qn ⟨bd,bd⟩) ?_
 refine VO.as (VO.p2 101 0 (VO.k5 0 2 3 4 8 ?_))
 exact Qm ⟨⟨k+1,out++[(true,[98,101,104,105,110,100],[])],A5,c5,m5⟩,⟨by omega,by exact Qjw ho Qn,ho5⟩,bd,⟨esn,fun _ h=>Inv.sub h [101,0]⟩⟩
 ·refine VC.exit (Zh (Zh (Zi (Qm (VC.rs (VO.mv (VO.as (VO.k5 0 2 3 4 8 (VC.ret ?_)))))))))
  refine Yd 2 [101] fun hS_=>?_
  dsimp only [QE]
  exact ⟨Value.slice out_A (out.length) (out_c),(by first | rfl | (simp [*];done)),(Ow.cg (Ow.up (QH.ow h_out rfl) (hS_.1 _ (.head _))) (by first | rfl | (have:k=3:=Qn;subst this;exact ho.symm)))⟩
theorem Qmf (W:World) {v0:Value} {d0:List DOp} (h0:Rd (.sl TOp) (wm W) [v0] d0) {v1:Value} {d1:List DOp} (h1:Rd (.sl TOp) (wm W) [v1] d1) (e0:d1.length≤3518437208800):Qi Tryz.prog 88 [v0,v1] W (Qx) (fun v m'=>v= .bool (decide (d0=d1++Xp))):=by
 obtain ⟨A0,c0,rfl,l0,k0⟩:=h0.slc
 obtain ⟨A1,c1,rfl,l1,k1⟩:=h1.slc
 refine Qi.ofA (n:=9) Tryz.func88 rfl rfl rfl ?_
 refine VC.rs (VO.as (VO.k3 0 1 4 (VC.rs (VO.mv (VO.mv ?_)))))
 refine VO.callN 101 rfl Qpn rfl (fun W hW=>Qg3 W (Rd.mono h1 (hW.t 0)) bd) (fun v1 m1 hv1=>?_)
 obtain ⟨s1_0,rfl,f1_0⟩:=hv1
 obtain ⟨A1_0,c1_0,eq1_0,l1_0,k1_0⟩:=f1_0.slc
 subst eq1_0
 refine VO.callN 102 rfl Qj2 rfl (fun W hW=>QeA W (Rd.mono h0 (hW.t 0)) (Ow.rd f1_0 (hW.t 101))) (fun v2 m2 hv2=>?_)
 subst hv2
 refine VO.as (VO.k3 0 1 4 (VC.ret ?_))
 exact Xl 4 rfl (by first | rfl | (rfl))
theorem Yz {P:Prop} (h:P:=by congr 1;first | exact (QaT (fun h=>by have:=h.1;have:=h.2.1;have:=h.2.2.1;omega)).symm | exact (QaT (fun h=>by rcases h.2.2.2 with e | e <;> first | exact absurd e ‹¬ _=_› | simp [e] at*)).symm | exact (Qcn ⟨by omega,by omega,by omega,by first | exact .inl ‹d0.1=true› | exact .inr (by simpa using ‹¬ ¬ _›)⟩).symm):P:=h
theorem QlO (W:World) {v0:List Value} {d0:DOp} (h0:Rd TOp (wm W) v0 d0):Qi Tryz.prog 139 [.agg v0.toArray] W (Qx) (fun v m'=>v= .int .i64 (Qco d0)):=by
 obtain ⟨rfl,p0_1,p0_2⟩:=XF (x0:=d0.1) (x1:=d0.2.1) (x2:=d0.2.2) h0
 simp only [maxLen] at p0_1
 simp only [maxLen] at p0_2
 refine Qi.ofA (n:=29) Tryz.func139 rfl rfl rfl ?_
 refine VC.rs ?_
 refine VO.box (cs:=[.bool d0.1,str (d0.2.1),str (d0.2.2)]) 102 rfl rfl rfl (fun g1=>?_)
 refine VO.as (VO.k3 0 1 2 (VC.seq (VC.rs (VO.z (.fa rfl Zy rfl) (VO.z (.ld1 102 rfl tk9 rfl (Qa rfl rfl)) ?_)))))
 refine VO.z (.lenT rfl Tryz.underlying9) ?_
 refine VO.z (.lss rfl rfl) (VO.mv ?_)
 refine VO.dec (t:=7) rfl (fun hc3=>?_) (fun hc3=>?_)
 refine VO.gN (VO.gN (VO.gN (VO.gN (VO.z (.pT rfl rfl) (VO.mv (VO.gN (VO.gN (VO.gN (VO.gN (VO.z (.pT rfl rfl) (VO.mv ?_)))))))))))
 refine VO.gN (VO.gN (VO.gN (VO.gN ?_)))
 refine VO.gn rfl (.inr ⟨_,rfl,rfl⟩) ?_
 refine VO.gn rfl (.inr ⟨_,rfl,rfl⟩) ?_
 refine VO.gn rfl (.inr ⟨_,rfl,rfl⟩) ?_
 refine VO.gN (VO.z (.pT rfl rfl) (VO.k4 0 1 2 28 (VC.condT rfl (VC.rs (VO.as (VO.p2 102 0 (VO.k4 0 1 2 28 (VC.ret (QZ ?_)))))))))
 exact Xl 2 rfl (by first | rfl | exact Yz)
 refine VO.w (.fa rfl Zy rfl) (VO.w (.ld1 102 rfl tk9 rfl (Qa rfl rfl)) ?_)
 refine VO.w (.lenT rfl Tryz.underlying9) ?_
 refine VO.w (.gtr rfl rfl) (VO.z (.pF rfl rfl) (VO.mv ?_))
 refine VO.dec (t:=13) rfl (fun hc4=>?_) (fun hc4=>?_)
 refine VO.gN (VO.gN (VO.gN (VO.gN (VO.z (.pT rfl rfl) (VO.mv (VO.gN (VO.gN (VO.gN (VO.gN ?_)))))))))
 refine VO.gn rfl (.inr ⟨_,rfl,rfl⟩) ?_
 refine VO.gn rfl (.inr ⟨_,rfl,rfl⟩) ?_
 refine VO.gn rfl (.inr ⟨_,rfl,rfl⟩) ?_
 refine VO.gN (VO.z (.pT rfl rfl) (VO.k4 0 1 2 28 (VC.condT rfl (VC.rs (VO.as (VO.p2 102 0 (VO.k4 0 1 2 28 (VC.ret (QZ ?_)))))))))
 exact Xl 2 rfl (by first | rfl | exact Yz)
 refine VO.w (.fa rfl Zy rfl) (VO.w (.ld1 102 rfl tk9 rfl (Qa rfl rfl)) ?_)
 refine VO.w (.lenT rfl Tryz.underlying9) ?_
 refine VO.w (.gtr rfl rfl) (VO.z (.pF rfl rfl) (VO.mv ?_))
 refine VO.dec (t:=19) rfl (fun hc5=>?_) (fun hc5=>?_)
 refine VO.gN (VO.gN (VO.gN (VO.gN ?_)))
 refine VO.gn rfl (.inr ⟨_,rfl,rfl⟩) ?_
 refine VO.gn rfl (.inr ⟨_,rfl,rfl⟩) ?_
 refine VO.gn rfl (.inr ⟨_,rfl,rfl⟩) ?_
 refine VO.gN (VO.z (.pT rfl rfl) (VO.k4 0 1 2 28 (VC.condT rfl (VC.rs (VO.as (VO.p2 102 0 (VO.k4 0 1 2 28 (VC.ret (QZ ?_)))))))))
 exact Xl 2 rfl (by first | rfl | exact Yz)
 refine VO.w (.fa rfl Zy rfl) (VO.w (.ld1 102 rfl tk4 rfl (Qa rfl rfl)) (VO.w (.not rfl) (VO.w (.mv rfl) ?_)))
 refine VO.decBN (t:=23) rfl (fun hc6=>?_) (fun hc6=>?_)
 refine VO.w (.fa rfl Zy rfl) (VO.w (.ld1 102 rfl tk9 rfl (Qa rfl rfl)) (VO.w (.sneq rfl rfl) (VO.w (.pT rfl rfl) (VO.z (.pF rfl rfl) (VO.k4 0 1 2 28 ?_)))))
 refine VC.cond rfl (fun hc7=>?_) (fun hc7=>?_)
 refine VC.rs (VO.as (VO.p2 102 0 (VO.k4 0 1 2 28 (VC.ret (QZ ?_)))))
 exact Xl 2 rfl (by first | rfl | exact Yz)
 refine VC.skip (Qm (VC.rs (VO.as (VO.p2 102 0 (VO.k4 0 1 2 28 (VC.ret ?_))))))
 exact Xl 2 rfl (by first | rfl | exact Yz)
 refine VO.gN (VO.gN (VO.gN (VO.w (.pF rfl rfl) (VO.z (.pF rfl rfl) (VO.k4 0 1 2 28 (VC.condF rfl (VC.skip (Qm (VC.rs (VO.as (VO.p2 102 0 ?_)))))))))))
 refine VO.k4 0 1 2 28 (VC.ret ?_)
 exact Xl 2 rfl (by first | rfl | exact Yz)
theorem ZU {P:Prop} (h:P:=by congr 1;first | exact (QaT (fun h=>by have:=h.1;have:=h.2.1;have:=h.2.2.1;omega)).symm | exact (QaT (fun h=>by rcases h.2.2.2 with e | e <;> first | exact absurd e ‹¬ _=_› | simp [e] at*)).symm | exact (Qcn ⟨by omega,by omega,by omega,by first | exact .inl ‹d0.1=true› | exact .inr (by simpa using ‹¬ ¬ _›)⟩).symm):P:=h
theorem Qhj (W:World) {v0:List Value} {d0:DOp} (h0:Rd TOp (wm W) v0 d0):Qi Tryz.prog 133 [.agg v0.toArray] W (Qx) (fun v m'=>v= .int .i64 (Qco d0)):=by
 obtain ⟨rfl,p0_1,p0_2⟩:=XF (x0:=d0.1) (x1:=d0.2.1) (x2:=d0.2.2) h0
 simp only [maxLen] at p0_1
 simp only [maxLen] at p0_2
 refine Qi.ofA (n:=29) Tryz.func133 rfl rfl rfl ?_
 refine VC.rs ?_
 refine VO.box (cs:=[.bool d0.1,str (d0.2.1),str (d0.2.2)]) 102 rfl rfl rfl (fun g1=>?_)
 refine VO.as (VO.k3 0 1 2 (VC.seq (VC.rs (VO.z (.fa rfl Zy rfl) (VO.z (.ld1 102 rfl tk9 rfl (Qa rfl rfl)) ?_)))))
 refine VO.z (.lenT rfl Tryz.underlying9) ?_
 refine VO.z (.lss rfl rfl) (VO.mv ?_)
 refine VO.dec (t:=7) rfl (fun hc3=>?_) (fun hc3=>?_)
 refine VO.gN (VO.gN (VO.gN (VO.gN (VO.z (.pT rfl rfl) (VO.mv (VO.gN (VO.gN (VO.gN (VO.gN (VO.z (.pT rfl rfl) (VO.mv ?_)))))))))))
 refine VO.gN (VO.gN (VO.gN (VO.gN ?_)))
 refine VO.gn rfl (.inr ⟨_,rfl,rfl⟩) ?_
 refine VO.gn rfl (.inr ⟨_,rfl,rfl⟩) ?_
 refine VO.gn rfl (.inr ⟨_,rfl,rfl⟩) ?_
 refine VO.gN (VO.z (.pT rfl rfl) (VO.k4 0 1 2 28 (VC.condT rfl (VC.rs (VO.as (VO.p2 102 0 (VO.k4 0 1 2 28 (VC.ret (QZ ?_)))))))))
 exact Xl 2 rfl (by first | rfl | exact ZU)
 refine VO.w (.fa rfl Zy rfl) (VO.w (.ld1 102 rfl tk9 rfl (Qa rfl rfl)) ?_)
 refine VO.w (.lenT rfl Tryz.underlying9) ?_
 refine VO.w (.gtr rfl rfl) (VO.z (.pF rfl rfl) (VO.mv ?_))
 refine VO.dec (t:=13) rfl (fun hc4=>?_) (fun hc4=>?_)
 refine VO.gN (VO.gN (VO.gN (VO.gN (VO.z (.pT rfl rfl) (VO.mv (VO.gN (VO.gN (VO.gN (VO.gN ?_)))))))))
 refine VO.gn rfl (.inr ⟨_,rfl,rfl⟩) ?_
 refine VO.gn rfl (.inr ⟨_,rfl,rfl⟩) ?_
 refine VO.gn rfl (.inr ⟨_,rfl,rfl⟩) ?_
 refine VO.gN (VO.z (.pT rfl rfl) (VO.k4 0 1 2 28 (VC.condT rfl (VC.rs (VO.as (VO.p2 102 0 (VO.k4 0 1 2 28 (VC.ret (QZ ?_)))))))))
 exact Xl 2 rfl (by first | rfl | exact ZU)
 refine VO.w (.fa rfl Zy rfl) (VO.w (.ld1 102 rfl tk9 rfl (Qa rfl rfl)) ?_)
 refine VO.w (.lenT rfl Tryz.underlying9) ?_
 refine VO.w (.gtr rfl rfl) (VO.z (.pF rfl rfl) (VO.mv ?_))
 refine VO.dec (t:=19) rfl (fun hc5=>?_) (fun hc5=>?_)
 refine VO.gN (VO.gN (VO.gN (VO.gN ?_)))
 refine VO.gn rfl (.inr ⟨_,rfl,rfl⟩) ?_
 refine VO.gn rfl (.inr ⟨_,rfl,rfl⟩) ?_
 refine VO.gn rfl (.inr ⟨_,rfl,rfl⟩) ?_
 refine VO.gN (VO.z (.pT rfl rfl) (VO.k4 0 1 2 28 (VC.condT rfl (VC.rs (VO.as (VO.p2 102 0 (VO.k4 0 1 2 28 (VC.ret (QZ ?_)))))))))
 exact Xl 2 rfl (by first | rfl | exact ZU)
 refine VO.w (.fa rfl Zy rfl) (VO.w (.ld1 102 rfl tk4 rfl (Qa rfl rfl)) (VO.w (.not rfl) (VO.w (.mv rfl) ?_)))
 refine VO.decBN (t:=23) rfl (fun hc6=>?_) (fun hc6=>?_)
 refine VO.w (.fa rfl Zy rfl) (VO.w (.ld1 102 rfl tk9 rfl (Qa rfl rfl)) (VO.w (.sneq rfl rfl) (VO.w (.pT rfl rfl) (VO.z (.pF rfl rfl) (VO.k4 0 1 2 28 ?_)))))
 refine VC.cond rfl (fun hc7=>?_) (fun hc7=>?_)
 refine VC.rs (VO.as (VO.p2 102 0 (VO.k4 0 1 2 28 (VC.ret (QZ ?_)))))
 exact Xl 2 rfl (by first | rfl | exact ZU)
 refine VC.skip (Qm (VC.rs (VO.as (VO.p2 102 0 (VO.k4 0 1 2 28 (VC.ret ?_))))))
 exact Xl 2 rfl (by first | rfl | exact ZU)
 refine VO.gN (VO.gN (VO.gN (VO.w (.pF rfl rfl) (VO.z (.pF rfl rfl) (VO.k4 0 1 2 28 (VC.condF rfl (VC.skip (Qm (VC.rs (VO.as (VO.p2 102 0 ?_)))))))))))
 refine VO.k4 0 1 2 28 (VC.ret ?_)
 exact Xl 2 rfl (by first | rfl | exact ZU)
theorem Qh8 (W:World) (d0:Int) (h0:inK .i64 d0):Qi Tryz.prog 126 [.int .i64 d0] W (Qx) (fun v m'=>v= .bool (decide (1≤d0∧d0≤1048576))):=by
 have h0':=h0;simp only [inK] at h0'
 refine Qi.ofA (n:=9) Tryz.func126 rfl rfl rfl ?_
 refine VC.rs (VO.as (VO.k2 0 2 (VC.rs (VO.mv (VO.z (.geq rfl rfl) (VO.mv ?_))))))
 refine VO.dec (t:=5) rfl (fun hc1=>?_) (fun hc1=>?_)
 refine VO.w (.mv rfl) (VO.w (.leq rfl rfl) (VO.z (.pT rfl rfl) (VO.as (VO.k2 0 2 (VC.ret ?_)))))
 exact Xl 2 rfl (by first | rfl | (simp [*]))
 refine VO.gN (VO.gN (VO.z (.pF rfl rfl) (VO.as (VO.k2 0 2 (VC.ret ?_)))))
 exact Xl 2 rfl (by first | rfl | (simp [*]))
theorem Xg (W:World) {v0:Value} {d0:List UInt8} (h0:Rd (.sl .byte) (wm W) [v0] d0) (d1:Nat) (h1:d1 < 18446744073709551616) (e0:d0.length≤140737488355000):Qi Tryz.prog 113 [v0,.int .u64 (d1:Int)] W (Qx) (fun v m'=>∃ (s0:Value),v=s0∧Ow (.sl .byte) m' [s0] (d0++JY d1)):=by
 obtain ⟨A0,c0,rfl,l0,k0⟩:=h0.slc
 refine Qi.ofA (n:=23) Tryz.func113 rfl rfl rfl ?_
 refine VC.rs (VO.as (VO.k3 0 1 4 (VC.rs (VO.mv ?_))))
 refine VO.inv _ (fun _ h=>h.nilc 102) ?_
 obtain ⟨mo1,cs1,hM1,hA1,hC1⟩:=(QH.nil .byte Qx Qx)
 obtain ⟨all1,hS1,hR1⟩:=Rd.srcI (P:=Tryz.prog) (h0) Tryz.underlying56
 refine VO.app 102 rfl rfl rfl Ji tz5 rfl rfl hM1 hA1 (hS1 _ 0 rfl) hR1.nice bdm bd (by decide) (fun v1 m1 hN1=>?_)
 have ho1:QH .byte m1 Qx v1 (d0):=QH.more hC1 hN1 (Je.mono hR1 fun _ _ h=>Rd.flat rfl h _)
 obtain ⟨A1,c1,rfl,l1,k1⟩:=ho1.slc
 refine VO.as (VO.k4 0 1 4 5 (VC.seq (VC.block ?_)))
 refine VC.loop (G:=Nat × (List UInt8) × (Option Addr) × Nat × Mem) (fun g=>[(1,.int .u64 ((((g.1):Nat):Int))),(5,.slice (g.2.2.1) ((g.2.1).length) ((g.2.2.2.1))),(0,.slice A0 (d0.length) (c0)),(4,.slice none (0) (0))]) (fun g=>[(102,(g.2.2.2.2)),(0,wm W)]) (fun g=>((g.1) < 18446744073709551616)∧((g.2.1)++JY (g.1)=d0++JY d1)∧(QH .byte (g.2.2.2.2) Qx (.slice (g.2.2.1) (g.2.1).length (g.2.2.2.1)) (g.2.1))) (fun g=>(g.1)) (d1,d0,A1,c1,m1) (⟨by omega,by rfl,ho1⟩) ⟨esn,fun _ h=>h.sub [102,0]⟩ ?_
 rintro ⟨x,out,out_A,out_c,out_m⟩ ⟨hx,ho,h_out⟩
 replace hx:x < 18446744073709551616:=hx
 replace ho:out++JY x=d0++JY d1:=ho
 replace h_out:QH .byte out_m Qx (.slice out_A out.length out_c) out:=h_out
 show VC _ _ _ _ _ [(1,.int .u64 (((x:Nat):Int))),(5,.slice out_A (out.length) (out_c)),(0,.slice A0 (d0.length) (c0)),(4,.slice none (0) (0))] [(102,out_m),(0,wm W)]
 have l_out:out.length≤out_c:=by obtain ⟨_,_,he,hl,_⟩:=h_out.slice;simp only [Value.slice.injEq] at he;omega
 have k_out:out_c≤9223372036854775807:=by obtain ⟨_,_,he,_,hl⟩:=h_out.slice;simp only [Value.slice.injEq,maxLen] at he hl;omega
 have hlo:=Qid hx h1 ho
 refine VC.block (VC.seq (VC.rs (VO.mv (VO.z (.lss rfl rfl) (VO.p2 102 0 (VO.k5 0 1 4 5 9 ?_))))))
 refine VC.cond rfl (fun hc3=>?_) (fun hc3=>?_)
 ·refine VC.exit (Zh ?_)
  refine QlN rfl ?_
  refine Zh (Zi (Qm (VC.rs (VO.mv (VO.mv ?_)))))
  refine VO.z (.cvI rfl ⟨_,Tryz.underlying130⟩ Tryz.underlying5 (Qdp _)) ?_
  refine VO.bsl (cs:=[.int .u8 (((x % 256:Nat):Int))]) 105 rfl rfl Ji tz5 rfl rfl (fun g4=>?_)
  obtain ⟨mo6,cs6,hM6,hA6,hC6⟩:=h_out
  refine VO.app 102 rfl rfl rfl Ji tz5 rfl rfl hM6 hA6 (.row 105 _ _ _ 1 1 _ _ Tryz.underlying56 rfl (Qa rfl rfl)) (by simp [Value.oneCell']) bdm bd (by decide) (fun v6 m6 hN6=>?_)
  have ho6:QH .byte m6 Qx v6 (out++[UInt8.ofNat (x % 256)]):=QH.one hC6 hN6 (Qba bd)
  obtain ⟨A6,c6,rfl,l6,k6⟩:=ho6.slc
  refine VO.as (VO.k5 0 1 4 5 9 (VC.ret ?_))
  refine Yd 4 [102] fun hS_=>?_
  dsimp only [QE]
  exact ⟨Value.slice A6 ((out++[UInt8.ofNat (x % 256)]).length) (c6),(by first | rfl | (simp [*];done)),(Ow.cg (Ow.up (QH.ow ho6 rfl) (hS_.1 _ (.head _))) (by first | rfl | (rw [← ho,QaM Qn])))⟩
 refine VC.skip (Qm (VC.rs (VO.mv (VO.mv ?_))))
 refine VO.z (.cvI rfl ⟨_,Tryz.underlying130⟩ Tryz.underlying5 (Qdp _)) ?_
 refine VO.z (.bit (.inr (.inl rfl)) rfl rfl (or128 _ Qn)) ?_
 refine VO.bsl (cs:=[.int .u8 ((((x % 256) % 128+128:Nat):Int))]) 108 rfl rfl Ji tz5 rfl rfl (fun g7=>?_)
 obtain ⟨mo9,cs9,hM9,hA9,hC9⟩:=h_out
 refine VO.app 102 rfl rfl rfl Ji tz5 rfl rfl hM9 hA9 (.row 108 _ _ _ 1 1 _ _ Tryz.underlying56 rfl (Qa rfl rfl)) (by simp [Value.oneCell']) bdm bd (by decide) (fun v9 m9 hN9=>?_)
 have ho9:QH .byte m9 Qx v9 (out++[UInt8.ofNat ((x % 256) % 128+128)]):=QH.one hC9 hN9 (Qba bd)
 obtain ⟨A9,c9,rfl,l9,k9⟩:=ho9.slc
 refine VO.as (VO.k5 0 1 4 5 9 ?_)
 refine VC.reg ?_
 refine VO.mv ?_
 refine VO.z (.shf (.inr rfl) rfl rfl (shr7 _)) ?_
 refine VO.as (VO.k5 0 1 4 5 9 (JL ?_))
 exact Qm ⟨⟨x / 128,out++[UInt8.ofNat ((x % 256) % 128+128)],A9,c9,m9⟩,⟨by omega,by rw [← ho];exact (Qmv Qn _).symm,ho9⟩,bd,⟨esn,fun _ h=>Inv.sub h [102,0]⟩⟩
theorem QgE (W:World) {v0:Value} {d0:List UInt8} (h0:Rd (.sl .byte) (wm W) [v0] d0) (d1:Nat) (h1:d1 < 18446744073709551616) (e0:d0.length≤140737488355000):Qi Tryz.prog 142 [v0,.int .u64 (d1:Int)] W (Qx) (fun v m'=>∃ (s0:Value),v=s0∧Ow (.sl .byte) m' [s0] (d0++JY d1)):=by
 obtain ⟨A0,c0,rfl,l0,k0⟩:=h0.slc
 refine Qi.ofA (n:=25) Tryz.func142 rfl rfl rfl ?_
 refine VC.rs (VO.as (VO.k3 0 1 4 (VC.rs (VO.as (VO.k4 0 1 4 5 (VC.rs (VO.mv (VO.mv ?_))))))))
 refine VO.inv _ (fun _ h=>h.nilc 102) ?_
 obtain ⟨mo1,cs1,hM1,hA1,hC1⟩:=(QH.nil .byte Qx Qx)
 obtain ⟨all1,hS1,hR1⟩:=Rd.srcI (P:=Tryz.prog) (h0) Tryz.underlying56
 refine VO.app 102 rfl rfl rfl Ji tz5 rfl rfl hM1 hA1 (hS1 _ 0 rfl) hR1.nice bdm bd (by decide) (fun v1 m1 hN1=>?_)
 have ho1:QH .byte m1 Qx v1 (d0):=QH.more hC1 hN1 (Je.mono hR1 fun _ _ h=>Rd.flat rfl h _)
 obtain ⟨A1,c1,rfl,l1,k1⟩:=ho1.slc
 refine VO.as (VO.p2 102 0 (VO.k4 0 1 4 5 (VC.seq (VC.block ?_))))
 refine VC.loop (G:=Nat × (List UInt8) × (Option Addr) × Nat × Mem) (fun g=>[(1,.int .u64 ((((g.1):Nat):Int))),(5,.slice (g.2.2.1) ((g.2.1).length) ((g.2.2.2.1))),(0,.slice A0 (d0.length) (c0)),(4,.slice none (0) (0))]) (fun g=>[(102,(g.2.2.2.2)),(0,wm W)]) (fun g=>((g.1) < 18446744073709551616)∧((g.2.1)++JY (g.1)=d0++JY d1)∧(QH .byte (g.2.2.2.2) Qx (.slice (g.2.2.1) (g.2.1).length (g.2.2.2.1)) (g.2.1))) (fun g=>(g.1)) (d1,d0,A1,c1,m1) (⟨by omega,by rfl,ho1⟩) ⟨esn,fun _ h=>h.sub [102,0]⟩ ?_
 rintro ⟨x,out,out_A,out_c,out_m⟩ ⟨hx,ho,h_out⟩
 replace hx:x < 18446744073709551616:=hx
 replace ho:out++JY x=d0++JY d1:=ho
 replace h_out:QH .byte out_m Qx (.slice out_A out.length out_c) out:=h_out
 show VC _ _ _ _ _ [(1,.int .u64 (((x:Nat):Int))),(5,.slice out_A (out.length) (out_c)),(0,.slice A0 (d0.length) (c0)),(4,.slice none (0) (0))] [(102,out_m),(0,wm W)]
 have l_out:out.length≤out_c:=by obtain ⟨_,_,he,hl,_⟩:=h_out.slice;simp only [Value.slice.injEq] at he;omega
 have k_out:out_c≤9223372036854775807:=by obtain ⟨_,_,he,_,hl⟩:=h_out.slice;simp only [Value.slice.injEq,maxLen] at he hl;omega
 have hlo:=Qid hx h1 ho
 refine VC.seq (VC.rs (VO.mv (VO.z (.geq rfl rfl) (VO.k5 0 1 4 5 10 ?_))))
 refine VC.cond rfl (fun hc3=>?_) (fun hc3=>?_)
 refine VC.skip (Qm (VC.block (VC.rs (VO.mv (VO.mv ?_)))))
 refine VO.z (.quo (.inr rfl) rfl rfl (QmQ _ _ _ (by decide))) ?_
 refine VO.z (.cvI rfl ⟨_,Tryz.underlying130⟩ Tryz.underlying5 (Qdp _)) ?_
 refine VO.z (.addN (c:=((x % 128) % 256)+128) rfl rfl rfl (.inl ⟨rfl,by omega⟩)) ?_
 refine VO.bsl (cs:=[.int .u8 (((((x % 128) % 256)+128:Nat):Int))]) 105 rfl rfl Ji tz5 rfl rfl (fun g4=>?_)
 obtain ⟨mo6,cs6,hM6,hA6,hC6⟩:=h_out
 refine VO.app 102 rfl rfl rfl Ji tz5 rfl rfl hM6 hA6 (.row 105 _ _ _ 1 1 _ _ Tryz.underlying56 rfl (Qa rfl rfl)) (by simp [Value.oneCell']) bdm bd (by decide) (fun v6 m6 hN6=>?_)
 have ho6:QH .byte m6 Qx v6 (out++[UInt8.ofNat (((x % 128) % 256)+128)]):=QH.one hC6 hN6 (Qba bd)
 obtain ⟨A6,c6,rfl,l6,k6⟩:=ho6.slc
 refine VO.as (VO.k5 0 1 4 5 10 ?_)
 refine VC.reg ?_
 refine VO.mv ?_
 refine VO.z (.quo (.inl rfl) rfl rfl (QjJ _ _ Qn (by decide))) ?_
 refine VO.as (VO.p2 102 0 (VO.k5 0 1 4 5 10 (JL ?_)))
 exact Qm ⟨⟨x / 128,out++[UInt8.ofNat (((x % 128) % 256)+128)],A6,c6,m6⟩,⟨by omega,by rw [← ho];exact (Qlx Qn _).symm,ho6⟩,bd,⟨esn,fun _ h=>Inv.sub h [102,0]⟩⟩
 ·refine VC.exit (Zh (Zh (Zi (Qm (VC.rs (VO.mv (VO.mv ?_)))))))
  refine VO.z (.cvI rfl ⟨_,Tryz.underlying130⟩ Tryz.underlying5 (Qdp _)) ?_
  refine VO.bsl (cs:=[.int .u8 (((x % 256:Nat):Int))]) 108 rfl rfl Ji tz5 rfl rfl (fun g7=>?_)
  obtain ⟨mo9,cs9,hM9,hA9,hC9⟩:=h_out
  refine VO.app 102 rfl rfl rfl Ji tz5 rfl rfl hM9 hA9 (.row 108 _ _ _ 1 1 _ _ Tryz.underlying56 rfl (Qa rfl rfl)) (by simp [Value.oneCell']) bdm bd (by decide) (fun v9 m9 hN9=>?_)
  have ho9:QH .byte m9 Qx v9 (out++[UInt8.ofNat (x % 256)]):=QH.one hC9 hN9 (Qba bd)
  obtain ⟨A9,c9,rfl,l9,k9⟩:=ho9.slc
  refine VO.as (VO.k5 0 1 4 5 10 (VC.ret ?_))
  refine Yd 4 [102] fun hS_=>?_
  dsimp only [QE]
  exact ⟨Value.slice A9 ((out++[UInt8.ofNat (x % 256)]).length) (c9),(by first | rfl | (simp [*];done)),(Ow.cg (Ow.up (QH.ow ho9 rfl) (hS_.1 _ (.head _))) (by first | rfl | (rw [← ho,QaM Qn])))⟩
def QW (c : Qe) : Int := if 1 ≤ c.1 ∧ c.1 ≤ 1048576 then if 1 ≤ c.2.1 ∧ c.2.1 ≤ 1048576 then Qs c.2.2 else 2 else 2
def Q8 : Int → Int → Int → List Qe → Qlu
  | _, _, _, [] => (0, 0)
  | e, n, i, c :: r => if QW c ≠ 0 then (QW c, i) else if c.2.1 - 1 ≠ n ∨ c.1 < e then (15, i) else Q8 c.1 c.2.1 (i + 1) r
def Qg (e n : Int) (l : List Qe) : Qlu := Q8 e n 0 l
theorem QfY {α:Type} {l:List α} {k:Nat} {x:α} (h:l[k]? =some x):l.drop k=x::l.drop (k+1):=by
 obtain ⟨h1,h2⟩:=List.getElem?_eq_some_iff.1 h
 rw [List.drop_eq_getElem_cons h1,h2]
theorem QaF {l:List DOp} (h:Qs l=0):l.length≤8:=by
 unfold Qs at h
 split at h
 ·omega
 ·split at h
  ·cases h
  ·omega
theorem ZZ (l:List DOp):0≤Qs l∧Qs l≤3:=by
 unfold Qs
 split
 ·omega
 ·split
  ·omega
  ·split <;> omega
theorem YG (c:Qe):0≤QW c∧QW c≤3:=by
 unfold QW
 split
 ·split
  ·exact ZZ _
  ·omega
 ·omega
theorem QbC {c:Qe} (h:QW c=0):1≤c.1∧c.1≤1048576∧1≤c.2.1∧c.2.1≤1048576∧Qs c.2.2=0:=by
 unfold QW at h
 split at h
 ·split at h
  ·exact ⟨by omega,by omega,by omega,by omega,h⟩
  ·cases h
 ·cases h
theorem Qb1 : ∀ {l : List Qe} {e n i : Int}, (Q8 e n i l).1 = 0 → ∀ c ∈ l, QW c = 0
  | c :: r, e, n, i, h, x, hx => by
    unfold Q8 at h
    split at h
    · exact absurd h (by assumption)
    · rename_i h1
      split at h
      · cases h
      · rcases List.mem_cons.1 hx with rfl | hx
        · exact Decidable.not_not.1 h1
        · exact Qb1 h x hx
theorem Qak {e n i:Int} {l:List Qe} {k:Nat} {x:Qe} (h:l[k]? =some x) (h1:QW x=0) (h2:¬ ¬ x.2.1 - 1=n) (h3:¬ x.1 < e):Q8 e n i (l.drop k)=Q8 x.1 x.2.1 (i+1) (l.drop (k+1)):=by
 rw [QfY h]
 show (if QW x≠0 then _ else _)=_
 rw [if_neg (by simpa using h1),if_neg (by simp only [not_or];exact ⟨h2,h3⟩)]
theorem YJ {e n i:Int} {l:List Qe} {k:Nat} {x:Qe} (h:l[k]? =some x) (h1:¬ QW x=0):Q8 e n i (l.drop k)=(QW x,i):=by
 rw [QfY h]
 show (if QW x≠0 then _ else _)=_
 rw [if_pos h1]
theorem Z3 {e n i:Int} {l:List Qe} {k:Nat} {x:Qe} (h:l[k]? =some x) (h1:QW x=0) (h2:¬ x.2.1 - 1=n∨x.1 < e):Q8 e n i (l.drop k)=(15,i):=by
 rw [QfY h]
 show (if QW x≠0 then _ else _)=_
 rw [if_neg (by simpa using h1),if_pos h2]
theorem QhY {α:Type} {l:List α} {k:Nat} {x:α} {p:α→Prop} (h:∀ o∈l.take k,p o) (hx:l[k]? =some x) (hp:p x):∀ o∈l.take (k+1),p o:=fun o ho=>by
 rw [List.take_add_one,hx] at ho
 rcases List.mem_append.1 ho with h1 | h1
 ·exact h o h1
 ·simp at h1;rw [h1];exact hp
theorem YH {l:List DOp} (h:(l.length:Int)=0):Qs l=2:=if_pos (by omega)
theorem Xc {l:List DOp} (h:(8:Int) < l.length):Qs l=3:=by unfold Qs;rw [if_neg (by omega),if_pos (by omega)]
theorem XJ {l:List DOp} {k:Nat} {x:DOp} (h0:¬ (l.length:Int)=0) (h1:¬ (8:Int) < l.length) (hx:l[k]? =some x) (h:¬ Qco x=0):Qs l=Qco x:=by
 have hb:¬ Qjh x:=fun e=>h (Qcn e)
 unfold Qs
 rw [if_neg (by omega),if_neg (by omega),if_neg,QaT hb]
 exact fun e=>hb (e x (List.mem_of_getElem? hx))
theorem Xd {l:List DOp} {k:Nat} (h0:¬ (l.length:Int)=0) (h1:¬ (8:Int) < l.length) (h:∀ o∈l.take k,Qjh o) (hk:¬ (k:Int) < l.length):Qs l=0:=by
 rw [List.take_of_length_le (by omega)] at h
 unfold Qs
 rw [if_neg (by omega),if_neg (by omega),if_pos h]
def Yh (l : List Zj) (c : Qe) : List Zj := match l.getLast? with
  | some s => if s.1 = c.1 then l else l ++ [(c.1, c.2.1)]
  | none => l ++ [(c.1, c.2.1)]
def sOf (l : List Qe) : List Zj × Qlu := if (Qg 0 0 l).1 ≠ 0 then ([], Qg 0 0 l) else (l.foldl Yh [], (0, 0))
theorem QaQ {l:List Zj} {c:Qe} {k:Nat} {s:Zj} (h:l[k]? =some s) (h0:k+1=l.length) (h1:s.1=c.1):Yh l c=l:=by
 unfold Yh
 rw [List.getLast?_eq_getElem?,show l.length - 1=k by omega,h]
 exact if_pos h1
theorem Xi {l:List Zj} {c:Qe} (h:l=[]∨∃ k s,l[k]? =some s∧k+1=l.length∧¬ s.1=c.1):Yh l c=l++[(c.1,c.2.1)]:=by
 unfold Yh
 rcases h with rfl | ⟨k,s,h1,h0,h2⟩
 ·rfl
 ·rw [List.getLast?_eq_getElem?,show l.length - 1=k by omega,h1]
  exact if_neg h2
theorem QdM {α β:Type} {f:β→α→β} {z:β} {l:List α} {k:Nat} {x:α} (h:l[k]? =some x):(l.take (k+1)).foldl f z=f ((l.take k).foldl f z) x:=by
 rw [List.take_add_one,h,List.foldl_append];rfl
theorem QlG (l:List Zj) (c:Qe):(Yh l c).length≤l.length+1:=by
 unfold Yh
 split
 ·split <;> simp
 ·simp
theorem Qk1 (cs:List Qe) (z:List Zj):(cs.foldl Yh z).length≤z.length+cs.length:=by
 induction cs generalizing z with
 | nil=>simp
 | cons c cs ih=>have:=ih (Yh z c);have:=QlG z c;simp only [List.foldl_cons,List.length_cons];omega
theorem Qi6 {m:Mem} {A:Option Addr} {c:Nat} {l:List DOp} (h:Rd (.sl TOp) m [.slice A l.length c] l) (hA:A=none):l=[]:=by
 subst hA
 obtain ⟨A',c',h1,_,_,h4⟩:=h
 rcases h4 with h4 | ⟨g,off,all,k1,_⟩
 ·exact List.eq_nil_of_length_eq_zero h4
 ·simp only [List.cons.injEq,Value.slice.injEq,and_true] at h1
  rw [← h1.1] at k1;cases k1
section
variable {l : List Qe} {e n : Int} {r k : Int}
theorem Qe8 (h:¬ (Qg 0 0 l).1=0):(sOf l).1=[]:=by unfold sOf;rw [if_pos h]
theorem Qe7 (h:¬ (Qg 0 0 l).1=0):(sOf l).2=Qg 0 0 l:=by unfold sOf;rw [if_pos h]
theorem Qdv (h:¬ ¬ (Qg 0 0 l).1=0):(sOf l).1=l.foldl Yh []:=by unfold sOf;rw [if_neg h]
theorem Qdu (h:¬ ¬ (Qg 0 0 l).1=0):(sOf l).2=(0,0):=by unfold sOf;rw [if_neg h]
end
theorem Qeu {x y:Qe} (h1:x.1=y.1) (h2:x.2.1=y.2.1) (h3:x.2.2=y.2.2):x=y:=Prod.ext h1 (Prod.ext h2 h3)
theorem QbU : ∀ {l : List Qe} {e n i : Int}, (Q8 e n i l).1 = 0 → n ≤ 1048576 → (l.length : Int) + n ≤ 1048576
  | [], _, _, _, _, h => by simpa using h
  | c :: r, e, n, i, h, hn => by
    unfold Q8 at h
    split at h
    · exact absurd h (by assumption)
    · rename_i h1
      split at h
      · cases h
      · rename_i h2
        have h3 := QbC (Decidable.not_not.1 h1)
        have := QbU h (by omega)
        simp only [List.length_cons]; omega
theorem QbI {α:Type} {l:List α} {k:Nat} {x:α} (h:l[k]? =some x):l.take (k+1)=l.take k++[x]:=by rw [List.take_add_one,h];rfl
theorem Qqu:JR Tryz.prog 104=true:=by kernel_rfl
theorem Qqt:JR Tryz.prog 105=true:=by kernel_rfl
theorem Qj0:JR Tryz.prog 111=true:=by kernel_rfl
theorem QnB:JR Tryz.prog 126=true:=by kernel_rfl
theorem QjX:JR Tryz.prog 127=true:=by kernel_rfl
theorem Qqa:JR Tryz.prog 139=true:=by kernel_rfl
theorem QiW:JR Tryz.prog 69=true:=by kernel_rfl
theorem Qb8 (a0:Int) (a1:Int):QfG Tryz.prog 89 [.int .i64 a0,.int .i64 a1]=true:=by kernel_rfl
theorem tk3:tk Tryz.prog 3=some none:=by kernel_rfl
theorem Qc6:tk Tryz.prog 35=some none:=by kernel_rfl
theorem Yv:tk Tryz.prog 37=some (some 3):=by kernel_rfl
theorem tk48:tk Tryz.prog 48=some none:=by kernel_rfl
theorem Qbf:tk Tryz.prog 89=some (some 2):=by kernel_rfl
theorem Jx:tsl Tryz.prog 41=some (37,3,40):=by kernel_rfl
theorem Qah:tsl Tryz.prog 45=some (87,2,16):=by kernel_rfl
theorem Jq:tst Tryz.prog 37=some [(0,1),(1,1),(2,1)]:=by kernel_rfl
theorem QeU:tst Tryz.prog 87=some [(0,1),(1,1)]:=by kernel_rfl
theorem Qa3:tst Tryz.prog 89=some [(0,1),(1,1)]:=by kernel_rfl
theorem XA:tz Tryz.prog 37=some [.int .i64 0,.int .i64 0,.slice none 0 0]:=by kernel_rfl
theorem Qjf:tz Tryz.prog 87=some [.int .i64 0,.int .i64 0]:=by kernel_rfl
theorem Qft:tz Tryz.prog 89=some [.int .i64 0,.int .i64 0]:=by kernel_rfl
theorem Qf4 (W:World) {v0:Value} {d0:List DOp} (h0:Rd (.sl TOp) (wm W) [v0] d0):Qi Tryz.prog 127 [v0] W (Qx) (fun v m'=>v= .int .i64 (Qs d0)):=by
 obtain ⟨A0,c0,rfl,l0,k0⟩:=h0.slc
 refine Qi.ofA (n:=26) Tryz.func127 rfl rfl rfl ?_
 refine VC.rs (VO.as (VO.k2 0 2 (VC.seq (VC.block (VC.rs (VO.mv (VO.z (.lenS rfl ZH) (VO.z (.eql rfl rfl) (VO.as (VO.k3 0 2 6 ?_))))))))))
 refine VC.cond rfl (fun hc1=>?_) (fun hc1=>?_)
 refine VC.rs (VO.as (VO.p1 0 (VO.k3 0 2 6 (VC.ret (JO (QZ ?_))))))
 exact Xl 2 rfl (by first | rfl | (congr 1;first | exact (YH ‹_›).symm | exact (Xc ‹_›).symm | exact (XJ ‹_› ‹_› ‹d0[k]? =some _› ‹_›).symm | exact (Xd ‹¬ (d0.length:Int)=0› ‹¬ (8:Int) < d0.length› ha ‹_›).symm))
 refine VC.rs (VO.mv (VO.z (.lenS rfl ZH) (VO.z (.gtr rfl rfl) (VO.as (VO.p1 0 (VO.k4 0 2 6 10 ?_))))))
 refine VC.cond rfl (fun hc2=>?_) (fun hc2=>?_)
 refine VC.rs (VO.as (VO.k4 0 2 6 10 (VC.ret (JO (QZ ?_)))))
 exact Xl 2 rfl (by first | rfl | (congr 1;first | exact (YH ‹_›).symm | exact (Xc ‹_›).symm | exact (XJ ‹_› ‹_› ‹d0[k]? =some _› ‹_›).symm | exact (Xd ‹¬ (d0.length:Int)=0› ‹¬ (8:Int) < d0.length› ha ‹_›).symm))
 refine VC.skip (JL (Qm (VC.seq (VC.rs (VO.mv (VO.z (.lenS rfl ZH) (VO.mv (VO.k7 0 2 6 10 14 15 16 (VC.block ?_)))))))))
 refine VC.loop (G:=Nat) (fun k=>[(16,.int .i64 (((k:Nat):Int))),(0,.slice A0 (d0.length) (c0)),(6,.bool (decide (((d0.length:Nat):Int)=0))),(10,.bool (decide (8 < ((d0.length:Nat):Int)))),(14,.slice A0 (d0.length) (c0)),(15,.int .i64 (((d0.length:Nat):Int)))]) (fun k=>[(0,wm W)]) (fun k=>(k≤d0.length)∧(∀ o∈d0.take k,Qjh o)) (fun k=>d0.length - k) 0 (⟨by omega,by simp⟩) ⟨esn,fun _ h=>h.sub [0]⟩ ?_
 rintro k ⟨hk,ha⟩
 refine VC.rs (VO.z (.lss rfl rfl) (VO.k7 0 6 10 14 15 16 17 (VC.seq ?_)))
 refine VC.cond rfl (fun hc3=>?_) (fun hc3=>?_)
 refine VC.skip (Qm (VC.seq (VC.block (VC.rs ?_))))
 obtain ⟨x4,hx4⟩:∃ z_,(d0)[k]? =some z_:=⟨_,List.getElem?_eq_getElem bd⟩
 obtain ⟨gg4,oo4,ec4,ea4,hce4,hre4⟩:=h0.elem hx4
 cases ea4
 obtain ⟨rfl,q4_1,q4_2⟩:=XF (x0:=x4.1) (x1:=x4.2.1) (x2:=x4.2.2) hre4
 simp only [maxLen] at q4_1
 simp only [maxLen] at q4_2
 refine VO.z (.ixI k rfl rfl ZH rfl bd) ?_
 refine VO.z (.ldA 0 rfl Qc5 rfl hce4) ?_
 refine VO.alloc 106 rfl QcS (fun g5=>?_)
 refine VO.store (k:=3) (c':=[.bool x4.1,str (x4.2.1),str (x4.2.2)]) 106 rfl rfl (.inl Qc5) rfl rfl rfl rfl rfl ?_
 refine VO.p2 106 0 (VO.k8 0 4 6 10 14 15 16 17 (VC.rs (VO.z (.ldA 106 rfl Qc5 rfl (Qa rfl rfl)) ?_)))
 refine VO.callN 107 rfl Qqa rfl (fun W hW=>QlO W (Rd.mono hre4 (hW.t 0))) (fun v7 m7 hv7=>?_)
 subst hv7
 refine VO.as (VO.k9 0 4 5 6 10 14 15 16 17 (VC.rs (VO.mv (VO.z (.neq rfl rfl) (VO.k10 0 4 5 6 10 14 15 16 17 23 ?_)))))
 refine VC.cond rfl (fun hc8=>?_) (fun hc8=>?_)
 refine VC.rs (VO.mv (VO.as (VO.p2 106 0 (VO.k11 0 2 4 5 6 10 14 15 16 17 23 (VC.ret (JO (QZ (QZ (JO (QZ ?_))))))))))
 exact Xl 2 rfl (by first | rfl | (congr 1;first | exact (YH ‹_›).symm | exact (Xc ‹_›).symm | exact (XJ ‹_› ‹_› ‹d0[k]? =some _› ‹_›).symm | exact (Xd ‹¬ (d0.length:Int)=0› ‹¬ (8:Int) < d0.length› ha ‹_›).symm))
 refine VC.skip (JL (Qm ?_))
 refine VC.reg ?_
 refine VO.z (.add (c:=((k+1:Nat):Int)) rfl rfl Qn ⟨bd,bd⟩) ?_
 refine VO.mv (VO.p2 106 0 (VO.k10 0 4 5 6 10 14 15 16 17 23 ?_))
 exact Qm ⟨k+1,⟨by omega,by exact QhY ha ‹d0[k]? =some _› (Qm1 (Decidable.not_not.1 ‹¬ ¬ _›))⟩,bd,⟨esn,fun _ h=>Inv.sub h [0]⟩⟩
 refine VC.exit (Zh (Zh (Zi (Qm (VC.rs (VO.as (VO.p1 0 (VO.k8 0 2 6 10 14 15 16 17 (VC.ret ?_)))))))))
 exact Xl 2 rfl (by first | rfl | (congr 1;first | exact (YH ‹_›).symm | exact (Xc ‹_›).symm | exact (XJ ‹_› ‹_› ‹d0[k]? =some _› ‹_›).symm | exact (Xd ‹¬ (d0.length:Int)=0› ‹¬ (8:Int) < d0.length› ha ‹_›).symm))
theorem Qew (W:World) {v0:List Value} {d0:Qe} (h0:Rd Ql (wm W) v0 d0):Qi Tryz.prog 111 [.agg v0.toArray] W (Qx) (fun v m'=>v= .int .i64 (QW d0)):=by
 obtain ⟨p0_A2,p0_c2,rfl,p0_0,p0_1,p0_2⟩:=Q4 (x0:=d0.1) (x1:=d0.2.1) (x2:=d0.2.2) h0
 simp only [inK] at p0_0 p0_1
 have p0_r2:=Rd.room p0_2
 refine Qi.ofA (n:=16) Tryz.func111 rfl rfl rfl ?_
 refine VC.rs ?_
 refine VO.box (cs:=[.int .i64 (d0.1),.int .i64 (d0.2.1),.slice p0_A2 (d0.2.2.length) (p0_c2)]) 102 rfl rfl rfl (fun g1=>?_)
 refine VO.as (VO.k3 0 1 2 (VC.seq (VC.rs (VO.z (.fa rfl Jq rfl) (VO.z (.ld1 102 rfl tk3 rfl (Qa rfl rfl)) ?_)))))
 refine VO.callN 103 rfl QnB rfl (fun W hW=>Qh8 W d0.1 bdk) (fun v3 m3 hv3=>?_)
 subst hv3
 refine VO.z (.notD rfl) (VO.mv ?_)
 refine VO.dec (t:=7) rfl (fun hc4=>?_) (fun hc4=>?_)
 refine VO.gN (VO.gN (VO.gN (VO.gN (VO.z (.pT rfl rfl) (VO.k4 0 1 2 12 (VC.condT rfl (VC.rs (VO.as (VO.p2 102 0 (VO.k4 0 1 2 12 (VC.ret ?_)))))))))))
 refine QZ ?_
 exact Xl 2 rfl (by first | rfl | (unfold QW;congr 1;split <;> (try split) <;> first | rfl | omega))
 refine VO.w (.fa rfl Jq rfl) (VO.w (.ld1 102 rfl tk3 rfl (Qa rfl rfl)) ?_)
 refine VO.gcallN 105 rfl ⟨_,rfl,rfl⟩ QnB rfl (fun W hW=>Qh8 W d0.2.1 bdk) (fun v5 m5 hv5=>?_)
 subst hv5
 refine VO.w (.notD rfl) (VO.z (.pF rfl rfl) (VO.k4 0 1 2 12 ?_))
 refine VC.cond rfl (fun hc6=>?_) (fun hc6=>?_)
 refine VC.rs (VO.as (VO.p2 102 0 (VO.k4 0 1 2 12 (VC.ret (QZ ?_)))))
 exact Xl 2 rfl (by first | rfl | (unfold QW;congr 1;split <;> (try split) <;> first | rfl | omega))
 refine VC.skip (Qm (VC.rs (VO.z (.fa rfl Jq rfl) (VO.z (.ld1 102 rfl Qc6 rfl (Qa rfl rfl)) ?_))))
 refine VO.callN 107 rfl QjX rfl (fun W hW=>Qf4 W (Rd.mono p0_2 (hW.t 0))) (fun v7 m7 hv7=>?_)
 subst hv7
 have hfa8:=ZZ d0.2.2
 refine VO.as (VO.p2 102 0 (VO.k4 0 1 2 12 (VC.ret ?_)))
 exact Xl 2 rfl (by first | rfl | (unfold QW;congr 1;split <;> (try split) <;> first | rfl | omega))
theorem Jg {P:Prop} (h:P:=by first | exact bd | (have:=QbC ‹QW _=0›;omega)):P:=h
theorem Zu {k:IntKind} {x:Int} (h:inK k x:=by simp only [inK];exact Jg):inK k x:=h
set_option maxHeartbeats 1000000 in
theorem QbA (W:World) (d0:Int) (h0:inK .i64 d0) (d1:Int) (h1:inK .i64 d1) {v2:Value} {d2:List Qe} (h2:Rd (.sl Ql) (wm W) [v2] d2):Qi Tryz.prog 69 [.int .i64 d0,.int .i64 d1,v2] W (Qx) (fun v m'=>∃ (s0:List Value),v= .agg s0.toArray∧Ow Xm m' s0 (Qg d0 d1 d2)):=by
 have h0':=h0;simp only [inK] at h0'
 have h1':=h1;simp only [inK] at h1'
 obtain ⟨A2,c2,rfl,l2,k2⟩:=h2.slc
 refine Qi.ofA (n:=49) Tryz.func69 rfl rfl rfl ?_
 refine VC.rs ?_
 refine VO.alloc 102 rfl Qft (fun g1=>?_)
 refine VO.k4 0 1 2 6 (VC.seq (VC.rs (VO.mv (VO.z (.lenS rfl Jx) (VO.mv (VO.k7 0 1 2 6 10 11 12 (VC.block ?_)))))))
 refine VC.loop (G:=Nat × Int × Int) (fun g=>[(0,.int .i64 ((g.2.1))),(1,.int .i64 ((g.2.2))),(12,.int .i64 ((((g.1):Nat):Int))),(2,.slice A2 (d2.length) (c2)),(6,.pointer (some ⟨g1,0,none⟩)),(10,.slice A2 (d2.length) (c2)),(11,.int .i64 (((d2.length:Nat):Int)))]) (fun g=>[(102,QM g1 (.cells #[.int .i64 (0),.int .i64 (0)] 89 (0,0))),(0,wm W)]) (fun g=>((g.1)≤d2.length)∧(Qg d0 d1 d2=Q8 (g.2.1) (g.2.2) (g.1) (d2.drop (g.1)))) (fun g=>d2.length - (g.1)) (0,d0,d1) (⟨by omega,by rfl⟩) ⟨esn,fun _ h=>h.sub [102,0]⟩ ?_
 rintro ⟨k,e,nn⟩ ⟨hk,hf⟩
 replace hk:k≤d2.length:=hk
 replace hf:Qg d0 d1 d2=Q8 e nn k (d2.drop k):=hf
 show VC _ _ _ _ _ [(0,.int .i64 (e)),(1,.int .i64 (nn)),(12,.int .i64 (((k:Nat):Int))),(2,.slice A2 (d2.length) (c2)),(6,.pointer (some ⟨g1,0,none⟩)),(10,.slice A2 (d2.length) (c2)),(11,.int .i64 (((d2.length:Nat):Int)))] [(102,QM g1 (.cells #[.int .i64 (0),.int .i64 (0)] 89 (0,0))),(0,wm W)]
 refine VC.rs (VO.z (.lss rfl rfl) (VO.p2 102 0 (VO.k8 0 1 2 6 10 11 12 13 (VC.seq ?_))))
 refine VC.cond rfl (fun hc3=>?_) (fun hc3=>?_)
 refine VC.skip (Qm (VC.seq (VC.block (VC.rs (VO.mv ?_)))))
 obtain ⟨x4,hx4⟩:∃ z_,(d2)[k]? =some z_:=⟨_,List.getElem?_eq_getElem Jg⟩
 obtain ⟨gg4,oo4,ec4,ea4,hce4,hre4⟩:=h2.elem hx4
 cases ea4
 obtain ⟨q4_A2,q4_c2,rfl,q4_0,q4_1,q4_2⟩:=Q4 (x0:=x4.1) (x1:=x4.2.1) (x2:=x4.2.2) hre4
 simp only [inK] at q4_0 q4_1
 have q4_r2:=Rd.room q4_2
 refine VO.z (.ixI k rfl rfl Jx rfl Jg) ?_
 refine VO.z (.ldA 0 rfl Yv rfl hce4) ?_
 refine VO.alloc 106 rfl XA (fun g5=>?_)
 refine VO.as ?_
 refine VO.store (k:=3) (c':=[.int .i64 (x4.1),.int .i64 (x4.2.1),.slice q4_A2 (x4.2.2.length) (q4_c2)]) 106 rfl rfl (.inl Yv) rfl rfl rfl rfl rfl ?_
 refine VO.k10 0 1 2 6 7 8 10 11 12 13 (VC.rs (VO.z (.ldA 106 rfl Yv rfl (Qa rfl rfl)) ?_))
 refine VO.callN 107 rfl Qj0 rfl (fun W hW=>Qew W (Rd.mono hre4 (hW.t 0))) (fun v7 m7 hv7=>?_)
 subst hv7
 have hfa8:=YG x4
 refine VO.mv ?_
 refine VO.z (.bst (cs:=[.int .i64 (QW x4),.int .i64 (((k:Nat):Int))]) rfl Qa3 Qft rfl) ?_
 refine VO.alloc 110 rfl Qft (fun g9=>?_)
 refine VO.store (k:=2) (c':=[.int .i64 (QW x4),.int .i64 (((k:Nat):Int))]) 110 rfl rfl (.inl Qbf) rfl rfl rfl rfl rfl ?_
 refine VO.k11 0 1 2 6 7 8 9 10 11 12 13 (VC.seq (VC.rs (VO.z (.fa rfl Qa3 rfl) (VO.z (.ld1 110 rfl tk48 rfl (Qa rfl rfl)) (VO.z (.eql rfl rfl) (VO.mv ?_))))))
 refine VO.dec (t:=24) rfl (fun hc11=>?_) (fun hc11=>?_)
 refine VO.w (.fa rfl Jq rfl) (VO.w (.ld1 106 rfl tk3 rfl (Qa rfl rfl)) ?_)
 refine VO.w (.sub rfl rfl rfl ⟨by exact Jg,by exact Jg⟩) ?_
 refine VO.w (.mv rfl) (VO.w (.neq rfl rfl) (VO.w (.mv rfl) ?_))
 refine VO.dec (t:=30) rfl (fun hc12=>?_) (fun hc12=>?_)
 refine VO.gN (VO.gN (VO.gN (VO.gN (VO.w (.pT rfl rfl) (VO.z (.pT rfl rfl) (VO.p4 110 106 102 0 (VO.k12 0 1 2 6 7 8 9 10 11 12 13 36 (VC.condT rfl ?_))))))))
 refine VC.reg ?_
 refine VO.z (.fa rfl Qa3 rfl) ?_
 refine VO.store (k:=1) (c':=[.int .i64 (15),.int .i64 (((k:Nat):Int))]) 110 rfl rfl (.inr ⟨tk48,rfl⟩) rfl rfl rfl rfl rfl ?_
 refine VO.k12 0 1 2 6 7 8 9 10 11 12 13 36 (Qm (VC.seq (VC.rs (VO.z (.ldA 110 rfl Qbf rfl (Qa rfl rfl)) (VO.mv ?_)))))
 refine VO.z (.bst (cs:=[.int .i64 (0),.int .i64 (((k:Nat):Int))]) rfl Qa3 Qft rfl) ?_
 refine VO.z (.stneq (p:=15=0∧((k:Nat):Int)=((k:Nat):Int)) rfl rfl (Qb8 15 ((k:Nat):Int)) (Qb8 0 ((k:Nat):Int)) (by simp [ceq,Xy])) ?_
 refine VO.nil ?_
 refine VC.cond rfl (fun hc13=>?_) (fun hc13=>?_)
 · refine VC.rs (VO.z (.ldA 110 rfl Qbf rfl (Qa rfl rfl)) ?_)
   refine VO.store (k:=2) (c':=[.int .i64 (15),.int .i64 (((k:Nat):Int))]) 102 rfl rfl (.inl Qbf) rfl rfl rfl rfl rfl ?_
   refine VO.p4 110 106 102 0 (VO.nil (VC.ret (QZ (JO (QZ (QZ (JO (QZ ?_))))))))
   refine ⟨_,_,Jr (rs:=[.cell 6 89]) rfl (.agg 102 rfl Qbf rfl ⟨_,_,_,QJ _ _,Nat.le_of_ble_eq_true rfl,rfl⟩ .nil),fun W_ hI=>JZ (l:=[]) hI [] rfl rfl (Qc _) (fun hS_=>?_)⟩
   dsimp only [QE]
   have he0:(Qg d0 d1 d2:Ty.Den Xm)=(15,((k:Nat):Int)):=by first | rfl | (first | (rw [hf,List.drop_of_length_le Qn];rfl) | (rw [hf,YJ ‹d2[k]? =some _› (by first | assumption | omega)]) | (rw [hf,Z3 ‹d2[k]? =some _› Qo Qn]) | (exfalso;omega))
   refine ⟨[.int .i64 (15),.int .i64 (((k:Nat):Int))],?_,?_⟩
   rotate_left
   · rw [he0];exact (Ow.of (m:=Qx) rfl (Xj (m:=_) 15 ((k:Nat):Int) Zu Zu))
   all_goals (first | rfl | (rfl))
 refine VC.skip (Qm ?_)
 refine VC.regD _ 5 [(0,true),(1,true),(2,true),(3,true),(4,true)] follows (by kernel_rfl) (fun _ h=>h.sub [110,106,102,0]) ?_
 refine VD.z rfl (.fa rfl Jq rfl) (VD.z rfl (.ld1 106 rfl tk3 rfl (Qa rfl rfl)) (VD.z rfl (.fa rfl Jq rfl) (VD.z rfl (.ld1 106 rfl tk3 rfl (Qa rfl rfl)) (VD.z rfl (.as rfl) ?_))))
 refine VD.nil rfl ?_ rfl
 refine VO.as (VO.p4 110 106 102 0 (VO.nil (JL (Qm ?_))))
 refine VC.reg ?_
 refine VO.z (.add (c:=((k+1:Nat):Int)) rfl rfl Qn ⟨by exact Jg,by exact Jg⟩) ?_
 refine VO.mv (VO.nil ?_)
 exact Qm ⟨⟨k+1,x4.1,x4.2.1⟩,⟨by omega,by first | (exfalso;omega) | (rw [hf,Qak ‹d2[k]? =some _› (by first | assumption | omega) Qn Qn];rfl)⟩,by exact Jg,⟨esn,fun _ h=>Inv.sub h [102,0]⟩⟩
 refine VO.w (.fa rfl Jq rfl) (VO.w (.ld1 106 rfl tk3 rfl (Qa rfl rfl)) (VO.w (.mv rfl) (VO.w (.lss rfl rfl) (VO.w (.pF rfl rfl) (VO.z (.pT rfl rfl) (VO.p4 110 106 102 0 (VO.k12 0 1 2 6 7 8 9 10 11 12 13 36 ?_)))))))
 refine VC.cond rfl (fun hc14=>?_) (fun hc14=>?_)
 refine VC.reg ?_
 refine VO.z (.fa rfl Qa3 rfl) ?_
 refine VO.store (k:=1) (c':=[.int .i64 (15),.int .i64 (((k:Nat):Int))]) 110 rfl rfl (.inr ⟨tk48,rfl⟩) rfl rfl rfl rfl rfl ?_
 refine VO.k12 0 1 2 6 7 8 9 10 11 12 13 36 (Qm (VC.seq (VC.rs (VO.z (.ldA 110 rfl Qbf rfl (Qa rfl rfl)) (VO.mv ?_)))))
 refine VO.z (.bst (cs:=[.int .i64 (0),.int .i64 (((k:Nat):Int))]) rfl Qa3 Qft rfl) ?_
 refine VO.z (.stneq (p:=15=0∧((k:Nat):Int)=((k:Nat):Int)) rfl rfl (Qb8 15 ((k:Nat):Int)) (Qb8 0 ((k:Nat):Int)) (by simp [ceq,Xy])) ?_
 refine VO.nil ?_
 refine VC.cond rfl (fun hc15=>?_) (fun hc15=>?_)
 · refine VC.rs (VO.z (.ldA 110 rfl Qbf rfl (Qa rfl rfl)) ?_)
   refine VO.store (k:=2) (c':=[.int .i64 (15),.int .i64 (((k:Nat):Int))]) 102 rfl rfl (.inl Qbf) rfl rfl rfl rfl rfl ?_
   refine VO.p4 110 106 102 0 (VO.nil (VC.ret (QZ (JO (QZ (QZ (JO (QZ ?_))))))))
   refine ⟨_,_,Jr (rs:=[.cell 6 89]) rfl (.agg 102 rfl Qbf rfl ⟨_,_,_,QJ _ _,Nat.le_of_ble_eq_true rfl,rfl⟩ .nil),fun W_ hI=>JZ (l:=[]) hI [] rfl rfl (Qc _) (fun hS_=>?_)⟩
   dsimp only [QE]
   have he0:(Qg d0 d1 d2:Ty.Den Xm)=(15,((k:Nat):Int)):=by first | rfl | (first | (rw [hf,List.drop_of_length_le Qn];rfl) | (rw [hf,YJ ‹d2[k]? =some _› (by first | assumption | omega)]) | (rw [hf,Z3 ‹d2[k]? =some _› Qo Qn]) | (exfalso;omega))
   refine ⟨[.int .i64 (15),.int .i64 (((k:Nat):Int))],?_,?_⟩
   rotate_left
   · rw [he0];exact (Ow.of (m:=Qx) rfl (Xj (m:=_) 15 ((k:Nat):Int) Zu Zu))
   all_goals (first | rfl | (rfl))
 refine VC.skip (Qm ?_)
 refine VC.regD _ 5 [(0,true),(1,true),(2,true),(3,true),(4,true)] follows (by kernel_rfl) (fun _ h=>h.sub [110,106,102,0]) ?_
 refine VD.z rfl (.fa rfl Jq rfl) (VD.z rfl (.ld1 106 rfl tk3 rfl (Qa rfl rfl)) (VD.z rfl (.fa rfl Jq rfl) (VD.z rfl (.ld1 106 rfl tk3 rfl (Qa rfl rfl)) (VD.z rfl (.as rfl) ?_))))
 refine VD.nil rfl ?_ rfl
 refine VO.as (VO.p4 110 106 102 0 (VO.nil (JL (Qm ?_))))
 refine VC.reg ?_
 refine VO.z (.add (c:=((k+1:Nat):Int)) rfl rfl Qn ⟨by exact Jg,by exact Jg⟩) ?_
 refine VO.mv (VO.nil ?_)
 exact Qm ⟨⟨k+1,x4.1,x4.2.1⟩,⟨by omega,by first | (exfalso;omega) | (rw [hf,Qak ‹d2[k]? =some _› (by first | assumption | omega) Qn Qn];rfl)⟩,by exact Jg,⟨esn,fun _ h=>Inv.sub h [102,0]⟩⟩
 refine VC.skip (Qm (VC.seq (VC.rs (VO.z (.ldA 110 rfl Qbf rfl (Qa rfl rfl)) (VO.mv ?_)))))
 refine VO.z (.bst (cs:=[.int .i64 (0),.int .i64 (((k:Nat):Int))]) rfl Qa3 Qft rfl) ?_
 refine VO.z (.stneq (p:=(QW x4)=0∧((k:Nat):Int)=((k:Nat):Int)) rfl rfl (Qb8 (QW x4) ((k:Nat):Int)) (Qb8 0 ((k:Nat):Int)) (by simp [ceq,Xy])) ?_
 refine VO.nil ?_
 refine VC.cond rfl (fun hc16=>?_) (fun hc16=>?_)
 · refine VC.rs (VO.z (.ldA 110 rfl Qbf rfl (Qa rfl rfl)) ?_)
   refine VO.store (k:=2) (c':=[.int .i64 (QW x4),.int .i64 (((k:Nat):Int))]) 102 rfl rfl (.inl Qbf) rfl rfl rfl rfl rfl ?_
   refine VO.nil (VC.ret (QZ (JO (QZ (QZ (JO (QZ ?_)))))))
   refine ⟨_,_,Jr (rs:=[.cell 6 89]) rfl (.agg 102 rfl Qbf rfl ⟨_,_,_,QJ _ _,Nat.le_of_ble_eq_true rfl,rfl⟩ .nil),fun W_ hI=>JZ (l:=[]) hI [] rfl rfl (Qc _) (fun hS_=>?_)⟩
   dsimp only [QE]
   have he0:(Qg d0 d1 d2:Ty.Den Xm)=(QW x4,((k:Nat):Int)):=by first | rfl | (first | (rw [hf,List.drop_of_length_le Qn];rfl) | (rw [hf,YJ ‹d2[k]? =some _› (by first | assumption | omega)]) | (rw [hf,Z3 ‹d2[k]? =some _› Qo Qn]) | (exfalso;omega))
   refine ⟨[.int .i64 (QW x4),.int .i64 (((k:Nat):Int))],?_,?_⟩
   rotate_left
   · rw [he0];exact (Ow.of (m:=Qx) rfl (Xj (m:=_) (QW x4) ((k:Nat):Int) Zu Zu))
   all_goals (first | rfl | (rfl))
 refine VC.skip (Qm ?_)
 refine VC.regD _ 5 [(0,true),(1,true),(2,true),(3,true),(4,true)] follows (by kernel_rfl) (fun _ h=>h.sub [110,106,102,0]) ?_
 refine VD.z rfl (.fa rfl Jq rfl) (VD.z rfl (.ld1 106 rfl tk3 rfl (Qa rfl rfl)) (VD.z rfl (.fa rfl Jq rfl) (VD.z rfl (.ld1 106 rfl tk3 rfl (Qa rfl rfl)) (VD.z rfl (.as rfl) ?_))))
 refine VD.nil rfl ?_ rfl
 refine VO.as (VO.nil (JL (Qm ?_)))
 refine VC.reg ?_
 refine VO.z (.add (c:=((k+1:Nat):Int)) rfl rfl Qn ⟨by exact Jg,by exact Jg⟩) ?_
 refine VO.mv (VO.p4 110 106 102 0 (VO.nil ?_))
 exact Qm ⟨⟨k+1,x4.1,x4.2.1⟩,⟨by omega,by first | (exfalso;omega) | (rw [hf,Qak ‹d2[k]? =some _› (by first | assumption | omega) Qn Qn];rfl)⟩,by exact Jg,⟨esn,fun _ h=>Inv.sub h [102,0]⟩⟩
 refine VO.gN (VO.gN (VO.gN (VO.gN (VO.gN (VO.gN ?_)))))
 refine VO.gn rfl (.inr ⟨_,rfl,rfl⟩) ?_
 refine VO.gn rfl (.inr ⟨_,rfl,rfl⟩) ?_
 refine VO.gn rfl (.inr ⟨_,rfl,rfl⟩) ?_
 refine VO.gn rfl (.inr ⟨_,rfl,rfl⟩) ?_
 refine VO.gN (VO.z (.pF rfl rfl) (VO.p4 110 106 102 0 (VO.k12 0 1 2 6 7 8 9 10 11 12 13 36 (VC.condF rfl (VC.skip (Qm (VC.seq (VC.rs (VO.z (.ldA 110 rfl Qbf rfl (Qa rfl rfl)) (VO.mv ?_))))))))))
 refine VO.z (.bst (cs:=[.int .i64 (0),.int .i64 (((k:Nat):Int))]) rfl Qa3 Qft rfl) ?_
 refine VO.z (.stneq (p:=(QW x4)=0∧((k:Nat):Int)=((k:Nat):Int)) rfl rfl (Qb8 (QW x4) ((k:Nat):Int)) (Qb8 0 ((k:Nat):Int)) (by simp [ceq,Xy])) ?_
 refine VO.nil ?_
 refine VC.cond rfl (fun hc17=>?_) (fun hc17=>?_)
 · refine VC.rs (VO.z (.ldA 110 rfl Qbf rfl (Qa rfl rfl)) ?_)
   refine VO.store (k:=2) (c':=[.int .i64 (QW x4),.int .i64 (((k:Nat):Int))]) 102 rfl rfl (.inl Qbf) rfl rfl rfl rfl rfl ?_
   refine VO.nil (VC.ret (QZ (JO (QZ (QZ (JO (QZ ?_)))))))
   refine ⟨_,_,Jr (rs:=[.cell 6 89]) rfl (.agg 102 rfl Qbf rfl ⟨_,_,_,QJ _ _,Nat.le_of_ble_eq_true rfl,rfl⟩ .nil),fun W_ hI=>JZ (l:=[]) hI [] rfl rfl (Qc _) (fun hS_=>?_)⟩
   dsimp only [QE]
   have he0:(Qg d0 d1 d2:Ty.Den Xm)=(QW x4,((k:Nat):Int)):=by first | rfl | (first | (rw [hf,List.drop_of_length_le Qn];rfl) | (rw [hf,YJ ‹d2[k]? =some _› (by first | assumption | omega)]) | (rw [hf,Z3 ‹d2[k]? =some _› Qo Qn]) | (exfalso;omega))
   refine ⟨[.int .i64 (QW x4),.int .i64 (((k:Nat):Int))],?_,?_⟩
   rotate_left
   · rw [he0];exact (Ow.of (m:=Qx) rfl (Xj (m:=_) (QW x4) ((k:Nat):Int) Zu Zu))
   all_goals (first | rfl | (rfl))
 refine VC.skip (Qm ?_)
 refine VC.regD _ 5 [(0,true),(1,true),(2,true),(3,true),(4,true)] follows (by kernel_rfl) (fun _ h=>h.sub [110,106,102,0]) ?_
 refine VD.z rfl (.fa rfl Jq rfl) (VD.z rfl (.ld1 106 rfl tk3 rfl (Qa rfl rfl)) (VD.z rfl (.fa rfl Jq rfl) (VD.z rfl (.ld1 106 rfl tk3 rfl (Qa rfl rfl)) (VD.z rfl (.as rfl) ?_))))
 refine VD.nil rfl ?_ rfl
 refine VO.as (VO.nil (JL (Qm ?_)))
 refine VC.reg ?_
 refine VO.z (.add (c:=((k+1:Nat):Int)) rfl rfl Qn ⟨by exact Jg,by exact Jg⟩) ?_
 refine VO.mv (VO.p4 110 106 102 0 (VO.nil ?_))
 exact Qm ⟨⟨k+1,x4.1,x4.2.1⟩,⟨by omega,by first | (exfalso;omega) | (rw [hf,Qak ‹d2[k]? =some _› (by first | assumption | omega) Qn Qn];rfl)⟩,by exact Jg,⟨esn,fun _ h=>Inv.sub h [102,0]⟩⟩
 · refine VC.exit (Zh (Zh (Zi (Qm (VC.rs ?_)))))
   refine VO.z (.bst (cs:=[.int .i64 (0),.int .i64 (0)]) rfl Qa3 Qft rfl) ?_
   refine VO.store (k:=2) (c':=[.int .i64 (0),.int .i64 (0)]) 102 rfl rfl (.inl Qbf) rfl rfl rfl rfl rfl ?_
   refine VO.k8 0 1 2 6 10 11 12 13 (VC.ret ?_)
   refine ⟨_,_,Jr (rs:=[.cell 6 89]) rfl (.agg 102 rfl Qbf rfl ⟨_,_,_,QJ _ _,Nat.le_of_ble_eq_true rfl,rfl⟩ .nil),fun W_ hI=>JZ (l:=[]) hI [] rfl rfl (Qc _) (fun hS_=>?_)⟩
   dsimp only [QE]
   have he0:(Qg d0 d1 d2:Ty.Den Xm)=(0,0):=by first | rfl | (first | (rw [hf,List.drop_of_length_le Qn];rfl) | (rw [hf,YJ ‹d2[k]? =some _› (by first | assumption | omega)]) | (rw [hf,Z3 ‹d2[k]? =some _› Qo Qn]) | (exfalso;omega))
   refine ⟨[.int .i64 (0),.int .i64 (0)],?_,?_⟩
   rotate_left
   · rw [he0];exact (Ow.of (m:=Qx) rfl (Xj (m:=_) 0 0 Zu Zu))
   all_goals (first | rfl | (rfl))
theorem QoR (W:World) {v0:Value} {d0:List DOp} (h0:Rd (.sl TOp) (wm W) [v0] d0) (e0:d0.length≤3518437208800):Qi Tryz.prog 104 [v0] W (Qx) (fun v m'=>∃ (s0:Value),v=s0∧Ow (.sl TOp) m' [s0] (d0)):=by
 obtain ⟨A0,c0,rfl,l0,k0⟩:=h0.slc
 refine Qi.ofA (n:=8) Tryz.func104 rfl rfl rfl ?_
 refine VC.rs (VO.as (VO.k2 0 2 (VC.seq (VC.rs (VO.mv ?_)))))
 refine VO.z (.snil rfl rfl Tryz.underlying35) ?_
 refine VO.k3 0 2 4 ?_
 refine VC.cond rfl (fun hc1=>?_) (fun hc1=>?_)
 ·refine VC.rs (VO.as (VO.p1 0 (VO.k3 0 2 4 (VC.ret (QZ ?_)))))
  refine Yd 2 [] fun hS_=>?_
  dsimp only [QE]
  have he0:(d0:Ty.Den (.sl TOp))=[]:=by first | rfl | (exact Qi6 h0 ‹_=none›)
  refine ⟨.slice none (0) (0),?_,?_⟩
  rotate_left
  ·rw [he0];exact (Ow.nil _ _)
  all_goals (first | rfl | (simp [*];done))
 ·refine VC.skip (Qm (VC.rs ?_))
  refine VO.bsl (cs:=[]) 103 rfl rfl ZH QcS rfl rfl (fun g2=>?_)
  refine VO.mv ?_
  have ho5:QH TOp (QM g2 (.cells [].toArray 71 (0,0))) Qx (Value.slice (some ⟨g2,0,none⟩) (0) (0)) []:=QH.lit 0 Je.nil rfl rfl
  obtain ⟨mo4,cs4,hM4,hA4,hC4⟩:=ho5
  obtain ⟨all4,hS4,hR4⟩:=Rd.srcI (P:=Tryz.prog) (h0) Tryz.underlying35
  refine VO.app 103 rfl rfl rfl ZH QcS rfl rfl hM4 hA4 (hS4 _ 0 rfl) hR4.nice bdm bd (by decide) (fun v4 m4 hN4=>?_)
  have ho4:QH TOp m4 Qx v4 (d0):=QH.more hC4 hN4 (Je.mono hR4 fun _ _ h=>Rd.flat rfl h _)
  obtain ⟨A4,c4,rfl,l4,k4⟩:=ho4.slc
  refine VO.as (VO.p2 103 0 (VO.k3 0 2 4 (VC.ret ?_)))
  refine Yd 2 [103] fun hS_=>?_
  dsimp only [QE]
  exact ⟨Value.slice A4 ((d0).length) (c4),(by first | rfl | (simp [*];done)),(Ow.cg (Ow.up (QH.ow ho4 rfl) (hS_.1 _ (.head _))) (by first | rfl | (exact Qi6 h0 ‹_=none›)))⟩
theorem Qlh (W:World) {v0:List Value} {d0:Qe} (h0:Rd Ql (wm W) v0 d0) (e0:d0.2.2.length≤3518437208800):Qi Tryz.prog 58 [.agg v0.toArray] W (Qx) (fun v m'=>∃ (s0:List Value),v= .agg s0.toArray∧Ow Ql m' s0 (d0)):=by
 obtain ⟨p0_A2,p0_c2,rfl,p0_0,p0_1,p0_2⟩:=Q4 (x0:=d0.1) (x1:=d0.2.1) (x2:=d0.2.2) h0
 simp only [inK] at p0_0 p0_1
 have p0_r2:=Rd.room p0_2
 refine Qi.ofA (n:=8) Tryz.func58 rfl rfl rfl ?_
 refine VC.rs ?_
 refine VO.box (cs:=[.int .i64 (d0.1),.int .i64 (d0.2.1),.slice p0_A2 (d0.2.2.length) (p0_c2)]) 102 rfl rfl rfl (fun g1=>?_)
 refine VO.alloc 104 rfl XA (fun g3=>?_)
 refine VO.k3 0 1 2 (VC.rs (VO.z (.fa rfl Jq rfl) (VO.z (.ld1 102 rfl Qc6 rfl (Qa rfl rfl)) ?_)))
 refine VO.callN 105 rfl Qqu rfl (fun W hW=>QoR W (Rd.mono p0_2 (hW.t 0)) bd) (fun v5 m5 hv5=>?_)
 obtain ⟨s5_0,rfl,f5_0⟩:=hv5
 obtain ⟨A5_0,c5_0,eq5_0,l5_0,k5_0⟩:=f5_0.slc
 subst eq5_0
 refine VO.z (.fa rfl Jq rfl) ?_
 refine VO.store (k:=1) (c':=[.int .i64 (d0.1),.int .i64 (d0.2.1),.slice A5_0 (d0.2.2.length) (c5_0)]) 102 rfl rfl (.inr ⟨Qc6,rfl⟩) rfl rfl rfl rfl rfl ?_
 refine VO.k3 0 1 2 (VC.rs (VO.z (.ldA 102 rfl Yv rfl (Qa rfl rfl)) ?_))
 refine VO.store (k:=3) (c':=[.int .i64 (d0.1),.int .i64 (d0.2.1),.slice A5_0 (d0.2.2.length) (c5_0)]) 104 rfl rfl (.inl Yv) rfl rfl rfl rfl rfl ?_
 refine VO.p4 105 104 102 0 (VO.k3 0 1 2 (VC.ret ?_))
 refine ⟨_,_,Jr (rs:=[.cell 2 37]) rfl (.agg 104 rfl Yv rfl ⟨_,_,_,QJ _ _,Nat.le_of_ble_eq_true rfl,rfl⟩ .nil),fun W_ hI=>JZ (l:=[m5]) hI [105] rfl rfl (Qc _) (fun hS_=>?_)⟩
 dsimp only [QE]
 have he0:(d0:Ty.Den Ql)=d0:=by first | rfl | (simp [*];done)
 refine ⟨[.int .i64 (d0.1),.int .i64 (d0.2.1),.slice A5_0 (d0.2.2.length) (c5_0)],?_,?_⟩
 rotate_left
 ·rw [he0];exact (show Ow Ql _ _ d0 from (Jt d0.1 d0.2.1 d0.2.2 hS_ bdk bdk f5_0))
 all_goals (first | rfl | (simp [*];done))
theorem QoF (W:World) {m0:Mem} (hm:mle (m0) (wm W)) {v0:Value} {d0:List Zj} (h0:Ow (.sl Zt) m0 [v0] d0) {v1:List Value} {d1:Qe} (h1:Rd Ql (J4 (wm W) (m0)) v1 d1) (e0:d0.length≤8796093020000):Qi Tryz.prog 105 [v0,.agg v1.toArray] W (m0) (fun v m'=>∃ (s0:Value),v=s0∧Ow (.sl Zt) m' [s0] (Yh d0 d1)):=by
 obtain ⟨A0,c0,e0_,l0,k0⟩:=h0.slc
 subst e0_
 obtain ⟨p1_A2,p1_c2,rfl,p1_0,p1_1,p1_2⟩:=Q4 (x0:=d1.1) (x1:=d1.2.1) (x2:=d1.2.2) h1
 simp only [inK] at p1_0 p1_1
 have p1_r2:=Rd.room p1_2
 refine Qi.ofB (n:=30) hm Tryz.func105 rfl rfl rfl ?_
 refine VC.rs ?_
 refine VO.box (cs:=[.int .i64 (d1.1),.int .i64 (d1.2.1),.slice p1_A2 (d1.2.2.length) (p1_c2)]) 102 rfl rfl rfl (fun g1=>?_)
 refine VO.as (VO.k4 0 1 3 4 (VC.seq (VC.rs (VO.mv (VO.z (.lenS rfl Qah) (VO.as (VO.k5 0 1 3 4 5 (VC.seq ?_))))))))
 refine VC.regD _ 11 [(0,true),(1,true),(2,true),(3,true),(4,true),(5,true),(6,true),(7,true),(8,true),(9,true),(10,true)] follows (by kernel_rfl) (fun _ h=>h.sub [102,0,1]) ?_
 refine VD.z rfl (.mv rfl) (VD.z rfl (.gtr rfl rfl) (VD.z rfl (.mv rfl) ?_))
 refine VD.dec (s:=10) rfl (fun hc3=>?_) (fun hc3=>?_)
 refine VD.w rfl (.mv rfl) (VD.w rfl (.mv rfl) ?_)
 refine VD.w rfl (.sub rfl rfl rfl ⟨bd,bd⟩) ?_
 obtain ⟨x4,hx4⟩:∃ z_,(d0)[(((d0.length:Nat):Int) - 1).toNat]? =some z_:=⟨_,List.getElem?_eq_getElem bd⟩
 obtain ⟨gg4,oo4,ec4,ea4,hce4,hre4⟩:=(Ow.ownl h0 rfl Qx).elem hx4
 cases ea4
 obtain ⟨rfl,q4_0,q4_1⟩:=Qbx (x0:=x4.1) (x1:=x4.2) hre4
 simp only [inK] at q4_0 q4_1
 refine VD.w rfl (.ixI ((((d0.length:Nat):Int) - 1).toNat) rfl rfl Qah bd bd) ?_
 refine VD.w rfl (.fa rfl QeU rfl) ?_
 refine VD.w rfl (.ld1 1 rfl tk3 rfl (hce4.at1 (j:=0) rfl)) ?_
 refine VD.w rfl (.fa rfl Jq rfl) (VD.w rfl (.ld1 102 rfl tk3 rfl (Qa rfl rfl)) ?_)
 refine VD.nil rfl ?_ rfl
 refine VO.w (.eql rfl rfl) (VO.z (.pT rfl rfl) (VO.p3 102 0 1 (VO.k6 0 1 3 4 5 20 (Qm ?_))))
 refine VC.cond rfl (fun hc5=>?_) (fun hc5=>?_)
 ·refine VC.rs (VO.mv (VO.as (VO.k6 0 1 3 4 5 20 (VC.ret (QZ ?_)))))
  refine Yd 4 [1] fun hS_=>?_
  dsimp only [QE]
  exact ⟨Value.slice (some ⟨gg4,oo4,none⟩) (d0.length) (c0),(by first | rfl | (simp [*];done)),(Ow.cg (Ow.up h0 (hS_.1 _ (.head _))) (by first | rfl | (first | exact QaQ ‹d0[_]? =some _› Qn Qn | exact Xi (.inr ⟨_,_,‹d0[_]? =some _›,by omega,by omega⟩) | exact Xi (.inl (List.eq_nil_of_length_eq_zero Qn)))))⟩
 ·refine VC.skip (Qm (VC.rs (VO.mv (VO.z (.fa rfl Jq rfl) (VO.z (.ld1 102 rfl tk3 rfl (Qa rfl rfl)) (VO.z (.fa rfl Jq rfl) (VO.z (.ld1 102 rfl tk3 rfl (Qa rfl rfl)) ?_)))))))
  refine VO.z (.bst (cs:=[.int .i64 (d1.1),.int .i64 (d1.2.1)]) rfl QeU Qjf rfl) ?_
  refine VO.bsl (cs:=[.int .i64 (d1.1),.int .i64 (d1.2.1)]) 107 rfl rfl Qah Qjf rfl rfl (fun g6=>?_)
  obtain ⟨mo8,cs8,hM8,hA8,hC8⟩:=(Ow.ownl h0 rfl Qx)
  refine VO.app 1 rfl rfl rfl Qah Qjf rfl rfl hM8 hA8 (.row 107 _ _ _ 1 1 _ _ Tryz.underlying45 rfl (Qa rfl rfl)) (by simp [Value.oneCell']) bdm bd (by decide) (fun v8 m8 hN8=>?_)
  have ho8:QH Zt m8 Qx v8 (d0++[(d1.1,d1.2.1)]):=QH.one hC8 hN8 (QcD (m:=_) d1.1 d1.2.1 bdk bdk)
  obtain ⟨A8,c8,rfl,l8,k8⟩:=ho8.slc
  refine VO.as (VO.k6 0 1 3 4 5 20 (VC.ret ?_))
  refine Yd 4 [1] fun hS_=>?_
  dsimp only [QE]
  exact ⟨Value.slice A8 ((d0++[(d1.1,d1.2.1)]).length) (c8),(by first | rfl | (simp [*];done)),(Ow.cg (Ow.up (QH.ow ho8 rfl) (hS_.1 _ (.head _))) (by first | rfl | (first | exact QaQ ‹d0[_]? =some _› Qn Qn | exact Xi (.inr ⟨_,_,‹d0[_]? =some _›,by omega,by omega⟩) | exact Xi (.inl (List.eq_nil_of_length_eq_zero Qn)))))⟩
 ·refine VD.gN rfl (VD.gN rfl (VD.gN rfl (VD.gN rfl (VD.gN rfl (VD.gN rfl (VD.gN rfl (VD.gN rfl ?_)))))))
  refine VD.nil rfl ?_ rfl
  refine VO.gN (VO.z (.pF rfl rfl) (VO.p3 102 0 1 (VO.k6 0 1 3 4 5 20 (Qm (VC.condF rfl (VC.skip (Qm (VC.rs (VO.mv (VO.z (.fa rfl Jq rfl) (VO.z (.ld1 102 rfl tk3 rfl (Qa rfl rfl)) ?_)))))))))))
  refine VO.z (.fa rfl Jq rfl) (VO.z (.ld1 102 rfl tk3 rfl (Qa rfl rfl)) ?_)
  refine VO.z (.bst (cs:=[.int .i64 (d1.1),.int .i64 (d1.2.1)]) rfl QeU Qjf rfl) ?_
  refine VO.bsl (cs:=[.int .i64 (d1.1),.int .i64 (d1.2.1)]) 110 rfl rfl Qah Qjf rfl rfl (fun g9=>?_)
  obtain ⟨mo11,cs11,hM11,hA11,hC11⟩:=(Ow.ownl h0 rfl Qx)
  refine VO.app 1 rfl rfl rfl Qah Qjf rfl rfl hM11 hA11 (.row 110 _ _ _ 1 1 _ _ Tryz.underlying45 rfl (Qa rfl rfl)) (by simp [Value.oneCell']) bdm bd (by decide) (fun v11 m11 hN11=>?_)
  have ho11:QH Zt m11 Qx v11 (d0++[(d1.1,d1.2.1)]):=QH.one hC11 hN11 (QcD (m:=_) d1.1 d1.2.1 bdk bdk)
  obtain ⟨A11,c11,rfl,l11,k11⟩:=ho11.slc
  refine VO.as (VO.k6 0 1 3 4 5 20 (VC.ret ?_))
  refine Yd 4 [1] fun hS_=>?_
  dsimp only [QE]
  exact ⟨Value.slice A11 ((d0++[(d1.1,d1.2.1)]).length) (c11),(by first | rfl | (simp [*];done)),(Ow.cg (Ow.up (QH.ow ho11 rfl) (hS_.1 _ (.head _))) (by first | rfl | (first | exact QaQ ‹d0[_]? =some _› Qn Qn | exact Xi (.inr ⟨_,_,‹d0[_]? =some _›,by omega,by omega⟩) | exact Xi (.inl (List.eq_nil_of_length_eq_zero Qn)))))⟩
set_option maxHeartbeats 1000000 in
theorem of_ok (W:World) {v0:Value} {d0:List Qe} (h0:Rd (.sl Ql) (wm W) [v0] d0) (e0:d0.length≤8796093020000):Qi Tryz.prog 61 [v0] W (Qx) (fun v m'=>∃ (s0:Value),∃ (s1:List Value),v= .tuple #[s0,.agg s1.toArray]∧Ow (.sl Zt) m' [s0] ((sOf d0).1)∧Ow Xm m' s1 ((sOf d0).2)):=by
 obtain ⟨A0,c0,rfl,l0,k0⟩:=h0.slc
 refine Qi.ofA (n:=26) Tryz.func61 rfl rfl rfl ?_
 refine VC.rs (VO.as ?_)
 refine VO.alloc 102 rfl Qft (fun g1=>?_)
 refine VO.k3 0 2 3 (VC.seq (VC.rs (VO.mv ?_)))
 refine VO.callN 103 rfl QiW rfl (fun W hW=>QbA W 0 bdk 0 bdk (Rd.mono h0 (hW.t 0))) (fun v3 m3 hv3=>?_)
 obtain ⟨s3_0,rfl,f3_0⟩:=hv3
 obtain ⟨rfl,q3_0_0,q3_0_1⟩:=Yf (x0:=(Qg 0 0 d0).1) (x1:=(Qg 0 0 d0).2) (f3_0.rd (Qc _))
 simp only [inK] at q3_0_0 q3_0_1
 refine VO.alloc 105 rfl Qft (fun g4=>?_)
 refine VO.store (k:=2) (c':=[.int .i64 ((Qg 0 0 d0).1),.int .i64 ((Qg 0 0 d0).2)]) 105 rfl rfl (.inl Qbf) rfl rfl rfl rfl rfl ?_
 refine VO.k4 0 2 3 4 (VC.rs (VO.z (.fa rfl Qa3 rfl) (VO.z (.ld1 105 rfl tk48 rfl (Qa rfl rfl)) (VO.z (.neq rfl rfl) (VO.p3 105 102 0 (VO.k5 0 2 3 4 12 ?_))))))
 refine VC.cond rfl (fun hc6=>?_) (fun hc6=>?_)
 · refine VC.seq ?_
   refine VC.regD _ 2 [(0,true),(1,true)] follows (by kernel_rfl) (fun _ h=>h.sub [105,102,0]) ?_
   refine VD.z rfl (.ldA 105 rfl Qbf rfl (Qa rfl rfl)) (VD.z rfl (.as rfl) ?_)
   refine VD.nil rfl ?_ rfl
   refine VO.store (k:=2) (c':=[.int .i64 ((Qg 0 0 d0).1),.int .i64 ((Qg 0 0 d0).2)]) 102 rfl rfl (.inl Qbf) rfl rfl rfl rfl rfl ?_
   refine VO.k5 0 2 3 4 12 (Qm (VC.ret (QZ ?_)))
   refine ⟨_,_,Jr (rs:=[.tmp 2,.cell 3 89]) rfl (.tmp rfl (.agg 102 rfl Qbf rfl ⟨_,_,_,QJ _ _,Nat.le_of_ble_eq_true rfl,rfl⟩ .nil)),fun W_ hI=>JZ (l:=[]) hI [] rfl rfl (Qc _) (fun hS_=>?_)⟩
   dsimp only [QE]
   have he0:((sOf d0).1:Ty.Den (.sl Zt))=[]:=by first | rfl | (first | exact (Qe8 ‹_›) | exact (Qe7 ‹_›) | (rw [Qdv ‹¬ ¬ _›,ho,List.take_of_length_le Qn]) | exact (Qdu ‹¬ ¬ _›))
   have he1:((sOf d0).2:Ty.Den Xm)=(Qg 0 0 d0):=by first | rfl | (first | exact (Qe8 ‹_›) | exact (Qe7 ‹_›) | (rw [Qdv ‹¬ ¬ _›,ho,List.take_of_length_le Qn]) | exact (Qdu ‹¬ ¬ _›))
   refine ⟨.slice none (0) (0),[.int .i64 ((Qg 0 0 d0).1),.int .i64 ((Qg 0 0 d0).2)],?_,?_,?_⟩
   rotate_left
   · rw [he0];exact (Ow.nil _ _)
   · rw [he1];exact (Ow.of (m:=Qx) rfl (show Rd Xm _ _ (Qg 0 0 d0) from (Xj (m:=_) ((Qg 0 0 d0).1) ((Qg 0 0 d0).2) bdk bdk)))
   all_goals (first | rfl | (simp [*];done))
 refine VC.skip (Qm (VC.rs (VO.as (VO.k6 0 2 3 4 5 12 (VC.seq (VC.rs (VO.mv (VO.z (.lenS rfl Jx) (VO.mv (VO.k9 0 2 3 4 5 12 14 15 16 (VC.block ?_)))))))))))
 refine VC.inv ((107,Qx)::_) (fun _ h=>h.nilc 107) ?_
 refine VC.loop (G:=Nat × (List Zj) × (Option Addr) × Nat × Mem) (fun g=>[(5,.slice (g.2.2.1) ((g.2.1).length) ((g.2.2.2.1))),(16,.int .i64 ((((g.1):Nat):Int))),(0,.slice A0 (d0.length) (c0)),(2,.slice none (0) (0)),(3,.pointer (some ⟨g1,0,none⟩)),(4,.pointer (some ⟨g4,0,none⟩)),(12,.bool (decide (¬ ((Qg 0 0 d0).1)=0))),(14,.slice A0 (d0.length) (c0)),(15,.int .i64 (((d0.length:Nat):Int)))]) (fun g=>[(107,(g.2.2.2.2)),(105,QM g4 (.cells #[.int .i64 ((Qg 0 0 d0).1),.int .i64 ((Qg 0 0 d0).2)] 89 (0,0))),(102,QM g1 (.cells #[.int .i64 (0),.int .i64 (0)] 89 (0,0))),(0,wm W)]) (fun g=>((g.1)≤d0.length)∧((g.2.1)=(d0.take (g.1)).foldl Yh [])∧(QH Zt (g.2.2.2.2) Qx (.slice (g.2.2.1) (g.2.1).length (g.2.2.2.1)) (g.2.1))) (fun g=>d0.length - (g.1)) (0,[],none,0,Qx) (⟨by omega,by rfl,(QH.nil Zt Qx Qx)⟩) ⟨esn,fun _ h=>h.sub [107,105,102,0]⟩ ?_
 rintro ⟨k,out,out_A,out_c,out_m⟩ ⟨hk,ho,h_out⟩
 replace hk:k≤d0.length:=hk
 replace ho:out=(d0.take k).foldl Yh []:=ho
 replace h_out:QH Zt out_m Qx (.slice out_A out.length out_c) out:=h_out
 show VC _ _ _ _ _ [(5,.slice out_A (out.length) (out_c)),(16,.int .i64 (((k:Nat):Int))),(0,.slice A0 (d0.length) (c0)),(2,.slice none (0) (0)),(3,.pointer (some ⟨g1,0,none⟩)),(4,.pointer (some ⟨g4,0,none⟩)),(12,.bool (decide (¬ ((Qg 0 0 d0).1)=0))),(14,.slice A0 (d0.length) (c0)),(15,.int .i64 (((d0.length:Nat):Int)))] [(107,out_m),(105,QM g4 (.cells #[.int .i64 ((Qg 0 0 d0).1),.int .i64 ((Qg 0 0 d0).2)] 89 (0,0))),(102,QM g1 (.cells #[.int .i64 (0),.int .i64 (0)] 89 (0,0))),(0,wm W)]
 have l_out:out.length≤out_c:=by obtain ⟨_,_,he,hl,_⟩:=h_out.slice;simp only [Value.slice.injEq] at he;omega
 have k_out:out_c≤9223372036854775807:=by obtain ⟨_,_,he,_,hl⟩:=h_out.slice;simp only [Value.slice.injEq,maxLen] at he hl;omega
 have hlo:out.length≤k:=by have:=Qk1 (d0.take k) [];rw [ho];simp at this;omega
 refine VC.rs (VO.z (.lss rfl rfl) (VO.p4 107 105 102 0 (VO.k10 0 2 3 4 5 12 14 15 16 17 (VC.seq ?_))))
 refine VC.cond rfl (fun hc8=>?_) (fun hc8=>?_)
 · refine VC.skip (Qm (VC.seq (VC.block (VC.rs ?_))))
   obtain ⟨x9,hx9⟩:∃ z_,(d0)[k]? =some z_:=⟨_,List.getElem?_eq_getElem bd⟩
   obtain ⟨gg9,oo9,ec9,ea9,hce9,hre9⟩:=h0.elem hx9
   cases ea9
   obtain ⟨q9_A2,q9_c2,rfl,q9_0,q9_1,q9_2⟩:=Q4 (x0:=x9.1) (x1:=x9.2.1) (x2:=x9.2.2) hre9
   simp only [inK] at q9_0 q9_1
   have q9_r2:=Rd.room q9_2
   refine VO.z (.ixI k rfl rfl Jx rfl bd) ?_
   refine VO.z (.ldA 0 rfl Yv rfl hce9) ?_
   refine VO.alloc 111 rfl XA (fun g10=>?_)
   refine VO.store (k:=3) (c':=[.int .i64 (x9.1),.int .i64 (x9.2.1),.slice q9_A2 (x9.2.2.length) (q9_c2)]) 111 rfl rfl (.inl Yv) rfl rfl rfl rfl rfl ?_
   refine VO.k11 0 2 3 4 5 7 12 14 15 16 17 ?_
   refine VC.reg ?_
   refine VO.mv (VO.z (.ldA 111 rfl Yv rfl (Qa rfl rfl)) ?_)
   refine VO.call 107 rfl Qqt rfl rfl (fun W hW=>QoF W (hW.t 107) (QH.ow h_out rfl) (Rd.mono hre9 (hW.o 107 0)) bd) (fun v12 m12 hv12=>?_)
   obtain ⟨s12_0,rfl,f12_0⟩:=hv12
   obtain ⟨A12_0,c12_0,eq12_0,l12_0,k12_0⟩:=f12_0.slc
   subst eq12_0
   refine VO.as (VO.k11 0 2 3 4 5 7 12 14 15 16 17 (JL (Qm ?_)))
   refine VC.reg ?_
   refine VO.z (.add (c:=((k+1:Nat):Int)) rfl rfl Qn ⟨bd,bd⟩) ?_
   refine VO.mv (VO.p5 107 111 105 102 0 (VO.k11 0 2 3 4 5 7 12 14 15 16 17 ?_))
   exact Qm ⟨⟨k+1,Yh out x9,A12_0,c12_0,m12⟩,⟨by omega,by rw [QdM ‹d0[k]? =some _›,← ho],(Ow.ownl f12_0 rfl Qx)⟩,bd,⟨esn,fun _ h=>Inv.sub h [107,105,102,0]⟩⟩
 · refine VC.exit (Zh (Zh (Zi (Qm (VC.rs (VO.mv ?_))))))
   refine VO.z (.bst (cs:=[.int .i64 (0),.int .i64 (0)]) rfl Qa3 Qft rfl) ?_
   refine VO.as ?_
   refine VO.store (k:=2) (c':=[.int .i64 (0),.int .i64 (0)]) 102 rfl rfl (.inl Qbf) rfl rfl rfl rfl rfl ?_
   refine VO.k10 0 2 3 4 5 12 14 15 16 17 (VC.ret ?_)
   refine ⟨_,_,Jr (rs:=[.tmp 2,.cell 3 89]) rfl (.tmp rfl (.agg 102 rfl Qbf rfl ⟨_,_,_,QJ _ _,Nat.le_of_ble_eq_true rfl,rfl⟩ .nil)),fun W_ hI=>JZ (l:=[out_m]) hI [107] rfl rfl (Qc _) (fun hS_=>?_)⟩
   dsimp only [QE]
   have he1:((sOf d0).2:Ty.Den Xm)=(0,0):=by first | rfl | (first | exact (Qe8 ‹_›) | exact (Qe7 ‹_›) | (rw [Qdv ‹¬ ¬ _›,ho,List.take_of_length_le Qn]) | exact (Qdu ‹¬ ¬ _›))
   refine ⟨.slice out_A (out.length) (out_c),[.int .i64 (0),.int .i64 (0)],?_,?_,?_⟩
   rotate_left
   · exact Ow.cg (Ow.up (QH.ow h_out rfl) (hS_.1 _ (.head _))) (by first | rfl | (first | exact (Qe8 ‹_›) | exact (Qe7 ‹_›) | (rw [Qdv ‹¬ ¬ _›,ho,List.take_of_length_le Qn]) | exact (Qdu ‹¬ ¬ _›)))
   · rw [he1];exact (Ow.of (m:=Qx) rfl (Xj (m:=_) 0 0 bdk bdk))
   all_goals (first | rfl | (simp [*];done))
def vX (b : Qr) : Nat := match Qa2 b with
  | some (x, _) => x
  | none => 0
def vN (b : Qr) : Nat := match Qa2 b with
  | some (_, n) => n
  | none => 0
def vE (b : Qr) : Int := match Qa2 b with
  | some _ => 0
  | none => 5
def sX (b : Qr) (m : Int) : Nat := match QaL b m with
  | some (x, _) => x
  | none => 0
def sN (b : Qr) (m : Int) : Nat := match QaL b m with
  | some (_, n) => n
  | none => 0
def sE (b : Qr) (m : Int) : Int := match QaL b m with
  | some _ => 0
  | none => 5
theorem Qli {x a k:Nat} (h:x < 2 ^ k):x ||| a*2 ^ k=x+a*2 ^ k:=by
 rw [Nat.or_comm,Nat.mul_comm,← Nat.two_pow_add_eq_or_of_lt h,Nat.add_comm]
theorem pow7 {k:Nat} (h:k≤9):2 ^ (7*k)≤9223372036854775808:=by
 have:2 ^ (7*k)≤2 ^ 63:=Nat.pow_le_pow_right (by decide) (by omega)
 simpa using this
theorem low64 {x k:Nat} (h:x < 2 ^ (7*k)) (hk:k≤9):x < 18446744073709551616:=by have:=pow7 hk;omega
theorem QdA (k:Nat):2 ^ (7*(k+1))=128*2 ^ (7*k):=by rw [Nat.mul_add,Nat.pow_add];omega
theorem nine (c:Nat) (h:c≤1):c*9223372036854775808+9223372036854775808≤18446744073709551616:=by omega
theorem Qc4 {x k c:Nat} (h:x < 2 ^ (7*k)) (hk:k≤9) (hc:¬ (k=9∧c > 1)):x ||| c % 128*2 ^ (7*k) % 18446744073709551616=x+c % 128*2 ^ (7*k)∧x+c % 128*2 ^ (7*k) < 18446744073709551616∧(k < 9→x+c % 128*2 ^ (7*k) < 2 ^ (7*(k+1))):=by
 have hp:=pow7 hk
 have hm:c % 128*2 ^ (7*k)+2 ^ (7*k)≤128*2 ^ (7*k):=by
  have:(c % 128+1)*2 ^ (7*k)≤128*2 ^ (7*k):=Nat.mul_le_mul_right _ (by omega)
  rwa [Nat.add_mul,Nat.one_mul] at this
 have hlt:c % 128*2 ^ (7*k)+2 ^ (7*k)≤18446744073709551616:=by
  by_cases h9:k=9
  ·have hc1:c≤1:=by omega
   have e:c % 128=c:=by omega
   rw [e,h9]
   exact nine c hc1
  ·have:2 ^ (7*(k+1))≤2 ^ 63:=Nat.pow_le_pow_right (by decide) (by omega)
   rw [QdA] at this
   have e:(2:Nat) ^ 63=9223372036854775808:=by decide
   omega
 rw [Nat.mod_eq_of_lt (by omega),Qli h]
 exact ⟨rfl,by omega,fun _=>by rw [QdA];omega⟩
section
variable {b : Qr} {k x : Nat} {c : UInt8}
theorem QaX {α:Type} {l:List α} {k:Nat} {x:α} (h:l[k]? =some x):l.drop k=x::l.drop (k+1):=by
 obtain ⟨h1,h2⟩:=List.getElem?_eq_some_iff.1 h
 rw [List.drop_eq_getElem_cons h1,h2]
theorem Qmu (h:b.length≤k):vgo k x (b.drop k)=none:=by rw [List.drop_of_length_le h];rfl
theorem Qjp (hc:b[k]? =some c) (h:k=9∧c.toNat > 1):vgo k x (b.drop k)=none:=by rw [QaX hc];exact if_pos h
theorem Qkp (hc:b[k]? =some c) (h1:¬ c.toNat ≥ 128) (h:c.toNat=0∧k > 0):vgo k x (b.drop k)=none:=by
 rw [QaX hc];unfold vgo;rw [if_neg (by omega),if_neg h1,if_pos h]
theorem Qa7 (hx:x < 2 ^ (7*k)) (hk:k≤9) (hc:b[k]? =some c) (h0:¬ (k=9∧c.toNat > 1)) (h1:c.toNat ≥ 128):k < 9∧vgo k x (b.drop k)=vgo (k+1) (x ||| c.toNat % 128*2 ^ (7*k) % 18446744073709551616) (b.drop (k+1))∧x ||| c.toNat % 128*2 ^ (7*k) % 18446744073709551616 < 2 ^ (7*(k+1)):=by
 obtain ⟨t1,t2,t3⟩:=Qc4 hx hk h0
 rw [t1]
 refine ⟨by omega,?_,t3 (by omega)⟩
 rw [QaX hc]
 show (if _ then _ else _)=_
 rw [if_neg h0,if_pos h1]
theorem Qkq (hx:x < 2 ^ (7*k)) (hk:k≤9) (hc:b[k]? =some c) (h0:¬ (k=9∧c.toNat > 1)) (h1:¬ c.toNat ≥ 128) (h2:¬ (c.toNat=0∧k > 0)):vgo k x (b.drop k)=some (x ||| c.toNat % 128*2 ^ (7*k) % 18446744073709551616,k+1)∧x ||| c.toNat % 128*2 ^ (7*k) % 18446744073709551616 < 18446744073709551616:=by
 obtain ⟨t1,t2,t3⟩:=Qc4 hx hk h0
 rw [t1]
 refine ⟨?_,t2⟩
 rw [QaX hc]
 show (if _ then _ else _)=_
 rw [if_neg h0,if_neg h1,if_neg h2]
end
theorem Qgq : ∀ {b : Qr} {i x y n : Nat}, x < 2 ^ (7 * i) → i ≤ 9 → vgo i x b = some (y, n) → y < 18446744073709551616 ∧ i < n ∧ n ≤ i + b.length ∧ n ≤ 10
  | [], _, _, _, _, _, _, h => by cases h
  | c :: r, i, x, y, n, hx, hi, h => by
    unfold vgo at h
    split at h
    · cases h
    · rename_i h0
      obtain ⟨t1, t2, t3⟩ := Qc4 hx hi h0
      split at h
      · have := Qgq (t3 (by omega)) (by omega) h
        simp only [List.length_cons]; omega
      · split at h
        · cases h
        · simp only [Option.some.injEq, Prod.mk.injEq] at h
          simp only [List.length_cons]; omega
theorem Qcf {b:Qr} {x n:Nat} (h:Qa2 b=some (x,n)):x < 18446744073709551616∧1≤n∧n≤b.length∧n≤10:=by
 have:=Qgq (by decide) (by decide) h
 omega
theorem Qif (b : Qr) : vX b < 18446744073709551616 ∧ vN b ≤ b.length ∧ vN b ≤ 10 ∧ (vE b = 0 ∨ vE b = 5) := by
  unfold vX vN vE
  cases h : Qa2 b with
  | none => simp
  | some p =>
    obtain ⟨x, n⟩ := p
    have := Qcf h
    exact ⟨this.1, this.2.2.1, this.2.2.2, .inl rfl⟩
theorem Qie {b:Qr} (h:Qa2 b=none):vX b=0∧vN b=0∧vE b=5:=by unfold vX vN vE;rw [h];simp
theorem Qo1 {b:Qr} {x n:Nat} (h:Qa2 b=some (x,n)):vX b=x∧vN b=n∧vE b=0:=by unfold vX vN vE;rw [h];simp
theorem XN (b : Qr) (m : Int) (hm : m ≤ 9223372036854775807) : sX b m < 9223372036854775808 ∧ (0 ≤ m → (sX b m : Int) ≤ m) ∧ sN b m ≤ b.length ∧ sN b m ≤ 10 ∧ (sE b m = 0 ∨ sE b m = 5) := by
  unfold sX sN sE QaL
  cases h : Qa2 b with
  | none => exact ⟨Nat.succ_pos _, fun h => h, Nat.zero_le _, Nat.zero_le _, .inr rfl⟩
  | some p =>
    obtain ⟨x, n⟩ := p
    have := Qcf h
    dsimp only
    by_cases hx : (x : Int) ≤ m
    · rw [if_pos hx]
      exact ⟨by dsimp only; omega, fun _ => hx, this.2.2.1, this.2.2.2, .inl rfl⟩
    · rw [if_neg hx]
      exact ⟨Nat.succ_pos _, fun h => h, Nat.zero_le _, Nat.zero_le _, .inr rfl⟩
theorem Qim {b : Qr} {m : Int} (h : ¬ vE b = 0 ∨ m < 0 ∨ m < (vX b : Int)) : sX b m = 0 ∧ sN b m = 0 ∧ sE b m = 5 := by
  have : QaL b m = none := by
    unfold vE vX at h
    unfold QaL
    cases hv : Qa2 b with
    | none => rfl
    | some p =>
      obtain ⟨x, n⟩ := p
      rw [hv] at h
      dsimp only at h ⊢
      rw [if_neg (by omega)]
  unfold sX sN sE; rw [this]; simp
theorem QeD {b : Qr} {m : Int} (h : vE b = 0) (h1 : ¬ m < (vX b : Int)) : sX b m = vX b ∧ sN b m = vN b ∧ sE b m = 0 := by
  unfold vE at h
  unfold vX at h1
  unfold sX sN sE vX vN QaL
  cases hv : Qa2 b with
  | none => rw [hv] at h; cases h
  | some p =>
    obtain ⟨x, n⟩ := p
    rw [hv] at h1
    dsimp only at h1 ⊢
    rw [if_pos (by omega)]; exact ⟨rfl, rfl, rfl⟩
theorem QkN {x:Nat} (h:x < 18446744073709551616) (y:Nat):x ||| y % 18446744073709551616 < 18446744073709551616:=by
 have:=Nat.or_lt_two_pow (n:=64) (x:=x) (y:=y % 18446744073709551616) (by simpa using h) (by simpa using Nat.mod_lt y (by decide:0 < 18446744073709551616))
 simpa using this
theorem Qg8 : ∀ {k x c : Nat}, x < 2 ^ (7 * k) → 1 ≤ c → c < 128 → (JY (x + c * 2 ^ (7 * k))).length = k + 1 ∧ (JY (x + c * 2 ^ (7 * k)))[k]? = some (UInt8.ofNat c)
  | 0, x, c, hx, h1, h2 => by
    have : x = 0 := by simpa using hx
    subst this
    rw [Nat.mul_zero, Nat.pow_zero, Nat.mul_one, Nat.zero_add, JY, dif_pos h2]
    exact ⟨rfl, rfl⟩
  | k + 1, x, c, hx, h1, h2 => by
    rw [QdA] at hx ⊢
    have hp : 1 ≤ 2 ^ (7 * k) := Nat.one_le_two_pow
    have hge : 2 ^ (7 * k) ≤ c * 2 ^ (7 * k) := Nat.le_mul_of_pos_left _ h1
    have e : c * (128 * 2 ^ (7 * k)) = 128 * (c * 2 ^ (7 * k)) := by rw [Nat.mul_left_comm]
    rw [e]
    generalize hq : c * 2 ^ (7 * k) = q at *
    have hdiv : (x + 128 * q) / 128 = x / 128 + c * 2 ^ (7 * k) := by rw [hq]; omega
    have ih := Qg8 (k := k) (x := x / 128) (c := c) (by omega) h1 h2
    rw [JY, dif_neg (by omega), hdiv]
    simp only [List.length_cons, List.getElem?_cons_succ]
    exact ⟨by rw [ih.1], ih.2⟩
theorem Qkt {k x:Nat} (hk:0 < k) (h:x < 2 ^ (7*k)):(JY x).length≤k:=by
 have:=Qc2 (k - 1) x (by rw [show k - 1+1=k by omega];rwa [show (128:Nat)=2 ^ 7 from rfl,← Nat.pow_mul])
 omega
section
variable {b : Qr} {k x : Nat} {c : UInt8}
theorem QpV (hx:x < 2 ^ (7*k)) (hk:k≤9) (hc:b[k]? =some c) (h1:c.toNat < 128)
  (h:¬ (JY (x ||| c.toNat % 128*2 ^ (7*k) % 18446744073709551616)).length=k+1∨∃ y,(JY (x ||| c.toNat % 128*2 ^ (7*k) % 18446744073709551616))[k]? =some y∧¬ y=c):vgo k x (b.drop k)=none:=by
 by_cases h9:k=9∧c.toNat > 1
 ·exact Qjp hc h9
 ·by_cases h0:c.toNat=0∧k > 0
  ·exact Qkp hc (by omega) h0
  ·exfalso
   obtain ⟨t1,t2,t3⟩:=Qc4 hx hk h9
   rw [t1,Nat.mod_eq_of_lt h1] at h
   by_cases hc0:c.toNat=0
   ·have hk0:k=0:=by omega
    subst hk0
    have:x=0:=by simpa using hx
    subst this
    rw [hc0] at h
    have e:JY (0+0*2 ^ (7*0))=[0]:=by rw [Nat.zero_mul,JY,dif_pos (by omega)];rfl
    rw [e] at h
    rcases h with h | ⟨y,hy,hn⟩
    ·simp at h
    ·simp at hy
     apply hn
     apply UInt8.toNat_inj.1
     rw [hc0,← hy];rfl
   ·obtain ⟨v1,v2⟩:=Qg8 hx (by omega) h1
    rcases h with h | ⟨y,hy,hn⟩
    ·exact h v1
    ·rw [v2] at hy
     simp only [Option.some.injEq] at hy
     apply hn
     rw [← hy]
     simp
theorem Qop (hx:x < 2 ^ (7*k)) (hk:k≤9) (hc:b[k]? =some c) (h1:c.toNat < 128)
  (hl:(JY (x ||| c.toNat % 128*2 ^ (7*k) % 18446744073709551616)).length=k+1) (hy:(JY (x ||| c.toNat % 128*2 ^ (7*k) % 18446744073709551616))[k]? =some c):vgo k x (b.drop k)=some (x ||| c.toNat % 128*2 ^ (7*k) % 18446744073709551616,k+1):=by
 have hc7:c.toNat % 128=c.toNat:=Nat.mod_eq_of_lt h1
 have h9:¬ (k=9∧c.toNat > 1):=by
  rintro ⟨rfl,h⟩
  rw [hc7] at hl hy
  have hx':x < 9223372036854775808:=by simpa using hx
  have e2:c.toNat*2 ^ (7*9) % 18446744073709551616=c.toNat % 2*2 ^ (7*9):=by
   have:(2:Nat) ^ (7*9)=9223372036854775808:=by decide
   rw [this];omega
  rw [e2,Qli hx] at hl hy
  rcases Nat.mod_two_eq_zero_or_one c.toNat with h0 | h0
  ·rw [h0,Nat.zero_mul,Nat.add_zero] at hl
   have:=Qkt (k:=9) (by omega) hx
   omega
  ·rw [h0] at hy
   have:=(Qg8 hx (Nat.le_refl 1) (by omega)).2
   rw [this] at hy
   simp only [Option.some.injEq] at hy
   rw [← hy] at h
   exact absurd h (by decide)
 have h0:¬ (c.toNat=0∧k > 0):=by
  rintro ⟨h,hk0⟩
  rw [h,Nat.zero_mod,Nat.zero_mul,Nat.zero_mod,Nat.or_zero] at hl
  have:=Qkt hk0 hx
  omega
 exact (Qkq hx hk hc h9 (by omega) h0).1
end
abbrev RS := Int × Bool
def rOk (B : Qr) (s : RS) : Prop := 0 ≤ s.1 ∧ s.1 ≤ B.length
def Qb (B : Qr) (m : Int) (s : RS) : Int × RS := if s.2 = true then (0, s) else if sE (B.drop s.1.toNat) m = 0 then ((sX (B.drop s.1.toNat) m : Int), (s.1 + (sN (B.drop s.1.toNat) m : Int), false)) else (0, (s.1, true))
def QC (B : Qr) (n : Int) (s : RS) : Qr × RS := if s.2 = true ∨ (B.length : Int) - s.1 < n then ([], (s.1, true)) else ((B.drop s.1.toNat).take n.toNat, (s.1 + n, false))
def QX (B : Qr) (m : Int) (s : RS) : Qr × RS := QC B (Qb B m s).1 (Qb B m s).2
section
variable {B : Qr} {m n : Int} {s : RS}
theorem ZR (h:s.2=true):Qb B m s=(0,s):=if_pos h
theorem Zq (h:s.2=false) (h1:¬ sE (B.drop s.1.toNat) m=0):Qb B m s=(0,(s.1,true)):=by unfold Qb;rw [if_neg (by rw [h];simp),if_neg h1]
theorem Zg (h:s.2=false) (h1:sE (B.drop s.1.toNat) m=0):Qb B m s=((sX (B.drop s.1.toNat) m:Int),(s.1+(sN (B.drop s.1.toNat) m:Int),false)):=by unfold Qb;rw [if_neg (by rw [h];simp),if_pos h1]
theorem Q5 (h:rOk B s) (hm:m≤9223372036854775807):rOk B (Qb B m s).2∧0≤(Qb B m s).1∧(Qb B m s).1 < 9223372036854775808∧(0≤m→(Qb B m s).1≤m)∧s.1≤(Qb B m s).2.1:=by
 unfold Qb
 obtain ⟨h1,h2⟩:=h
 split
 ·exact ⟨⟨h1,h2⟩,by simp,by simp,fun h=>h,Int.le_refl _⟩
 ·split
  ·have:=XN (B.drop s.1.toNat) m hm
   have hl:(B.drop s.1.toNat).length=B.length - s.1.toNat:=by simp
   refine ⟨⟨by simp only;omega,by simp only;omega⟩,by simp only;omega,by simp only;omega,fun h=>this.2.1 h,by simp only;omega⟩
  ·exact ⟨⟨h1,h2⟩,by simp,by simp,fun h=>h,Int.le_refl _⟩
theorem Yx (h:rOk B s) (hn:0≤n):rOk B (QC B n s).2∧((QC B n s).1.length:Int)≤n:=by
 unfold QC
 obtain ⟨h1,h2⟩:=h
 split
 ·exact ⟨⟨h1,h2⟩,by simpa using hn⟩
 ·exact ⟨⟨by simp only;omega,by simp only;omega⟩,by simp;omega⟩
theorem ZS (h:s.2=true∨(B.length:Int) - s.1 < n):QC B n s=([],(s.1,true)):=if_pos h
theorem ZJ (h:s.2=false) (h1:¬ (B.length:Int) - s.1 < n):QC B n s=((B.drop s.1.toNat).take n.toNat,(s.1+n,false)):=if_neg (by rw [h];simpa using h1)
theorem Yi (h:rOk B s) (hm:0≤m) (hm2:m≤9223372036854775807):rOk B (QX B m s).2∧((QX B m s).1.length:Int)≤m:=by
 have h1:=Q5 (m:=m) h hm2
 have h2:=Yx (n:=(Qb B m s).1) h1.1 h1.2.1
 have:=h1.2.2.2.1 hm
 exact ⟨h2.1,by unfold QX;omega⟩
end
theorem Qet {B:Qr} {a n:Int} (h:0≤a) (hn:0≤n):(B.take (a+n).toNat).drop a.toNat=(B.drop a.toNat).take n.toNat:=by
 rw [List.drop_take];congr 1;omega
def rOp (B last : Qr) (s : RS) : DOp × RS :=
  let a := Qb B 1 s
  let b := Qb B last.length a.2
  let t := QX B 16 b.2
  let key := last.take b.1.toNat ++ t.1
  let bad := t.2.2 || decide (¬ (QI last key : Int) = b.1)
  if a.1 = 1 then ((true, key, (QX B 32 (t.2.1, bad)).1), (QX B 32 (t.2.1, bad)).2) else ((false, key, []), (t.2.1, bad))
def QcV (B : Qr) : Nat → Qr → RS → List DOp × RS
  | 0, _, s => ([], s)
  | n + 1, last, s => if s.2 = true then ([], s) else ((rOp B last s).1 :: (QcV B n (rOp B last s).1.2.1 (rOp B last s).2).1, (QcV B n (rOp B last s).1.2.1 (rOp B last s).2).2)
def YD (B : Qr) : List DOp × Int × Int :=
  let k := Qb B 8 (0, false)
  let r := QcV B k.1.toNat [] k.2
  if r.2.2 = true ∨ ¬ Qs r.1 = 0 then ([], 0, 5) else (r.1, r.2.1, 0)
theorem QgD {B last:Qr} {s:RS} (h:rOk B s) (hl:last.length≤9223372036854775000):rOk B (rOp B last s).2∧(rOp B last s).1.2.1.length≤last.length+16∧(rOp B last s).1.2.2.length≤32:=by
 have h1:=Q5 (m:=1) h (by omega)
 have h2:=Q5 (m:=(last.length:Int)) h1.1 (by omega)
 have h3:=Yi (m:=16) h2.1 (by omega) (by omega)
 have hk:(last.take (Qb B last.length (Qb B 1 s).2).1.toNat++(QX B 16 (Qb B last.length (Qb B 1 s).2).2).1).length≤last.length+16:=by simp;omega
 unfold rOp
 dsimp only
 split
 ·have h4:=Yi (m:=32) (s:=((QX B 16 (Qb B last.length (Qb B 1 s).2).2).2.1,(QX B 16 (Qb B last.length (Qb B 1 s).2).2).2.2 || decide (¬ (QI last (last.take (Qb B last.length (Qb B 1 s).2).1.toNat++(QX B 16 (Qb B last.length (Qb B 1 s).2).2).1):Int)=(Qb B last.length (Qb B 1 s).2).1))) h3.1 (by omega) (by omega)
  exact ⟨h4.1,hk,by have:=h4.2;simp only;omega⟩
 ·exact ⟨h3.1,hk,by simp⟩
theorem QmY {B last:Qr} {s:RS} {k:Int} (h:k≤0∨s.2=true):QcV B k.toNat last s=([],s):=by
 rcases h with h | h
 ·rw [show k.toNat=0 by omega];rfl
 ·cases k.toNat with
  | zero=>rfl
  | succ n=>exact if_pos h
theorem QmZ {B last:Qr} {s:RS} {k:Int} (h:0 < k) (hs:s.2=false):QcV B k.toNat last s=((rOp B last s).1::(QcV B (k - 1).toNat (rOp B last s).1.2.1 (rOp B last s).2).1,(QcV B (k - 1).toNat (rOp B last s).1.2.1 (rOp B last s).2).2):=by
 rw [show k.toNat=(k - 1).toNat+1 by omega]
 exact if_neg (by rw [hs];simp)
def Qb5 (B last : Qr) (s : RS) : DOp × RS :=
  let a := Qb B 1 s
  let b := Qb B last.length a.2
  let t := QX B 16 b.2
  let key := last.take b.1.toNat ++ t.1
  let v := if a.1 = 1 then QX B 32 t.2 else ([], t.2)
  ((decide (a.1 = 1), key, v.1), if ¬ (QI last key : Int) = b.1 then (v.2.1, true) else v.2)
def XP (B : Qr) : Nat → Qr → RS → List DOp × RS
  | 0, _, s => ([], s)
  | n + 1, last, s => if s.2 = true then ([], s) else ((Qb5 B last s).1 :: (XP B n (Qb5 B last s).1.2.1 (Qb5 B last s).2).1, (XP B n (Qb5 B last s).1.2.1 (Qb5 B last s).2).2)
theorem QlK {B last:Qr} {s:RS} {k:Int} (h:k≤0∨s.2=true):XP B k.toNat last s=([],s):=by
 rcases h with h | h
 ·rw [show k.toNat=0 by omega];rfl
 ·cases k.toNat with
  | zero=>rfl
  | succ n=>exact if_pos h
theorem QlL {B last:Qr} {s:RS} {k:Int} (h:0 < k) (hs:s.2=false):XP B k.toNat last s=((Qb5 B last s).1::(XP B (k - 1).toNat (Qb5 B last s).1.2.1 (Qb5 B last s).2).1,(XP B (k - 1).toNat (Qb5 B last s).1.2.1 (Qb5 B last s).2).2):=by
 rw [show k.toNat=(k - 1).toNat+1 by omega]
 exact if_neg (by rw [hs];simp)
theorem Qit {B:Qr} {n:Int} {s:RS} (h:s.2=true):(QC B n s).2.2=true:=by rw [ZS (.inl h)]
theorem QjF {B:Qr} {m:Int} {s:RS} (h:s.2=true):(QX B m s).2.2=true:=by
 unfold QX;rw [ZR h];exact Qit h
theorem Qoj {B last:Qr} {s:RS}:(rOp B last s).2.2=(Qb5 B last s).2.2∧((rOp B last s).2.2=false→rOp B last s=Qb5 B last s):=by
 unfold rOp Qb5
 dsimp only
 generalize (Qb B 1 s)=a
 generalize (Qb B (last.length:Int) a.2)=b
 generalize (QX B 16 b.2)=t
 generalize hk:last.take b.1.toNat++t.1=key
 by_cases ha:a.1=1
 ·rw [if_pos ha,if_pos ha]
  by_cases hs:(QI last key:Int)=b.1
  ·have e:(t.2.2 || decide (¬ (QI last key:Int)=b.1))=t.2.2:=by simp [hs]
   rw [e,if_neg (by simpa using hs)]
   exact ⟨rfl,fun _=>by simp [ha]⟩
  ·have e:(t.2.2 || decide (¬ (QI last key:Int)=b.1))=true:=by simp [hs]
   rw [e,if_pos hs]
   have:=QjF (B:=B) (m:=32) (s:=(t.2.1,true)) rfl
   exact ⟨this,fun h=>by rw [this] at h;cases h⟩
 ·rw [if_neg ha,if_neg ha]
  by_cases hs:(QI last key:Int)=b.1
  ·have e:(t.2.2 || decide (¬ (QI last key:Int)=b.1))=t.2.2:=by simp [hs]
   rw [e,if_neg (by simpa using hs)]
   exact ⟨rfl,fun _=>by simp [ha]⟩
  ·have e:(t.2.2 || decide (¬ (QI last key:Int)=b.1))=true:=by simp [hs]
   rw [e,if_pos hs]
   exact ⟨rfl,fun h=>by cases h⟩
theorem QfH {B : Qr} : ∀ (n : Nat) (last : Qr) (s : RS), (QcV B n last s).2.2 = (XP B n last s).2.2 ∧ ((QcV B n last s).2.2 = false → QcV B n last s = XP B n last s)
  | 0, _, _ => ⟨rfl, fun _ => rfl⟩
  | n + 1, last, s => by
    unfold QcV XP
    by_cases hs : s.2 = true
    · rw [if_pos hs, if_pos hs]; exact ⟨rfl, fun _ => rfl⟩
    · rw [if_neg hs, if_neg hs]
      obtain ⟨h1, h2⟩ := Qoj (B := B) (last := last) (s := s)
      cases hb : (rOp B last s).2.2 with
      | false =>
        have := h2 hb
        rw [this]
        obtain ⟨k1, k2⟩ := QfH (B := B) n (Qb5 B last s).1.2.1 (Qb5 B last s).2
        exact ⟨k1, fun h => by rw [k2 h]⟩
      | true =>
        have hb2 : (Qb5 B last s).2.2 = true := by rw [← h1]; exact hb
        have e1 : QcV B n (rOp B last s).1.2.1 (rOp B last s).2 = ([], (rOp B last s).2) := by
          cases n with
          | zero => rfl
          | succ n => exact if_pos hb
        have e2 : XP B n (Qb5 B last s).1.2.1 (Qb5 B last s).2 = ([], (Qb5 B last s).2) := by
          cases n with
          | zero => rfl
          | succ n => exact if_pos hb2
        rw [e1, e2]
        exact ⟨by simp only; rw [hb, hb2], fun h => by simp only at h; rw [hb] at h; cases h⟩
def JE (B : Qr) (s : RS) : List DOp × RS :=
  let k := Qb B 8 s
  let r := XP B k.1.toNat [] k.2
  if r.2.2 = true ∨ ¬ Qs r.1 = 0 then ([], (r.2.1, true)) else r
theorem Qqc:JR Tryz.prog 136=true:=by kernel_rfl
theorem Qny:JR Tryz.prog 142=true:=by kernel_rfl
theorem Qp8:JR Tryz.prog 144=true:=by kernel_rfl
theorem Yj {P:Prop} (h:P:=by first | (have e:=Qie (hv.trans (Qmu (by omega)));rw [e.1,e.2.1,e.2.2] <;> rfl) | (have e:=Qie (hv.trans (Qjp ‹d0[k]? =some _› ⟨by omega,by omega⟩));rw [e.1,e.2.1,e.2.2] <;> rfl) | (have e:=Qie (hv.trans (Qkp ‹d0[k]? =some _› (by omega) ⟨by omega,by omega⟩));rw [e.1,e.2.1,e.2.2] <;> rfl) | (have e:=Qo1 (hv.trans (Qkq hx h9 ‹d0[k]? =some _› (by omega) (by omega) (by omega)).1);rw [e.1,e.2.1,e.2.2] <;> rfl)):P:=h
theorem Qn5 (W:World) {v0:Value} {d0:List UInt8} (h0:Rd (.sl .byte) (wm W) [v0] d0):Qi Tryz.prog 136 [v0] W (Qx) (fun v m'=>v= .tuple #[.int .u64 ((vX d0:Nat):Int),.int .i64 ((vN d0:Nat):Int),.int .i64 (vE d0)]):=by
 obtain ⟨A0,c0,rfl,l0,k0⟩:=h0.slc
 refine Qi.ofA (n:=40) Tryz.func136 rfl rfl rfl ?_
 refine VC.rs (VO.as (VO.as (VO.as (VO.k4 0 2 3 4 (VC.seq (VC.rs (VO.mv (VO.z (.lenS rfl Ji) (VO.mv (VO.k7 0 2 3 4 7 8 9 (VC.block ?_)))))))))))
 refine VC.loop (G:=Nat × Nat) (fun g=>[(2,.int .u64 ((((g.2):Nat):Int))),(9,.int .i64 ((((g.1):Nat):Int))),(0,.slice A0 (d0.length) (c0)),(7,.slice A0 (d0.length) (c0)),(8,.int .i64 (((d0.length:Nat):Int)))]) (fun g=>[(0,wm W)]) (fun g=>((g.1)≤d0.length)∧((g.1)≤9)∧((g.2) < 2 ^ (7*(g.1)))∧(Qa2 d0=vgo (g.1) (g.2) (d0.drop (g.1)))) (fun g=>d0.length - (g.1)) (0,0) (⟨by omega,by omega,by decide,by rfl⟩) ⟨esn,fun _ h=>h.sub [0]⟩ ?_
 rintro ⟨k,x⟩ ⟨hk,h9,hx,hv⟩
 replace hk:k≤d0.length:=hk
 replace h9:k≤9:=h9
 replace hx:x < 2 ^ (7*k):=hx
 replace hv:Qa2 d0=vgo k x (d0.drop k):=hv
 show VC _ _ _ _ _ [(2,.int .u64 (((x:Nat):Int))),(9,.int .i64 (((k:Nat):Int))),(0,.slice A0 (d0.length) (c0)),(7,.slice A0 (d0.length) (c0)),(8,.int .i64 (((d0.length:Nat):Int)))] [(0,wm W)]
 have hx64:=low64 hx h9
 refine VC.rs (VO.z (.lss rfl rfl) (VO.p1 0 (VO.k6 0 2 7 8 9 10 (VC.seq ?_))))
 refine VC.cond rfl (fun hc1=>?_) (fun hc1=>?_)
 refine VC.skip (Qm (VC.seq (VC.block (VC.rs (VO.mv ?_)))))
 obtain ⟨x2,hx2⟩:∃ z_,(d0)[k]? =some z_:=⟨_,List.getElem?_eq_getElem bd⟩
 obtain ⟨gg2,oo2,ec2,ea2,hce2,hre2⟩:=h0.elem hx2
 cases ea2
 obtain rfl:=(show _=_ from hre2)
 have xb2:=x2.toNat_lt
 refine VO.z (.ixI k rfl rfl Ji rfl bd) ?_
 refine VO.z (.ld1 0 rfl tk5 rfl hce2) ?_
 refine VO.as (VO.as (VO.k8 0 2 5 6 7 8 9 10 (VC.seq (VC.rs (VO.mv (VO.z (.eql rfl rfl) (VO.mv ?_)))))))
 refine VO.dec (t:=16) rfl (fun hc3=>?_) (fun hc3=>?_)
 refine VO.w (.mv rfl) (VO.w (.gtr rfl rfl) (VO.z (.pT rfl rfl) (VO.k9 0 2 5 6 7 8 9 10 19 ?_)))
 refine VC.cond rfl (fun hc4=>?_) (fun hc4=>?_)
 ·refine VC.exit (Zh ?_)
  refine QlN rfl ?_
  refine Zh (Zh (Zi (Qm (VC.rs (VO.as (VO.as (VO.as (VO.p1 0 (VO.k11 0 2 3 4 5 6 7 8 9 10 19 (VC.ret ?_))))))))))
  refine QcT 2 3 4 [] fun hS_=>?_
  dsimp only [QE]
  all_goals (first | rfl | (exact Yj))
 refine VC.skip (Qm (VC.rs (VO.mv (VO.mv ?_))))
 refine VO.z (.bit (.inl rfl) rfl rfl (QpE _ Qn)) ?_
 refine VO.z (.cvI rfl ⟨_,Tryz.underlying5⟩ Tryz.underlying130 (IntWalk.u64_in _ bd)) ?_
 refine VO.mv ?_
 refine VO.z (.mul (c:=((7*k:Nat):Int)) rfl rfl Qn ⟨bd,bd⟩) ?_
 refine VO.z (.shf (.inl rfl) rfl rfl (shlU _ _ bd)) ?_
 refine VO.z (.bit (.inr (.inl rfl)) rfl rfl (orU _ _ bd Qn)) ?_
 refine VO.as (VO.p1 0 (VO.k9 0 2 5 6 7 8 9 10 19 (VC.seq (VC.rs (VO.mv (VO.z (.geq rfl rfl) (VO.k10 0 2 5 6 7 8 9 10 19 29 ?_)))))))
 refine VC.cond rfl (fun hc5=>?_) (fun hc5=>?_)
 refine VC.exit (Zh (Zi (Qm ?_)))
 refine VC.reg ?_
 refine VO.z (.add (c:=((k+1:Nat):Int)) rfl rfl Qn ⟨bd,bd⟩) ?_
 refine VO.mv (VO.k10 0 2 5 6 7 8 9 10 19 29 ?_)
 exact Qm ⟨⟨k+1,x ||| ((x2.toNat % 128)*2 ^ (7*k) % 18446744073709551616)⟩,⟨by omega,by have:=(Qa7 hx h9 ‹d0[k]? =some _› Qn Qn).1;omega,by exact (Qa7 hx h9 ‹d0[k]? =some _› Qn Qn).2.2,by exact hv.trans (Qa7 hx h9 ‹d0[k]? =some _› Qn Qn).2.1⟩,bd,⟨esn,fun _ h=>Inv.sub h [0]⟩⟩
 refine VC.skip (Qm (VC.seq (VC.rs (VO.mv (VO.z (.eql rfl rfl) (VO.mv ?_))))))
 refine VO.dec (t:=32) rfl (fun hc6=>?_) (fun hc6=>?_)
 refine VO.w (.mv rfl) (VO.w (.gtr rfl rfl) (VO.z (.pT rfl rfl) (VO.k11 0 2 5 6 7 8 9 10 19 29 35 ?_)))
 refine VC.cond rfl (fun hc7=>?_) (fun hc7=>?_)
 ·refine VC.exit (Zh ?_)
  refine QlN rfl ?_
  refine Zh (Zh (Zi (Qm (VC.rs (VO.as (VO.as (VO.as (VO.p1 0 (VO.nil (VC.ret ?_))))))))))
  refine QcT 2 3 4 [] fun hS_=>?_
  dsimp only [QE]
  all_goals (first | rfl | (exact Yj))
 ·refine VC.skip (Qm (VC.rs (VO.mv (VO.mv ?_))))
  refine VO.z (.add (c:=((k+1:Nat):Int)) rfl rfl Qn ⟨bd,bd⟩) ?_
  refine VO.as (VO.as (VO.as (VO.p1 0 (VO.nil (VC.ret (JO (QZ (QZ (JO (QZ ?_))))))))))
  refine QcT 2 3 4 [] fun hS_=>?_
  dsimp only [QE]
  all_goals (first | rfl | (exact Yj))
 ·refine VO.gN (VO.gN (VO.z (.pF rfl rfl) (VO.k11 0 2 5 6 7 8 9 10 19 29 35 (VC.condF rfl (VC.skip (Qm (VC.rs (VO.mv (VO.mv ?_)))))))))
  refine VO.z (.add (c:=((k+1:Nat):Int)) rfl rfl Qn ⟨bd,bd⟩) ?_
  refine VO.as (VO.as (VO.as (VO.p1 0 (VO.nil (VC.ret (JO (QZ (QZ (JO (QZ ?_))))))))))
  refine QcT 2 3 4 [] fun hS_=>?_
  dsimp only [QE]
  all_goals (first | rfl | (exact Yj))
 refine VO.gN (VO.gN (VO.z (.pF rfl rfl) (VO.k9 0 2 5 6 7 8 9 10 19 (VC.condF rfl (VC.skip (Qm (VC.rs (VO.mv (VO.mv ?_)))))))))
 refine VO.z (.bit (.inl rfl) rfl rfl (QpE _ Qn)) ?_
 refine VO.z (.cvI rfl ⟨_,Tryz.underlying5⟩ Tryz.underlying130 (IntWalk.u64_in _ bd)) ?_
 refine VO.mv ?_
 refine VO.z (.mul (c:=((7*k:Nat):Int)) rfl rfl Qn ⟨bd,bd⟩) ?_
 refine VO.z (.shf (.inl rfl) rfl rfl (shlU _ _ bd)) ?_
 refine VO.z (.bit (.inr (.inl rfl)) rfl rfl (orU _ _ bd Qn)) ?_
 refine VO.as (VO.p1 0 (VO.k9 0 2 5 6 7 8 9 10 19 (VC.seq (VC.rs (VO.mv (VO.z (.geq rfl rfl) (VO.k10 0 2 5 6 7 8 9 10 19 29 ?_)))))))
 refine VC.cond rfl (fun hc8=>?_) (fun hc8=>?_)
 refine VC.exit (Zh (Zi (Qm ?_)))
 refine VC.reg ?_
 refine VO.z (.add (c:=((k+1:Nat):Int)) rfl rfl Qn ⟨bd,bd⟩) ?_
 refine VO.mv (VO.k10 0 2 5 6 7 8 9 10 19 29 ?_)
 exact Qm ⟨⟨k+1,x ||| ((x2.toNat % 128)*2 ^ (7*k) % 18446744073709551616)⟩,⟨by omega,by have:=(Qa7 hx h9 ‹d0[k]? =some _› Qn Qn).1;omega,by exact (Qa7 hx h9 ‹d0[k]? =some _› Qn Qn).2.2,by exact hv.trans (Qa7 hx h9 ‹d0[k]? =some _› Qn Qn).2.1⟩,bd,⟨esn,fun _ h=>Inv.sub h [0]⟩⟩
 refine VC.skip (Qm (VC.seq (VC.rs (VO.mv (VO.z (.eql rfl rfl) (VO.mv ?_))))))
 refine VO.dec (t:=32) rfl (fun hc9=>?_) (fun hc9=>?_)
 refine VO.w (.mv rfl) (VO.w (.gtr rfl rfl) (VO.z (.pT rfl rfl) (VO.k11 0 2 5 6 7 8 9 10 19 29 35 ?_)))
 refine VC.cond rfl (fun hc10=>?_) (fun hc10=>?_)
 ·refine VC.exit (Zh ?_)
  refine QlN rfl ?_
  refine Zh (Zh (Zi (Qm (VC.rs (VO.as (VO.as (VO.as (VO.p1 0 (VO.nil (VC.ret ?_))))))))))
  refine QcT 2 3 4 [] fun hS_=>?_
  dsimp only [QE]
  all_goals (first | rfl | (exact Yj))
 ·refine VC.skip (Qm (VC.rs (VO.mv (VO.mv ?_))))
  refine VO.z (.add (c:=((k+1:Nat):Int)) rfl rfl Qn ⟨bd,bd⟩) ?_
  refine VO.as (VO.as (VO.as (VO.p1 0 (VO.nil (VC.ret (JO (QZ (QZ (JO (QZ ?_))))))))))
  refine QcT 2 3 4 [] fun hS_=>?_
  dsimp only [QE]
  all_goals (first | rfl | (exact Yj))
 ·refine VO.gN (VO.gN (VO.z (.pF rfl rfl) (VO.k11 0 2 5 6 7 8 9 10 19 29 35 (VC.condF rfl (VC.skip (Qm (VC.rs (VO.mv (VO.mv ?_)))))))))
  refine VO.z (.add (c:=((k+1:Nat):Int)) rfl rfl Qn ⟨bd,bd⟩) ?_
  refine VO.as (VO.as (VO.as (VO.p1 0 (VO.nil (VC.ret (JO (QZ (QZ (JO (QZ ?_))))))))))
  refine QcT 2 3 4 [] fun hS_=>?_
  dsimp only [QE]
  all_goals (first | rfl | (exact Yj))
 ·refine VC.exit (Zh (Zh (Zi (Qm (VC.rs (VO.as (VO.as (VO.as (VO.k8 0 2 3 4 7 8 9 10 (VC.ret ?_))))))))))
  refine QcT 2 3 4 [] fun hS_=>?_
  dsimp only [QE]
  all_goals (first | rfl | (exact Yj))
theorem Y8 {P:Prop} (h:P:=by first | (have e:=Qie (if h:k=10 then hn h else (hv (by omega)).trans (Qmu (by omega)));rw [e.1,e.2.1,e.2.2] <;> rfl) | (have e:=Qie ((hv (by omega)).trans (QpV (hx (by omega)) (by omega) ‹d0[k]? =some _› (by omega) (by first | exact .inl (by omega) | exact .inr ⟨_,‹(JY _)[k]? =some _›,fun h=>by subst h;omega⟩)));rw [e.1,e.2.1,e.2.2] <;> rfl) | (have e:=Qo1 ((hv (by omega)).trans (Qop (hx (by omega)) (by omega) ‹d0[k]? =some _› (by omega) (by omega) (by rw [‹(JY _)[k]? =some _›];congr 1;exact QhV (by omega))));rw [e.1,e.2.1,e.2.2] <;> rfl)):P:=h
theorem Jk {P:Prop} (h:P:=by first | exact bd | (have:=QkN h64 _;omega) | exact QkN h64 _):P:=h
theorem QlJ (W:World) {v0:Value} {d0:List UInt8} (h0:Rd (.sl .byte) (wm W) [v0] d0):Qi Tryz.prog 144 [v0] W (Qx) (fun v m'=>v= .tuple #[.int .u64 ((vX d0:Nat):Int),.int .i64 ((vN d0:Nat):Int),.int .i64 (vE d0)]):=by
 obtain ⟨A0,c0,rfl,l0,k0⟩:=h0.slc
 refine Qi.ofA (n:=51) Tryz.func144 rfl rfl rfl ?_
 refine VC.rs (VO.as (VO.as (VO.as (VO.k4 0 2 3 4 (VC.rs (VO.as (VO.as (VO.k6 0 2 3 4 5 6 (VC.seq (VC.block ?_))))))))))
 refine VC.loop (G:=Nat × Nat) (fun g=>[(5,.int .u64 ((((g.2):Nat):Int))),(6,.int .i64 ((((g.1):Nat):Int))),(0,.slice A0 (d0.length) (c0))]) (fun g=>[(0,wm W)]) (fun g=>((g.1)≤d0.length)∧((g.1)≤10)∧((g.1)≤9→(g.2) < 2 ^ (7*(g.1)))∧((g.2) < 18446744073709551616)∧((g.1)≤9→Qa2 d0=vgo (g.1) (g.2) (d0.drop (g.1)))∧((g.1)=10→Qa2 d0=none)) (fun g=>d0.length - (g.1)) (0,0) (⟨by omega,by omega,by decide,by decide,by (intro _;rfl),by omega⟩) ⟨esn,fun _ h=>h.sub [0]⟩ ?_
 rintro ⟨k,x⟩ ⟨hk,h10,hx,h64,hv,hn⟩
 replace hk:k≤d0.length:=hk
 replace h10:k≤10:=h10
 replace hx:k≤9→x < 2 ^ (7*k):=hx
 replace h64:x < 18446744073709551616:=h64
 replace hv:k≤9→Qa2 d0=vgo k x (d0.drop k):=hv
 replace hn:k=10→Qa2 d0=none:=hn
 show VC _ _ _ _ _ [(5,.int .u64 (((x:Nat):Int))),(6,.int .i64 (((k:Nat):Int))),(0,.slice A0 (d0.length) (c0))] [(0,wm W)]
 refine VC.seq (VC.rs (VO.mv (VO.mv (VO.z (.lenS rfl Ji) (VO.z (.lss rfl rfl) (VO.mv ?_))))))
 refine VO.dec (t:=13) rfl (fun hc1=>?_) (fun hc1=>?_)
 refine VO.w (.mv rfl) (VO.w (.lss rfl rfl) (VO.z (.pT rfl rfl) (VO.p1 0 (VO.k4 0 5 6 16 ?_))))
 refine VC.cond rfl (fun hc2=>?_) (fun hc2=>?_)
 refine VC.skip (Qm (VC.block (VC.rs (VO.mv (VO.mv ?_)))))
 obtain ⟨x3,hx3⟩:∃ z_,(d0)[k]? =some z_:=⟨_,List.getElem?_eq_getElem Jk⟩
 obtain ⟨gg3,oo3,ec3,ea3,hce3,hre3⟩:=h0.elem hx3
 cases ea3
 obtain rfl:=(show _=_ from hre3)
 have xb3:=x3.toNat_lt
 refine VO.z (.ixI k rfl rfl Ji rfl Jk) ?_
 refine VO.z (.ld1 0 rfl tk5 rfl hce3) ?_
 refine VO.as (VO.k5 0 5 6 7 16 (VC.rs (VO.mv (VO.mv ?_))))
 refine VO.z (.quo (.inr rfl) rfl rfl (QmQ _ _ _ (by decide))) ?_
 refine VO.z (.cvI rfl ⟨_,Tryz.underlying5⟩ Tryz.underlying130 (IntWalk.u64_in _ Jk)) ?_
 refine VO.mv ?_
 refine VO.z (.cvI rfl ⟨_,Tryz.underlying3⟩ Tryz.underlying142 (IntWalk.u64_in _ Jk)) ?_
 refine VO.z (.mulN (c:=7*k) rfl rfl rfl Jk) ?_
 refine VO.z (.shf (.inl rfl) rfl rfl (shlU _ _ Jk)) ?_
 refine VO.z (.bit (.inr (.inl rfl)) rfl rfl (orU _ _ Jk Qn)) ?_
 refine VO.as (VO.k5 0 5 6 7 16 (VC.rs (VO.mv ?_)))
 refine VO.z (.add (c:=((k+1:Nat):Int)) rfl rfl Qn ⟨by exact Jk,by exact Jk⟩) ?_
 refine VO.as (VO.p1 0 (VO.k5 0 5 6 7 16 (VC.rs (VO.mv (VO.z (.lss rfl rfl) (VO.k6 0 5 6 7 16 33 ?_))))))
 refine VC.cond rfl (fun hc4=>?_) (fun hc4=>?_)
 refine VC.rs (VO.mv ?_)
 refine VO.callN 105 rfl Qny rfl (fun W hW=>QgE W (Rd.nil _ _ none 0 (Nat.zero_le _)) (x ||| ((x3.toNat % 128)*2 ^ (7*k) % 18446744073709551616)) Jk Jk) (fun v5 m5 hv5=>?_)
 obtain ⟨s5_0,rfl,f5_0⟩:=hv5
 have hfa6:=JT (x:=(x ||| ((x3.toNat % 128)*2 ^ (7*k) % 18446744073709551616))) (by first | omega | exact QkN Qo _)
 simp only [List.nil_append] at f5_0
 obtain ⟨A5_0,c5_0,eq5_0,l5_0,k5_0⟩:=f5_0.slc
 subst eq5_0
 refine VO.as (VO.k7 0 5 6 7 8 16 33 (VC.seq (VC.rs (VO.mv (VO.z (.lenS rfl Ji) (VO.mv (VO.z (.neq rfl rfl) (VO.mv ?_))))))))
 refine VO.dec (t:=40) rfl (fun hc7=>?_) (fun hc7=>?_)
 ·refine VO.gN (VO.gN (VO.gN (VO.gN (VO.gN (VO.gN (VO.gN (VO.z (.pT rfl rfl) (VO.p2 105 0 (VO.k8 0 5 6 7 8 16 33 48 (VC.condT rfl (VC.rs ?_)))))))))))
  refine VO.as (VO.as (VO.as (VO.k11 0 2 3 4 5 6 7 8 16 33 48 (VC.ret (QZ (JO (QZ (JO (QZ ?_)))))))))
  refine QcT 2 3 4 [] fun hS_=>?_
  dsimp only [QE]
  all_goals (first | rfl | (exact Y8))
 refine VO.w (.mv rfl) (VO.w (.mv rfl) ?_)
 refine VO.w (.sub (c:=((k:Nat):Int)) rfl rfl Qn ⟨by exact Jk,by exact Jk⟩) ?_
 obtain ⟨x8,hx8⟩:∃ z_,(JY (x ||| ((x3.toNat % 128)*2 ^ (7*k) % 18446744073709551616)))[k]? =some z_:=⟨_,List.getElem?_eq_getElem Jk⟩
 obtain ⟨gg8,oo8,ec8,ea8,hce8,hre8⟩:=(Ow.ownl f5_0 rfl Qx).elem hx8
 cases ea8
 obtain rfl:=(show _=_ from hre8)
 have xb8:=x8.toNat_lt
 refine VO.w (.ixI k rfl rfl Ji rfl Jk) ?_
 refine VO.w (.ld1 105 rfl tk5 rfl hce8) ?_
 refine VO.w (.mv rfl) (VO.w (.neq rfl rfl) (VO.z (.pF rfl rfl) (VO.p2 105 0 (VO.k8 0 5 6 7 8 16 33 48 ?_))))
 refine VC.cond rfl (fun hc9=>?_) (fun hc9=>?_)
 ·refine VC.rs (VO.as (VO.as (VO.as (VO.k11 0 2 3 4 5 6 7 8 16 33 48 (VC.ret (QZ (JO (QZ (JO (QZ ?_))))))))))
  refine QcT 2 3 4 [] fun hS_=>?_
  dsimp only [QE]
  all_goals (first | rfl | (exact Y8))
 ·refine VC.skip (Qm (VC.rs (VO.mv (VO.mv (VO.as (VO.as (VO.as (VO.k11 0 2 3 4 5 6 7 8 16 33 48 (VC.ret (JO (QZ ?_)))))))))))
  refine JO (QZ ?_)
  refine QcT 2 3 4 [] fun hS_=>?_
  dsimp only [QE]
  all_goals (first | rfl | (exact Y8))
 refine VC.skip (JL ?_)
 exact Qm ⟨⟨k+1,x ||| ((x3.toNat % 128)*2 ^ (7*k) % 18446744073709551616)⟩,⟨by omega,by omega,by intro h;exact (Qa7 (hx Qn) Qn ‹d0[k]? =some _› Qn Qn).2.2,by exact QkN h64 _,by intro h;exact (hv Qn).trans (Qa7 (hx Qn) Qn ‹d0[k]? =some _› Qn Qn).2.1,by intro h;exact (hv Qn).trans (Qjp ‹d0[k]? =some _› ⟨by omega,by omega⟩)⟩,by exact Jk,⟨esn,fun _ h=>Inv.sub h [0]⟩⟩
 ·refine VC.exit (Zh (Zh (Zi (Qm (VC.rs (VO.as (VO.as (VO.as (VO.k7 0 2 3 4 5 6 16 (VC.ret ?_))))))))))
  refine QcT 2 3 4 [] fun hS_=>?_
  dsimp only [QE]
  all_goals (first | rfl | (exact Y8))
 ·refine VO.gN (VO.gN (VO.z (.pF rfl rfl) (VO.p1 0 (VO.k4 0 5 6 16 (VC.condF rfl (VC.exit (Zh (Zh (Zi (Qm (VC.rs ?_)))))))))))
  refine VO.as (VO.as (VO.as (VO.k7 0 2 3 4 5 6 16 (VC.ret ?_))))
  refine QcT 2 3 4 [] fun hS_=>?_
  dsimp only [QE]
  all_goals (first | rfl | (exact Y8))
theorem Qdo (W:World) {v0:Value} {d0:List UInt8} (h0:Rd (.sl .byte) (wm W) [v0] d0) (d1:Int) (h1:inK .i64 d1):Qi Tryz.prog 123 [v0,.int .i64 d1] W (Qx) (fun v m'=>v= .tuple #[.int .i64 ((sX d0 d1:Nat):Int),.int .i64 ((sN d0 d1:Nat):Int),.int .i64 (sE d0 d1)]):=by
 obtain ⟨A0,c0,rfl,l0,k0⟩:=h0.slc
 have h1':=h1;simp only [inK] at h1'
 refine Qi.ofA (n:=29) Tryz.func123 rfl rfl rfl ?_
 refine VC.rs (VO.as (VO.as (VO.as (VO.k5 0 1 4 5 6 (VC.rs (VO.mv ?_))))))
 refine VO.callN 101 rfl Qqc rfl (fun W hW=>Qn5 W (Rd.mono h0 (hW.t 0))) (fun v1 m1 hv1=>?_)
 subst hv1
 have hfa2:=Qif d0
 refine VO.mv (VO.z (.ext rfl rfl) (VO.z (.ext rfl rfl) (VO.z (.ext rfl rfl) (VO.as (VO.as (VO.as (VO.k6 0 1 4 5 6 7 (VC.seq (VC.rs (VO.mv (VO.z (.neq rfl rfl) ?_)))))))))))
 refine VO.mv ?_
 refine VO.dec (t:=16) rfl (fun hc3=>?_) (fun hc3=>?_)
 ·refine VO.gN (VO.gN (VO.z (.pT rfl rfl) (VO.mv (VO.gN (VO.gN (VO.gN (VO.gN (VO.z (.pT rfl rfl) (VO.p1 0 (VO.k7 0 1 4 5 6 7 25 (VC.condT rfl ?_)))))))))))
  refine VC.rs (VO.as (VO.as (VO.as (VO.k7 0 1 4 5 6 7 25 (VC.ret (QZ ?_))))))
  refine QcT 4 5 6 [] fun hS_=>?_
  dsimp only [QE]
  all_goals (first | rfl | (first | (have e:=Qim (b:=d0) (m:=d1) Qn;rw [e.1,e.2.1,e.2.2] <;> rfl) | (have e:=QeD (b:=d0) (m:=d1) Qn Qn;rw [e.1,e.2.1,e.2.2] <;> rfl)))
 refine VO.w (.mv rfl) (VO.w (.lss rfl rfl) (VO.z (.pF rfl rfl) (VO.mv ?_)))
 refine VO.dec (t:=20) rfl (fun hc4=>?_) (fun hc4=>?_)
 ·refine VO.gN (VO.gN (VO.gN (VO.gN (VO.z (.pT rfl rfl) (VO.p1 0 (VO.k7 0 1 4 5 6 7 25 (VC.condT rfl (VC.rs (VO.as (VO.as (VO.as ?_)))))))))))
  refine VO.k7 0 1 4 5 6 7 25 (VC.ret (QZ ?_))
  refine QcT 4 5 6 [] fun hS_=>?_
  dsimp only [QE]
  all_goals (first | rfl | (first | (have e:=Qim (b:=d0) (m:=d1) Qn;rw [e.1,e.2.1,e.2.2] <;> rfl) | (have e:=QeD (b:=d0) (m:=d1) Qn Qn;rw [e.1,e.2.1,e.2.2] <;> rfl)))
 refine VO.w (.mv rfl) (VO.w (.mv rfl) ?_)
 refine VO.w (.cvI (c:=((d1).toNat:Int)) rfl ⟨_,Tryz.underlying3⟩ Tryz.underlying130 (by rw [IntWalk.u64_in _ bd];first | omega | (first | exact bd))) ?_
 refine VO.w (.gtr rfl rfl) (VO.z (.pF rfl rfl) (VO.p1 0 (VO.k7 0 1 4 5 6 7 25 ?_)))
 refine VC.cond rfl (fun hc5=>?_) (fun hc5=>?_)
 ·refine VC.rs (VO.as (VO.as (VO.as (VO.k7 0 1 4 5 6 7 25 (VC.ret (QZ ?_))))))
  refine QcT 4 5 6 [] fun hS_=>?_
  dsimp only [QE]
  all_goals (first | rfl | (first | (have e:=Qim (b:=d0) (m:=d1) Qn;rw [e.1,e.2.1,e.2.2] <;> rfl) | (have e:=QeD (b:=d0) (m:=d1) Qn Qn;rw [e.1,e.2.1,e.2.2] <;> rfl)))
 ·refine VC.skip (Qm (VC.rs (VO.mv ?_)))
  refine VO.z (.cvI rfl ⟨_,Tryz.underlying130⟩ Tryz.underlying3 (IntWalk.i64_in _ bd)) ?_
  refine VO.mv (VO.as (VO.as (VO.as (VO.k7 0 1 4 5 6 7 25 (VC.ret ?_)))))
  refine QcT 4 5 6 [] fun hS_=>?_
  dsimp only [QE]
  all_goals (first | rfl | (first | (have e:=Qim (b:=d0) (m:=d1) Qn;rw [e.1,e.2.1,e.2.2] <;> rfl) | (have e:=QeD (b:=d0) (m:=d1) Qn Qn;rw [e.1,e.2.1,e.2.2] <;> rfl)))
theorem QjB (W:World) {v0:Value} {d0:List UInt8} (h0:Rd (.sl .byte) (wm W) [v0] d0) (d1:Int) (h1:inK .i64 d1):Qi Tryz.prog 140 [v0,.int .i64 d1] W (Qx) (fun v m'=>v= .tuple #[.int .i64 ((sX d0 d1:Nat):Int),.int .i64 ((sN d0 d1:Nat):Int),.int .i64 (sE d0 d1)]):=by
 obtain ⟨A0,c0,rfl,l0,k0⟩:=h0.slc
 have h1':=h1;simp only [inK] at h1'
 refine Qi.ofA (n:=31) Tryz.func140 rfl rfl rfl ?_
 refine VC.rs (VO.as (VO.as (VO.as (VO.k5 0 1 4 5 6 (VC.rs (VO.mv ?_))))))
 refine VO.callN 101 rfl Qp8 rfl (fun W hW=>QlJ W (Rd.mono h0 (hW.t 0))) (fun v1 m1 hv1=>?_)
 subst hv1
 have hfa2:=Qif d0
 refine VO.mv (VO.z (.ext rfl rfl) (VO.z (.ext rfl rfl) (VO.z (.ext rfl rfl) (VO.as (VO.as (VO.as (VO.k8 0 1 4 5 6 7 8 9 (VC.seq (VC.rs (VO.mv (VO.z (.neq rfl rfl) ?_)))))))))))
 refine VO.mv ?_
 refine VO.dec (t:=18) rfl (fun hc3=>?_) (fun hc3=>?_)
 ·refine VO.gN (VO.gN (VO.z (.pT rfl rfl) (VO.mv (VO.gN (VO.gN (VO.gN (VO.gN (VO.z (.pT rfl rfl) (VO.p1 0 (VO.k9 0 1 4 5 6 7 8 9 27 (VC.condT rfl ?_)))))))))))
  refine VC.rs (VO.as (VO.as (VO.as (VO.k9 0 1 4 5 6 7 8 9 27 (VC.ret (QZ ?_))))))
  refine QcT 4 5 6 [] fun hS_=>?_
  dsimp only [QE]
  all_goals (first | rfl | (first | (have e:=Qim (b:=d0) (m:=d1) Qn;rw [e.1,e.2.1,e.2.2] <;> rfl) | (have e:=QeD (b:=d0) (m:=d1) Qn Qn;rw [e.1,e.2.1,e.2.2] <;> rfl)))
 refine VO.w (.mv rfl) (VO.w (.lss rfl rfl) (VO.z (.pF rfl rfl) (VO.mv ?_)))
 refine VO.dec (t:=22) rfl (fun hc4=>?_) (fun hc4=>?_)
 ·refine VO.gN (VO.gN (VO.gN (VO.gN (VO.z (.pT rfl rfl) (VO.p1 0 (VO.k9 0 1 4 5 6 7 8 9 27 (VC.condT rfl (VC.rs (VO.as (VO.as (VO.as ?_)))))))))))
  refine VO.k9 0 1 4 5 6 7 8 9 27 (VC.ret (QZ ?_))
  refine QcT 4 5 6 [] fun hS_=>?_
  dsimp only [QE]
  all_goals (first | rfl | (first | (have e:=Qim (b:=d0) (m:=d1) Qn;rw [e.1,e.2.1,e.2.2] <;> rfl) | (have e:=QeD (b:=d0) (m:=d1) Qn Qn;rw [e.1,e.2.1,e.2.2] <;> rfl)))
 refine VO.w (.mv rfl) (VO.w (.mv rfl) ?_)
 refine VO.w (.cvI (c:=((d1).toNat:Int)) rfl ⟨_,Tryz.underlying3⟩ Tryz.underlying130 (by rw [IntWalk.u64_in _ bd];first | omega | (first | exact bd))) ?_
 refine VO.w (.gtr rfl rfl) (VO.z (.pF rfl rfl) (VO.p1 0 (VO.k9 0 1 4 5 6 7 8 9 27 ?_)))
 refine VC.cond rfl (fun hc5=>?_) (fun hc5=>?_)
 ·refine VC.rs (VO.as (VO.as (VO.as (VO.k9 0 1 4 5 6 7 8 9 27 (VC.ret (QZ ?_))))))
  refine QcT 4 5 6 [] fun hS_=>?_
  dsimp only [QE]
  all_goals (first | rfl | (first | (have e:=Qim (b:=d0) (m:=d1) Qn;rw [e.1,e.2.1,e.2.2] <;> rfl) | (have e:=QeD (b:=d0) (m:=d1) Qn Qn;rw [e.1,e.2.1,e.2.2] <;> rfl)))
 ·refine VC.skip (Qm (VC.rs (VO.mv ?_)))
  refine VO.z (.cvI rfl ⟨_,Tryz.underlying130⟩ Tryz.underlying3 (IntWalk.i64_in _ bd)) ?_
  refine VO.mv (VO.as (VO.as (VO.as (VO.k9 0 1 4 5 6 7 8 9 27 (VC.ret ?_)))))
  refine QcT 4 5 6 [] fun hS_=>?_
  dsimp only [QE]
  all_goals (first | rfl | (first | (have e:=Qim (b:=d0) (m:=d1) Qn;rw [e.1,e.2.1,e.2.2] <;> rfl) | (have e:=QeD (b:=d0) (m:=d1) Qn Qn;rw [e.1,e.2.1,e.2.2] <;> rfl)))
theorem Qc9 : ∀ {a b : Qr} {k : Nat}, a.take k = b.take k → k ≤ a.length → k ≤ b.length → QI a b = k + QI (a.drop k) (b.drop k)
  | _, _, 0, _, _, _ => by simp
  | x :: a, y :: b, k + 1, h, ha, hb => by
    simp only [List.take_succ_cons, List.cons.injEq] at h
    have := Qc9 (a := a) (b := b) (k := k) h.2 (by simpa using ha) (by simpa using hb)
    simp only [List.drop_succ_cons]
    show (if x = y then _ else _) = _
    rw [if_pos h.1, this]; omega
theorem QaO (b:Qr):QI [] b=0:=by cases b <;> rfl
theorem Qaq (a:Qr):QI a []=0:=by cases a <;> rfl
section
variable {a b : Qr} {k : Nat} {x y : UInt8}
theorem Xq (h:a.take k=b.take k) (hx:a[k]? =some x) (hy:b[k]? =some y) (hn:¬ (x.toNat:Int)=y.toNat):QI a b=k:=by
 have h1:=(List.getElem?_eq_some_iff.1 hx).1
 have h2:=(List.getElem?_eq_some_iff.1 hy).1
 rw [Qc9 h (by omega) (by omega),QaX hx,QaX hy]
 show k+(if x=y then _ else _)=_
 rw [if_neg (QnQ hn)];rfl
theorem YQ (h:a.take k=b.take k) (ha:k≤a.length) (hb:k≤b.length) (he:a.length≤k∨b.length≤k):QI a b=k:=by
 rw [Qc9 h ha hb]
 rcases he with he | he
 ·rw [List.drop_of_length_le he,QaO];rfl
 ·rw [List.drop_of_length_le he,Qaq];rfl
theorem XM : ∀ (a b : Qr), QI a b ≤ a.length ∧ QI a b ≤ b.length
  | [], b => by rw [QaO]; simp
  | a, [] => by rw [Qaq]; simp
  | x :: a, y :: b => by
    have := XM a b
    unfold QI
    split
    · simp only [List.length_cons]; omega
    · simp
end
def XU (b : Qr) (l : List DOp) : Qr × Int := if Qs l = 0 then (b ++ JQ l, 0) else ([], Qs l)
theorem Xe {b:Qr} {l:List DOp} (h:¬ Qs l=0):XU b l=([],Qs l):=if_neg h
theorem YI {b:Qr} {l:List DOp} (h:Qs l=0):XU b l=(b++JQ l,0):=if_pos h
theorem JJ {l:List DOp} (h:Qs l=0) {o:DOp} (ho:o∈l):Qjh o:=by
 unfold Qs at h
 split at h
 ·cases h
 ·split at h
  ·cases h
  ·split at h
   ·rename_i h2;exact h2 o ho
   ·cases h
theorem YN {l:List DOp} (h:Qs l=0):1≤l.length∧l.length≤8:=by
 unfold Qs at h
 split at h
 ·cases h
 ·split at h
  ·cases h
  ·omega
theorem Qan {last:Qr} {o:DOp} (h:Qjh o):(QcQ last o).length≤79:=by
 obtain ⟨h1,h2,h3,h4⟩:=h
 have v1:=JT (x:=QI last o.2.1) (by have:=(XM last o.2.1).2;omega)
 have v2:=JT (x:=o.2.1.length - QI last o.2.1) (by omega)
 have v3:=JT (x:=o.2.2.length) (by omega)
 unfold QcQ
 split <;> simp only [List.length_cons,List.length_append,List.length_drop,List.length_nil] <;> omega
theorem QdT {out out' all last:Qr} {l:List DOp} {k:Nat} {o:DOp} (h:out++Y1 last (l.drop k)=all) (ho:l[k]? =some o) (ha:out'=out++QcQ last o):out'++Y1 o.2.1 (l.drop (k+1))=all:=by
 rw [ha,← h,QaX ho,List.append_assoc];rfl
theorem Qfd {out out' last:Qr} {l:List DOp} {k n:Nat} {o:DOp} (h:out.length≤n+10+80*k) (hc:Qs l=0) (ho:l[k]? =some o) (ha:out'=out++QcQ last o):out'.length≤n+10+80*(k+1):=by
 have:=Qan (last:=last) (JJ hc (List.mem_of_getElem? ho))
 rw [ha,List.length_append];omega
theorem QbX {last:Qr} {o:DOp} (h:o.1=true):QcQ last o=1::(JY (QI last o.2.1)++(JY (o.2.1.length - QI last o.2.1)++(o.2.1.drop (QI last o.2.1)++(JY o.2.2.length++o.2.2)))):=by unfold QcQ;rw [if_pos h,if_pos h]
theorem QbY {last:Qr} {o:DOp} (h:o.1=false):QcQ last o=0::(JY (QI last o.2.1)++(JY (o.2.1.length - QI last o.2.1)++(o.2.1.drop (QI last o.2.1)))):=by
 unfold QcQ;rw [if_neg (by rw [h];simp),if_neg (by rw [h];simp),List.append_nil]
section
variable {B last : Qr} {s s0 : RS} {k : Int} {l L : List DOp} {e : RS}
theorem Qoq (h:(L,e)=(l++(QcV B k.toNat last s).1,(QcV B k.toNat last s).2)) (hk:0 < k) (hs:s.2=false):(L,e)=((l++[(rOp B last s).1])++(QcV B (k - 1).toNat (rOp B last s).1.2.1 (rOp B last s).2).1,(QcV B (k - 1).toNat (rOp B last s).1.2.1 (rOp B last s).2).2):=by
 rw [h,QmZ hk hs];simp
theorem QpX (h:(L,e)=(l++(QcV B k.toNat last s).1,(QcV B k.toNat last s).2)) (hk:k≤0∨s.2=true):L=l∧e=s:=by
 rw [QmY hk] at h;simpa using h
theorem QdE (h:(L,e)=(l++(XP B k.toNat last s).1,(XP B k.toNat last s).2)) (hk:0 < k) (hs:s.2=false):(L,e)=((l++[(Qb5 B last s).1])++(XP B (k - 1).toNat (Qb5 B last s).1.2.1 (Qb5 B last s).2).1,(XP B (k - 1).toNat (Qb5 B last s).1.2.1 (Qb5 B last s).2).2):=by
 rw [h,QlL hk hs];simp
theorem Qos (h:(L,e)=(l++(XP B k.toNat last s).1,(XP B k.toNat last s).2)) (hk:k≤0∨s.2=true):L=l∧e=s:=by
 rw [QlK hk] at h;simpa using h
end
theorem QnS {B:Qr} {l:List DOp} {e:RS} (h:(QcV B (Qb B 8 (0,false)).1.toNat [] (Qb B 8 (0,false)).2)=(l,e)) (hb:e.2=true∨¬ Qs l=0):YD B=([],0,5):=by
 unfold YD;dsimp only;rw [h];exact if_pos hb
theorem Qmc {B:Qr} {l:List DOp} {e:RS} (h:(QcV B (Qb B 8 (0,false)).1.toNat [] (Qb B 8 (0,false)).2)=(l,e)) (hb:e.2=false) (hc:Qs l=0):YD B=(l,e.1,0):=by
 unfold YD;dsimp only;rw [h];exact if_neg (by rw [hb,hc];simp)
theorem QjQ {B:Qr} {l:List DOp} {s e:RS} (h:(XP B (Qb B 8 s).1.toNat [] (Qb B 8 s).2)=(l,e)) (hb:e.2=true∨¬ Qs l=0):JE B s=([],(e.1,true)):=by
 unfold JE;dsimp only;rw [h];exact if_pos hb
theorem QiD {B:Qr} {l:List DOp} {s e:RS} (h:(XP B (Qb B 8 s).1.toNat [] (Qb B 8 s).2)=(l,e)) (hb:e.2=false) (hc:Qs l=0):JE B s=(l,e):=by
 unfold JE;dsimp only;rw [h];exact if_neg (by rw [hb,hc];simp)
theorem QbM {B last:Qr} {s:RS} (h:rOk B s) (hl:last.length≤9223372036854775000):rOk B (Qb5 B last s).2∧(Qb5 B last s).1.2.1.length≤last.length+16∧(Qb5 B last s).1.2.2.length≤32:=by
 have h1:=Q5 (m:=1) h (by omega)
 have h2:=Q5 (m:=(last.length:Int)) h1.1 (by omega)
 have h3:=Yi (m:=16) h2.1 (by omega) (by omega)
 have h4:=Yi (m:=32) h3.1 (by omega) (by omega)
 have hk:(last.take (Qb B last.length (Qb B 1 s).2).1.toNat++(QX B 16 (Qb B last.length (Qb B 1 s).2).2).1).length≤last.length+16:=by simp;omega
 unfold Qb5
 dsimp only
 refine ⟨?_,hk,?_⟩
 ·split <;> split <;> first | exact h4.1 | exact h3.1 | exact ⟨h4.1.1,h4.1.2⟩ | exact ⟨h3.1.1,h3.1.2⟩
 ·split
  ·have:=h4.2;omega
  ·simp
theorem QkL {B : Qr} : ∀ (n : Nat) (last : Qr) (s : RS), rOk B s → last.length + 16 * n ≤ 1000000 → rOk B (XP B n last s).2 ∧ (XP B n last s).1.length ≤ n
  | 0, _, _, h, _ => ⟨h, Nat.le_refl _⟩
  | n + 1, last, s, h, hl => by
    unfold XP
    split
    · exact ⟨h, Nat.zero_le _⟩
    · obtain ⟨a, b, c⟩ := QbM (last := last) h (by omega)
      obtain ⟨x, y⟩ := QkL n (Qb5 B last s).1.2.1 (Qb5 B last s).2 a (by omega)
      exact ⟨x, by simpa using y⟩
theorem Qeo {B:Qr} {s:RS} (h:rOk B s):rOk B (JE B s).2:=by
 have h1:=Q5 (m:=8) h (by omega)
 have h2:=QkL (B:=B) (Qb B 8 s).1.toNat [] (Qb B 8 s).2 h1.1 (by have:=h1.2.2.2.1 (by omega);simp;omega)
 unfold JE
 dsimp only
 split
 ·exact ⟨h2.1.1,h2.1.2⟩
 ·exact h2.1
theorem QhG:JR Tryz.prog 123=true:=by kernel_rfl
theorem QnA:JR Tryz.prog 128=true:=by kernel_rfl
theorem QhF:JR Tryz.prog 137=true:=by kernel_rfl
theorem Qp9:JR Tryz.prog 140=true:=by kernel_rfl
theorem QjV:JR Tryz.prog 143=true:=by kernel_rfl
theorem Y4:tk Tryz.prog 56=some none:=by kernel_rfl
theorem Yb:tst Tryz.prog 145=some [(0,1),(1,1),(2,1)]:=by kernel_rfl
theorem YW:tst Tryz.prog 154=some [(0,1),(1,1),(2,1)]:=by kernel_rfl
theorem QhX (W:World) {g0:Nat} {E0:TypeId} {d0:Qbe} {b0_0:Value} (hm:mle (QM g0 (.cells [(b0_0:Value),.int .i64 d0.2.1,.bool d0.2.2].toArray E0 (0,0))) (wm W)) (h0_0:Rd (.sl .byte) (J4 (wm W) (QM g0 (.cells [(b0_0:Value),.int .i64 d0.2.1,.bool d0.2.2].toArray E0 (0,0)))) [b0_0] d0.1) (h0_1:inK .i64 d0.2.1) (d1:Int) (h1:inK .i64 d1) (e0:rOk d0.1 d0.2):Qi Tryz.prog 137 [.pointer (some ⟨g0,0,none⟩),.int .i64 d1] W (QM g0 (.cells [(b0_0:Value),.int .i64 d0.2.1,.bool d0.2.2].toArray E0 (0,0))) (fun v m'=>v= .int .i64 ((Qb d0.1 d1 d0.2).1)∧m'=QM g0 (.cells [(b0_0:Value),.int .i64 ((Qb d0.1 d1 d0.2).2.1),.bool ((Qb d0.1 d1 d0.2).2.2)].toArray E0 (0,0))∧inK .i64 ((Qb d0.1 d1 d0.2).2.1)):=by
 have e0_:=e0;obtain ⟨e0a,e0b⟩:=e0_
 obtain ⟨A0_0,c0_0,rfl,l0_0,k0_0⟩:=h0_0.slc
 have h0_1':=h0_1;simp only [inK] at h0_1'
 have h1':=h1;simp only [inK] at h1'
 refine Qi.ofB (n:=41) hm Tryz.func137 rfl rfl rfl ?_
 refine VC.rs (VO.as (VO.k3 0 1 4 (VC.seq (VC.rs (VO.mv (VO.z (.nilp rfl) (VO.z (.fa rfl YW rfl) (VO.z (.ld1 1 rfl tk4 rfl (Qa rfl rfl)) (VO.k4 0 1 4 11 ?_)))))))))
 refine VC.condB rfl (fun hc1=>?_) (fun hc1=>?_)
 ·refine VC.rs (VO.as (VO.p2 0 1 (VO.k4 0 1 4 11 (VC.ret (QZ ?_)))))
  refine Yd 4 [1] fun hS_=>?_
  dsimp only [QE]
  have hm0_1:((Qb d0.1 d1 d0.2).2.1:Int)=d0.2.1:=by first | rfl | (first | (rw [ZR ‹_›] <;> rfl) | (rw [Zq ‹_› ‹_›] <;> rfl) | (rw [Zg ‹_› (Decidable.not_not.1 ‹¬ ¬ _›)] <;> first | rfl | (symm;assumption)))
  have hm0_2:((Qb d0.1 d1 d0.2).2.2:Bool)=d0.2.2:=by first | rfl | (first | (rw [ZR ‹_›] <;> rfl) | (rw [Zq ‹_› ‹_›] <;> rfl) | (rw [Zg ‹_› (Decidable.not_not.1 ‹¬ ¬ _›)] <;> first | rfl | (symm;assumption)))
  refine ⟨?_,?_,?_⟩
  rotate_left
  ·rw [hm0_1,hm0_2,JX]
  ·rw [hm0_1];exact (show inK .i64 _ by simp only [inK];(first | exact bd))
  all_goals (first | rfl | (first | (rw [ZR ‹_›] <;> rfl) | (rw [Zq ‹_› ‹_›] <;> rfl) | (rw [Zg ‹_› (Decidable.not_not.1 ‹¬ ¬ _›)] <;> rfl)))
 refine VC.skip (Qm (VC.seq ?_))
 refine VC.regD _ 17 [(0,true),(1,true),(2,true),(3,true),(4,true),(5,true),(6,true),(7,true),(8,true),(9,true),(10,false),(11,true),(12,true),(13,true),(14,true),(15,true),(16,true)] follows (by kernel_rfl) (fun _ h=>h.sub [0,1]) ?_
 refine VD.z rfl (.mv rfl) (VD.z rfl (.nilp rfl) (VD.z rfl (.fa rfl YW rfl) (VD.z rfl (.ld1 1 rfl Y4 rfl (Qa rfl rfl)) (VD.z rfl (.mv rfl) (VD.z rfl (.nilp rfl) (VD.z rfl (.fa rfl YW rfl) (VD.z rfl (.ld1 1 rfl tk3 rfl (Qa rfl rfl)) ?_)))))))
 obtain ⟨A2,hA2,hs2⟩:=h0_0.drop 1 ((d0.2.1).toNat) rfl bd
 refine VD.z rfl (.slLI ((d0.2.1).toNat) A2 rfl rfl Ji bd hA2 bd) ?_
 refine VD.z rfl (.mv rfl) ?_
 refine VD.callN 103 rfl rfl (.inl rfl) QhG rfl (fun _ h=>h.sub [0,1]) (fun W hW=>Qdo W (Rd.mono hs2 (hW.t 0)) d1 bdk) (fun v3 m3 hv3=>?_)
 subst hv3
 have hfa4:=XN (d0.1.drop ((d0.2.1).toNat)) d1 Qn
 refine VD.z rfl (.mv rfl) (VD.z rfl (.ext rfl rfl) (VD.z rfl (.ext rfl rfl) (VD.z rfl (.ext rfl rfl) (VD.z rfl (.as rfl) (VD.z rfl (.as rfl) ?_)))))
 refine VD.nil rfl ?_ rfl
 refine VO.as (VO.p2 0 1 (VO.k7 0 1 4 5 6 7 11 (Qm (VC.seq (VC.rs (VO.mv (VO.z (.neq rfl rfl) (VO.k8 0 1 4 5 6 7 11 28 ?_))))))))
 refine VC.cond rfl (fun hc5=>?_) (fun hc5=>?_)
 ·refine VC.rs (VO.mv (VO.z (.nilp rfl) (VO.z (.fa rfl YW rfl) ?_)))
  refine VO.store (k:=1) (c':=[.slice A0_0 (d0.1.length) (c0_0),.int .i64 (d0.2.1),.bool true]) 1 rfl rfl (.inr ⟨tk4,rfl⟩) rfl rfl rfl rfl rfl ?_
  refine VO.k8 0 1 4 5 6 7 11 28 (VC.rs (VO.as (VO.p2 0 1 (VO.k8 0 1 4 5 6 7 11 28 (VC.ret (QZ ?_))))))
  refine Yd 4 [1] fun hS_=>?_
  dsimp only [QE]
  have hm0_1:((Qb d0.1 d1 d0.2).2.1:Int)=d0.2.1:=by first | rfl | (first | (rw [ZR ‹_›] <;> rfl) | (rw [Zq ‹_› ‹_›] <;> rfl) | (rw [Zg ‹_› (Decidable.not_not.1 ‹¬ ¬ _›)] <;> first | rfl | (symm;assumption)))
  have hm0_2:((Qb d0.1 d1 d0.2).2.2:Bool)=true:=by first | rfl | (first | (rw [ZR ‹_›] <;> rfl) | (rw [Zq ‹_› ‹_›] <;> rfl) | (rw [Zg ‹_› (Decidable.not_not.1 ‹¬ ¬ _›)] <;> first | rfl | (symm;assumption)))
  refine ⟨?_,?_,?_⟩
  rotate_left
  ·rw [hm0_1,hm0_2,JX]
  ·rw [hm0_1];exact (show inK .i64 _ by simp only [inK];(first | exact bd))
  all_goals (first | rfl | (first | (rw [ZR ‹_›] <;> rfl) | (rw [Zq ‹_› ‹_›] <;> rfl) | (rw [Zg ‹_› (Decidable.not_not.1 ‹¬ ¬ _›)] <;> rfl)))
 ·refine VC.skip (Qm (VC.rs (VO.mv (VO.z (.nilp rfl) (VO.z (.fa rfl YW rfl) (VO.z (.ld1 1 rfl tk3 rfl (Qa rfl rfl)) (VO.mv ?_)))))))
  refine VO.z (.add rfl rfl rfl ⟨bd,bd⟩) ?_
  refine VO.z (.nilp rfl) (VO.z (.fa rfl YW rfl) ?_)
  refine VO.store (k:=1) (c':=[.slice A0_0 (d0.1.length) (c0_0),.int .i64 (d0.2.1+((sN (d0.1.drop ((d0.2.1).toNat)) d1:Nat):Int)),.bool d0.2.2]) 1 rfl rfl (.inr ⟨tk3,rfl⟩) rfl rfl rfl rfl rfl ?_
  refine VO.k8 0 1 4 5 6 7 11 28 (VC.rs (VO.mv (VO.as (VO.p2 0 1 (VO.k8 0 1 4 5 6 7 11 28 (VC.ret ?_))))))
  refine Yd 4 [1] fun hS_=>?_
  dsimp only [QE]
  have hm0_1:((Qb d0.1 d1 d0.2).2.1:Int)=d0.2.1+((sN (d0.1.drop ((d0.2.1).toNat)) d1:Nat):Int):=by first | rfl | (first | (rw [ZR ‹_›] <;> rfl) | (rw [Zq ‹_› ‹_›] <;> rfl) | (rw [Zg ‹_› (Decidable.not_not.1 ‹¬ ¬ _›)] <;> first | rfl | (symm;assumption)))
  have hm0_2:((Qb d0.1 d1 d0.2).2.2:Bool)=d0.2.2:=by first | rfl | (first | (rw [ZR ‹_›] <;> rfl) | (rw [Zq ‹_› ‹_›] <;> rfl) | (rw [Zg ‹_› (Decidable.not_not.1 ‹¬ ¬ _›)] <;> first | rfl | (symm;assumption)))
  refine ⟨?_,?_,?_⟩
  rotate_left
  ·rw [hm0_1,hm0_2,JX]
  ·rw [hm0_1];exact (show inK .i64 _ by simp only [inK];(first | exact bd))
  all_goals (first | rfl | (first | (rw [ZR ‹_›] <;> rfl) | (rw [Zq ‹_› ‹_›] <;> rfl) | (rw [Zg ‹_› (Decidable.not_not.1 ‹¬ ¬ _›)] <;> rfl)))
theorem Qaj (W:World) {g0:Nat} {E0:TypeId} {d0:Qap} {b0_0:Value} (hm:mle (QM g0 (.cells [(b0_0:Value),.int .i64 d0.2.1,.bool d0.2.2].toArray E0 (0,0))) (wm W)) (h0_0:Rd (.sl .byte) (J4 (wm W) (QM g0 (.cells [(b0_0:Value),.int .i64 d0.2.1,.bool d0.2.2].toArray E0 (0,0)))) [b0_0] d0.1) (h0_1:inK .i64 d0.2.1) (d1:Int) (h1:inK .i64 d1) (e0:rOk d0.1 d0.2):Qi Tryz.prog 130 [.pointer (some ⟨g0,0,none⟩),.int .i64 d1] W (QM g0 (.cells [(b0_0:Value),.int .i64 d0.2.1,.bool d0.2.2].toArray E0 (0,0))) (fun v m'=>v= .int .i64 ((Qb d0.1 d1 d0.2).1)∧m'=QM g0 (.cells [(b0_0:Value),.int .i64 ((Qb d0.1 d1 d0.2).2.1),.bool ((Qb d0.1 d1 d0.2).2.2)].toArray E0 (0,0))∧inK .i64 ((Qb d0.1 d1 d0.2).2.1)):=by
 have e0_:=e0;obtain ⟨e0a,e0b⟩:=e0_
 obtain ⟨A0_0,c0_0,rfl,l0_0,k0_0⟩:=h0_0.slc
 have h0_1':=h0_1;simp only [inK] at h0_1'
 have h1':=h1;simp only [inK] at h1'
 refine Qi.ofB (n:=42) hm Tryz.func130 rfl rfl rfl ?_
 refine VC.rs (VO.as (VO.k3 0 1 4 (VC.seq (VC.rs (VO.mv (VO.z (.nilp rfl) (VO.z (.fa rfl Yb rfl) (VO.z (.ld1 1 rfl tk4 rfl (Qa rfl rfl)) (VO.k4 0 1 4 11 ?_)))))))))
 refine VC.condB rfl (fun hc1=>?_) (fun hc1=>?_)
 ·refine VC.rs (VO.as (VO.p2 0 1 (VO.k4 0 1 4 11 (VC.ret (QZ ?_)))))
  refine Yd 4 [1] fun hS_=>?_
  dsimp only [QE]
  have hm0_1:((Qb d0.1 d1 d0.2).2.1:Int)=d0.2.1:=by first | rfl | (first | (rw [ZR ‹_›] <;> rfl) | (rw [Zq ‹_› ‹_›] <;> rfl) | (rw [Zg ‹_› (Decidable.not_not.1 ‹¬ ¬ _›)] <;> first | rfl | (symm;assumption)))
  have hm0_2:((Qb d0.1 d1 d0.2).2.2:Bool)=d0.2.2:=by first | rfl | (first | (rw [ZR ‹_›] <;> rfl) | (rw [Zq ‹_› ‹_›] <;> rfl) | (rw [Zg ‹_› (Decidable.not_not.1 ‹¬ ¬ _›)] <;> first | rfl | (symm;assumption)))
  refine ⟨?_,?_,?_⟩
  rotate_left
  ·rw [hm0_1,hm0_2,JX]
  ·rw [hm0_1];exact (show inK .i64 _ by simp only [inK];(first | exact bd))
  all_goals (first | rfl | (first | (rw [ZR ‹_›] <;> rfl) | (rw [Zq ‹_› ‹_›] <;> rfl) | (rw [Zg ‹_› (Decidable.not_not.1 ‹¬ ¬ _›)] <;> rfl)))
 refine VC.skip (Qm (VC.seq ?_))
 refine VC.regD _ 17 [(0,true),(1,true),(2,true),(3,true),(4,true),(5,true),(6,true),(7,true),(8,true),(9,true),(10,false),(11,true),(12,true),(13,true),(14,true),(15,true),(16,true)] follows (by kernel_rfl) (fun _ h=>h.sub [0,1]) ?_
 refine VD.z rfl (.mv rfl) (VD.z rfl (.nilp rfl) (VD.z rfl (.fa rfl Yb rfl) (VD.z rfl (.ld1 1 rfl Y4 rfl (Qa rfl rfl)) (VD.z rfl (.mv rfl) (VD.z rfl (.nilp rfl) (VD.z rfl (.fa rfl Yb rfl) (VD.z rfl (.ld1 1 rfl tk3 rfl (Qa rfl rfl)) ?_)))))))
 obtain ⟨A2,hA2,hs2⟩:=h0_0.drop 1 ((d0.2.1).toNat) rfl bd
 refine VD.z rfl (.slLI ((d0.2.1).toNat) A2 rfl rfl Ji bd hA2 bd) ?_
 refine VD.z rfl (.mv rfl) ?_
 refine VD.callN 103 rfl rfl (.inl rfl) Qp9 rfl (fun _ h=>h.sub [0,1]) (fun W hW=>QjB W (Rd.mono hs2 (hW.t 0)) d1 bdk) (fun v3 m3 hv3=>?_)
 subst hv3
 have hfa4:=XN (d0.1.drop ((d0.2.1).toNat)) d1 Qn
 refine VD.z rfl (.mv rfl) (VD.z rfl (.ext rfl rfl) (VD.z rfl (.ext rfl rfl) (VD.z rfl (.ext rfl rfl) (VD.z rfl (.as rfl) (VD.z rfl (.as rfl) ?_)))))
 refine VD.nil rfl ?_ rfl
 refine VO.as (VO.p2 0 1 (VO.k7 0 1 4 5 6 7 11 (Qm (VC.seq (VC.rs (VO.mv (VO.z (.neq rfl rfl) (VO.k8 0 1 4 5 6 7 11 28 ?_))))))))
 refine VC.cond rfl (fun hc5=>?_) (fun hc5=>?_)
 ·refine VC.rs (VO.mv (VO.z (.nilp rfl) (VO.z (.fa rfl Yb rfl) ?_)))
  refine VO.store (k:=1) (c':=[.slice A0_0 (d0.1.length) (c0_0),.int .i64 (d0.2.1),.bool true]) 1 rfl rfl (.inr ⟨tk4,rfl⟩) rfl rfl rfl rfl rfl ?_
  refine VO.k8 0 1 4 5 6 7 11 28 (VC.rs (VO.as (VO.p2 0 1 (VO.k8 0 1 4 5 6 7 11 28 (VC.ret (QZ ?_))))))
  refine Yd 4 [1] fun hS_=>?_
  dsimp only [QE]
  have hm0_1:((Qb d0.1 d1 d0.2).2.1:Int)=d0.2.1:=by first | rfl | (first | (rw [ZR ‹_›] <;> rfl) | (rw [Zq ‹_› ‹_›] <;> rfl) | (rw [Zg ‹_› (Decidable.not_not.1 ‹¬ ¬ _›)] <;> first | rfl | (symm;assumption)))
  have hm0_2:((Qb d0.1 d1 d0.2).2.2:Bool)=true:=by first | rfl | (first | (rw [ZR ‹_›] <;> rfl) | (rw [Zq ‹_› ‹_›] <;> rfl) | (rw [Zg ‹_› (Decidable.not_not.1 ‹¬ ¬ _›)] <;> first | rfl | (symm;assumption)))
  refine ⟨?_,?_,?_⟩
  rotate_left
  ·rw [hm0_1,hm0_2,JX]
  ·rw [hm0_1];exact (show inK .i64 _ by simp only [inK];(first | exact bd))
  all_goals (first | rfl | (first | (rw [ZR ‹_›] <;> rfl) | (rw [Zq ‹_› ‹_›] <;> rfl) | (rw [Zg ‹_› (Decidable.not_not.1 ‹¬ ¬ _›)] <;> rfl)))
 ·refine VC.skip (Qm (VC.rs (VO.mv (VO.mv (VO.z (.nilp rfl) (VO.z (.fa rfl Yb rfl) (VO.z (.ld1 1 rfl tk3 rfl (Qa rfl rfl)) (VO.mv ?_))))))))
  refine VO.z (.add rfl rfl rfl ⟨bd,bd⟩) ?_
  refine VO.z (.nilp rfl) (VO.z (.fa rfl Yb rfl) ?_)
  refine VO.store (k:=1) (c':=[.slice A0_0 (d0.1.length) (c0_0),.int .i64 (d0.2.1+((sN (d0.1.drop ((d0.2.1).toNat)) d1:Nat):Int)),.bool d0.2.2]) 1 rfl rfl (.inr ⟨tk3,rfl⟩) rfl rfl rfl rfl rfl ?_
  refine VO.k8 0 1 4 5 6 7 11 28 (VC.rs (VO.mv (VO.as (VO.p2 0 1 (VO.k8 0 1 4 5 6 7 11 28 (VC.ret ?_))))))
  refine Yd 4 [1] fun hS_=>?_
  dsimp only [QE]
  have hm0_1:((Qb d0.1 d1 d0.2).2.1:Int)=d0.2.1+((sN (d0.1.drop ((d0.2.1).toNat)) d1:Nat):Int):=by first | rfl | (first | (rw [ZR ‹_›] <;> rfl) | (rw [Zq ‹_› ‹_›] <;> rfl) | (rw [Zg ‹_› (Decidable.not_not.1 ‹¬ ¬ _›)] <;> first | rfl | (symm;assumption)))
  have hm0_2:((Qb d0.1 d1 d0.2).2.2:Bool)=d0.2.2:=by first | rfl | (first | (rw [ZR ‹_›] <;> rfl) | (rw [Zq ‹_› ‹_›] <;> rfl) | (rw [Zg ‹_› (Decidable.not_not.1 ‹¬ ¬ _›)] <;> first | rfl | (symm;assumption)))
  refine ⟨?_,?_,?_⟩
  rotate_left
  ·rw [hm0_1,hm0_2,JX]
  ·rw [hm0_1];exact (show inK .i64 _ by simp only [inK];(first | exact bd))
  all_goals (first | rfl | (first | (rw [ZR ‹_›] <;> rfl) | (rw [Zq ‹_› ‹_›] <;> rfl) | (rw [Zg ‹_› (Decidable.not_not.1 ‹¬ ¬ _›)] <;> rfl)))
theorem Qil (W:World) (d0:List UInt8) (h0:d0.length≤maxLen) (d1:List UInt8) (h1:d1.length≤maxLen):Qi Tryz.prog 128 [str d0,str d1] W (Qx) (fun v m'=>v= .int .i64 ((QI d0 d1:Nat):Int)):=by
 have h0':=h0;simp only [maxLen] at h0'
 have h1':=h1;simp only [maxLen] at h1'
 refine Qi.ofA (n:=26) Tryz.func128 rfl rfl rfl ?_
 refine VC.rs (VO.as (VO.k3 0 1 4 (VC.rs (VO.mv ?_))))
 refine VO.z (.lenT rfl Tryz.underlying9) ?_
 refine VO.mv ?_
 refine VO.z (.lenT rfl Tryz.underlying9) ?_
 refine VO.z (.minM rfl rfl) (VO.as (VO.k4 0 1 4 5 (VC.seq (VC.rs (VO.mv (VO.mv (VO.p1 0 (VO.k6 0 1 4 5 12 13 (VC.block ?_)))))))))
 refine VC.loop (G:=Nat) (fun k=>[(13,.int .i64 (((k:Nat):Int))),(0,str (d0)),(1,str (d1)),(5,.int .i64 (min ((d0.length:Nat):Int) ((d1.length:Nat):Int))),(12,.int .i64 (min ((d0.length:Nat):Int) ((d1.length:Nat):Int)))]) (fun k=>[(0,wm W)]) (fun k=>(k≤d0.length∧k≤d1.length)∧(d0.take k=d1.take k)) (fun k=>d0.length - k) 0 (⟨by omega,by rfl⟩) ⟨esn,fun _ h=>h.sub [0]⟩ ?_
 rintro k ⟨hk,ht⟩
 refine VC.rs (VO.z (.lss rfl rfl) (VO.k6 0 1 5 12 13 14 (VC.seq ?_)))
 refine VC.cond rfl (fun hc1=>?_) (fun hc1=>?_)
 refine VC.skip (Qm (VC.seq (VC.block (VC.rs (VO.mv (VO.as (VO.k7 0 1 5 6 12 13 14 (VC.seq ?_))))))))
 refine VC.regD _ 6 [(0,true),(1,true),(2,true),(3,true),(4,true),(5,true)] follows (by kernel_rfl) (fun _ h=>h.sub [0]) ?_
 refine VD.z rfl (.mv rfl) (VD.z rfl (.mv rfl) ?_)
 obtain ⟨b2,hb2⟩:∃ z_,(d0)[k]? =some z_:=⟨_,List.getElem?_eq_getElem bd⟩
 refine VD.z rfl (.ixTI k rfl rfl Tryz.underlying9 rfl hb2) ?_
 refine VD.z rfl (.mv rfl) (VD.z rfl (.mv rfl) ?_)
 obtain ⟨b3,hb3⟩:∃ z_,(d1)[k]? =some z_:=⟨_,List.getElem?_eq_getElem bd⟩
 refine VD.z rfl (.ixTI k rfl rfl Tryz.underlying9 rfl hb3) ?_
 refine VD.nil rfl ?_ rfl
 refine VO.z (.neq rfl rfl) (VO.p1 0 (VO.k8 0 1 5 6 12 13 14 22 (Qm ?_)))
 refine VC.cond rfl (fun hc4=>?_) (fun hc4=>?_)
 refine VC.rs (VO.mv (VO.as (VO.k9 0 1 4 5 6 12 13 14 22 (VC.ret (JO (QZ (QZ (JO (QZ ?_)))))))))
 exact Xl 4 rfl (by first | rfl | (congr 1;first | exact congrArg Int.ofNat (Xq ht ‹d0[k]? =some _› ‹d1[k]? =some _› ‹_›) | exact congrArg Int.ofNat (YQ ht hk.1 hk.2 Qn) | (have:=YQ ht hk.1 hk.2 Qn;omega) | (have:=Xq ht ‹d0[k]? =some _› ‹d1[k]? =some _› ‹_›;omega)))
 refine VC.skip (JL (Qm ?_))
 refine VC.reg ?_
 refine VO.z (.add (c:=((k+1:Nat):Int)) rfl rfl Qn ⟨bd,bd⟩) ?_
 refine VO.mv (VO.k8 0 1 5 6 12 13 14 22 ?_)
 exact Qm ⟨k+1,⟨by omega,by exact Qbs ht ‹d0[k]? =some _› ‹d1[k]? =some _› (QhV Qn)⟩,bd,⟨esn,fun _ h=>Inv.sub h [0]⟩⟩
 refine VC.exit (Zh (Zh (Zi (Qm (VC.rs (VO.mv (VO.as (VO.k7 0 1 4 5 12 13 14 (VC.ret ?_)))))))))
 exact Xl 4 rfl (by first | rfl | (congr 1;first | exact congrArg Int.ofNat (Xq ht ‹d0[k]? =some _› ‹d1[k]? =some _› ‹_›) | exact congrArg Int.ofNat (YQ ht hk.1 hk.2 Qn) | (have:=YQ ht hk.1 hk.2 Qn;omega) | (have:=Xq ht ‹d0[k]? =some _› ‹d1[k]? =some _› ‹_›;omega)))
theorem QcB (W:World) (d0:List UInt8) (h0:d0.length≤maxLen) (d1:List UInt8) (h1:d1.length≤maxLen):Qi Tryz.prog 141 [str d0,str d1] W (Qx) (fun v m'=>v= .int .i64 ((QI d0 d1:Nat):Int)):=by
 have h0':=h0;simp only [maxLen] at h0'
 have h1':=h1;simp only [maxLen] at h1'
 refine Qi.ofA (n:=28) Tryz.func141 rfl rfl rfl ?_
 refine VC.rs (VO.as (VO.k3 0 1 4 (VC.rs (VO.as (VO.k4 0 1 4 5 (VC.seq (VC.block ?_)))))))
 refine VC.loop (G:=Nat) (fun k=>[(5,.int .i64 (((k:Nat):Int))),(0,str (d0)),(1,str (d1)),(4,.int .i64 (0))]) (fun k=>[(0,wm W)]) (fun k=>(k≤d0.length∧k≤d1.length)∧(d0.take k=d1.take k)) (fun k=>d0.length - k) 0 (⟨by omega,by rfl⟩) ⟨esn,fun _ h=>h.sub [0]⟩ ?_
 rintro k ⟨hk,ht⟩
 refine VC.seq (VC.seq ?_)
 refine VC.regD _ 17 [(0,true),(1,true),(2,true),(3,true),(4,true),(5,true),(6,true),(7,true),(8,true),(9,true),(10,true),(11,true),(12,true),(13,true),(14,true),(15,true),(16,true)] follows (by kernel_rfl) (fun _ h=>h.sub [0]) ?_
 refine VD.z rfl (.mv rfl) (VD.z rfl (.mv rfl) ?_)
 refine VD.z rfl (.lenT rfl Tryz.underlying9) ?_
 refine VD.z rfl (.lss rfl rfl) (VD.z rfl (.mv rfl) ?_)
 refine VD.dec (s:=10) rfl (fun hc1=>?_) (fun hc1=>?_)
 refine VD.w rfl (.mv rfl) (VD.w rfl (.mv rfl) ?_)
 refine VD.w rfl (.lenT rfl Tryz.underlying9) ?_
 refine VD.w rfl (.lss rfl rfl) (VD.z rfl (.pT rfl rfl) (VD.z rfl (.mv rfl) ?_))
 refine VD.dec (s:=16) rfl (fun hc2=>?_) (fun hc2=>?_)
 refine VD.w rfl (.mv rfl) (VD.w rfl (.mv rfl) ?_)
 obtain ⟨b3,hb3⟩:∃ z_,(d0)[k]? =some z_:=⟨_,List.getElem?_eq_getElem bd⟩
 refine VD.w rfl (.ixTI k rfl rfl Tryz.underlying9 rfl hb3) ?_
 refine VD.w rfl (.mv rfl) (VD.w rfl (.mv rfl) ?_)
 obtain ⟨b4,hb4⟩:∃ z_,(d1)[k]? =some z_:=⟨_,List.getElem?_eq_getElem bd⟩
 refine VD.w rfl (.ixTI k rfl rfl Tryz.underlying9 rfl hb4) ?_
 refine VD.nil rfl ?_ rfl
 refine VO.w (.eql rfl rfl) (VO.z (.pT rfl rfl) (VO.p1 0 (VO.k5 0 1 4 5 24 (Qm ?_))))
 refine VC.cond rfl (fun hc5=>?_) (fun hc5=>?_)
 refine VC.skip (Qm (VC.block ?_))
 refine VC.reg ?_
 refine VO.mv ?_
 refine VO.z (.add (c:=((k+1:Nat):Int)) rfl rfl Qn ⟨bd,bd⟩) ?_
 refine VO.as (VO.k5 0 1 4 5 24 (JL ?_))
 exact Qm ⟨k+1,⟨by omega,by exact Qbs ht ‹d0[k]? =some _› ‹d1[k]? =some _› (QhV Qn)⟩,bd,⟨esn,fun _ h=>Inv.sub h [0]⟩⟩
 refine VC.exit (Zh (Zh (Zi (Qm (VC.rs (VO.mv (VO.as (VO.k5 0 1 4 5 24 (VC.ret ?_)))))))))
 exact Xl 4 rfl (by first | rfl | (congr 1;first | exact congrArg Int.ofNat (Xq ht ‹d0[k]? =some _› ‹d1[k]? =some _› ‹_›) | exact congrArg Int.ofNat (YQ ht hk.1 hk.2 Qn) | (have:=YQ ht hk.1 hk.2 Qn;omega) | (have:=Xq ht ‹d0[k]? =some _› ‹d1[k]? =some _› ‹_›;omega)))
 refine VD.gN rfl (VD.gN rfl (VD.gN rfl (VD.gN rfl (VD.gN rfl (VD.gN rfl ?_)))))
 refine VD.nil rfl ?_ rfl
 refine VO.gN (VO.z (.pF rfl rfl) (VO.p1 0 (VO.k5 0 1 4 5 24 (Qm (VC.condF rfl (VC.exit (Zh (Zh (Zi (Qm (VC.rs ?_)))))))))))
 refine VO.mv (VO.as (VO.k5 0 1 4 5 24 (VC.ret ?_)))
 exact Xl 4 rfl (by first | rfl | (congr 1;first | exact congrArg Int.ofNat (Xq ht ‹d0[k]? =some _› ‹d1[k]? =some _› ‹_›) | exact congrArg Int.ofNat (YQ ht hk.1 hk.2 Qn) | (have:=YQ ht hk.1 hk.2 Qn;omega) | (have:=Xq ht ‹d0[k]? =some _› ‹d1[k]? =some _› ‹_›;omega)))
 refine VD.gN rfl (VD.gN rfl (VD.gN rfl (VD.gN rfl (VD.z rfl (.pF rfl rfl) (VD.z rfl (.mv rfl) (VD.gN rfl (VD.gN rfl (VD.gN rfl (VD.gN rfl (VD.gN rfl (VD.gN rfl ?_)))))))))))
 refine VD.nil rfl ?_ rfl
 refine VO.gN (VO.z (.pF rfl rfl) (VO.p1 0 (VO.k5 0 1 4 5 24 (Qm (VC.condF rfl (VC.exit (Zh (Zh (Zi (Qm (VC.rs ?_)))))))))))
 refine VO.mv (VO.as (VO.k5 0 1 4 5 24 (VC.ret ?_)))
 exact Xl 4 rfl (by first | rfl | (congr 1;first | exact congrArg Int.ofNat (Xq ht ‹d0[k]? =some _› ‹d1[k]? =some _› ‹_›) | exact congrArg Int.ofNat (YQ ht hk.1 hk.2 Qn) | (have:=YQ ht hk.1 hk.2 Qn;omega) | (have:=Xq ht ‹d0[k]? =some _› ‹d1[k]? =some _› ‹_›;omega)))
set_option maxHeartbeats 1000000 in
theorem QhW (W:World) {g0:Nat} {E0:TypeId} {d0:Qbe} {b0_0:Value} (hm:mle (QM g0 (.cells [(b0_0:Value),.int .i64 d0.2.1,.bool d0.2.2].toArray E0 (0,0))) (wm W)) (h0_0:Rd (.sl .byte) (J4 (wm W) (QM g0 (.cells [(b0_0:Value),.int .i64 d0.2.1,.bool d0.2.2].toArray E0 (0,0)))) [b0_0] d0.1) (h0_1:inK .i64 d0.2.1) (d1:Int) (h1:inK .i64 d1) (e0:rOk d0.1 d0.2) (e1:0≤d1):Qi Tryz.prog 143 [.pointer (some ⟨g0,0,none⟩),.int .i64 d1] W (QM g0 (.cells [(b0_0:Value),.int .i64 d0.2.1,.bool d0.2.2].toArray E0 (0,0))) (fun v m'=>v=str ((QX d0.1 d1 d0.2).1)∧m'=QM g0 (.cells [(b0_0:Value),.int .i64 ((QX d0.1 d1 d0.2).2.1),.bool ((QX d0.1 d1 d0.2).2.2)].toArray E0 (0,0))∧inK .i64 ((QX d0.1 d1 d0.2).2.1)):=by
 have e0_:=e0;obtain ⟨e0a,e0b⟩:=e0_
 obtain ⟨A0_0,c0_0,rfl,l0_0,k0_0⟩:=h0_0.slc
 have h0_1':=h0_1;simp only [inK] at h0_1'
 have h1':=h1;simp only [inK] at h1'
 refine Qi.ofB (n:=54) hm Tryz.func143 rfl rfl rfl ?_
 refine VC.rs (VO.as (VO.k3 0 1 4 (VC.rs (VO.mv (VO.mv ?_)))))
 refine VO.call 1 rfl QhF rfl rfl (fun W hW=>QhX W (d0:=d0) (hW.t 1) (Rd.mono h0_0 (hW.o 1 0)) bdk d1 bdk Z2) (fun v1 m1 hv1=>?_)
 obtain ⟨rfl,rfl,w1_0_1⟩:=hv1
 have hfa2:=(Q5 (B:=d0.1) (m:=d1) (s:=d0.2) Z2 Qn).1
 have hfa3:=(Q5 (B:=d0.1) (m:=d1) (s:=d0.2) Z2 Qn).1.1
 have hfa4:=(Q5 (B:=d0.1) (m:=d1) (s:=d0.2) Z2 Qn).1.2
 have hfa5:=(Q5 (B:=d0.1) (m:=d1) (s:=d0.2) Z2 Qn).2
 simp only [inK] at w1_0_1
 refine VO.as (VO.k4 0 1 4 5 (VC.seq (VC.seq ?_)))
 refine VC.regD _ 16 [(0,true),(1,true),(2,true),(3,true),(4,true),(5,true),(6,true),(7,true),(8,true),(9,true),(10,true),(11,true),(12,true),(13,true),(14,true),(15,true)] follows (by kernel_rfl) (fun _ h=>h.sub [1,0]) ?_
 refine VD.z rfl (.mv rfl) (VD.z rfl (.nilp rfl) (VD.z rfl (.fa rfl YW rfl) (VD.z rfl (.ld1 1 rfl tk4 rfl (Qa rfl rfl)) (VD.z rfl (.mv rfl) ?_))))
 refine VD.decB (s:=13) rfl (fun hc6=>?_) (fun hc6=>?_)
 · refine VD.gN rfl (VD.gN rfl (VD.gN rfl (VD.gN rfl (VD.gN rfl (VD.gN rfl (VD.gN rfl (VD.gN rfl (VD.gN rfl (VD.gN rfl (VD.gN rfl ?_))))))))))
   refine VD.nil rfl ?_ rfl
   refine VO.gN (VO.z (.pT rfl rfl) (VO.p2 1 0 (VO.k5 0 1 4 5 26 (Qm (VC.condT rfl (VC.rs (VO.mv (VO.z (.nilp rfl) (VO.z (.fa rfl YW rfl) ?_)))))))))
   refine VO.store (k:=1) (c':=[.slice A0_0 (d0.1.length) (c0_0),.int .i64 ((Qb d0.1 d1 d0.2).2.1),.bool true]) 1 rfl rfl (.inr ⟨tk4,rfl⟩) rfl rfl rfl rfl rfl ?_
   refine VO.k5 0 1 4 5 26 (VC.rs (VO.as (VO.k5 0 1 4 5 26 (VC.ret (QZ ?_)))))
   refine Yd 4 [1] fun hS_=>?_
   dsimp only [QE]
   have hm0_1:((QX d0.1 d1 d0.2).2.1:Int)=(Qb d0.1 d1 d0.2).2.1:=by first | rfl | (unfold QX;first | (rw [ZS (by first | exact .inl ‹_› | exact .inr ‹_›)] <;> first | rfl | assumption) | (rw [ZJ ‹_› ‹_›] <;> first | rfl | assumption | (symm;assumption)))
   have hm0_2:((QX d0.1 d1 d0.2).2.2:Bool)=true:=by first | rfl | (unfold QX;first | (rw [ZS (by first | exact .inl ‹_› | exact .inr ‹_›)] <;> first | rfl | assumption) | (rw [ZJ ‹_› ‹_›] <;> first | rfl | assumption | (symm;assumption)))
   refine ⟨?_,?_,?_⟩
   rotate_left
   · rw [hm0_1,hm0_2,JX]
   · rw [hm0_1];exact (show inK .i64 _ by simp only [inK];(first | exact bd))
   all_goals (first | rfl | (unfold QX;first | (rw [ZS (by first | exact .inl ‹_› | exact .inr ‹_›)] <;> rfl) | (rw [ZJ ‹_› ‹_›];dsimp only;congr 2;first | rw [Qet Qn Qn] | (rw [← Qet Qn Qn];congr 1;omega) | (rw [List.drop_take];congr 1;omega))))
 refine VD.w rfl (.mv rfl) (VD.w rfl (.nilp rfl) (VD.w rfl (.fa rfl YW rfl) (VD.w rfl (.ld1 1 rfl Y4 rfl (Qa rfl rfl)) (VD.w rfl (.lenS rfl Ji) (VD.w rfl (.mv rfl) (VD.w rfl (.nilp rfl) (VD.w rfl (.fa rfl YW rfl) (VD.w rfl (.ld1 1 rfl tk3 rfl (Qa rfl rfl)) ?_))))))))
 refine VD.w rfl (.sub rfl rfl rfl ⟨bd,bd⟩) ?_
 refine VD.w rfl (.mv rfl) ?_
 refine VD.nil rfl ?_ rfl
 refine VO.w (.lss rfl rfl) (VO.z (.pF rfl rfl) (VO.p2 1 0 (VO.k5 0 1 4 5 26 (Qm ?_))))
 refine VC.cond rfl (fun hc7=>?_) (fun hc7=>?_)
 · refine VC.rs (VO.mv (VO.z (.nilp rfl) (VO.z (.fa rfl YW rfl) ?_)))
   refine VO.store (k:=1) (c':=[.slice A0_0 (d0.1.length) (c0_0),.int .i64 ((Qb d0.1 d1 d0.2).2.1),.bool true]) 1 rfl rfl (.inr ⟨tk4,rfl⟩) rfl rfl rfl rfl rfl ?_
   refine VO.k5 0 1 4 5 26 (VC.rs (VO.as (VO.k5 0 1 4 5 26 (VC.ret (QZ ?_)))))
   refine Yd 4 [1] fun hS_=>?_
   dsimp only [QE]
   have hm0_1:((QX d0.1 d1 d0.2).2.1:Int)=(Qb d0.1 d1 d0.2).2.1:=by first | rfl | (unfold QX;first | (rw [ZS (by first | exact .inl ‹_› | exact .inr ‹_›)] <;> first | rfl | assumption) | (rw [ZJ ‹_› ‹_›] <;> first | rfl | assumption | (symm;assumption)))
   have hm0_2:((QX d0.1 d1 d0.2).2.2:Bool)=true:=by first | rfl | (unfold QX;first | (rw [ZS (by first | exact .inl ‹_› | exact .inr ‹_›)] <;> first | rfl | assumption) | (rw [ZJ ‹_› ‹_›] <;> first | rfl | assumption | (symm;assumption)))
   refine ⟨?_,?_,?_⟩
   rotate_left
   · rw [hm0_1,hm0_2,JX]
   · rw [hm0_1];exact (show inK .i64 _ by simp only [inK];(first | exact bd))
   all_goals (first | rfl | (unfold QX;first | (rw [ZS (by first | exact .inl ‹_› | exact .inr ‹_›)] <;> rfl) | (rw [ZJ ‹_› ‹_›];dsimp only;congr 2;first | rw [Qet Qn Qn] | (rw [← Qet Qn Qn];congr 1;omega) | (rw [List.drop_take];congr 1;omega))))
 · refine VC.skip (Qm (VC.rs (VO.mv (VO.z (.nilp rfl) (VO.z (.fa rfl YW rfl) (VO.z (.ld1 1 rfl tk3 rfl (Qa rfl rfl)) (VO.mv ?_)))))))
   refine VO.z (.add rfl rfl rfl ⟨bd,bd⟩) ?_
   refine VO.z (.nilp rfl) (VO.z (.fa rfl YW rfl) ?_)
   refine VO.store (k:=1) (c':=[.slice A0_0 (d0.1.length) (c0_0),.int .i64 (((Qb d0.1 d1 d0.2).2.1)+((Qb d0.1 d1 d0.2).1)),.bool ((Qb d0.1 d1 d0.2).2.2)]) 1 rfl rfl (.inr ⟨tk3,rfl⟩) rfl rfl rfl rfl rfl ?_
   refine VO.k5 0 1 4 5 26 (VC.seq ?_)
   refine VC.regD _ 14 [(0,true),(1,true),(2,true),(3,true),(4,true),(5,true),(6,true),(7,true),(8,true),(9,true),(10,true),(11,true),(12,true),(13,true)] follows (by kernel_rfl) (fun _ h=>h.sub [1,0]) ?_
   refine VD.z rfl (.mv rfl) (VD.z rfl (.nilp rfl) (VD.z rfl (.fa rfl YW rfl) (VD.z rfl (.ld1 1 rfl Y4 rfl (Qa rfl rfl)) (VD.z rfl (.mv rfl) (VD.z rfl (.nilp rfl) (VD.z rfl (.fa rfl YW rfl) (VD.z rfl (.ld1 1 rfl tk3 rfl (Qa rfl rfl)) (VD.z rfl (.mv rfl) ?_))))))))
   refine VD.z rfl (.sub rfl rfl rfl ⟨bd,bd⟩) ?_
   refine VD.z rfl (.mv rfl) (VD.z rfl (.nilp rfl) (VD.z rfl (.fa rfl YW rfl) (VD.z rfl (.ld1 1 rfl tk3 rfl (Qa rfl rfl)) ?_)))
   refine VD.nil rfl ?_ rfl
   obtain ⟨A8,hA8,hs8⟩:=h0_0.sub' 1 (((((Qb d0.1 d1 d0.2).2.1)+((Qb d0.1 d1 d0.2).1)) - ((Qb d0.1 d1 d0.2).1)).toNat) ((((Qb d0.1 d1 d0.2).2.1)+((Qb d0.1 d1 d0.2).1)).toNat) rfl bd bd
   refine VO.z (.slI (((((Qb d0.1 d1 d0.2).2.1)+((Qb d0.1 d1 d0.2).1)) - ((Qb d0.1 d1 d0.2).1)).toNat) ((((Qb d0.1 d1 d0.2).2.1)+((Qb d0.1 d1 d0.2).1)).toNat) A8 rfl rfl rfl Ji bd bd hA8 bd bd) ?_
   refine VO.z (.b2s 0 rfl Tryz.underlying56 Tryz.underlying9 Tryz.underlying5 rfl hs8) ?_
   refine VO.as (VO.k5 0 1 4 5 26 (Qm (VC.ret ?_)))
   refine Yd 4 [1] fun hS_=>?_
   dsimp only [QE]
   have hm0_1:((QX d0.1 d1 d0.2).2.1:Int)=((Qb d0.1 d1 d0.2).2.1)+((Qb d0.1 d1 d0.2).1):=by first | rfl | (unfold QX;first | (rw [ZS (by first | exact .inl ‹_› | exact .inr ‹_›)] <;> first | rfl | assumption) | (rw [ZJ ‹_› ‹_›] <;> first | rfl | assumption | (symm;assumption)))
   have hm0_2:((QX d0.1 d1 d0.2).2.2:Bool)=(Qb d0.1 d1 d0.2).2.2:=by first | rfl | (unfold QX;first | (rw [ZS (by first | exact .inl ‹_› | exact .inr ‹_›)] <;> first | rfl | assumption) | (rw [ZJ ‹_› ‹_›] <;> first | rfl | assumption | (symm;assumption)))
   refine ⟨?_,?_,?_⟩
   rotate_left
   · rw [hm0_1,hm0_2,JX]
   · rw [hm0_1];exact (show inK .i64 _ by simp only [inK];(first | exact bd))
   all_goals (first | rfl | (unfold QX;first | (rw [ZS (by first | exact .inl ‹_› | exact .inr ‹_›)] <;> rfl) | (rw [ZJ ‹_› ‹_›];dsimp only;congr 2;first | rw [Qet Qn Qn] | (rw [← Qet Qn Qn];congr 1;omega) | (rw [List.drop_take];congr 1;omega))))
theorem ZB {P:Prop} (h:P:=by first | (rw [ZS (by first | exact .inl ‹_› | exact .inr ‹_›)] <;> first | rfl | assumption) | (rw [ZJ ‹_› ‹_›] <;> first | rfl | assumption | (symm;assumption) | (dsimp only;rw [List.drop_take];congr 1;omega))):P:=h
set_option maxHeartbeats 1000000 in
theorem Qei (W:World) {g0:Nat} {E0:TypeId} {d0:Qap} {b0_0:Value} (hm:mle (QM g0 (.cells [(b0_0:Value),.int .i64 d0.2.1,.bool d0.2.2].toArray E0 (0,0))) (wm W)) (h0_0:Rd (.sl .byte) (J4 (wm W) (QM g0 (.cells [(b0_0:Value),.int .i64 d0.2.1,.bool d0.2.2].toArray E0 (0,0)))) [b0_0] d0.1) (h0_1:inK .i64 d0.2.1) (d1:Int) (h1:inK .i64 d1) (e0:rOk d0.1 d0.2) (e1:0≤d1) (e2:d1≤140737488355000):Qi Tryz.prog 129 [.pointer (some ⟨g0,0,none⟩),.int .i64 d1] W (QM g0 (.cells [(b0_0:Value),.int .i64 d0.2.1,.bool d0.2.2].toArray E0 (0,0))) (fun v m'=>∃ (s0:Value),∃ (p0:Mem),v=s0∧QA m' [p0,QM g0 (.cells [(b0_0:Value),.int .i64 ((QC d0.1 d1 d0.2).2.1),.bool ((QC d0.1 d1 d0.2).2.2)].toArray E0 (0,0))]∧Ow (.sl .byte) p0 [s0] ((QC d0.1 d1 d0.2).1)∧inK .i64 ((QC d0.1 d1 d0.2).2.1)):=by
 have e0_:=e0;obtain ⟨e0a,e0b⟩:=e0_
 obtain ⟨A0_0,c0_0,rfl,l0_0,k0_0⟩:=h0_0.slc
 have h0_1':=h0_1;simp only [inK] at h0_1'
 have h1':=h1;simp only [inK] at h1'
 refine Qi.ofB (n:=54) hm Tryz.func129 rfl rfl rfl ?_
 refine VC.rs (VO.as (VO.k3 0 1 4 (VC.seq (VC.seq ?_))))
 refine VC.regD _ 16 [(0,true),(1,true),(2,true),(3,true),(4,true),(5,true),(6,true),(7,true),(8,true),(9,true),(10,true),(11,true),(12,true),(13,true),(14,true),(15,true)] follows (by kernel_rfl) (fun _ h=>h.sub [0,1]) ?_
 refine VD.z rfl (.mv rfl) (VD.z rfl (.nilp rfl) (VD.z rfl (.fa rfl Yb rfl) (VD.z rfl (.ld1 1 rfl tk4 rfl (Qa rfl rfl)) (VD.z rfl (.mv rfl) ?_))))
 refine VD.decB (s:=10) rfl (fun hc1=>?_) (fun hc1=>?_)
 · refine VD.gN rfl (VD.gN rfl (VD.gN rfl (VD.gN rfl (VD.gN rfl (VD.gN rfl (VD.gN rfl (VD.gN rfl (VD.gN rfl (VD.gN rfl (VD.gN rfl ?_))))))))))
   refine VD.nil rfl ?_ rfl
   refine VO.gN (VO.z (.pT rfl rfl) (VO.k4 0 1 4 23 (Qm (VC.condT rfl (VC.rs (VO.mv (VO.z (.nilp rfl) (VO.z (.fa rfl Yb rfl) ?_))))))))
   refine VO.store (k:=1) (c':=[.slice A0_0 (d0.1.length) (c0_0),.int .i64 (d0.2.1),.bool true]) 1 rfl rfl (.inr ⟨tk4,rfl⟩) rfl rfl rfl rfl rfl ?_
   refine VO.p2 0 1 (VO.k4 0 1 4 23 (VC.rs (VO.as (VO.k4 0 1 4 23 (VC.ret (QZ ?_))))))
   refine Yd 4 [1] fun hS_=>?_
   dsimp only [QE]
   have he0:((QC d0.1 d1 d0.2).1:Ty.Den (.sl .byte))=[]:=by first | rfl | (exact ZB)
   have hm0_1:((QC d0.1 d1 d0.2).2.1:Int)=d0.2.1:=by first | rfl | (exact ZB)
   have hm0_2:((QC d0.1 d1 d0.2).2.2:Bool)=true:=by first | rfl | (exact ZB)
   refine ⟨.slice none (0) (0),Zc [],?_,?_,?_,?_⟩
   rotate_left
   · (first | exact QA.grp (ls:=[[],[QM g0 (.cells [Value.slice A0_0 (d0.1.length) (c0_0),Value.int .i64 (d0.2.1),Value.bool true].toArray E0 (0,0))]]) hS_ | (rw [hm0_1,hm0_2];exact QA.grpM (ls:=[[],[QM g0 (.cells [Value.slice A0_0 (d0.1.length) (c0_0),Value.int .i64 (d0.2.1),Value.bool true].toArray E0 (0,0))]]) hS_ (by simp only [List.map,JX])) | exact QA.grpM (ls:=[[],[QM g0 (.cells [Value.slice A0_0 (d0.1.length) (c0_0),Value.int .i64 (d0.2.1),Value.bool true].toArray E0 (0,0))]]) hS_ (by simp only [List.map,JX]))
   · rw [he0];exact (Ow.nil _ _)
   · rw [hm0_1];exact (show inK .i64 _ by simp only [inK];(first | exact bd))
   all_goals (first | rfl | (simp [*];done))
 refine VD.w rfl (.mv rfl) (VD.w rfl (.mv rfl) (VD.w rfl (.nilp rfl) (VD.w rfl (.fa rfl Yb rfl) (VD.w rfl (.ld1 1 rfl Y4 rfl (Qa rfl rfl)) (VD.w rfl (.lenS rfl Ji) (VD.w rfl (.mv rfl) (VD.w rfl (.nilp rfl) (VD.w rfl (.fa rfl Yb rfl) (VD.w rfl (.ld1 1 rfl tk3 rfl (Qa rfl rfl)) ?_)))))))))
 refine VD.w rfl (.sub rfl rfl rfl ⟨bd,bd⟩) ?_
 refine VD.nil rfl ?_ rfl
 refine VO.w (.gtr rfl rfl) (VO.z (.pF rfl rfl) (VO.k4 0 1 4 23 (Qm ?_)))
 refine VC.cond rfl (fun hc2=>?_) (fun hc2=>?_)
 · refine VC.rs (VO.mv (VO.z (.nilp rfl) (VO.z (.fa rfl Yb rfl) ?_)))
   refine VO.store (k:=1) (c':=[.slice A0_0 (d0.1.length) (c0_0),.int .i64 (d0.2.1),.bool true]) 1 rfl rfl (.inr ⟨tk4,rfl⟩) rfl rfl rfl rfl rfl ?_
   refine VO.p2 0 1 (VO.k4 0 1 4 23 (VC.rs (VO.as (VO.k4 0 1 4 23 (VC.ret (QZ ?_))))))
   refine Yd 4 [1] fun hS_=>?_
   dsimp only [QE]
   have he0:((QC d0.1 d1 d0.2).1:Ty.Den (.sl .byte))=[]:=by first | rfl | (exact ZB)
   have hm0_1:((QC d0.1 d1 d0.2).2.1:Int)=d0.2.1:=by first | rfl | (exact ZB)
   have hm0_2:((QC d0.1 d1 d0.2).2.2:Bool)=true:=by first | rfl | (exact ZB)
   refine ⟨.slice none (0) (0),Zc [],?_,?_,?_,?_⟩
   rotate_left
   · (first | exact QA.grp (ls:=[[],[QM g0 (.cells [Value.slice A0_0 (d0.1.length) (c0_0),Value.int .i64 (d0.2.1),Value.bool true].toArray E0 (0,0))]]) hS_ | (rw [hm0_1,hm0_2];exact QA.grpM (ls:=[[],[QM g0 (.cells [Value.slice A0_0 (d0.1.length) (c0_0),Value.int .i64 (d0.2.1),Value.bool true].toArray E0 (0,0))]]) hS_ (by simp only [List.map,JX])) | exact QA.grpM (ls:=[[],[QM g0 (.cells [Value.slice A0_0 (d0.1.length) (c0_0),Value.int .i64 (d0.2.1),Value.bool true].toArray E0 (0,0))]]) hS_ (by simp only [List.map,JX]))
   · rw [he0];exact (Ow.nil _ _)
   · rw [hm0_1];exact (show inK .i64 _ by simp only [inK];(first | exact bd))
   all_goals (first | rfl | (simp [*];done))
 · refine VC.skip (Qm (VC.rs (VO.as (VO.p2 0 1 (VO.k5 0 1 4 5 23 (VC.seq ?_))))))
   refine VC.regD _ 16 [(0,true),(1,true),(2,true),(3,true),(4,true),(5,true),(6,true),(7,true),(8,true),(9,true),(10,true),(11,true),(12,true),(13,true),(14,true),(15,true)] follows (by kernel_rfl) (fun _ h=>h.sub [0,1]) ?_
   refine VD.z rfl (.mv rfl) (VD.z rfl (.mv rfl) (VD.z rfl (.nilp rfl) (VD.z rfl (.fa rfl Yb rfl) (VD.z rfl (.ld1 1 rfl Y4 rfl (Qa rfl rfl)) (VD.z rfl (.mv rfl) (VD.z rfl (.nilp rfl) (VD.z rfl (.fa rfl Yb rfl) (VD.z rfl (.ld1 1 rfl tk3 rfl (Qa rfl rfl)) (VD.z rfl (.mv rfl) (VD.z rfl (.nilp rfl) (VD.z rfl (.fa rfl Yb rfl) ?_)))))))))))
   refine VD.z rfl (.ld1 1 rfl tk3 rfl (Qa rfl rfl)) (VD.z rfl (.mv rfl) ?_)
   refine VD.z rfl (.add rfl rfl rfl ⟨bd,bd⟩) ?_
   obtain ⟨A3,hA3,hs3⟩:=h0_0.sub' 1 ((d0.2.1).toNat) ((d0.2.1+d1).toNat) rfl bd bd
   refine VD.z rfl (.slI ((d0.2.1).toNat) ((d0.2.1+d1).toNat) A3 rfl rfl rfl Ji bd bd hA3 bd bd) ?_
   refine VD.nil rfl ?_ rfl
   refine VO.inv _ (fun _ h=>h.nilc 105) ?_
   obtain ⟨mo4,cs4,hM4,hA4,hC4⟩:=(QH.nil .byte Qx Qx)
   obtain ⟨all4,hS4,hR4⟩:=Rd.srcI (P:=Tryz.prog) (hs3) Tryz.underlying56
   refine VO.app 105 rfl rfl rfl Ji tz5 rfl rfl hM4 hA4 (hS4 _ 0 rfl) hR4.nice bdm bd (by decide) (fun v4 m4 hN4=>?_)
   have ho4:QH .byte m4 Qx v4 ((d0.1.take ((d0.2.1+d1).toNat)).drop ((d0.2.1).toNat)):=QH.more hC4 hN4 (Je.mono hR4 fun _ _ h=>Rd.flat rfl h _)
   obtain ⟨A4,c4,rfl,l4,k4⟩:=ho4.slc
   refine VO.as (VO.k5 0 1 4 5 23 (Qm (VC.rs (VO.mv (VO.mv (VO.z (.nilp rfl) (VO.z (.fa rfl Yb rfl) (VO.z (.ld1 1 rfl tk3 rfl (Qa rfl rfl)) (VO.mv ?_)))))))))
   refine VO.z (.add rfl rfl rfl ⟨bd,bd⟩) ?_
   refine VO.z (.nilp rfl) (VO.z (.fa rfl Yb rfl) ?_)
   refine VO.store (k:=1) (c':=[.slice A0_0 (d0.1.length) (c0_0),.int .i64 (d0.2.1+d1),.bool d0.2.2]) 1 rfl rfl (.inr ⟨tk3,rfl⟩) rfl rfl rfl rfl rfl ?_
   refine VO.k5 0 1 4 5 23 (VC.rs (VO.mv (VO.as (VO.p3 105 0 1 (VO.k5 0 1 4 5 23 (VC.ret ?_))))))
   refine Yd 4 [105,1] fun hS_=>?_
   dsimp only [QE]
   have hm0_1:((QC d0.1 d1 d0.2).2.1:Int)=d0.2.1+d1:=by first | rfl | (exact ZB)
   have hm0_2:((QC d0.1 d1 d0.2).2.2:Bool)=d0.2.2:=by first | rfl | (exact ZB)
   refine ⟨.slice A4 (((d0.1.take ((d0.2.1+d1).toNat)).drop ((d0.2.1).toNat)).length) (c4),Zc [m4],?_,?_,?_,?_⟩
   rotate_left
   · (first | exact QA.grp (ls:=[[m4],[QM g0 (.cells [Value.slice A0_0 (d0.1.length) (c0_0),Value.int .i64 (d0.2.1+d1),Value.bool d0.2.2].toArray E0 (0,0))]]) hS_ | (rw [hm0_1,hm0_2];exact QA.grpM (ls:=[[m4],[QM g0 (.cells [Value.slice A0_0 (d0.1.length) (c0_0),Value.int .i64 (d0.2.1+d1),Value.bool d0.2.2].toArray E0 (0,0))]]) hS_ (by simp only [List.map,JX])) | exact QA.grpM (ls:=[[m4],[QM g0 (.cells [Value.slice A0_0 (d0.1.length) (c0_0),Value.int .i64 (d0.2.1+d1),Value.bool d0.2.2].toArray E0 (0,0))]]) hS_ (by simp only [List.map,JX]))
   · exact Ow.cg (Ow.up (QH.ow ho4 rfl) ((QA.self hS_ (List.Sublist.cons_cons _ (List.Sublist.cons _ List.Sublist.slnil))).1 _ (.head _))) (by first | rfl | exact ZB)
   · rw [hm0_1];exact (show inK .i64 _ by simp only [inK];(first | exact bd))
   all_goals (first | rfl | (simp [*];done))
set_option maxHeartbeats 1000000 in
theorem bOp_ok (W:World) {g0:Nat} {E0:TypeId} {d0:Qbe} {b0_0:Value} (hm:mle (QM g0 (.cells [(b0_0:Value),.int .i64 d0.2.1,.bool d0.2.2].toArray E0 (0,0))) (wm W)) (h0_0:Rd (.sl .byte) (J4 (wm W) (QM g0 (.cells [(b0_0:Value),.int .i64 d0.2.1,.bool d0.2.2].toArray E0 (0,0)))) [b0_0] d0.1) (h0_1:inK .i64 d0.2.1) (d1:List UInt8) (h1:d1.length≤maxLen) (e0:rOk d0.1 d0.2) (e1:d1.length≤1000000):Qi Tryz.prog 138 [.pointer (some ⟨g0,0,none⟩),str d1] W (QM g0 (.cells [(b0_0:Value),.int .i64 d0.2.1,.bool d0.2.2].toArray E0 (0,0))) (fun v m'=>∃ (s0:List Value),v= .agg s0.toArray∧Ow TOp m' s0 ((rOp d0.1 d1 d0.2).1)∧m'=QM g0 (.cells [(b0_0:Value),.int .i64 ((rOp d0.1 d1 d0.2).2.1),.bool ((rOp d0.1 d1 d0.2).2.2)].toArray E0 (0,0))∧inK .i64 ((rOp d0.1 d1 d0.2).2.1)):=by
 have e0_:=e0;obtain ⟨e0a,e0b⟩:=e0_
 obtain ⟨A0_0,c0_0,rfl,l0_0,k0_0⟩:=h0_0.slc
 have h0_1':=h0_1;simp only [inK] at h0_1'
 have h1':=h1;simp only [maxLen] at h1'
 refine Qi.ofB (n:=43) hm Tryz.func138 rfl rfl rfl ?_
 refine VC.rs ?_
 refine VO.alloc 102 rfl QcS (fun g1=>?_)
 refine VO.k3 0 1 4 (VC.rs (VO.mv ?_))
 refine VO.call 1 rfl QhF rfl rfl (fun W hW=>QhX W (d0:=d0) (hW.t 1) (Rd.mono h0_0 (hW.o 1 0)) bdk 1 bdk Z2) (fun v3 m3 hv3=>?_)
 obtain ⟨rfl,rfl,w3_0_1⟩:=hv3
 have hfa4:=(Q5 (B:=d0.1) (m:=1) (s:=d0.2) Z2 Qn).1
 have hfa5:=(Q5 (B:=d0.1) (m:=1) (s:=d0.2) Z2 Qn).1.1
 have hfa6:=(Q5 (B:=d0.1) (m:=1) (s:=d0.2) Z2 Qn).1.2
 have hfa7:=(Q5 (B:=d0.1) (m:=1) (s:=d0.2) Z2 Qn).2
 simp only [inK] at w3_0_1
 refine VO.z (.eql rfl rfl) ?_
 refine VO.z (.bst (cs:=[.bool (decide (((Qb d0.1 1 d0.2).1)=1)),str ([]),str ([])]) rfl Zy QcS rfl) ?_
 refine VO.alloc 109 rfl QcS (fun g8=>?_)
 refine VO.store (k:=3) (c':=[.bool (decide (((Qb d0.1 1 d0.2).1)=1)),str ([]),str ([])]) 109 rfl rfl (.inl Qc5) rfl rfl rfl rfl rfl ?_
 refine VO.k4 0 1 4 5 (VC.rs (VO.mv (VO.mv ?_)))
 refine VO.z (.lenT rfl Tryz.underlying9) ?_
 refine VO.call 1 rfl QhF rfl rfl (fun W hW=>QhX W (d0:=(d0.1,(Qb d0.1 1 d0.2).2)) (hW.t 1) (Rd.mono h0_0 (hW.o 1 0)) bdk ((d1.length:Nat):Int) bdk Z2) (fun v10 m10 hv10=>?_)
 try dsimp only at hv10
 obtain ⟨rfl,rfl,w10_0_1⟩:=hv10
 have hfa11:=(Q5 (B:=d0.1) (m:=((d1.length:Nat):Int)) (s:=((Qb d0.1 1 d0.2).2)) Z2 Qn).1
 have hfa12:=(Q5 (B:=d0.1) (m:=((d1.length:Nat):Int)) (s:=((Qb d0.1 1 d0.2).2)) Z2 Qn).1.1
 have hfa13:=(Q5 (B:=d0.1) (m:=((d1.length:Nat):Int)) (s:=((Qb d0.1 1 d0.2).2)) Z2 Qn).1.2
 have hfa14:=(Q5 (B:=d0.1) (m:=((d1.length:Nat):Int)) (s:=((Qb d0.1 1 d0.2).2)) Z2 Qn).2
 simp only [inK] at w10_0_1
 refine VO.as (VO.p4 1 109 102 0 (VO.k5 0 1 4 5 6 (VC.seq ?_)))
 refine VC.regD _ 5 [(0,true),(1,true),(2,true),(3,true),(4,false)] follows (by kernel_rfl) (fun _ h=>h.sub [109,102,0]) ?_
 refine VD.z rfl (.mv rfl) (VD.z rfl (.mv rfl) ?_)
 refine VD.z rfl (.slTHI (((Qb d0.1 ((d1.length:Nat):Int) ((Qb d0.1 1 d0.2).2)).1).toNat) rfl rfl Tryz.underlying9 bd bd) ?_
 refine VD.z rfl (.mv rfl) ?_
 refine VD.call 1 rfl rfl (.inl rfl) QjV rfl rfl (fun _ _ h=>h.sub [109,102,0]) (fun W hW=>QhW W (d0:=(d0.1,(Qb d0.1 ((d1.length:Nat):Int) ((Qb d0.1 1 d0.2).2)).2)) (hW.t 1) (Rd.mono h0_0 (hW.o 1 0)) bdk 16 bdk Z2 bd) (fun v15 m15 hv15=>?_)
 try dsimp only at hv15
 obtain ⟨rfl,rfl,w15_0_1⟩:=hv15
 have hfa16:=(Yi (B:=d0.1) (m:=16) (s:=((Qb d0.1 ((d1.length:Nat):Int) ((Qb d0.1 1 d0.2).2)).2)) Z2 Qn Qn).1
 have hfa17:=(Yi (B:=d0.1) (m:=16) (s:=((Qb d0.1 ((d1.length:Nat):Int) ((Qb d0.1 1 d0.2).2)).2)) Z2 Qn Qn).1.1
 have hfa18:=(Yi (B:=d0.1) (m:=16) (s:=((Qb d0.1 ((d1.length:Nat):Int) ((Qb d0.1 1 d0.2).2)).2)) Z2 Qn Qn).1.2
 have hfa19:=(Yi (B:=d0.1) (m:=16) (s:=((Qb d0.1 ((d1.length:Nat):Int) ((Qb d0.1 1 d0.2).2)).2)) Z2 Qn Qn).2
 simp only [inK] at w15_0_1
 refine VD.nil rfl ?_ rfl
 refine VO.z (.scat rfl rfl bd) ?_
 refine VO.z (.fa rfl Zy rfl) ?_
 refine VO.store (k:=1) (c':=[.bool (decide (((Qb d0.1 1 d0.2).1)=1)),str ((d1.take (((Qb d0.1 ((d1.length:Nat):Int) ((Qb d0.1 1 d0.2).2)).1).toNat))++((QX d0.1 16 ((Qb d0.1 ((d1.length:Nat):Int) ((Qb d0.1 1 d0.2).2)).2)).1)),str ([])]) 109 rfl rfl (.inr ⟨tk9,rfl⟩) rfl rfl rfl rfl rfl ?_
 refine VO.k5 0 1 4 5 6 (Qm (VC.rs (VO.mv (VO.mv (VO.z (.nilp rfl) (VO.z (.fa rfl YW rfl) (VO.z (.ld1 1 rfl tk4 rfl (Qa rfl rfl)) (VO.mv ?_))))))))
 refine VO.decB (t:=27) rfl (fun hc20=>?_) (fun hc20=>?_)
 refine VO.gN (VO.gN (VO.gN (VO.gN (VO.gN (VO.gN (VO.z (.pT rfl rfl) (VO.z (.nilp rfl) (VO.z (.fa rfl YW rfl) ?_))))))))
 refine VO.store (k:=1) (c':=[.slice A0_0 (d0.1.length) (c0_0),.int .i64 ((QX d0.1 16 ((Qb d0.1 ((d1.length:Nat):Int) ((Qb d0.1 1 d0.2).2)).2)).2.1),.bool true]) 1 rfl rfl (.inr ⟨tk4,rfl⟩) rfl rfl rfl rfl rfl ?_
 refine VO.k5 0 1 4 5 6 (VC.seq (VC.rs (VO.z (.fa rfl Zy rfl) (VO.z (.ld1 109 rfl tk4 rfl (Qa rfl rfl)) (VO.p4 1 109 102 0 (VO.k6 0 1 4 5 6 38 ?_))))))
 refine VC.cond rfl (fun hc21=>?_) (fun hc21=>?_)
 · refine VC.reg ?_
   refine VO.mv ?_
   refine VO.call 1 rfl QjV rfl rfl (fun W hW=>QhW W (d0:=(d0.1,(QX d0.1 16 ((Qb d0.1 ((d1.length:Nat):Int) ((Qb d0.1 1 d0.2).2)).2)).2.1,true)) (hW.t 1) (Rd.mono h0_0 (hW.o 1 0)) bdk 32 bdk Z2 bd) (fun v22 m22 hv22=>?_)
   try dsimp only at hv22
   obtain ⟨rfl,rfl,w22_0_1⟩:=hv22
   have hfa23:=(Yi (B:=d0.1) (m:=32) (s:=((QX d0.1 16 ((Qb d0.1 ((d1.length:Nat):Int) ((Qb d0.1 1 d0.2).2)).2)).2.1,true)) Z2 Qn Qn).1
   have hfa24:=(Yi (B:=d0.1) (m:=32) (s:=((QX d0.1 16 ((Qb d0.1 ((d1.length:Nat):Int) ((Qb d0.1 1 d0.2).2)).2)).2.1,true)) Z2 Qn Qn).1.1
   have hfa25:=(Yi (B:=d0.1) (m:=32) (s:=((QX d0.1 16 ((Qb d0.1 ((d1.length:Nat):Int) ((Qb d0.1 1 d0.2).2)).2)).2.1,true)) Z2 Qn Qn).1.2
   have hfa26:=(Yi (B:=d0.1) (m:=32) (s:=((QX d0.1 16 ((Qb d0.1 ((d1.length:Nat):Int) ((Qb d0.1 1 d0.2).2)).2)).2.1,true)) Z2 Qn Qn).2
   simp only [inK] at w22_0_1
   refine VO.z (.fa rfl Zy rfl) ?_
   refine VO.store (k:=1) (c':=[.bool (decide (((Qb d0.1 1 d0.2).1)=1)),str ((d1.take (((Qb d0.1 ((d1.length:Nat):Int) ((Qb d0.1 1 d0.2).2)).1).toNat))++((QX d0.1 16 ((Qb d0.1 ((d1.length:Nat):Int) ((Qb d0.1 1 d0.2).2)).2)).1)),str ((QX d0.1 32 ((QX d0.1 16 ((Qb d0.1 ((d1.length:Nat):Int) ((Qb d0.1 1 d0.2).2)).2)).2.1,true)).1)]) 109 rfl rfl (.inr ⟨tk9,rfl⟩) rfl rfl rfl rfl rfl ?_
   refine VO.k6 0 1 4 5 6 38 (Qm (VC.rs (VO.z (.ldA 109 rfl Qc5 rfl (Qa rfl rfl)) ?_)))
   refine VO.store (k:=3) (c':=[.bool (decide (((Qb d0.1 1 d0.2).1)=1)),str ((d1.take (((Qb d0.1 ((d1.length:Nat):Int) ((Qb d0.1 1 d0.2).2)).1).toNat))++((QX d0.1 16 ((Qb d0.1 ((d1.length:Nat):Int) ((Qb d0.1 1 d0.2).2)).2)).1)),str ((QX d0.1 32 ((QX d0.1 16 ((Qb d0.1 ((d1.length:Nat):Int) ((Qb d0.1 1 d0.2).2)).2)).2.1,true)).1)]) 102 rfl rfl (.inl Qc5) rfl rfl rfl rfl rfl ?_
   refine VO.k6 0 1 4 5 6 38 (VC.ret ?_)
   refine ⟨_,_,Jr (rs:=[.cell 4 71]) rfl (.agg 102 rfl Qc5 rfl ⟨_,_,_,QJ _ _,Nat.le_of_ble_eq_true rfl,rfl⟩ .nil),fun W_ hI=>JZ (l:=[QM g0 (.cells #[.slice A0_0 (d0.1.length) (c0_0),.int .i64 ((QX d0.1 32 ((QX d0.1 16 ((Qb d0.1 ((d1.length:Nat):Int) ((Qb d0.1 1 d0.2).2)).2)).2.1,true)).2.1),.bool ((QX d0.1 32 ((QX d0.1 16 ((Qb d0.1 ((d1.length:Nat):Int) ((Qb d0.1 1 d0.2).2)).2)).2.1,true)).2.2)] E0 (0,0))]) hI [1] rfl rfl (Qc _) (fun hS_=>?_)⟩
   dsimp only [QE]
   have he0:((rOp d0.1 d1 d0.2).1:Ty.Den TOp)=(decide (((Qb d0.1 1 d0.2).1)=1),(d1.take (((Qb d0.1 ((d1.length:Nat):Int) ((Qb d0.1 1 d0.2).2)).1).toNat))++((QX d0.1 16 ((Qb d0.1 ((d1.length:Nat):Int) ((Qb d0.1 1 d0.2).2)).2)).1),(QX d0.1 32 ((QX d0.1 16 ((Qb d0.1 ((d1.length:Nat):Int) ((Qb d0.1 1 d0.2).2)).2)).2.1,true)).1):=by first | rfl | (unfold rOp;simp [*])
   have hm0_1:((rOp d0.1 d1 d0.2).2.1:Int)=(QX d0.1 32 ((QX d0.1 16 ((Qb d0.1 ((d1.length:Nat):Int) ((Qb d0.1 1 d0.2).2)).2)).2.1,true)).2.1:=by first | rfl | (unfold rOp;simp [*])
   have hm0_2:((rOp d0.1 d1 d0.2).2.2:Bool)=(QX d0.1 32 ((QX d0.1 16 ((Qb d0.1 ((d1.length:Nat):Int) ((Qb d0.1 1 d0.2).2)).2)).2.1,true)).2.2:=by first | rfl | (unfold rOp;simp [*])
   refine ⟨[.bool (decide (((Qb d0.1 1 d0.2).1)=1)),str ((d1.take (((Qb d0.1 ((d1.length:Nat):Int) ((Qb d0.1 1 d0.2).2)).1).toNat))++((QX d0.1 16 ((Qb d0.1 ((d1.length:Nat):Int) ((Qb d0.1 1 d0.2).2)).2)).1)),str ((QX d0.1 32 ((QX d0.1 16 ((Qb d0.1 ((d1.length:Nat):Int) ((Qb d0.1 1 d0.2).2)).2)).2.1,true)).1)],?_,?_,?_,?_⟩
   rotate_left
   · rw [he0];exact (Ow.of (m:=Qx) rfl (QdI (m:=_) (decide (((Qb d0.1 1 d0.2).1)=1)) ((d1.take (((Qb d0.1 ((d1.length:Nat):Int) ((Qb d0.1 1 d0.2).2)).1).toNat))++((QX d0.1 16 ((Qb d0.1 ((d1.length:Nat):Int) ((Qb d0.1 1 d0.2).2)).2)).1)) ((QX d0.1 32 ((QX d0.1 16 ((Qb d0.1 ((d1.length:Nat):Int) ((Qb d0.1 1 d0.2).2)).2)).2.1,true)).1) bdm bdm))
   · rw [hm0_1,hm0_2,JX]
   · rw [hm0_1];exact (show inK .i64 _ by simp only [inK];(first | exact bd))
   all_goals (first | rfl | (simp [*];done))
 · refine VC.skip (Qm (VC.rs (VO.z (.ldA 109 rfl Qc5 rfl (Qa rfl rfl)) ?_)))
   refine VO.store (k:=3) (c':=[.bool (decide (((Qb d0.1 1 d0.2).1)=1)),str ((d1.take (((Qb d0.1 ((d1.length:Nat):Int) ((Qb d0.1 1 d0.2).2)).1).toNat))++((QX d0.1 16 ((Qb d0.1 ((d1.length:Nat):Int) ((Qb d0.1 1 d0.2).2)).2)).1)),str ([])]) 102 rfl rfl (.inl Qc5) rfl rfl rfl rfl rfl ?_
   refine VO.k6 0 1 4 5 6 38 (VC.ret ?_)
   refine ⟨_,_,Jr (rs:=[.cell 4 71]) rfl (.agg 102 rfl Qc5 rfl ⟨_,_,_,QJ _ _,Nat.le_of_ble_eq_true rfl,rfl⟩ .nil),fun W_ hI=>JZ (l:=[QM g0 (.cells #[.slice A0_0 (d0.1.length) (c0_0),.int .i64 ((QX d0.1 16 ((Qb d0.1 ((d1.length:Nat):Int) ((Qb d0.1 1 d0.2).2)).2)).2.1),.bool true] E0 (0,0))]) hI [1] rfl rfl (Qc _) (fun hS_=>?_)⟩
   dsimp only [QE]
   have he0:((rOp d0.1 d1 d0.2).1:Ty.Den TOp)=(decide (((Qb d0.1 1 d0.2).1)=1),(d1.take (((Qb d0.1 ((d1.length:Nat):Int) ((Qb d0.1 1 d0.2).2)).1).toNat))++((QX d0.1 16 ((Qb d0.1 ((d1.length:Nat):Int) ((Qb d0.1 1 d0.2).2)).2)).1),[]):=by first | rfl | (unfold rOp;simp [*])
   have hm0_1:((rOp d0.1 d1 d0.2).2.1:Int)=(QX d0.1 16 ((Qb d0.1 ((d1.length:Nat):Int) ((Qb d0.1 1 d0.2).2)).2)).2.1:=by first | rfl | (unfold rOp;simp [*])
   have hm0_2:((rOp d0.1 d1 d0.2).2.2:Bool)=true:=by first | rfl | (unfold rOp;simp [*])
   refine ⟨[.bool (decide (((Qb d0.1 1 d0.2).1)=1)),str ((d1.take (((Qb d0.1 ((d1.length:Nat):Int) ((Qb d0.1 1 d0.2).2)).1).toNat))++((QX d0.1 16 ((Qb d0.1 ((d1.length:Nat):Int) ((Qb d0.1 1 d0.2).2)).2)).1)),str ([])],?_,?_,?_,?_⟩
   rotate_left
   · rw [he0];exact (Ow.of (m:=Qx) rfl (QdI (m:=_) (decide (((Qb d0.1 1 d0.2).1)=1)) ((d1.take (((Qb d0.1 ((d1.length:Nat):Int) ((Qb d0.1 1 d0.2).2)).1).toNat))++((QX d0.1 16 ((Qb d0.1 ((d1.length:Nat):Int) ((Qb d0.1 1 d0.2).2)).2)).1)) [] bdm bdm))
   · rw [hm0_1,hm0_2,JX]
   · rw [hm0_1];exact (show inK .i64 _ by simp only [inK];(first | exact bd))
   all_goals (first | rfl | (simp [*];done))
 refine VO.w (.mv rfl) (VO.w (.fa rfl Zy rfl) (VO.w (.ld1 109 rfl tk9 rfl (Qa rfl rfl)) ?_))
 refine VO.gcallN 127 rfl ⟨_,rfl,rfl⟩ QnA rfl (fun W hW=>Qil W d1 bdm ((d1.take (((Qb d0.1 ((d1.length:Nat):Int) ((Qb d0.1 1 d0.2).2)).1).toNat))++((QX d0.1 16 ((Qb d0.1 ((d1.length:Nat):Int) ((Qb d0.1 1 d0.2).2)).2)).1)) bdm) (fun v27 m27 hv27=>?_)
 subst hv27
 have hfa28:=XM d1 ((d1.take (((Qb d0.1 ((d1.length:Nat):Int) ((Qb d0.1 1 d0.2).2)).1).toNat))++((QX d0.1 16 ((Qb d0.1 ((d1.length:Nat):Int) ((Qb d0.1 1 d0.2).2)).2)).1))
 refine VO.w (.mv rfl) (VO.w (.neq rfl rfl) (VO.z (.pF rfl rfl) (VO.z (.nilp rfl) (VO.z (.fa rfl YW rfl) ?_))))
 refine VO.store (k:=1) (c':=[.slice A0_0 (d0.1.length) (c0_0),.int .i64 ((QX d0.1 16 ((Qb d0.1 ((d1.length:Nat):Int) ((Qb d0.1 1 d0.2).2)).2)).2.1),.bool (decide (¬ ((QI d1 ((d1.take (((Qb d0.1 ((d1.length:Nat):Int) ((Qb d0.1 1 d0.2).2)).1).toNat))++((QX d0.1 16 ((Qb d0.1 ((d1.length:Nat):Int) ((Qb d0.1 1 d0.2).2)).2)).1)):Nat):Int)=((Qb d0.1 ((d1.length:Nat):Int) ((Qb d0.1 1 d0.2).2)).1)))]) 1 rfl rfl (.inr ⟨tk4,rfl⟩) rfl rfl rfl rfl rfl ?_
 refine VO.k5 0 1 4 5 6 (VC.seq (VC.rs (VO.z (.fa rfl Zy rfl) (VO.z (.ld1 109 rfl tk4 rfl (Qa rfl rfl)) (VO.p4 1 109 102 0 (VO.k6 0 1 4 5 6 38 ?_))))))
 refine VC.cond rfl (fun hc29=>?_) (fun hc29=>?_)
 · refine VC.reg ?_
   refine VO.mv ?_
   refine VO.call 1 rfl QjV rfl rfl (fun W hW=>QhW W (d0:=(d0.1,(QX d0.1 16 ((Qb d0.1 ((d1.length:Nat):Int) ((Qb d0.1 1 d0.2).2)).2)).2.1,decide (¬ ((QI d1 ((d1.take (((Qb d0.1 ((d1.length:Nat):Int) ((Qb d0.1 1 d0.2).2)).1).toNat))++((QX d0.1 16 ((Qb d0.1 ((d1.length:Nat):Int) ((Qb d0.1 1 d0.2).2)).2)).1)):Nat):Int)=((Qb d0.1 ((d1.length:Nat):Int) ((Qb d0.1 1 d0.2).2)).1)))) (hW.t 1) (Rd.mono h0_0 (hW.o 1 0)) bdk 32 bdk Z2 bd) (fun v30 m30 hv30=>?_)
   try dsimp only at hv30
   obtain ⟨rfl,rfl,w30_0_1⟩:=hv30
   have hfa31:=(Yi (B:=d0.1) (m:=32) (s:=((QX d0.1 16 ((Qb d0.1 ((d1.length:Nat):Int) ((Qb d0.1 1 d0.2).2)).2)).2.1,decide (¬ ((QI d1 ((d1.take (((Qb d0.1 ((d1.length:Nat):Int) ((Qb d0.1 1 d0.2).2)).1).toNat))++((QX d0.1 16 ((Qb d0.1 ((d1.length:Nat):Int) ((Qb d0.1 1 d0.2).2)).2)).1)):Nat):Int)=((Qb d0.1 ((d1.length:Nat):Int) ((Qb d0.1 1 d0.2).2)).1)))) Z2 Qn Qn).1
   have hfa32:=(Yi (B:=d0.1) (m:=32) (s:=((QX d0.1 16 ((Qb d0.1 ((d1.length:Nat):Int) ((Qb d0.1 1 d0.2).2)).2)).2.1,decide (¬ ((QI d1 ((d1.take (((Qb d0.1 ((d1.length:Nat):Int) ((Qb d0.1 1 d0.2).2)).1).toNat))++((QX d0.1 16 ((Qb d0.1 ((d1.length:Nat):Int) ((Qb d0.1 1 d0.2).2)).2)).1)):Nat):Int)=((Qb d0.1 ((d1.length:Nat):Int) ((Qb d0.1 1 d0.2).2)).1)))) Z2 Qn Qn).1.1
   have hfa33:=(Yi (B:=d0.1) (m:=32) (s:=((QX d0.1 16 ((Qb d0.1 ((d1.length:Nat):Int) ((Qb d0.1 1 d0.2).2)).2)).2.1,decide (¬ ((QI d1 ((d1.take (((Qb d0.1 ((d1.length:Nat):Int) ((Qb d0.1 1 d0.2).2)).1).toNat))++((QX d0.1 16 ((Qb d0.1 ((d1.length:Nat):Int) ((Qb d0.1 1 d0.2).2)).2)).1)):Nat):Int)=((Qb d0.1 ((d1.length:Nat):Int) ((Qb d0.1 1 d0.2).2)).1)))) Z2 Qn Qn).1.2
   have hfa34:=(Yi (B:=d0.1) (m:=32) (s:=((QX d0.1 16 ((Qb d0.1 ((d1.length:Nat):Int) ((Qb d0.1 1 d0.2).2)).2)).2.1,decide (¬ ((QI d1 ((d1.take (((Qb d0.1 ((d1.length:Nat):Int) ((Qb d0.1 1 d0.2).2)).1).toNat))++((QX d0.1 16 ((Qb d0.1 ((d1.length:Nat):Int) ((Qb d0.1 1 d0.2).2)).2)).1)):Nat):Int)=((Qb d0.1 ((d1.length:Nat):Int) ((Qb d0.1 1 d0.2).2)).1)))) Z2 Qn Qn).2
   simp only [inK] at w30_0_1
   refine VO.z (.fa rfl Zy rfl) ?_
   refine VO.store (k:=1) (c':=[.bool (decide (((Qb d0.1 1 d0.2).1)=1)),str ((d1.take (((Qb d0.1 ((d1.length:Nat):Int) ((Qb d0.1 1 d0.2).2)).1).toNat))++((QX d0.1 16 ((Qb d0.1 ((d1.length:Nat):Int) ((Qb d0.1 1 d0.2).2)).2)).1)),str ((QX d0.1 32 ((QX d0.1 16 ((Qb d0.1 ((d1.length:Nat):Int) ((Qb d0.1 1 d0.2).2)).2)).2.1,decide (¬ ((QI d1 ((d1.take (((Qb d0.1 ((d1.length:Nat):Int) ((Qb d0.1 1 d0.2).2)).1).toNat))++((QX d0.1 16 ((Qb d0.1 ((d1.length:Nat):Int) ((Qb d0.1 1 d0.2).2)).2)).1)):Nat):Int)=((Qb d0.1 ((d1.length:Nat):Int) ((Qb d0.1 1 d0.2).2)).1)))).1)]) 109 rfl rfl (.inr ⟨tk9,rfl⟩) rfl rfl rfl rfl rfl ?_
   refine VO.k6 0 1 4 5 6 38 (Qm (VC.rs (VO.z (.ldA 109 rfl Qc5 rfl (Qa rfl rfl)) ?_)))
   refine VO.store (k:=3) (c':=[.bool (decide (((Qb d0.1 1 d0.2).1)=1)),str ((d1.take (((Qb d0.1 ((d1.length:Nat):Int) ((Qb d0.1 1 d0.2).2)).1).toNat))++((QX d0.1 16 ((Qb d0.1 ((d1.length:Nat):Int) ((Qb d0.1 1 d0.2).2)).2)).1)),str ((QX d0.1 32 ((QX d0.1 16 ((Qb d0.1 ((d1.length:Nat):Int) ((Qb d0.1 1 d0.2).2)).2)).2.1,decide (¬ ((QI d1 ((d1.take (((Qb d0.1 ((d1.length:Nat):Int) ((Qb d0.1 1 d0.2).2)).1).toNat))++((QX d0.1 16 ((Qb d0.1 ((d1.length:Nat):Int) ((Qb d0.1 1 d0.2).2)).2)).1)):Nat):Int)=((Qb d0.1 ((d1.length:Nat):Int) ((Qb d0.1 1 d0.2).2)).1)))).1)]) 102 rfl rfl (.inl Qc5) rfl rfl rfl rfl rfl ?_
   refine VO.k6 0 1 4 5 6 38 (VC.ret ?_)
   refine ⟨_,_,Jr (rs:=[.cell 4 71]) rfl (.agg 102 rfl Qc5 rfl ⟨_,_,_,QJ _ _,Nat.le_of_ble_eq_true rfl,rfl⟩ .nil),fun W_ hI=>JZ (l:=[QM g0 (.cells #[.slice A0_0 (d0.1.length) (c0_0),.int .i64 ((QX d0.1 32 ((QX d0.1 16 ((Qb d0.1 ((d1.length:Nat):Int) ((Qb d0.1 1 d0.2).2)).2)).2.1,decide (¬ ((QI d1 ((d1.take (((Qb d0.1 ((d1.length:Nat):Int) ((Qb d0.1 1 d0.2).2)).1).toNat))++((QX d0.1 16 ((Qb d0.1 ((d1.length:Nat):Int) ((Qb d0.1 1 d0.2).2)).2)).1)):Nat):Int)=((Qb d0.1 ((d1.length:Nat):Int) ((Qb d0.1 1 d0.2).2)).1)))).2.1),.bool ((QX d0.1 32 ((QX d0.1 16 ((Qb d0.1 ((d1.length:Nat):Int) ((Qb d0.1 1 d0.2).2)).2)).2.1,decide (¬ ((QI d1 ((d1.take (((Qb d0.1 ((d1.length:Nat):Int) ((Qb d0.1 1 d0.2).2)).1).toNat))++((QX d0.1 16 ((Qb d0.1 ((d1.length:Nat):Int) ((Qb d0.1 1 d0.2).2)).2)).1)):Nat):Int)=((Qb d0.1 ((d1.length:Nat):Int) ((Qb d0.1 1 d0.2).2)).1)))).2.2)] E0 (0,0))]) hI [1] rfl rfl (Qc _) (fun hS_=>?_)⟩
   dsimp only [QE]
   have he0:((rOp d0.1 d1 d0.2).1:Ty.Den TOp)=(decide (((Qb d0.1 1 d0.2).1)=1),(d1.take (((Qb d0.1 ((d1.length:Nat):Int) ((Qb d0.1 1 d0.2).2)).1).toNat))++((QX d0.1 16 ((Qb d0.1 ((d1.length:Nat):Int) ((Qb d0.1 1 d0.2).2)).2)).1),(QX d0.1 32 ((QX d0.1 16 ((Qb d0.1 ((d1.length:Nat):Int) ((Qb d0.1 1 d0.2).2)).2)).2.1,decide (¬ ((QI d1 ((d1.take (((Qb d0.1 ((d1.length:Nat):Int) ((Qb d0.1 1 d0.2).2)).1).toNat))++((QX d0.1 16 ((Qb d0.1 ((d1.length:Nat):Int) ((Qb d0.1 1 d0.2).2)).2)).1)):Nat):Int)=((Qb d0.1 ((d1.length:Nat):Int) ((Qb d0.1 1 d0.2).2)).1)))).1):=by first | rfl | (unfold rOp;simp [*])
   have hm0_1:((rOp d0.1 d1 d0.2).2.1:Int)=(QX d0.1 32 ((QX d0.1 16 ((Qb d0.1 ((d1.length:Nat):Int) ((Qb d0.1 1 d0.2).2)).2)).2.1,decide (¬ ((QI d1 ((d1.take (((Qb d0.1 ((d1.length:Nat):Int) ((Qb d0.1 1 d0.2).2)).1).toNat))++((QX d0.1 16 ((Qb d0.1 ((d1.length:Nat):Int) ((Qb d0.1 1 d0.2).2)).2)).1)):Nat):Int)=((Qb d0.1 ((d1.length:Nat):Int) ((Qb d0.1 1 d0.2).2)).1)))).2.1:=by first | rfl | (unfold rOp;simp [*])
   have hm0_2:((rOp d0.1 d1 d0.2).2.2:Bool)=(QX d0.1 32 ((QX d0.1 16 ((Qb d0.1 ((d1.length:Nat):Int) ((Qb d0.1 1 d0.2).2)).2)).2.1,decide (¬ ((QI d1 ((d1.take (((Qb d0.1 ((d1.length:Nat):Int) ((Qb d0.1 1 d0.2).2)).1).toNat))++((QX d0.1 16 ((Qb d0.1 ((d1.length:Nat):Int) ((Qb d0.1 1 d0.2).2)).2)).1)):Nat):Int)=((Qb d0.1 ((d1.length:Nat):Int) ((Qb d0.1 1 d0.2).2)).1)))).2.2:=by first | rfl | (unfold rOp;simp [*])
   refine ⟨[.bool (decide (((Qb d0.1 1 d0.2).1)=1)),str ((d1.take (((Qb d0.1 ((d1.length:Nat):Int) ((Qb d0.1 1 d0.2).2)).1).toNat))++((QX d0.1 16 ((Qb d0.1 ((d1.length:Nat):Int) ((Qb d0.1 1 d0.2).2)).2)).1)),str ((QX d0.1 32 ((QX d0.1 16 ((Qb d0.1 ((d1.length:Nat):Int) ((Qb d0.1 1 d0.2).2)).2)).2.1,decide (¬ ((QI d1 ((d1.take (((Qb d0.1 ((d1.length:Nat):Int) ((Qb d0.1 1 d0.2).2)).1).toNat))++((QX d0.1 16 ((Qb d0.1 ((d1.length:Nat):Int) ((Qb d0.1 1 d0.2).2)).2)).1)):Nat):Int)=((Qb d0.1 ((d1.length:Nat):Int) ((Qb d0.1 1 d0.2).2)).1)))).1)],?_,?_,?_,?_⟩
   rotate_left
   · rw [he0];exact (Ow.of (m:=Qx) rfl (QdI (m:=_) (decide (((Qb d0.1 1 d0.2).1)=1)) ((d1.take (((Qb d0.1 ((d1.length:Nat):Int) ((Qb d0.1 1 d0.2).2)).1).toNat))++((QX d0.1 16 ((Qb d0.1 ((d1.length:Nat):Int) ((Qb d0.1 1 d0.2).2)).2)).1)) ((QX d0.1 32 ((QX d0.1 16 ((Qb d0.1 ((d1.length:Nat):Int) ((Qb d0.1 1 d0.2).2)).2)).2.1,decide (¬ ((QI d1 ((d1.take (((Qb d0.1 ((d1.length:Nat):Int) ((Qb d0.1 1 d0.2).2)).1).toNat))++((QX d0.1 16 ((Qb d0.1 ((d1.length:Nat):Int) ((Qb d0.1 1 d0.2).2)).2)).1)):Nat):Int)=((Qb d0.1 ((d1.length:Nat):Int) ((Qb d0.1 1 d0.2).2)).1)))).1) bdm bdm))
   · rw [hm0_1,hm0_2,JX]
   · rw [hm0_1];exact (show inK .i64 _ by simp only [inK];(first | exact bd))
   all_goals (first | rfl | (simp [*];done))
 · refine VC.skip (Qm (VC.rs (VO.z (.ldA 109 rfl Qc5 rfl (Qa rfl rfl)) ?_)))
   refine VO.store (k:=3) (c':=[.bool (decide (((Qb d0.1 1 d0.2).1)=1)),str ((d1.take (((Qb d0.1 ((d1.length:Nat):Int) ((Qb d0.1 1 d0.2).2)).1).toNat))++((QX d0.1 16 ((Qb d0.1 ((d1.length:Nat):Int) ((Qb d0.1 1 d0.2).2)).2)).1)),str ([])]) 102 rfl rfl (.inl Qc5) rfl rfl rfl rfl rfl ?_
   refine VO.k6 0 1 4 5 6 38 (VC.ret ?_)
   refine ⟨_,_,Jr (rs:=[.cell 4 71]) rfl (.agg 102 rfl Qc5 rfl ⟨_,_,_,QJ _ _,Nat.le_of_ble_eq_true rfl,rfl⟩ .nil),fun W_ hI=>JZ (l:=[QM g0 (.cells #[.slice A0_0 (d0.1.length) (c0_0),.int .i64 ((QX d0.1 16 ((Qb d0.1 ((d1.length:Nat):Int) ((Qb d0.1 1 d0.2).2)).2)).2.1),.bool (decide (¬ ((QI d1 ((d1.take (((Qb d0.1 ((d1.length:Nat):Int) ((Qb d0.1 1 d0.2).2)).1).toNat))++((QX d0.1 16 ((Qb d0.1 ((d1.length:Nat):Int) ((Qb d0.1 1 d0.2).2)).2)).1)):Nat):Int)=((Qb d0.1 ((d1.length:Nat):Int) ((Qb d0.1 1 d0.2).2)).1)))] E0 (0,0))]) hI [1] rfl rfl (Qc _) (fun hS_=>?_)⟩
   dsimp only [QE]
   have he0:((rOp d0.1 d1 d0.2).1:Ty.Den TOp)=(decide (((Qb d0.1 1 d0.2).1)=1),(d1.take (((Qb d0.1 ((d1.length:Nat):Int) ((Qb d0.1 1 d0.2).2)).1).toNat))++((QX d0.1 16 ((Qb d0.1 ((d1.length:Nat):Int) ((Qb d0.1 1 d0.2).2)).2)).1),[]):=by first | rfl | (unfold rOp;simp [*])
   have hm0_1:((rOp d0.1 d1 d0.2).2.1:Int)=(QX d0.1 16 ((Qb d0.1 ((d1.length:Nat):Int) ((Qb d0.1 1 d0.2).2)).2)).2.1:=by first | rfl | (unfold rOp;simp [*])
   have hm0_2:((rOp d0.1 d1 d0.2).2.2:Bool)=decide (¬ ((QI d1 ((d1.take (((Qb d0.1 ((d1.length:Nat):Int) ((Qb d0.1 1 d0.2).2)).1).toNat))++((QX d0.1 16 ((Qb d0.1 ((d1.length:Nat):Int) ((Qb d0.1 1 d0.2).2)).2)).1)):Nat):Int)=((Qb d0.1 ((d1.length:Nat):Int) ((Qb d0.1 1 d0.2).2)).1)):=by first | rfl | (unfold rOp;simp [*])
   refine ⟨[.bool (decide (((Qb d0.1 1 d0.2).1)=1)),str ((d1.take (((Qb d0.1 ((d1.length:Nat):Int) ((Qb d0.1 1 d0.2).2)).1).toNat))++((QX d0.1 16 ((Qb d0.1 ((d1.length:Nat):Int) ((Qb d0.1 1 d0.2).2)).2)).1)),str ([])],?_,?_,?_,?_⟩
   rotate_left
   · rw [he0];exact (Ow.of (m:=Qx) rfl (QdI (m:=_) (decide (((Qb d0.1 1 d0.2).1)=1)) ((d1.take (((Qb d0.1 ((d1.length:Nat):Int) ((Qb d0.1 1 d0.2).2)).1).toNat))++((QX d0.1 16 ((Qb d0.1 ((d1.length:Nat):Int) ((Qb d0.1 1 d0.2).2)).2)).1)) [] bdm bdm))
   · rw [hm0_1,hm0_2,JX]
   · rw [hm0_1];exact (show inK .i64 _ by simp only [inK];(first | exact bd))
   all_goals (first | rfl | (simp [*];done))
theorem fnOk99:JR Tryz.prog 99=true:=by kernel_rfl
theorem QdY (W:World) {v0:Value} {d0:List Zj} (h0:Rd (.sl Zt) (wm W) [v0] d0) {v1:Value} {d1:List Zj} (h1:Rd (.sl Zt) (wm W) [v1] d1):Qi Tryz.prog 43 [v0,v1] W (Qx) (fun v m'=>v= .bool (decide (d0=d1))):=by
 obtain ⟨A0,c0,rfl,l0,k0⟩:=h0.slc
 obtain ⟨A1,c1,rfl,l1,k1⟩:=h1.slc
 refine Qi.ofA (n:=41) Tryz.func43 rfl rfl rfl ?_
 refine VC.rs (VO.as (VO.k3 0 1 4 (VC.seq (VC.rs (VO.mv (VO.z (.lenS rfl Qah) (VO.mv (VO.z (.lenS rfl Qah) (VO.z (.neq rfl rfl) (VO.k4 0 1 4 10 ?_))))))))))
 refine VC.cond rfl (fun hc1=>?_) (fun hc1=>?_)
 refine VC.rs (VO.as (VO.p1 0 (VO.k4 0 1 4 10 (VC.ret (QZ ?_)))))
 exact Xl 4 rfl (by first | rfl | (simp [QkV hc1]))
 refine VC.skip (Qm (VC.seq (VC.rs (VO.as (VO.p1 0 (VO.k5 0 1 4 5 10 (VC.block ?_)))))))
 refine VC.loop (G:=Nat) (fun k=>[(5,.int .i64 (((k:Nat):Int))),(0,.slice A0 (d0.length) (c0)),(1,.slice A1 (d1.length) (c1)),(10,.bool (decide (¬ ((d0.length:Nat):Int)=((d1.length:Nat):Int))))]) (fun k=>[(0,wm W)]) (fun k=>(k≤d0.length)∧(d0.take k=d1.take k)) (fun k=>d0.length - k) 0 (⟨by omega,by rfl⟩) ⟨esn,fun _ h=>h.sub [0]⟩ ?_
 rintro k ⟨hk,ht⟩
 refine VC.seq (VC.rs (VO.mv (VO.mv (VO.z (.lenS rfl Qah) (VO.z (.lss rfl rfl) (VO.k5 0 1 5 10 14 ?_))))))
 refine VC.cond rfl (fun hc2=>?_) (fun hc2=>?_)
 refine VC.skip (Qm (VC.seq (VC.block (VC.seq ?_))))
 refine VC.regD _ 22 [(0,true),(1,true),(2,true),(3,true),(4,true),(5,true),(6,true),(7,true),(8,true),(9,true),(10,true),(11,true),(12,true),(13,true),(14,true),(15,true),(16,true),(17,true),(18,true),(19,true),(20,true),(21,true)] follows (by kernel_rfl) (fun _ h=>h.sub [0]) ?_
 refine VD.z rfl (.mv rfl) (VD.z rfl (.mv rfl) ?_)
 obtain ⟨x3,hx3⟩:∃ z_,(d0)[k]? =some z_:=⟨_,List.getElem?_eq_getElem bd⟩
 obtain ⟨gg3,oo3,ec3,ea3,hce3,hre3⟩:=h0.elem hx3
 cases ea3
 obtain ⟨rfl,q3_0,q3_1⟩:=Qbx (x0:=x3.1) (x1:=x3.2) hre3
 simp only [inK] at q3_0 q3_1
 refine VD.z rfl (.ixI k rfl rfl Qah rfl bd) ?_
 refine VD.z rfl (.fa rfl QeU rfl) ?_
 refine VD.z rfl (.ld1 0 rfl tk3 rfl (hce3.at1 (j:=0) rfl)) ?_
 refine VD.z rfl (.mv rfl) (VD.z rfl (.mv rfl) ?_)
 obtain ⟨x4,hx4⟩:∃ z_,(d1)[k]? =some z_:=⟨_,List.getElem?_eq_getElem bd⟩
 obtain ⟨gg4,oo4,ec4,ea4,hce4,hre4⟩:=h1.elem hx4
 cases ea4
 obtain ⟨rfl,q4_0,q4_1⟩:=Qbx (x0:=x4.1) (x1:=x4.2) hre4
 simp only [inK] at q4_0 q4_1
 refine VD.z rfl (.ixI k rfl rfl Qah rfl bd) ?_
 refine VD.z rfl (.fa rfl QeU rfl) ?_
 refine VD.z rfl (.ld1 0 rfl tk3 rfl (hce4.at1 (j:=0) rfl)) ?_
 refine VD.z rfl (.neq rfl rfl) (VD.z rfl (.mv rfl) ?_)
 refine VD.dec (s:=28) rfl (fun hc5=>?_) (fun hc5=>?_)
 refine VD.gN rfl (VD.gN rfl (VD.gN rfl (VD.gN rfl (VD.gN rfl (VD.gN rfl (VD.gN rfl (VD.gN rfl (VD.gN rfl (VD.gN rfl ?_)))))))))
 refine VD.nil rfl ?_ rfl
 refine VO.gN (VO.z (.pT rfl rfl) (VO.k6 0 1 5 10 14 40 (Qm (VC.condT rfl (VC.rs (VO.as (VO.p1 0 (VO.k7 0 1 4 5 10 14 40 (VC.ret (JO (QZ ?_)))))))))))
 refine QZ (JO (QZ ?_))
 exact Xl 4 rfl (by first | rfl | (simp [QiQ ‹d0[k]? =some _› ‹d1[k]? =some _› (fun e=>by have e1:=congrArg Prod.fst e;have e2:=congrArg Prod.snd e;omega)]))
 refine VD.w rfl (.mv rfl) (VD.w rfl (.mv rfl) ?_)
 refine VD.w rfl (.ixI k rfl rfl Qah rfl bd) ?_
 refine VD.w rfl (.fa rfl QeU rfl) ?_
 refine VD.w rfl (.ld1 0 rfl tk3 rfl (hce3.at1 (j:=1) rfl)) ?_
 refine VD.w rfl (.mv rfl) (VD.w rfl (.mv rfl) ?_)
 refine VD.w rfl (.ixI k rfl rfl Qah rfl bd) ?_
 refine VD.w rfl (.fa rfl QeU rfl) ?_
 refine VD.w rfl (.ld1 0 rfl tk3 rfl (hce4.at1 (j:=1) rfl)) ?_
 refine VD.nil rfl ?_ rfl
 refine VO.w (.neq rfl rfl) (VO.z (.pF rfl rfl) (VO.k6 0 1 5 10 14 40 (Qm ?_)))
 refine VC.cond rfl (fun hc8=>?_) (fun hc8=>?_)
 refine VC.rs (VO.as (VO.p1 0 (VO.k7 0 1 4 5 10 14 40 (VC.ret (JO (QZ (QZ (JO (QZ ?_)))))))))
 exact Xl 4 rfl (by first | rfl | (simp [QiQ ‹d0[k]? =some _› ‹d1[k]? =some _› (fun e=>by have e1:=congrArg Prod.fst e;have e2:=congrArg Prod.snd e;omega)]))
 refine VC.skip (JL (Qm ?_))
 refine VC.reg ?_
 refine VO.mv ?_
 refine VO.z (.add (c:=((k+1:Nat):Int)) rfl rfl Qn ⟨bd,bd⟩) ?_
 refine VO.as (VO.p1 0 (VO.k6 0 1 5 10 14 40 ?_))
 exact Qm ⟨k+1,⟨by omega,by exact Qbs ht ‹d0[k]? =some _› ‹d1[k]? =some _› (Prod.ext Qn Qn)⟩,bd,⟨esn,fun _ h=>Inv.sub h [0]⟩⟩
 refine VC.exit (Zh (Zh (Zi (Qm (VC.rs (VO.as (VO.k6 0 1 4 5 10 14 (VC.ret ?_))))))))
 exact Xl 4 rfl (by first | rfl | (simp [Qe2 ht Qn Qn]))
theorem QhZ (W:World) {v0:List Value} {d0:Qe} (h0:Rd Ql (wm W) v0 d0) {v1:List Value} {d1:Qe} (h1:Rd Ql (wm W) v1 d1):Qi Tryz.prog 99 [.agg v0.toArray,.agg v1.toArray] W (Qx) (fun v m'=>v= .bool (decide (d0=d1))):=by
 obtain ⟨p0_A2,p0_c2,rfl,p0_0,p0_1,p0_2⟩:=Q4 (x0:=d0.1) (x1:=d0.2.1) (x2:=d0.2.2) h0
 simp only [inK] at p0_0 p0_1
 have p0_r2:=Rd.room p0_2
 obtain ⟨p1_A2,p1_c2,rfl,p1_0,p1_1,p1_2⟩:=Q4 (x0:=d1.1) (x1:=d1.2.1) (x2:=d1.2.2) h1
 simp only [inK] at p1_0 p1_1
 have p1_r2:=Rd.room p1_2
 refine Qi.ofA (n:=24) Tryz.func99 rfl rfl rfl ?_
 refine VC.rs ?_
 refine VO.box (cs:=[.int .i64 (d0.1),.int .i64 (d0.2.1),.slice p0_A2 (d0.2.2.length) (p0_c2)]) 102 rfl rfl rfl (fun g1=>?_)
 refine VO.box (cs:=[.int .i64 (d1.1),.int .i64 (d1.2.1),.slice p1_A2 (d1.2.2.length) (p1_c2)]) 104 rfl rfl rfl (fun g3=>?_)
 refine VO.as (VO.k5 0 1 2 3 4 (VC.rs (VO.z (.fa rfl Jq rfl) (VO.z (.ld1 102 rfl tk3 rfl (Qa rfl rfl)) (VO.z (.fa rfl Jq rfl) (VO.z (.ld1 104 rfl tk3 rfl (Qa rfl rfl)) (VO.z (.eql rfl rfl) (VO.mv ?_))))))))
 refine VO.dec (t:=10) rfl (fun hc5=>?_) (fun hc5=>?_)
 refine VO.w (.fa rfl Jq rfl) (VO.w (.ld1 102 rfl tk3 rfl (Qa rfl rfl)) (VO.w (.fa rfl Jq rfl) (VO.w (.ld1 104 rfl tk3 rfl (Qa rfl rfl)) (VO.w (.eql rfl rfl) (VO.z (.pT rfl rfl) (VO.mv ?_))))))
 refine VO.dec (t:=17) rfl (fun hc6=>?_) (fun hc6=>?_)
 refine VO.w (.fa rfl Jq rfl) (VO.w (.ld1 102 rfl Qc6 rfl (Qa rfl rfl)) (VO.w (.fa rfl Jq rfl) (VO.w (.ld1 104 rfl Qc6 rfl (Qa rfl rfl)) ?_)))
 refine VO.gcallN 107 rfl ⟨_,rfl,rfl⟩ Qj2 rfl (fun W hW=>QeA W (Rd.mono p0_2 (hW.t 0)) (Rd.mono p1_2 (hW.t 0))) (fun v7 m7 hv7=>?_)
 subst hv7
 refine VO.z (.pT rfl rfl) (VO.as (VO.k5 0 1 2 3 4 (VC.ret ?_)))
 exact Xl 4 rfl (by first | rfl | (first | exact congrArg Value.bool (decide_eq_false (fun e=>by subst e;exact absurd rfl ‹¬ _=_›)).symm | exact congrArg Value.bool (decide_eq_decide.2 ⟨fun h=>Qeu ‹_› ‹_› h,fun e=>by rw [e]⟩)))
 refine VO.gN (VO.gN (VO.gN (VO.gN (VO.gN (VO.z (.pF rfl rfl) (VO.as (VO.k5 0 1 2 3 4 (VC.ret ?_))))))))
 exact Xl 4 rfl (by first | rfl | (first | exact congrArg Value.bool (decide_eq_false (fun e=>by subst e;exact absurd rfl ‹¬ _=_›)).symm | exact congrArg Value.bool (decide_eq_decide.2 ⟨fun h=>Qeu ‹_› ‹_› h,fun e=>by rw [e]⟩)))
 refine VO.gN (VO.gN (VO.gN (VO.gN (VO.gN (VO.z (.pF rfl rfl) (VO.mv (VO.gN (VO.gN (VO.gN (VO.gN (VO.gN ?_)))))))))))
 refine VO.z (.pF rfl rfl) (VO.as (VO.k5 0 1 2 3 4 (VC.ret ?_)))
 exact Xl 4 rfl (by first | rfl | (first | exact congrArg Value.bool (decide_eq_false (fun e=>by subst e;exact absurd rfl ‹¬ _=_›)).symm | exact congrArg Value.bool (decide_eq_decide.2 ⟨fun h=>Qeu ‹_› ‹_› h,fun e=>by rw [e]⟩)))
theorem Qbo (W:World) {v0:Value} {d0:List Qe} (h0:Rd (.sl Ql) (wm W) [v0] d0) {v1:Value} {d1:List Qe} (h1:Rd (.sl Ql) (wm W) [v1] d1):Qi Tryz.prog 40 [v0,v1] W (Qx) (fun v m'=>v= .bool (decide (d0=d1))):=by
 obtain ⟨A0,c0,rfl,l0,k0⟩:=h0.slc
 obtain ⟨A1,c1,rfl,l1,k1⟩:=h1.slc
 refine Qi.ofA (n:=27) Tryz.func40 rfl rfl rfl ?_
 refine VC.rs (VO.as (VO.k3 0 1 4 (VC.seq (VC.rs (VO.mv (VO.z (.lenS rfl Jx) (VO.mv (VO.z (.lenS rfl Jx) (VO.z (.neq rfl rfl) (VO.k4 0 1 4 10 ?_))))))))))
 refine VC.cond rfl (fun hc1=>?_) (fun hc1=>?_)
 refine VC.rs (VO.as (VO.p1 0 (VO.k4 0 1 4 10 (VC.ret (QZ ?_)))))
 exact Xl 4 rfl (by first | rfl | (simp [QkV hc1]))
 refine VC.skip (Qm (VC.seq (VC.rs (VO.as (VO.p1 0 (VO.k5 0 1 4 5 10 (VC.block ?_)))))))
 refine VC.loop (G:=Nat) (fun k=>[(5,.int .i64 (((k:Nat):Int))),(0,.slice A0 (d0.length) (c0)),(1,.slice A1 (d1.length) (c1)),(10,.bool (decide (¬ ((d0.length:Nat):Int)=((d1.length:Nat):Int))))]) (fun k=>[(0,wm W)]) (fun k=>(k≤d0.length)∧(d0.take k=d1.take k)) (fun k=>d0.length - k) 0 (⟨by omega,by rfl⟩) ⟨esn,fun _ h=>h.sub [0]⟩ ?_
 rintro k ⟨hk,ht⟩
 refine VC.seq (VC.rs (VO.mv (VO.mv (VO.z (.lenS rfl Jx) (VO.z (.lss rfl rfl) (VO.k5 0 1 5 10 14 ?_))))))
 refine VC.cond rfl (fun hc2=>?_) (fun hc2=>?_)
 refine VC.skip (Qm (VC.seq (VC.block (VC.seq ?_))))
 refine VC.regD _ 8 [(0,true),(1,true),(2,true),(3,true),(4,true),(5,true),(6,true),(7,true)] follows (by kernel_rfl) (fun _ h=>h.sub [0]) ?_
 refine VD.z rfl (.mv rfl) (VD.z rfl (.mv rfl) ?_)
 obtain ⟨x3,hx3⟩:∃ z_,(d0)[k]? =some z_:=⟨_,List.getElem?_eq_getElem bd⟩
 obtain ⟨gg3,oo3,ec3,ea3,hce3,hre3⟩:=h0.elem hx3
 cases ea3
 obtain ⟨q3_A2,q3_c2,rfl,q3_0,q3_1,q3_2⟩:=Q4 (x0:=x3.1) (x1:=x3.2.1) (x2:=x3.2.2) hre3
 simp only [inK] at q3_0 q3_1
 have q3_r2:=Rd.room q3_2
 refine VD.z rfl (.ixI k rfl rfl Jx rfl bd) ?_
 refine VD.z rfl (.ldA 0 rfl Yv rfl hce3) ?_
 refine VD.z rfl (.mv rfl) (VD.z rfl (.mv rfl) ?_)
 obtain ⟨x4,hx4⟩:∃ z_,(d1)[k]? =some z_:=⟨_,List.getElem?_eq_getElem bd⟩
 obtain ⟨gg4,oo4,ec4,ea4,hce4,hre4⟩:=h1.elem hx4
 cases ea4
 obtain ⟨q4_A2,q4_c2,rfl,q4_0,q4_1,q4_2⟩:=Q4 (x0:=x4.1) (x1:=x4.2.1) (x2:=x4.2.2) hre4
 simp only [inK] at q4_0 q4_1
 have q4_r2:=Rd.room q4_2
 refine VD.z rfl (.ixI k rfl rfl Jx rfl bd) ?_
 refine VD.z rfl (.ldA 0 rfl Yv rfl hce4) ?_
 refine VD.nil rfl ?_ rfl
 refine VO.callN 105 rfl fnOk99 rfl (fun W hW=>QhZ W (Rd.mono hre3 (hW.t 0)) (Rd.mono hre4 (hW.t 0))) (fun v5 m5 hv5=>?_)
 subst hv5
 refine VO.z (.notD rfl) (VO.k6 0 1 5 10 14 26 (Qm ?_))
 refine VC.cond rfl (fun hc6=>?_) (fun hc6=>?_)
 refine VC.rs (VO.as (VO.p1 0 (VO.k7 0 1 4 5 10 14 26 (VC.ret (JO (QZ (QZ (JO (QZ ?_)))))))))
 exact Xl 4 rfl (by first | rfl | (simp [QiQ ‹d0[k]? =some _› ‹d1[k]? =some _› (‹¬ _=_›)]))
 refine VC.skip (JL (Qm ?_))
 refine VC.reg ?_
 refine VO.mv ?_
 refine VO.z (.add (c:=((k+1:Nat):Int)) rfl rfl Qn ⟨bd,bd⟩) ?_
 refine VO.as (VO.p1 0 (VO.k6 0 1 5 10 14 26 ?_))
 exact Qm ⟨k+1,⟨by omega,by exact Qbs ht ‹d0[k]? =some _› ‹d1[k]? =some _› (Decidable.not_not.1 ‹¬ ¬ _=_›)⟩,bd,⟨esn,fun _ h=>Inv.sub h [0]⟩⟩
 refine VC.exit (Zh (Zh (Zi (Qm (VC.rs (VO.as (VO.k6 0 1 4 5 10 14 (VC.ret ?_))))))))
 exact Xl 4 rfl (by first | rfl | (simp [Qe2 ht Qn Qn]))
def sGo (en : Int) : Int → Int → Nat → List Zj → Prop
  | _, _, _, [] => True
  | le, lf, i, s :: r => le < s.1 ∧ s.1 ≤ 1048576 ∧ lf < s.2 ∧ s.2 ≤ en ∧ (i = 0 → s.2 = 1) ∧ sGo en s.1 s.2 (i + 1) r
instance decGo (en : Int) : ∀ (le lf : Int) (i : Nat) (l : List Zj), Decidable (sGo en le lf i l)
  | _, _, _, [] => isTrue trivial
  | le, lf, i, s :: r => by
    have := decGo en s.1 s.2 (i + 1) r
    unfold sGo; infer_instance
def sCheck (l : List Zj) (en : Int) : Int := if 0 ≤ en ∧ en ≤ 1048576 ∧ ((l.length : Int) = 0 ↔ en = 0) ∧ sGo en 0 0 0 l then 0 else 5
def bareM (m : Y3) : Prop := m.2.2.1 = 0 ∧ m.2.2.2.1 = 0 ∧ m.2.2.2.2.1.length = 0 ∧ m.2.2.2.2.2.1 = 0 ∧ m.2.2.2.2.2.2.1 = 0 ∧ m.2.2.2.2.2.2.2.length = 0
instance (m : Y3) : Decidable (bareM m) := by unfold bareM; infer_instance
def lastOk (l : List Zj) (e : Int) : Bool := match l.getLast? with
  | some s => decide (s.1 ≤ e)
  | none => true
def Qpe (m : Y3) : Prop := (1 ≤ m.2.2.1 ∧ m.2.2.1 ≤ 3) ∧ sCheck m.2.2.2.2.1 m.2.2.2.1 = 0 ∧ lastOk m.2.2.2.2.1 m.2.1 = true ∧ m.2.2.2.2.2.1 = 0 ∧ m.2.2.2.2.2.2.1 = 0 ∧ m.2.2.2.2.2.2.2.length = 0
instance (m : Y3) : Decidable (Qpe m) := by unfold Qpe; infer_instance
def shipM (m : Y3) : Prop := (1 ≤ m.2.2.2.2.2.1 ∧ m.2.2.2.2.2.1 ≤ 1048576) ∧ (0 ≤ m.2.2.2.2.2.2.1 ∧ m.2.2.2.2.2.2.1 ≤ m.2.1) ∧ (m.2.2.2.2.2.2.1 = 0 ↔ m.2.2.2.2.2.1 = 1) ∧ m.2.2.2.2.2.2.2.length ≤ 4 ∧
  (Qg m.2.2.2.2.2.2.1 (m.2.2.2.2.2.1 - 1) m.2.2.2.2.2.2.2).1 = 0 ∧ (∀ c ∈ m.2.2.2.2.2.2.2, c.1 ≤ m.2.1) ∧ m.2.2.1 = 0 ∧ m.2.2.2.1 = 0 ∧ m.2.2.2.2.1.length = 0
instance (m : Y3) : Decidable (shipM m) := by unfold shipM; infer_instance
def ackM (m : Y3) : Prop := (0 ≤ m.2.2.2.1 ∧ m.2.2.2.1 ≤ 1048576) ∧ m.2.2.1 = 0 ∧ m.2.2.2.2.1.length = 0 ∧ m.2.2.2.2.2.1 = 0 ∧ m.2.2.2.2.2.2.1 = 0 ∧ m.2.2.2.2.2.2.2.length = 0
instance (m : Y3) : Decidable (ackM m) := by unfold ackM; infer_instance
def QnJ (l : List Qe) (n : Int) : Int := match l[n.toNat]? with
  | some c => c.1
  | none => 0
def fitsM (l : List Qe) (m : Y3) : Prop := (1 < m.2.2.2.2.2.1 → QnJ l (m.2.2.2.2.2.1 - 2) = m.2.2.2.2.2.2.1) ∧ ∀ c ∈ m.2.2.2.2.2.2.2, c.2.1 ≤ l.length → QnJ l (c.2.1 - 1) = c.1
instance (l : List Qe) (m : Y3) : Decidable (fitsM l m) := by unfold fitsM; infer_instance
theorem QmX (W:World) (d0:Int) (h0:inK .i64 d0) (d1:Int) (h1:inK .i64 d1) (e0:0 < d1):Qi Tryz.prog 24 [.int .i64 d0,.int .i64 d1] W (Qx) (fun v m'=>v= .int .i64 (J5 d0 d1)):=by
 have h0':=h0;simp only [inK] at h0'
 have h1':=h1;simp only [inK] at h1'
 refine Qi.ofA (n:=14) Tryz.func24 rfl rfl rfl ?_
 refine VC.rs (VO.as (VO.k3 0 1 4 (VC.rs (VO.mv (VO.mv ?_)))))
 have hm1:=Qfw (d0) (d1) bd
 refine VO.z (.quo (.inr rfl) rfl rfl (QpS _ _ _ bd)) ?_
 refine VO.as (VO.k3 0 1 4 (VC.seq (VC.rs (VO.mv (VO.z (.lss rfl rfl) (VO.p1 0 (VO.k4 0 1 4 9 ?_)))))))
 refine VC.cond rfl (fun hc2=>?_) (fun hc2=>?_)
 refine VC.reg ?_
 refine VO.mv (VO.mv ?_)
 refine VO.z (.add rfl rfl rfl ⟨bd,bd⟩) ?_
 refine VO.as (VO.k4 0 1 4 9 (Qm (VC.rs (VO.mv (VO.as (VO.k4 0 1 4 9 (VC.ret ?_)))))))
 exact Xl 4 rfl (by first | rfl | (congr 1;unfold J5;split <;> omega))
 refine VC.skip (Qm (VC.rs (VO.mv (VO.as (VO.k4 0 1 4 9 (VC.ret ?_))))))
 exact Xl 4 rfl (by first | rfl | (congr 1;unfold J5;split <;> omega))
theorem Qal {e n i:Int} {c:Qe} {r:List Qe} (h:(Q8 e n i (c::r)).1=0):QW c=0∧c.2.1=n+1∧e≤c.1∧(Q8 c.1 c.2.1 (i+1) r).1=0:=by
 unfold Q8 at h
 split at h
 ·exact absurd h (by assumption)
 ·rename_i h1
  split at h
  ·cases h
  ·exact ⟨Decidable.not_not.1 h1,by omega,by omega,h⟩
theorem Qeq {e n i:Int} {c:Qe} {r:List Qe} (h1:QW c=0) (h2:c.2.1=n+1) (h3:e≤c.1) (h4:(Q8 c.1 c.2.1 (i+1) r).1=0):(Q8 e n i (c::r)).1=0:=by
 unfold Q8
 rw [if_neg (by omega),if_neg (by omega)]
 exact h4
theorem QfR : ∀ {l : List Qe} {e n i : Int} (j : Int), (Q8 e n i l).1 = 0 → (Q8 e n j l).1 = 0
  | [], _, _, _, _, _ => rfl
  | c :: r, e, n, i, j, h => by
    obtain ⟨h1, h2, h3, h4⟩ := Qal h
    exact Qeq h1 h2 h3 (QfR (j + 1) h4)
theorem QeL : ∀ {l : List Qe} {e n i : Int}, (Q8 e n i l).1 = 0 → Q8 e n i l = (0, 0)
  | [], _, _, _, _ => rfl
  | c :: r, e, n, i, h => by
    obtain ⟨h1, h2, h3, h4⟩ := Qal h
    unfold Q8
    rw [if_neg (by omega), if_neg (by omega)]
    exact QeL h4
def Qv (e : Int) (l : List Qe) : Int := match l.getLast? with
  | some c => c.1
  | none => e
theorem QjT (e : Int) (c : Qe) (r : List Qe) : Qv e (c :: r) = Qv c.1 r := by
  cases r with
  | nil => rfl
  | cons d r => unfold Qv; rw [List.getLast?_cons_cons]; cases h : (d :: r).getLast? with
    | none => simp at h
    | some x => rfl
theorem QfS : ∀ {l a : List Qe} {e n i j : Int}, (Q8 e n i l).1 = 0 → (Q8 (Qv e l) (n + l.length) j a).1 = 0 → (Q8 e n i (l ++ a)).1 = 0
  | [], a, e, n, i, j, _, h => by
    simp only [Qv, List.getLast?_nil, List.length_nil] at h
    exact QfR i (by simpa using h)
  | c :: r, a, e, n, i, j, h, h' => by
    obtain ⟨h1, h2, h3, h4⟩ := Qal h
    rw [QjT] at h'
    refine Qeq h1 h2 h3 (QfS (j := j) h4 ?_)
    rwa [show c.2.1 + (r.length : Int) = n + ((c :: r).length : Nat) by simp only [List.length_cons]; omega]
theorem Qb6 : ∀ {l a : List Qe} {e n i : Int}, (Q8 e n i (l ++ a)).1 = 0 → (Q8 e n i l).1 = 0
  | [], _, _, _, _, _ => rfl
  | c :: r, a, e, n, i, h => by
    obtain ⟨h1, h2, h3, h4⟩ := Qal h
    exact Qeq h1 h2 h3 (Qb6 h4)
theorem Qpw:JR Tryz.prog 31=true:=by kernel_rfl
theorem QdZ (W:World) {v0:List Value} {d0:Qe} (h0:Rd Ql (wm W) v0 d0) (e0:d0.2.2.length≤3518437208800):Qi Tryz.prog 31 [.agg v0.toArray] W (Qx) (fun v m'=>∃ (s0:List Value),v= .agg s0.toArray∧Ow Ql m' s0 (d0)):=by
 obtain ⟨p0_A2,p0_c2,rfl,p0_0,p0_1,p0_2⟩:=Q4 (x0:=d0.1) (x1:=d0.2.1) (x2:=d0.2.2) h0
 simp only [inK] at p0_0 p0_1
 have p0_r2:=Rd.room p0_2
 refine Qi.ofA (n:=11) Tryz.func31 rfl rfl rfl ?_
 refine VC.rs ?_
 refine VO.box (cs:=[.int .i64 (d0.1),.int .i64 (d0.2.1),.slice p0_A2 (d0.2.2.length) (p0_c2)]) 102 rfl rfl rfl (fun g1=>?_)
 refine VO.alloc 104 rfl XA (fun g3=>?_)
 refine VO.k3 0 1 2 (VC.seq ?_)
 refine VC.regD _ 7 [(0,true),(1,true),(2,true),(3,true),(4,true),(5,true),(6,false)] follows (by kernel_rfl) (fun _ h=>h.sub [104,102,0]) ?_
 refine VD.z rfl (.fa rfl Jq rfl) (VD.z rfl (.ld1 102 rfl tk3 rfl (Qa rfl rfl)) (VD.z rfl (.fa rfl Jq rfl) (VD.z rfl (.ld1 102 rfl tk3 rfl (Qa rfl rfl)) (VD.z rfl (.fa rfl Jq rfl) (VD.z rfl (.ld1 102 rfl Qc6 rfl (Qa rfl rfl)) ?_)))))
 refine VD.callN 105 rfl rfl (.inl rfl) Qnl rfl (fun _ h=>h.sub [104,102,0]) (fun W hW=>QeB W (Rd.mono p0_2 (hW.t 0)) bd) (fun v5 m5 hv5=>?_)
 obtain ⟨s5_0,rfl,f5_0⟩:=hv5
 obtain ⟨A5_0,c5_0,eq5_0,l5_0,k5_0⟩:=f5_0.slc
 subst eq5_0
 refine VD.nil rfl ?_ rfl
 refine VO.z (.bst (cs:=[.int .i64 (d0.1),.int .i64 (d0.2.1),.slice A5_0 (d0.2.2.length) (c5_0)]) rfl Jq XA rfl) ?_
 refine VO.store (k:=3) (c':=[.int .i64 (d0.1),.int .i64 (d0.2.1),.slice A5_0 (d0.2.2.length) (c5_0)]) 104 rfl rfl (.inl Yv) rfl rfl rfl rfl rfl ?_
 refine VO.k3 0 1 2 (Qm (VC.ret ?_))
 refine ⟨_,_,Jr (rs:=[.cell 2 37]) rfl (.agg 104 rfl Yv rfl ⟨_,_,_,QJ _ _,Nat.le_of_ble_eq_true rfl,rfl⟩ .nil),fun W_ hI=>JZ (l:=[m5]) hI [105] rfl rfl (Qc _) (fun hS_=>?_)⟩
 dsimp only [QE]
 have he0:(d0:Ty.Den Ql)=d0:=by first | rfl | (simp [*];done)
 refine ⟨[.int .i64 (d0.1),.int .i64 (d0.2.1),.slice A5_0 (d0.2.2.length) (c5_0)],?_,?_⟩
 rotate_left
 ·rw [he0];exact (show Ow Ql _ _ d0 from (Jt d0.1 d0.2.1 d0.2.2 hS_ bdk bdk f5_0))
 all_goals (first | rfl | (simp [*];done))
theorem Jy {P:Prop} (h:P:=by first | exact bd | exact e1 _ (List.mem_of_getElem? ‹d0[_]? =some _›)):P:=h
theorem Qgj (W:World) {v0:Value} {d0:List Qe} (h0:Rd (.sl Ql) (wm W) [v0] d0) (e0:d0.length≤3518437200000) (e1:∀ c∈d0,c.2.2.length≤3518437208800):Qi Tryz.prog 54 [v0] W (Qx) (fun v m'=>∃ (s0:Value),v=s0∧Ow (.sl Ql) m' [s0] (d0)):=by
 obtain ⟨A0,c0,rfl,l0,k0⟩:=h0.slc
 refine Qi.ofA (n:=20) Tryz.func54 rfl rfl rfl ?_
 refine VC.rs (VO.as (VO.k2 0 2 (VC.rs (VO.as (VO.k3 0 2 3 (VC.seq (VC.rs (VO.as (VO.p1 0 (VO.k4 0 2 3 4 (VC.block ?_)))))))))))
 refine VC.inv ((101,Qx)::_) (fun _ h=>h.nilc 101) ?_
 refine VC.loop (G:=Nat × (List Qe) × (Option Addr) × Nat × Mem) (fun g=>[(3,.slice (g.2.2.1) ((g.2.1).length) ((g.2.2.2.1))),(4,.int .i64 ((((g.1):Nat):Int))),(0,.slice A0 (d0.length) (c0)),(2,.slice none (0) (0))]) (fun g=>[(101,(g.2.2.2.2)),(0,wm W)]) (fun g=>((g.1)≤d0.length)∧((g.2.1)=d0.take (g.1))∧(Ow (.sl Ql) (g.2.2.2.2) [.slice (g.2.2.1) (g.2.1).length (g.2.2.2.1)] (g.2.1))) (fun g=>d0.length - (g.1)) (0,[],none,0,Qx) (⟨by omega,by rfl,(Ow.nil Ql Qx)⟩) ⟨esn,fun _ h=>h.sub [101,0]⟩ ?_
 rintro ⟨k,out,out_A,out_c,out_m⟩ ⟨hk,ho,h_out⟩
 replace hk:k≤d0.length:=hk
 replace ho:out=d0.take k:=ho
 replace h_out:Ow (.sl Ql) out_m [.slice out_A out.length out_c] out:=h_out
 show VC _ _ _ _ _ [(3,.slice out_A (out.length) (out_c)),(4,.int .i64 (((k:Nat):Int))),(0,.slice A0 (d0.length) (c0)),(2,.slice none (0) (0))] [(101,out_m),(0,wm W)]
 have l_out:out.length≤out_c:=by obtain ⟨_,_,he,hl,_⟩:=h_out.slice;simp only [Value.slice.injEq] at he;omega
 have k_out:out_c≤9223372036854775807:=by obtain ⟨_,_,he,_,hl⟩:=h_out.slice;simp only [Value.slice.injEq,maxLen] at he hl;omega
 have hlo:out.length≤k:=by rw [ho];simp;omega
 refine VC.seq (VC.rs (VO.mv (VO.mv (VO.z (.lenS rfl Jx) (VO.z (.lss rfl rfl) (VO.k5 0 2 3 4 8 ?_))))))
 refine VC.cond rfl (fun hc2=>?_) (fun hc2=>?_)
 ·refine VC.skip (Qm (VC.seq (VC.block ?_)))
  refine VC.reg ?_
  refine VO.mv (VO.mv (VO.mv ?_))
  obtain ⟨x3,hx3⟩:∃ z_,(d0)[k]? =some z_:=⟨_,List.getElem?_eq_getElem Jy⟩
  obtain ⟨gg3,oo3,ec3,ea3,hce3,hre3⟩:=h0.elem hx3
  cases ea3
  obtain ⟨q3_A2,q3_c2,rfl,q3_0,q3_1,q3_2⟩:=Q4 (x0:=x3.1) (x1:=x3.2.1) (x2:=x3.2.2) hre3
  simp only [inK] at q3_0 q3_1
  have q3_r2:=Rd.room q3_2
  refine VO.z (.ixI k rfl rfl Jx rfl Jy) ?_
  refine VO.z (.ldA 0 rfl Yv rfl hce3) ?_
  refine VO.callN 104 rfl Qpw rfl (fun W hW=>QdZ W (Rd.mono hre3 (hW.t 0)) Jy) (fun v4 m4 hv4=>?_)
  obtain ⟨s4_0,rfl,f4_0⟩:=hv4
  obtain ⟨q4_0_A2,q4_0_c2,q4_0_n2,rfl,q4_0_S,q4_0_0,q4_0_1,q4_0_2⟩:=ZE (x0:=x3.1) (x1:=x3.2.1) (x2:=x3.2.2) f4_0
  simp only [inK] at q4_0_0 q4_0_1
  have q4_0_r2:=q4_0_2.rm
  refine VO.inv _ (fun _ h=>h.parts (i:=104) rfl q4_0_S [105]) ?_
  refine VO.bsl (cs:=[.int .i64 (x3.1),.int .i64 (x3.2.1),.slice q4_0_A2 (x3.2.2.length) (q4_0_c2)]) 107 rfl rfl Jx XA rfl rfl (fun g6=>?_)
  refine VO.appO (e:=Ql) 101 105 107 rfl rfl rfl Jx XA rfl rfl rfl rfl h_out (show Ow Ql _ _ x3 from (Jt x3.1 x3.2.1 x3.2.2 (QA.one (Qc _)) (by simp only [inK];(exact Jy)) (by simp only [inK];(exact Jy)) q4_0_2)) Tryz.underlying41 (Qa rfl rfl) (by simp only [maxLen];(exact Jy)) Jy (by decide) (fun v8 m8 ho8=>?_)
  obtain ⟨A8,c8,rfl,l8,k8⟩:=ho8.slc
  refine VO.as (VO.k5 0 2 3 4 8 (JL (Qm ?_)))
  refine VC.reg ?_
  refine VO.mv ?_
  refine VO.z (.add (c:=((k+1:Nat):Int)) rfl rfl Qn ⟨by exact Jy,by exact Jy⟩) ?_
  refine VO.as (VO.p2 101 0 (VO.k5 0 2 3 4 8 ?_))
  exact Qm ⟨⟨k+1,out++[x3],A8,c8,m8⟩,⟨by omega,by rw [ho];exact (QbI ‹_›).symm,ho8⟩,by exact Jy,⟨esn,fun _ h=>Inv.sub h [101,0]⟩⟩
 ·refine VC.exit (Zh (Zh (Zi (Qm (VC.rs (VO.mv (VO.as (VO.k5 0 2 3 4 8 (VC.ret ?_)))))))))
  refine Yd 2 [101] fun hS_=>?_
  dsimp only [QE]
  exact ⟨Value.slice out_A (out.length) (out_c),(by first | rfl | (simp [*];done)),(Ow.cg (Ow.up h_out (hS_.1 _ (.head _))) (by first | rfl | (rw [ho,List.take_of_length_le Qn])))⟩
theorem Qkr : ∀ {b : Qr} {i x y n : Nat}, x < 2 ^ (7 * i) → i ≤ 9 → vgo i x b = some (y, n) → ∃ v, y = x + v * 2 ^ (7 * i) ∧ b = JY v ++ b.drop (n - i) ∧ n = i + (JY v).length ∧ (1 ≤ v ∨ i = 0)
  | [], _, _, _, _, _, _, h => by cases h
  | c :: r, i, x, y, n, hx, hi, h => by
    unfold vgo at h
    split at h
    · cases h
    · rename_i h0
      obtain ⟨t1, t2, t3⟩ := Qc4 hx hi h0
      have hc := c.toNat_lt
      split at h
      · rename_i h1
        obtain ⟨v, e1, e2, e3, e4⟩ := Qkr (t3 (by omega)) (by omega) h
        have hv : 1 ≤ v := by omega
        have hd : JY (c.toNat % 128 + 128 * v) = c :: JY v := by
          rw [JY, dif_neg (by omega), show (c.toNat % 128 + 128 * v) / 128 = v by omega, show (c.toNat % 128 + 128 * v) % 128 + 128 = c.toNat by omega]
          simp
        refine ⟨c.toNat % 128 + 128 * v, ?_, ?_, ?_, .inl (by omega)⟩
        · rw [e1, QdA, Nat.add_mul, Nat.add_assoc, Nat.mul_left_comm, Nat.mul_assoc]
        · rw [hd, show n - i = (n - (i + 1)) + 1 by omega, List.drop_succ_cons, List.cons_append, ← e2]
        · rw [hd, e3, List.length_cons]; omega
      · rename_i h1
        split at h
        · cases h
        · rename_i h2
          simp only [Option.some.injEq, Prod.mk.injEq] at h
          obtain ⟨rfl, rfl⟩ := h
          have hd : JY c.toNat = [c] := by rw [JY, dif_pos (by omega)]; simp
          have hm : c.toNat % 128 = c.toNat := Nat.mod_eq_of_lt (by omega)
          refine ⟨c.toNat, by rw [hm], by rw [hd, show i + 1 - i = 1 by omega]; rfl, by rw [hd]; rfl, by omega⟩
theorem Qgp {b:Qr} {x n:Nat} (h:Qa2 b=some (x,n)):b=JY x++b.drop n∧n=(JY x).length:=by
 obtain ⟨v,e1,e2,e3,_⟩:=Qkr (by decide) (by decide) h
 have:x=v:=by simpa using e1
 subst this
 exact ⟨by simpa using e2,by omega⟩
theorem Qmt : ∀ (v : Nat) {i x : Nat} (r : Qr), x < 2 ^ (7 * i) → i ≤ 9 → x + v * 2 ^ (7 * i) < 18446744073709551616 → (1 ≤ v ∨ i = 0) → vgo i x (JY v ++ r) = some (x + v * 2 ^ (7 * i), i + (JY v).length) := by
  intro v
  induction v using Nat.strongRecOn with
  | ind v ih =>
    intro i x r hx hi hlt h1
    have h9 : i = 9 → v ≤ 1 := by
      intro h
      subst h
      have : (2 : Nat) ^ (7 * 9) = 9223372036854775808 := by decide
      rw [this] at hlt
      omega
    by_cases hv : v < 128
    · rw [JY, dif_pos hv]
      have ec : (UInt8.ofNat v).toNat = v := by simp; omega
      have h0 : ¬ (i = 9 ∧ (UInt8.ofNat v).toNat > 1) := by rw [ec]; omega
      obtain ⟨t1, t2, t3⟩ := Qc4 hx hi h0
      show (if _ then _ else _) = _
      rw [if_neg h0, if_neg (by rw [ec]; omega), if_neg (by rw [ec]; omega), ec, Nat.mod_eq_of_lt hv]
      rfl
    · rw [JY, dif_neg hv]
      have ec : (UInt8.ofNat (v % 128 + 128)).toNat = v % 128 + 128 := by simp; omega
      have h0 : ¬ (i = 9 ∧ (UInt8.ofNat (v % 128 + 128)).toNat > 1) := by rw [ec]; omega
      obtain ⟨t1, t2, t3⟩ := Qc4 hx hi h0
      have e : x + (v % 128 + 128) % 128 * 2 ^ (7 * i) + v / 128 * 2 ^ (7 * (i + 1)) = x + v * 2 ^ (7 * i) := by
        rw [QdA, ← Nat.mul_assoc, Nat.add_assoc, ← Nat.add_mul]
        congr 2
        omega
      show (if _ then _ else _) = _
      rw [if_neg h0, if_pos (by rw [ec]; omega)]
      show vgo _ _ (JY (v / 128) ++ r) = _
      rw [ih (v / 128) (by omega) r (t3 (by omega)) (by omega) (by rw [ec, e]; exact hlt) (by omega), ec, e, List.length_cons]
      congr 2
      omega
theorem Qfs {x:Nat} (h:x < 18446744073709551616) (r:Qr):Qa2 (JY x++r)=some (x,(JY x).length):=by
 have:=Qmt x (i:=0) (x:=0) r (by decide) (by decide) (by simpa using h) (.inr rfl)
 rw [Nat.mul_zero,Nat.pow_zero,Nat.mul_one,Nat.zero_add,Nat.zero_add] at this
 exact this
theorem Xb {B e r:Qr} {a:Nat} (h:B.drop a=e++r):B.drop (a+e.length)=r:=by
 rw [← List.drop_drop,h];simp
theorem QhM {B e r:Qr} {a:Nat} (h:B.drop a=e++r):B.length - a=e.length+r.length:=by
 rw [← List.length_drop,h,List.length_append]
theorem QfA : ∀ (a b : Qr), a.take (QI a b) = b.take (QI a b)
  | [], b => by rw [QaO]; rfl
  | a, [] => by rw [Qaq]; rfl
  | x :: a, y :: b => by
    unfold QI
    split
    · rename_i h; rw [List.take_succ_cons, List.take_succ_cons, h, QfA a b]
    · rfl
theorem Qbm {B e r:Qr} {a:Nat} (h:B.drop a=e++r) (ha:a≤B.length):a+e.length≤B.length:=by have:=QhM h;omega
section
variable {B last : Qr} {m : Int} {s e : RS} {x : Int} {t : Qr}
theorem QbN (hs : rOk B s) (hm : m ≤ 9223372036854775807) (h : Qb B m s = (x, e)) (he : e.2 = false) : s.2 = false ∧ 0 ≤ x ∧ (x ≤ m) ∧ rOk B e ∧ B.drop s.1.toNat = JY x.toNat ++ B.drop e.1.toNat := by
  have hok := Q5 (m := m) hs hm
  rw [h] at hok
  by_cases h0 : s.2 = true
  · rw [ZR h0] at h
    cases h
    rw [h0] at he; cases he
  · have h0 : s.2 = false := by simpa using h0
    by_cases h1 : sE (B.drop s.1.toNat) m = 0
    · rw [Zg h0 h1] at h
      have hb := XN (B.drop s.1.toNat) m hm
      cases h
      unfold sE sX sN QaL at *
      cases hv : Qa2 (B.drop s.1.toNat) with
      | none => rw [hv] at h1; cases h1
      | some p =>
        obtain ⟨y, n⟩ := p
        rw [hv] at h1 hb hok
        dsimp only at h1 hb hok ⊢
        by_cases hy : (y : Int) ≤ m
        · rw [if_pos hy] at hok ⊢
          dsimp only at hok ⊢
          obtain ⟨e1, e2⟩ := Qgp hv
          refine ⟨h0, by omega, hy, hok.1, ?_⟩
          rw [show (s.1 + (n : Int)).toNat = s.1.toNat + n by have := hs.1; omega, ← List.drop_drop]
          exact e1
        · rw [if_neg hy] at h1; cases h1
    · rw [Zq h0 h1] at h
      cases h
      cases he
theorem QaU {a:Nat} {x:Nat} {r:Qr} (h:B.drop a=JY x++r) (hx:(x:Int)≤m) (hm:m≤9223372036854775807):Qb B m ((a:Int),false)=((x:Int),(((a+(JY x).length:Nat):Int),false)):=by
 have hv:=Qfs (x:=x) (by omega) r
 rw [← h] at hv
 have hs:QaL (B.drop a) m=some (x,(JY x).length):=by unfold QaL;rw [hv];exact if_pos hx
 have h1:sE (B.drop a) m=0:=by unfold sE;rw [hs]
 rw [Zg rfl (by simpa using h1)]
 unfold sX sN
 simp only [Int.toNat_natCast]
 rw [hs]
 simp
theorem Ql9 {n:Int} (hs:rOk B s) (hn:0≤n) (h:QC B n s=(t,e)) (he:e.2=false):s.2=false∧(t.length:Int)=n∧rOk B e∧B.drop s.1.toNat=t++B.drop e.1.toNat:=by
 obtain ⟨q1,q2⟩:=hs
 by_cases hb:s.2=true∨(B.length:Int) - s.1 < n
 ·rw [ZS hb] at h
  cases h
  cases he
 ·have h0:s.2=false:=by
   cases hc:s.2 with
   | false=>rfl
   | true=>exact absurd (.inl hc) hb
  rw [ZJ h0 (fun hq=>hb (.inr hq))] at h
  have hlt:¬ (B.length:Int) - s.1 < n:=fun hq=>hb (.inr hq)
  cases h
  refine ⟨h0,by simp only [List.length_take,List.length_drop];omega,⟨by simp only;omega,by simp only;omega⟩,?_⟩
  rw [show (s.1+n).toNat=s.1.toNat+n.toNat by omega,← List.drop_drop,List.take_append_drop]
theorem Qkh {a:Nat} {r:Qr} (h:B.drop a=t++r) (ha:a≤B.length):QC B t.length ((a:Int),false)=(t,(((a+t.length:Nat):Int),false)):=by
 have hl:=QhM h
 rw [ZJ rfl (by simp only;omega)]
 simp only [Int.toNat_natCast]
 rw [h];simp
theorem Qii (hs:rOk B s) (hm:m≤9223372036854775807) (h:QX B m s=(t,e)) (he:e.2=false):s.2=false∧(t.length:Int)≤m∧rOk B e∧B.drop s.1.toNat=JY t.length++(t++B.drop e.1.toNat):=by
 unfold QX at h
 have hk:=Q5 (m:=m) hs hm
 generalize hn:Qb B m s=p at*
 obtain ⟨x,s1⟩:=p
 dsimp only at h hk
 obtain ⟨h1,h2,h3,h4⟩:=Ql9 hk.1 hk.2.1 h he
 obtain ⟨k1,k2,k3,k4,k5⟩:=QbN hs hm hn h1
 refine ⟨k1,by omega,h3,?_⟩
 rw [k5,h4,show x.toNat=t.length by omega]
theorem Qgt {a:Nat} {r:Qr} (h:B.drop a=JY t.length++(t++r)) (ha:a≤B.length) (hx:(t.length:Int)≤m) (hm:m≤9223372036854775807):QX B m ((a:Int),false)=(t,(((a+((JY t.length).length+t.length):Nat):Int),false)):=by
 unfold QX
 have hl:=QhM h
 rw [QaU h hx hm]
 dsimp only
 rw [Qkh (Xb h) (by omega),Nat.add_assoc]
theorem QpZ {o:DOp} (hs:rOk B s) (hl:last.length≤9223372036854775000) (h:rOp B last s=(o,e)) (he:e.2=false):s.2=false∧rOk B e∧B.drop s.1.toNat=QcQ last o++B.drop e.1.toNat:=by
 unfold rOp at h
 have a1:=Q5 (m:=1) hs (by omega)
 generalize ha:Qb B 1 s=a at*
 obtain ⟨pa,sa⟩:=a
 dsimp only at h a1
 have b1:=Q5 (m:=(last.length:Int)) a1.1 (by omega)
 generalize hb:Qb B last.length sa=b at*
 obtain ⟨pb,sb⟩:=b
 dsimp only at h b1
 have t1:=Yi (m:=16) b1.1 (by omega) (by omega)
 generalize ht:QX B 16 sb=tt at*
 obtain ⟨pt,st⟩:=tt
 dsimp only at h t1
 have key:∀ (st':RS),st'=(st.1,st.2 || decide (¬ (QI last (last.take pb.toNat++pt):Int)=pb))→st'.2=false→s.2=false∧rOk B st'∧B.drop s.1.toNat=JY pa.toNat++(JY (QI last (last.take pb.toNat++pt))++(JY ((last.take pb.toNat++pt).length - QI last (last.take pb.toNat++pt))++((last.take pb.toNat++pt).drop (QI last (last.take pb.toNat++pt))++B.drop st'.1.toNat))):=by
  intro st' hst hf
  subst hst
  simp only [Bool.or_eq_false_iff,decide_eq_false_iff_not,Decidable.not_not] at hf
  obtain ⟨f1,f2⟩:=hf
  obtain ⟨u1,u2,u3,u4⟩:=Qii b1.1 (by omega) ht f1
  obtain ⟨v1,v2,v3,v4,v5⟩:=QbN a1.1 (by omega) hb u1
  obtain ⟨w1,w2,w3,w4,w5⟩:=QbN hs (by omega) ha v1
  refine ⟨w1,⟨u3.1,u3.2⟩,?_⟩
  have hlen:(last.take pb.toNat).length=pb.toNat:=by simp;omega
  have hsh:QI last (last.take pb.toNat++pt)=pb.toNat:=by omega
  rw [hsh,w5,v5,u4]
  congr 2
  rw [List.length_append,hlen,show pb.toNat+pt.length - pb.toNat=pt.length by omega]
  congr 1
  rw [List.drop_append,hlen,Nat.sub_self,List.drop_zero,List.drop_of_length_le (Nat.le_of_eq hlen)]
  simp
 by_cases hp:pa=1
 ·rw [if_pos hp] at h
  generalize hv:QX B 32 (st.1,st.2 || decide (¬ (QI last (last.take pb.toNat++pt):Int)=pb))=vv at*
  obtain ⟨pv,sv⟩:=vv
  cases h
  have hok:rOk B (st.1,st.2 || decide (¬ (QI last (last.take pb.toNat++pt):Int)=pb)):=⟨t1.1.1,t1.1.2⟩
  obtain ⟨x1,x2,x3,x4⟩:=Qii hok (by omega) hv he
  obtain ⟨y1,y2,y3⟩:=key _ rfl x1
  refine ⟨y1,x3,?_⟩
  rw [y3,hp,x4,QbX rfl]
  simp [QaM]
 ·rw [if_neg hp] at h
  cases h
  obtain ⟨y1,y2,y3⟩:=key _ rfl he
  refine ⟨y1,y2,?_⟩
  rw [show pa=0 by omega] at y3
  rw [y3,QbY rfl]
  simp [QaM]
theorem Qot {a : Nat} {o : DOp} {r : Qr} (h : B.drop a = QcQ last o ++ r) (ha : a ≤ B.length) (ho : Qjh o) (hl : last.length ≤ 9223372036854775000) : rOp B last ((a : Int), false) = (o, (((a + (QcQ last o).length : Nat) : Int), false)) := by
  obtain ⟨o1, o2, o3, o4⟩ := ho
  have hsl := XM last o.2.1
  have hkey : last.take (QI last o.2.1) ++ o.2.1.drop (QI last o.2.1) = o.2.1 := by rw [QfA last o.2.1, List.take_append_drop]
  obtain ⟨p, k, v⟩ := o
  dsimp only at *
  have e16 : k.length - QI last k = (k.drop (QI last k)).length := by simp
  have hen : QcQ last (p, k, v) = JY (if p = true then 1 else 0) ++ (JY (QI last k) ++ (JY (k.drop (QI last k)).length ++ (k.drop (QI last k) ++ (if p = true then JY v.length ++ v else [])))) := by
    unfold QcQ
    dsimp only
    rw [← e16]
    cases p <;> simp [QaM]
  rw [hen] at h ⊢
  have hL := Qbm h ha
  rw [List.append_assoc] at h
  have n1 := QaU (B := B) (m := 1) h (by split <;> omega) (by omega)
  have h2 := Xb h
  have l2 := Qbm h ha
  rw [List.append_assoc] at h2
  have n2 := QaU (B := B) (m := last.length) h2 (by omega) (by omega)
  have h3 := Xb h2
  have l3 := Qbm h2 l2
  rw [List.append_assoc, List.append_assoc] at h3
  have n3 := Qgt (B := B) (m := 16) h3 l3 (by simp only [List.length_drop]; omega) (by omega)
  have h4 := Xb (Xb h3)
  have l4 := Qbm (Xb h3) (Qbm h3 l3)
  unfold rOp
  dsimp only
  rw [n1]
  dsimp only
  rw [n2]
  dsimp only
  rw [n3]
  dsimp only
  rw [Int.toNat_natCast, hkey]
  have eb : (false || decide (¬ (QI last k : Int) = (QI last k : Int))) = false := by simp
  rw [eb]
  cases p with
  | true =>
    simp only [if_true] at h4 l4 ⊢
    rw [if_pos (by rfl)]
    rw [List.append_assoc] at h4
    have n4 := Qgt (B := B) (m := 32) h4 l4 (by omega) (by omega)
    rw [Nat.add_assoc] at n4
    rw [n4]
    simp only [List.length_append, Nat.add_assoc]
  | false =>
    simp only [Bool.false_eq_true, if_false]
    rw [if_neg (by decide)]
    have : v = [] := by simpa using o4
    subst this
    simp only [List.length_append, List.length_nil, Nat.add_assoc, Nat.add_zero]
end
theorem QfI {B : Qr} : ∀ (n : Nat) {last : Qr} {s e : RS} {l : List DOp}, rOk B s → last.length + 16 * n ≤ 1000000 → QcV B n last s = (l, e) → e.2 = false → s.2 = false ∧ rOk B e ∧ B.drop s.1.toNat = Y1 last l ++ B.drop e.1.toNat ∧ l.length = n
  | 0, last, s, e, l, hs, hl, h, he => by
    cases h
    exact ⟨he, hs, rfl, rfl⟩
  | n + 1, last, s, e, l, hs, hl, h, he => by
    unfold QcV at h
    by_cases h0 : s.2 = true
    · rw [if_pos h0] at h
      cases h
      rw [h0] at he; cases he
    · rw [if_neg h0] at h
      have hk := QgD (last := last) hs (by omega)
      generalize ho : rOp B last s = p at *
      obtain ⟨o, s1⟩ := p
      dsimp only at h hk
      generalize hr : QcV B n o.2.1 s1 = q at *
      obtain ⟨l1, e1⟩ := q
      cases h
      obtain ⟨a1, a2, a3, a4⟩ := QfI n hk.1 (by omega) hr he
      obtain ⟨b1, b2, b3⟩ := QpZ hs (by omega) ho a1
      refine ⟨b1, a2, ?_, by simp [a4]⟩
      rw [b3, a3, Y1, List.append_assoc]
theorem Qek {B : Qr} : ∀ {l : List DOp} {last : Qr} {a : Nat} {r : Qr}, B.drop a = Y1 last l ++ r → a ≤ B.length → (∀ o ∈ l, Qjh o) → last.length ≤ 16 → QcV B l.length last ((a : Int), false) = (l, (((a + (Y1 last l).length : Nat) : Int), false))
  | [], last, a, r, h, ha, ho, hl => rfl
  | o :: l, last, a, r, h, ha, ho, hl => by
    rw [Y1, List.append_assoc] at h
    have h1 := Qot h ha (ho o (.head _)) (by omega)
    have h2 := Qek (Xb h) (Qbm h ha) (fun o h => ho o (.tail _ h)) (ho o (.head _)).2.1
    rw [List.length_cons]
    unfold QcV
    rw [if_neg (by simp), h1]
    dsimp only
    rw [h2, Y1, List.length_append, Nat.add_assoc]
theorem Qez {B:Qr} {l:List DOp} {n:Int} (h:YD B=(l,n,0)):Qs l=0∧0≤n∧n≤B.length∧B=JQ l++B.drop n.toNat:=by
 have h0:rOk B (0,false):=⟨Int.le_refl _,by simp⟩
 have hk:=Q5 (m:=8) h0 (by omega)
 unfold YD at h
 generalize hn:Qb B 8 (0,false)=p at*
 obtain ⟨k,s⟩:=p
 dsimp only at h hk
 generalize hr:QcV B k.toNat [] s=q at*
 obtain ⟨l1,e⟩:=q
 dsimp only at h
 by_cases hb:e.2=true∨¬ Qs l1=0
 ·rw [if_pos hb] at h
  simp at h
 ·rw [if_neg hb] at h
  have he:e.2=false:=by
   cases hc:e.2 with
   | false=>rfl
   | true=>exact absurd (.inl hc) hb
  have hc:Qs l1=0:=Decidable.byContradiction fun hq=>hb (.inr hq)
  cases h
  obtain ⟨a1,a2,a3,a4⟩:=QfI _ hk.1 (by have:=hk.2.2.2.1 (by omega);simp;omega) hr he
  obtain ⟨b1,b2,b3,b4,b5⟩:=QbN h0 (by omega) hn a1
  refine ⟨hc,a2.1,a2.2,?_⟩
  have e0:B=B.drop ((0:Int),false).1.toNat:=rfl
  rw [JQ,a4,List.append_assoc,← a3,← b5];rfl
theorem Qki {l:List DOp} (h:Qs l=0) (r:Qr):YD (JQ l++r)=(l,((JQ l).length:Int),0):=by
 have hl:=YN h
 have h1:(JQ l++r).drop 0=JY l.length++(Y1 [] l++r):=by rw [JQ,List.append_assoc];rfl
 have n1:=QaU (m:=8) h1 (by omega) (by omega)
 have n2:=Qek (Xb h1) (Qbm h1 (Nat.zero_le _)) (fun o ho=>JJ h ho) (Nat.zero_le _)
 unfold YD
 rw [show ((0:Int),false)=(((0:Nat):Int),false) from rfl,n1]
 dsimp only
 rw [Int.toNat_natCast,n2]
 dsimp only
 rw [if_neg (by rw [h];decide)]
 simp [JQ]
theorem Qf3 (B:Qr):(YD B).2.2=0∨YD B=([],0,5):=by
 unfold YD
 dsimp only
 split
 ·exact .inr rfl
 ·exact .inl rfl
theorem Qg0 (B:Qr):(YD B).1.length≤8∧0≤(YD B).2.1∧(YD B).2.1≤B.length∧((YD B).2.2=0∨(YD B).2.2=5):=by
 rcases Qf3 B with h0 | h0
 ·generalize hp:YD B=p at*
  obtain ⟨m,n,f⟩:=p
  dsimp only at h0
  subst h0
  obtain ⟨a1,a2,a3,a4⟩:=Qez hp
  exact ⟨(YN a1).2,a2,a3,.inl rfl⟩
 ·rw [h0];exact ⟨by decide,by decide,by simp,.inr rfl⟩
theorem QgR : ∀ {l : List DOp} {last : Qr}, (∀ o ∈ l, Qjh o) → (Y1 last l).length ≤ 79 * l.length
  | [], _, _ => by simp [Y1]
  | o :: l, last, h => by
    have h1 := Qan (last := last) (h o (.head _))
    have h2 := QgR (l := l) (last := o.2.1) (fun o h' => h o (.tail _ h'))
    rw [Y1, List.length_append, List.length_cons]; omega
theorem Qja {l:List DOp} (h:Qs l=0):(JQ l).length≤642:=by
 have h1:=QgR (last:=[]) (fun o ho=>JJ h ho)
 have h2:=(YN h).2
 have h3:=JT (x:=l.length) (by omega)
 unfold JQ;rw [List.length_append];omega
theorem Qdk (b:Qr) (l:List DOp):(XU b l).1.length≤b.length+642:=by
 unfold XU
 split
 ·rename_i h;have:=Qja h;simp;omega
 ·simp
end Go.Proofs.YtdoamgdanlnlfaaGreat
