/- Part 4 of the proof of LWalScript: what it needs of the library, the walks and the plain laws. Conditions: those named in each theorem. -/
import Derived.Test.YtdoamgdanlnlfaaGreatLWalScriptM3
set_option linter.unusedVariables false
set_option linter.unusedSimpArgs false
set_option maxRecDepth 4000
namespace Go.Proofs.YtdoamgdanlnlfaaGreat
section
variable (P : Program) (n : Nat) (w0 : World)
def VI (ops : Array Oper) (ΩS : Ctx) (t : Nat) (listed : Array Bool) (m i : Nat) (σ : Env) (Ω : Ctx) (K : Env → Ctx → Prop) : Prop :=
  ∀ Q : Exit → Act → World → Prop, (∀ c a w, ¬ Q (.panic c) a w) → (∀ σ' Ω' a W, K σ' Ω' → Zp n σ' a → Inv w0 Ω' W → Q .normal a W) →
    ∀ a W, Zp n σ a → Inv w0 Ω W → HeadInv .any ops t listed → Region.noSelect ops = true → (t < ops.size → Region.sinkB .any ops t = true ∧ Region.chainB .any ops t = true) → i ∈ Region.ready .any ops listed → i < t →
    wpOp P ops Q i (fun a' w' => (i < t → Inv w0 (Qd1 ops ΩS (listed.setIfInBounds i true)) w') ∧ Qce P ops Q (fun L w => Inv w0 (Qd1 ops ΩS L) w) t (m + (ops.size - t)) (listed.setIfInBounds i true) a' w') a W
end
section
variable {P : Program} {n : Nat} {w0 : World} {σ : Env} {Ω ΩS : Ctx} {ops : Array Oper} {t : Nat} {K : Env → Ctx → Prop} {listed : Array Bool} {m : Nat}
def nextB (ops : Array Oper) (t : Nat) (listed : Array Bool) (is : List Nat) : Bool := Region.ready .any ops listed == is && is.all (fun i => Nat.blt i t) && !is.isEmpty
theorem VE.tree (is:List Nat) (hr:nextB ops t listed is=true) (h:AllL (fun i=>VI P n w0 ops ΩS t listed m i σ Ω K) is):VE P n w0 ops ΩS t listed (m+1) σ Ω K:=
 fun Q hn hQ a W he hi hiS hh hsel hsc=>by
  simp only [nextB,Bool.and_eq_true,beq_iff_eq,List.all_eq_true,Bool.not_eq_true'] at hr
  obtain ⟨⟨h1,h2⟩,h3⟩:=hr
  rw [show m+1+(ops.size - t)=(m+(ops.size - t))+1 by omega]
  refine ⟨fun h0=>(by rw [h1] at h0;rw [h0] at h3;cases h3),fun j hj=>?_⟩
  have hj':=hj
  rw [h1] at hj'
  exact h.mem j hj' Q hn hQ a W he hi hh hsel hsc hj (by simpa using h2 j hj')
theorem VE.nil {l:List Oper} (ho:XZ.okTail ops (ops.size - t) t listed=true) (hl:ops.toList.drop t=l) (h:VO P n w0 ops l σ Ω K) (ht:Nat.ble t ops.size=true):VE P n w0 ops ΩS t listed 0 σ Ω K:=
 fun Q _ hQ a W he hi _ hh _ _=>by
  have htl:=Nat.le_of_ble_eq_true ht
  subst hl
  have:=Qc0 (P:=P) (Q:=Q) (S:=fun L w=>Inv w0 (Qd1 ops ΩS L) w) (ops.size - t) t listed a W ho (Nat.le_refl _) (by omega) (h Q hQ a W he hi)
  simpa using this
theorem VE.inv (Ω':Ctx) (hs:∀ W,Inv w0 Ω W→Inv w0 Ω' W) (h:VE P n w0 ops ΩS t listed m σ Ω' K):VE P n w0 ops ΩS t listed m σ Ω K:=
 fun Q hn hQ a W he hi=>h Q hn hQ a W he (hs W hi)
theorem VI.inv {i:Nat} (Ω':Ctx) (hs:∀ W,Inv w0 Ω W→Inv w0 Ω' W) (h:VI P n w0 ops ΩS t listed m i σ Ω' K):VI P n w0 ops ΩS t listed m i σ Ω K:=
 fun Q hn hQ a W he hi=>h Q hn hQ a W he (hs W hi)
theorem VI.s {i:Nat} {o:Oper} {Φ:Value→Ctx→Prop} (σ':Value→Env) (ho:ops[i]? =some o) (hσ:∀ v a,Zp n σ a→Zp n (σ' v) (a.put o.dst v))
  (hg:o.guard=none∨∃ j b,o.guard=some (j,b)∧Qfc σ ops j b) (hs:Stp P n w0 σ Ω o Φ) (hS:∀ v Ω',Φ v Ω'→∀ W,Inv w0 Ω' W→Inv w0 ΩS W)
  (h:∀ v Ω',Φ v Ω'→VE P n w0 ops ΩS t (listed.setIfInBounds i true) m (σ' v) Ω' K):VI P n w0 ops ΩS t listed m i σ Ω K:=
 fun Q hn hQ a W he hi hh hsel hsc hr' hit'=>by
  unfold wpOp
  simp only [ho]
  have hw:Region.wanted o (yielded ops a.tmps)=true:=by
   rcases hg with hg | ⟨k,b,hg,hy⟩
   ·simp [Region.wanted,hg]
   ·simp [Region.wanted,hg,Ye he hy]
  rw [if_pos hw]
  exact .inl (hs a W he hi _ Q fun v Ω' W' hv hi'=>⟨fun _=>(hS v Ω' hv W' hi').cur,h v Ω' hv Q hn hQ _ W' (hσ v a he) hi' (hS v Ω' hv W' hi').cur (hh.set hr' hit') hsel hsc⟩)
theorem VI.sH {i:Nat} {o:Oper} {Φ:Value→Ctx→Prop} (σ':Value→Env) (ho:ops[i]? =some o) (hσ:∀ v a,Zp n σ a→Zp n (σ' v) (a.put o.dst v))
  (hg:o.guard=none) (hst:QiK ops i=true) (hs:Stp P n w0 σ Ω o Φ) (hS:∀ v Ω',Φ v Ω'→∀ W,Inv w0 Ω' W→Inv w0 (QeK ΩS) W)
  (h:∀ v Ω',Φ v Ω'→VE P n w0 ops (QeK ΩS) t (listed.setIfInBounds i true) m (σ' v) Ω' K):VI P n w0 ops ΩS t listed m i σ Ω K:=
 fun Q hn hQ a W he hi hh hsel hsc hr' hit'=>by
  unfold wpOp
  simp only [ho]
  have hw:Region.wanted o (yielded ops a.tmps)=true:=by simp [Region.wanted,hg]
  rw [if_pos hw]
  have hsz:i < listed.size:=by rw [hh.size];exact (Array.getElem?_eq_some_iff.1 ho).1
  have hany:QdW ops (listed.setIfInBounds i true)=true:=List.any_eq_true.2 ⟨i,List.mem_range.2 (Array.getElem?_eq_some_iff.1 ho).1,by rw [hst];simp [hsz]⟩
  exact .inl (hs a W he hi _ Q fun v Ω' W' hv hi'=>⟨fun _=>by unfold Qd1;rw [hany];exact hS v Ω' hv W' hi',Qd6 _ _ _ _ hany (h v Ω' hv Q hn hQ _ W' (hσ v a he) hi' (by rw [QfZ];exact hS v Ω' hv W' hi') (hh.set hr' hit') hsel hsc)⟩)
theorem VI.callN {i:Nat} {listed:Array Bool} {mm:Nat} {d:Nat} {f:FuncId} {xs:List Operand} {ats:Array TypeId} {ty:TypeId} {pos:String} {af:Array Edge} {gd:Option (Nat × Bool)} {vs:List Value} {Post:Value→Mem→Prop}
  (j:Nat) (hd:Nat.blt d n=true) (ho:ops[i]? =some ⟨some d,.call { callee:= .value (.func f),args:=xs.toArray,argTypes:=ats },ty,pos,af,gd⟩) (hg:gd=none∨∃ j b,gd=some (j,b)∧Qfc σ ops j b) (hf:JR P f=true)
  (ha:evs σ xs=some vs) (hS:∀ W,Inv w0 Ω W→Inv w0 ΩS W) (hc:∀ W,Inv w0 Ω W→Qi P f vs W Qx Post) (h:∀ v m',Post v m'→VE P n w0 ops ΩS t (listed.setIfInBounds i true) mm ((d,v)::σ) ((j,m')::Ω) K):VI P n w0 ops ΩS t listed mm i σ Ω K:=
 VI.s (fun v=>(d,v)::σ) ho (fun v _ he=>he.put hd v) hg (Stp.callN j hf ha hc) (fun _ _ ⟨_,_,hΩ⟩ W hW=>hS W (by subst hΩ;exact hW.tl)) (fun v _ ⟨m',hp,hΩ⟩=>hΩ ▸ h v m' hp)
theorem VI.call {t:Nat} {i:Nat} {listed:Array Bool} {mm:Nat} {d:Nat} {f:FuncId} {xs:List Operand} {ats:Array TypeId} {ty:TypeId} {pos:String} {af:Array Edge} {gd:Option (Nat × Bool)} {vs:List Value} {Post:Value→Mem→Prop}
  (j:Nat) {m:Mem} (hd:Nat.blt d n=true) (ho:ops[i]? =some ⟨some d,.call { callee:= .value (.func f),args:=xs.toArray,argTypes:=ats },ty,pos,af,gd⟩) (hg:gd=none∨∃ j b,gd=some (j,b)∧Qfc σ ops j b) (hf:JR P f=true)
  (ha:evs σ xs=some vs) (hm:Yt Ω j=some m) (hS:∀ m' W,Inv w0 (Qa1 Ω j m') W→Inv w0 ΩS W) (hc:∀ W,Inv w0 Ω W→Qi P f vs W m Post) (h:∀ v m',Post v m'→VE P n w0 ops ΩS t (listed.setIfInBounds i true) mm ((d,v)::σ) (Qa1 Ω j m') K):VI P n w0 ops ΩS t listed mm i σ Ω K:=
 VI.s (fun v=>(d,v)::σ) ho (fun v _ he=>he.put hd v) hg (Stp.call j hf ha hm hc) (fun _ _ ⟨m',_,hΩ⟩ W hW=>hS m' W (by subst hΩ;exact hW)) (fun v _ ⟨m',hp,hΩ⟩=>hΩ ▸ h v m' hp)
theorem VI.bsl {i:Nat} {ty:TypeId} {pos:String} {af:Array Edge} {listed:Array Bool} {mm:Nat} {dd:Nat} {t' e:TypeId} {s b len:Nat} {l:List (Nat × Operand)} {ps:List (Nat × Value)} {z cs:List Value} (j:Nat) (hd:Nat.blt dd n=true) (ho:ops[i]? =some ⟨some dd,.buildSlice t' len l.toArray,ty,pos,af,none⟩)
  (hl:evp σ l=some ps) (ht:tsl P t'=some (e,s,b)) (hz:tz P e=some z)
  (hsmall:Nat.ble (len*s) 16777216=true) (hb:bld (fun i=>some (i*s,s)) ((List.range (len*s)).map fun j=>z.toArray[j % z.toArray.size]!) ps=some cs) (hS:∀ W,Inv w0 Ω W→Inv w0 ΩS W)
  (h:∀ g,VE P n w0 ops ΩS t (listed.setIfInBounds i true) mm ((dd,.slice (some ⟨g,0,none⟩) len len)::σ) ((j,QM g (.cells cs.toArray e (0,0)))::Ω) K):VI P n w0 ops ΩS t listed mm i σ Ω K:=
 VI.s (fun v=>(dd,v)::σ) ho (fun v _ he=>he.put hd v) (.inl rfl) (Stp.bsl j hl ht hz hsmall hb) (fun _ _ ⟨_,_,hΩ⟩ W hW=>hS W (by subst hΩ;exact hW.tl)) (fun _ _ ⟨g,hv,hΩ⟩=>hv ▸ hΩ ▸ h g)
theorem VI.alloc {tt i:Nat} {listed:Array Bool} {mm:Nat} {dd:Nat} {t:TypeId} {ty:TypeId} {pos:String} {af:Array Edge} {z:List Value} (j:Nat) (hd:Nat.blt dd n=true) (ho:ops[i]? =some ⟨some dd,.alloc t,ty,pos,af,none⟩) (hz:tz P t=some z) (hS:∀ g W,Inv w0 ((j,QM g (.cells z.toArray t (0,0)))::Ω) W→Inv w0 ΩS W)
  (h:∀ g,VE P n w0 ops ΩS tt (listed.setIfInBounds i true) mm ((dd,.pointer (some ⟨g,0,none⟩))::σ) ((j,QM g (.cells z.toArray t (0,0)))::Ω) K):VI P n w0 ops ΩS tt listed mm i σ Ω K:=
 VI.s (fun v=>(dd,v)::σ) ho (fun v _ he=>he.put hd v) (.inl rfl) (Stp.alloc j hz) (fun _ _ ⟨g,_,hΩ⟩ W hW=>hS g W (by subst hΩ;exact hW)) (fun _ _ ⟨g,hv,hΩ⟩=>hv ▸ hΩ ▸ h g)
theorem VI.app {tt q:Nat} {listed:Array Bool} {mm:Nat} {ty:TypeId} {pos:String} {af:Array Edge} {s x:Operand} {t xt e:TypeId} {sz b len k dd:Nat} {v xv:Value} {cs xs z:List Value} (i:Nat) {m m0:Mem} (hd:Nat.blt dd n=true) (ho:ops[q]? =some ⟨some dd,.call { callee:= .builtin .append,args:=[s,x].toArray,argTypes:=[t,xt].toArray },ty,pos,af,none⟩) (hsv:ev σ s=some v) (hxv:ev σ x=some xv) (ht:tsl P t=some (e,sz,b)) (hz:tz P e=some z) (hzl:z.length=sz)
  (hm:Yt Ω i=some m) (hm0:mle m0 m) (hown:XY sz m0 v len cs) (hs:Src P Ω sz xt xv k xs) (h1:∀ u∈xs,u.oneCell'=true) (hml:len+k≤maxLen) (hb:(len+k)*b≤140737488355328) (hb0:b≠0) (hS:∀ m' W,Inv w0 (Qa1 Ω i m') W→Inv w0 ΩS W)
  (h:∀ v' m',XY sz m' v' (len+k) (cs++xs)→VE P n w0 ops ΩS tt (listed.setIfInBounds q true) mm ((dd,v')::σ) (Qa1 Ω i m') K):VI P n w0 ops ΩS tt listed mm q σ Ω K:=
 VI.s (fun v=>(dd,v)::σ) ho (fun v _ he=>he.put hd v) (.inl rfl) (Stp.app i hsv hxv ht hz hzl hm hm0 hown hs h1 hml hb hb0) (fun _ _ ⟨m',_,hΩ⟩ W hW=>hS m' W (by subst hΩ;exact hW)) (fun v _ ⟨m',hp,hΩ⟩=>hΩ ▸ h v m' hp)
theorem VI.appO {tt q:Nat} {listed:Array Bool} {mm:Nat} {ty:TypeId} {pos:String} {af:Array Edge} {e:Ty} {s x:Operand} {t xt et xe:TypeId} {b dd g c:Nat} {v:Value} {xs:List e.Den} {y:e.Den} {yc z:List Value} (i j k:Nat) {m mj mk:Mem} (hd:Nat.blt dd n=true) (ho:ops[q]? =some ⟨some dd,.call { callee:= .builtin .append,args:=[s,x].toArray,argTypes:=[t,xt].toArray },ty,pos,af,none⟩) (hsv:ev σ s=some v) (hxv:ev σ x=some (.slice (some ⟨g,0,none⟩) 1 c)) (ht:tsl P t=some (et,e.sz,b)) (hz:tz P et=some z) (hzl:z.length=e.sz)
  (hm:Yt Ω i=some m) (hj:Yt (ZM Ω i) j=some mj) (hk:Yt Ω k=some mk) (hown:Ow (.sl e) m [v] xs) (hy:Ow e mj yc y) (hxt:P.underlying xt=some (.slice xe)) (hc:JH mk g 0 e.sz yc) (hml:xs.length+1≤maxLen) (hb:(xs.length+1)*b≤140737488355328) (hb0:b≠0) (hS:∀ m' W,Inv w0 ((i,m')::ZM (ZM Ω i) j) W→Inv w0 ΩS W)
  (h:∀ v' m',Ow (.sl e) m' [v'] (xs++[y])→VE P n w0 ops ΩS tt (listed.setIfInBounds q true) mm ((dd,v')::σ) ((i,m')::ZM (ZM Ω i) j) K):VI P n w0 ops ΩS tt listed mm q σ Ω K:=
 VI.s (fun v=>(dd,v)::σ) ho (fun v _ he=>he.put hd v) (.inl rfl) (Stp.appO i j k hsv hxv ht hz hzl hm hj hk hown hy hxt hc hml hb hb0) (fun _ _ ⟨m',_,hΩ⟩ W hW=>hS m' W (by subst hΩ;exact hW)) (fun v _ ⟨m',hp,hΩ⟩=>hΩ ▸ h v m' hp)
theorem VI.store {tt q:Nat} {listed:Array Bool} {mm:Nat} {ty:TypeId} {pos:String} {af:Array Edge} {t:TypeId} {x y:Operand} {g off:Nat} {v:Value} {k:Nat} (i:Nat) {c:Array Value} {E:TypeId} {c':List Value}
  (ho:ops[q]? =some ⟨none,.store t x y,ty,pos,af,none⟩)
  (hx:ev σ x=some (.pointer (some ⟨g,off,none⟩))) (hy:ev σ y=some v) (ht:tk P t=some (some k)∨(tk P t=some none∧k=1)) (hk:Nat.beq v.cells.size k=true) (hn:nice v=true)
  (hm:Yt Ω i=some (QM g (.cells c E (0,0)))) (hl:Nat.ble (off+k) c.size=true) (hc:Jw c.toList off v.cells.toList=c')
  (hS:∀ W,Inv w0 (Qa1 Ω i (QM g (.cells c'.toArray E (0,0)))) W→Inv w0 ΩS W)
  (h:VE P n w0 ops ΩS tt (listed.setIfInBounds q true) mm σ (Qa1 Ω i (QM g (.cells c'.toArray E (0,0)))) K):VI P n w0 ops ΩS tt listed mm q σ Ω K:=
 VI.s (fun _=>σ) ho (fun _ _ he=>he) (.inl rfl) (Stp.store i hx hy ht hk hn hm (QJ _ _) hl) (fun _ _ ⟨_,hΩ⟩ W hW=>hS W (by rw [hΩ,X9,hc] at hW;exact hW)) (fun _ _ ⟨_,hΩ⟩=>by rw [hΩ,X9,hc];exact h)
theorem VI.storeH {tt q:Nat} {listed:Array Bool} {mm:Nat} {ty:TypeId} {pos:String} {af:Array Edge} {t:TypeId} {x y:Operand} {g off:Nat} {v:Value} {k:Nat} (i:Nat) {c:Array Value} {E:TypeId} {c':List Value}
  (ho:ops[q]? =some ⟨none,.store t x y,ty,pos,af,none⟩)
  (hx:ev σ x=some (.pointer (some ⟨g,off,none⟩))) (hy:ev σ y=some v) (ht:tk P t=some (some k)∨(tk P t=some none∧k=1)) (hk:Nat.beq v.cells.size k=true) (hn:nice v=true)
  (hm:Yt Ω i=some (QM g (.cells c E (0,0)))) (hl:Nat.ble (off+k) c.size=true) (hc:Jw c.toList off v.cells.toList=c')
  (hS:∀ W,Inv w0 (Qa1 Ω i (QM g (.cells c'.toArray E (0,0)))) W→Inv w0 (QeK ΩS) W)
  (h:VE P n w0 ops (QeK ΩS) tt (listed.setIfInBounds q true) mm σ (Qa1 Ω i (QM g (.cells c'.toArray E (0,0)))) K):VI P n w0 ops ΩS tt listed mm q σ Ω K:=
 VI.sH (fun _=>σ) ho (fun _ _ he=>he) rfl (by unfold QiK;rw [ho]) (Stp.store i hx hy ht hk hn hm (QJ _ _) hl) (fun _ _ ⟨_,hΩ⟩ W hW=>hS W (by rw [hΩ,X9,hc] at hW;exact hW)) (fun _ _ ⟨_,hΩ⟩=>by rw [hΩ,X9,hc];exact h)
end
abbrev YP : Ty := .pair (.int .i64) (.pair (.int .i64) (.pair (.sl .byte) (.int .i64)))
abbrev XW := Int × Int × (List UInt8) × Int
instance QqC : DecidableEq XW := (@instDecidableEqProd _ _ inferInstance (@instDecidableEqProd _ _ inferInstance (@instDecidableEqProd _ _ inferInstance inferInstance)))
theorem XQ {m:Mem} {cs:List Value} {x0:Int} {x1:Int} {x2:List UInt8} {x3:Int} (h:Rd YP m cs (x0,x1,x2,x3)):∃ (A2:Option Addr),∃ (c2:Nat),cs=[(.int .i64 x0:Value),.int .i64 x1,.slice A2 x2.length c2,.int .i64 x3]∧inK .i64 x0∧inK .i64 x1∧Rd (.sl .byte) m [.slice A2 x2.length c2] x2∧inK .i64 x3:=by
 obtain ⟨p1,q1,rfl,u1,w1⟩:=Rd.pair h
 obtain ⟨rfl,z2⟩:=(show _=_∧_ from u1)
 obtain ⟨p3,q3,rfl,u3,w3⟩:=Rd.pair w1
 obtain ⟨rfl,z4⟩:=(show _=_∧_ from u3)
 obtain ⟨p5,q5,rfl,u5,w5⟩:=Rd.pair w3
 have z6:=u5
 obtain ⟨A6,c6,rfl,_⟩:=Rd.slice1 u5
 obtain ⟨rfl,z7⟩:=(show _=_∧_ from w5)
 exact ⟨A6,c6,rfl,z2,z4,z6,z7⟩
theorem QbR {m:Mem} (x0:Int) (x1:Int) (x2:List UInt8) (x3:Int) (h0:inK .i64 x0) (h1:inK .i64 x1) {v2:Value} (h2:Rd (.sl .byte) m [v2] x2) (h3:inK .i64 x3):Rd YP m [.int .i64 x0,.int .i64 x1,v2,.int .i64 x3] (x0,x1,x2,x3):=(Rd.mkPair (c1:=[_]) (show Rd (.int .i64) m [_] _ from ⟨rfl,h0⟩) (Rd.mkPair (c1:=[_]) (show Rd (.int .i64) m [_] _ from ⟨rfl,h1⟩) (Rd.mkPair (c1:=[_]) h2 (show Rd (.int .i64) m [_] _ from ⟨rfl,h3⟩))))
theorem QeJ {m:Mem} {n2:Mem} (x0:Int) (x1:Int) (x2:List UInt8) (x3:Int) (hS:QA m [n2]) (h0:inK .i64 x0) (h1:inK .i64 x1) {v2:Value} (h2:Ow (.sl .byte) n2 [v2] x2) (h3:inK .i64 x3):Ow YP m [.int .i64 x0,.int .i64 x1,v2,.int .i64 x3] (x0,x1,x2,x3):=by
 obtain ⟨e1,la1,lb1,Sa1,Sb1⟩:=QA.cut (l:=[]) (r:=[n2]) hS
 obtain ⟨e2,la2,lb2,Sa2,Sb2⟩:=QA.cut (l:=[]) (r:=[n2]) Sb1
 obtain ⟨e3,la3,lb3,Sa3,Sb3⟩:=QA.cut (l:=[n2]) (r:=[]) Sb2
 exact (Ow.mkPair (c1:=[_]) e1 la1 lb1 (show Ow (.int .i64) _ [_] _ from ⟨rfl,h0⟩) (Ow.mkPair (c1:=[_]) e2 la2 lb2 (show Ow (.int .i64) _ [_] _ from ⟨rfl,h1⟩) (Ow.mkPair (c1:=[_]) e3 la3 lb3 (h2.up (Sa3.1 _ (.head _))) (show Ow (.int .i64) _ [_] _ from ⟨rfl,h3⟩))))
abbrev QN : Ty := .pair .bool (.pair .bool (.pair .bool (.pair (.int .i64) (.pair (.int .i64) (.pair (.pair (.sl .byte) (.pair (.sl .byte) (.pair (.sl .byte) (.sl .byte)))) (.sl YP))))))
abbrev QO := Bool × Bool × Bool × Int × Int × ((List UInt8) × (List UInt8) × (List UInt8) × (List UInt8)) × (List XW)
instance QqD : DecidableEq QO := (@instDecidableEqProd _ _ inferInstance (@instDecidableEqProd _ _ inferInstance (@instDecidableEqProd _ _ inferInstance (@instDecidableEqProd _ _ inferInstance (@instDecidableEqProd _ _ inferInstance (@instDecidableEqProd _ _ (@instDecidableEqProd _ _ inferInstance (@instDecidableEqProd _ _ inferInstance (@instDecidableEqProd _ _ inferInstance inferInstance))) inferInstance))))))
theorem Qge {m:Mem} {cs:List Value} {x0:Bool} {x1:Bool} {x2:Bool} {x3:Int} {x4:Int} {x5:List UInt8} {x6:List UInt8} {x7:List UInt8} {x8:List UInt8} {x9:List XW} (h:Ow QN m cs (x0,x1,x2,x3,x4,(x5,x6,x7,x8),x9)):∃ (A5:Option Addr),∃ (c5:Nat),∃ (A6:Option Addr),∃ (c6:Nat),∃ (A7:Option Addr),∃ (c7:Nat),∃ (A8:Option Addr),∃ (c8:Nat),∃ (A9:Option Addr),∃ (c9:Nat),∃ (n5:Mem),∃ (n6:Mem),∃ (n7:Mem),∃ (n8:Mem),∃ (n9:Mem),cs=[(.bool x0:Value),.bool x1,.bool x2,.int .i64 x3,.int .i64 x4,.slice A5 x5.length c5,.slice A6 x6.length c6,.slice A7 x7.length c7,.slice A8 x8.length c8,.slice A9 x9.length c9]∧QA m [n5,n6,n7,n8,n9]∧inK .i64 x3∧inK .i64 x4∧Ow (.sl .byte) n5 [.slice A5 x5.length c5] x5∧Ow (.sl .byte) n6 [.slice A6 x6.length c6] x6∧Ow (.sl .byte) n7 [.slice A7 x7.length c7] x7∧Ow (.sl .byte) n8 [.slice A8 x8.length c8] x8∧Ow (.sl YP) n9 [.slice A9 x9.length c9] x9:=by
 obtain ⟨p1,q1,ma1,mb1,rfl,dj1,la1,lb1,u1,w1⟩:=Ow.pair h
 obtain rfl:=(show _=_ from u1)
 obtain ⟨p3,q3,ma3,mb3,rfl,dj3,la3,lb3,u3,w3⟩:=Ow.pair w1
 obtain rfl:=(show _=_ from u3)
 obtain ⟨p5,q5,ma5,mb5,rfl,dj5,la5,lb5,u5,w5⟩:=Ow.pair w3
 obtain rfl:=(show _=_ from u5)
 obtain ⟨p7,q7,ma7,mb7,rfl,dj7,la7,lb7,u7,w7⟩:=Ow.pair w5
 obtain ⟨rfl,z8⟩:=(show _=_∧_ from u7)
 obtain ⟨p9,q9,ma9,mb9,rfl,dj9,la9,lb9,u9,w9⟩:=Ow.pair w7
 obtain ⟨rfl,z10⟩:=(show _=_∧_ from u9)
 obtain ⟨p11,q11,ma11,mb11,rfl,dj11,la11,lb11,u11,w11⟩:=Ow.pair w9
 obtain ⟨p12,q12,ma12,mb12,rfl,dj12,la12,lb12,u12,w12⟩:=Ow.pair u11
 have z13:=u12
 obtain ⟨A13,c13,rfl,_⟩:=Ow.slice1 u12
 obtain ⟨p14,q14,ma14,mb14,rfl,dj14,la14,lb14,u14,w14⟩:=Ow.pair w12
 have z15:=u14
 obtain ⟨A15,c15,rfl,_⟩:=Ow.slice1 u14
 obtain ⟨p16,q16,ma16,mb16,rfl,dj16,la16,lb16,u16,w16⟩:=Ow.pair w14
 have z17:=u16
 obtain ⟨A17,c17,rfl,_⟩:=Ow.slice1 u16
 have z18:=w16
 obtain ⟨A18,c18,rfl,_⟩:=Ow.slice1 w16
 have z19:=w11
 obtain ⟨A19,c19,rfl,_⟩:=Ow.slice1 w11
 exact ⟨A13,c13,A15,c15,A17,c17,A18,c18,A19,c19,_,_,_,_,_,rfl,(QA.app dj1 la1 lb1 (QA.nil _) (QA.app dj3 la3 lb3 (QA.nil _) (QA.app dj5 la5 lb5 (QA.nil _) (QA.app dj7 la7 lb7 (QA.nil _) (QA.app dj9 la9 lb9 (QA.nil _) (QA.app dj11 la11 lb11 (QA.app dj12 la12 lb12 (QA.one (Qc _)) (QA.app dj14 la14 lb14 (QA.one (Qc _)) (QA.app dj16 la16 lb16 (QA.one (Qc _)) (QA.one (Qc _))))) (QA.one (Qc _)))))))),z8,z10,z13,z15,z17,z18,z19⟩
theorem QiG {m:Mem} {n5 n6 n7 n8 n9:Mem} (x0:Bool) (x1:Bool) (x2:Bool) (x3:Int) (x4:Int) (x5:List UInt8) (x6:List UInt8) (x7:List UInt8) (x8:List UInt8) (x9:List XW) (hS:QA m [n5,n6,n7,n8,n9]) (h3:inK .i64 x3) (h4:inK .i64 x4) {v5:Value} (h5:Ow (.sl .byte) n5 [v5] x5) {v6:Value} (h6:Ow (.sl .byte) n6 [v6] x6) {v7:Value} (h7:Ow (.sl .byte) n7 [v7] x7) {v8:Value} (h8:Ow (.sl .byte) n8 [v8] x8) {v9:Value} (h9:Ow (.sl YP) n9 [v9] x9):Ow QN m [.bool x0,.bool x1,.bool x2,.int .i64 x3,.int .i64 x4,v5,v6,v7,v8,v9] (x0,x1,x2,x3,x4,(x5,x6,x7,x8),x9):=by
 obtain ⟨e1,la1,lb1,Sa1,Sb1⟩:=QA.cut (l:=[]) (r:=[n5,n6,n7,n8,n9]) hS
 obtain ⟨e2,la2,lb2,Sa2,Sb2⟩:=QA.cut (l:=[]) (r:=[n5,n6,n7,n8,n9]) Sb1
 obtain ⟨e3,la3,lb3,Sa3,Sb3⟩:=QA.cut (l:=[]) (r:=[n5,n6,n7,n8,n9]) Sb2
 obtain ⟨e4,la4,lb4,Sa4,Sb4⟩:=QA.cut (l:=[]) (r:=[n5,n6,n7,n8,n9]) Sb3
 obtain ⟨e5,la5,lb5,Sa5,Sb5⟩:=QA.cut (l:=[]) (r:=[n5,n6,n7,n8,n9]) Sb4
 obtain ⟨e6,la6,lb6,Sa6,Sb6⟩:=QA.cut (l:=[n5,n6,n7,n8]) (r:=[n9]) Sb5
 obtain ⟨e7,la7,lb7,Sa7,Sb7⟩:=QA.cut (l:=[n5]) (r:=[n6,n7,n8]) Sa6
 obtain ⟨e8,la8,lb8,Sa8,Sb8⟩:=QA.cut (l:=[n6]) (r:=[n7,n8]) Sb7
 obtain ⟨e9,la9,lb9,Sa9,Sb9⟩:=QA.cut (l:=[n7]) (r:=[n8]) Sb8
 exact (Ow.mkPair (c1:=[_]) e1 la1 lb1 (show Ow .bool _ [_] _ from rfl) (Ow.mkPair (c1:=[_]) e2 la2 lb2 (show Ow .bool _ [_] _ from rfl) (Ow.mkPair (c1:=[_]) e3 la3 lb3 (show Ow .bool _ [_] _ from rfl) (Ow.mkPair (c1:=[_]) e4 la4 lb4 (show Ow (.int .i64) _ [_] _ from ⟨rfl,h3⟩) (Ow.mkPair (c1:=[_]) e5 la5 lb5 (show Ow (.int .i64) _ [_] _ from ⟨rfl,h4⟩) (Ow.mkPair (c1:=[_,_,_,_]) e6 la6 lb6 (Ow.mkPair (c1:=[_]) e7 la7 lb7 (h5.up (Sa7.1 _ (.head _))) (Ow.mkPair (c1:=[_]) e8 la8 lb8 (h6.up (Sa8.1 _ (.head _))) (Ow.mkPair (c1:=[_]) e9 la9 lb9 (h7.up (Sa9.1 _ (.head _))) (h8.up (Sb9.1 _ (.head _)))))) (h9.up (Sb6.1 _ (.head _)))))))))
theorem QcX {m:Mem} {cs:List Value} {g:Nat} {x0:Bool} {x1:Bool} {x2:Bool} {x3:Int} {x4:Int} {x5:List UInt8} {x6:List UInt8} {x7:List UInt8} {x8:List UInt8} {x9:List XW} (h:Ow (.ptr QN) m cs (g,(x0,x1,x2,x3,x4,(x5,x6,x7,x8),x9))):∃ (E:TypeId),∃ (A5:Option Addr),∃ (c5:Nat),∃ (A6:Option Addr),∃ (c6:Nat),∃ (A7:Option Addr),∃ (c7:Nat),∃ (A8:Option Addr),∃ (c8:Nat),∃ (A9:Option Addr),∃ (c9:Nat),∃ (n5:Mem),∃ (n6:Mem),∃ (n7:Mem),∃ (n8:Mem),∃ (n9:Mem),cs=[.pointer (some ⟨g,0,none⟩)]∧QA m [QM g (.cells [(.bool x0:Value),.bool x1,.bool x2,.int .i64 x3,.int .i64 x4,.slice A5 x5.length c5,.slice A6 x6.length c6,.slice A7 x7.length c7,.slice A8 x8.length c8,.slice A9 x9.length c9].toArray E (0,0)),n5,n6,n7,n8,n9]∧inK .i64 x3∧inK .i64 x4∧Ow (.sl .byte) n5 [.slice A5 x5.length c5] x5∧Ow (.sl .byte) n6 [.slice A6 x6.length c6] x6∧Ow (.sl .byte) n7 [.slice A7 x7.length c7] x7∧Ow (.sl .byte) n8 [.slice A8 x8.length c8] x8∧Ow (.sl YP) n9 [.slice A9 x9.length c9] x9:=by
 obtain ⟨rfl,rc,E,m1,hd,l0,l1,h1⟩:=Ow.opnP h
 obtain ⟨A5,c5,A6,c6,A7,c7,A8,c8,A9,c9,n5,n6,n7,n8,n9,rfl,hS,f3,f4,f5,f6,f7,f8,f9⟩:=Qge h1
 exact ⟨E,A5,c5,A6,c6,A7,c7,A8,c8,A9,c9,n5,n6,n7,n8,n9,rfl,QA.app hd l0 l1 (QA.one (Qc _)) hS,f3,f4,f5,f6,f7,f8,f9⟩
theorem QF {m : Mem} {cs : List Value} {g : Nat} {x : QO} (h : Ow (.ptr QN) m cs (g, x)) : type_of% (QcX (x0 := x.1) (x1 := x.2.1) (x2 := x.2.2.1) (x3 := x.2.2.2.1) (x4 := x.2.2.2.2.1) (x5 := x.2.2.2.2.2.1.1) (x6 := x.2.2.2.2.2.1.2.1) (x7 := x.2.2.2.2.2.1.2.2.1) (x8 := x.2.2.2.2.2.1.2.2.2) (x9 := x.2.2.2.2.2.2) h) := QcX (x0 := x.1) (x1 := x.2.1) (x2 := x.2.2.1) (x3 := x.2.2.2.1) (x4 := x.2.2.2.2.1) (x5 := x.2.2.2.2.2.1.1) (x6 := x.2.2.2.2.2.1.2.1) (x7 := x.2.2.2.2.2.1.2.2.1) (x8 := x.2.2.2.2.2.1.2.2.2) (x9 := x.2.2.2.2.2.2) h
theorem JM {m:Mem} {g:Nat} {E:TypeId} {n5 n6 n7 n8 n9:Mem}{v5:Value}{v6:Value}{v7:Value}{v8:Value}{v9:Value} (x0:Bool) (x1:Bool) (x2:Bool) (x3:Int) (x4:Int) (x5:List UInt8) (x6:List UInt8) (x7:List UInt8) (x8:List UInt8) (x9:List XW) (hS:QA m [QM g (.cells [.bool x0,.bool x1,.bool x2,.int .i64 x3,.int .i64 x4,v5,v6,v7,v8,v9].toArray E (0,0)),n5,n6,n7,n8,n9]) (h3:inK .i64 x3) (h4:inK .i64 x4) (h5:Ow (.sl .byte) n5 [v5] x5) (h6:Ow (.sl .byte) n6 [v6] x6) (h7:Ow (.sl .byte) n7 [v7] x7) (h8:Ow (.sl .byte) n8 [v8] x8) (h9:Ow (.sl YP) n9 [v9] x9):Ow (.ptr QN) m [.pointer (some ⟨g,0,none⟩)] (g,(x0,x1,x2,x3,x4,(x5,x6,x7,x8),x9)):=
 Ow.clsP hS fun hS=>QiG x0 x1 x2 x3 x4 x5 x6 x7 x8 x9 hS h3 h4 h5 h6 h7 h8 h9
theorem Q7 {m:Mem} {g:Nat} {E:TypeId} {n5 n6 n7 n8 n9:Mem}{v5:Value}{v6:Value}{v7:Value}{v8:Value}{v9:Value} (x:QO) (hS:QA m [QM g (.cells [.bool x.1,.bool x.2.1,.bool x.2.2.1,.int .i64 x.2.2.2.1,.int .i64 x.2.2.2.2.1,v5,v6,v7,v8,v9].toArray E (0,0)),n5,n6,n7,n8,n9]) (h3:inK .i64 x.2.2.2.1) (h4:inK .i64 x.2.2.2.2.1) (h5:Ow (.sl .byte) n5 [v5] x.2.2.2.2.2.1.1) (h6:Ow (.sl .byte) n6 [v6] x.2.2.2.2.2.1.2.1) (h7:Ow (.sl .byte) n7 [v7] x.2.2.2.2.2.1.2.2.1) (h8:Ow (.sl .byte) n8 [v8] x.2.2.2.2.2.1.2.2.2) (h9:Ow (.sl YP) n9 [v9] x.2.2.2.2.2.2):Ow (.ptr QN) m [.pointer (some ⟨g,0,none⟩)] (g,x):=JM (x.1) (x.2.1) (x.2.2.1) (x.2.2.2.1) (x.2.2.2.2.1) (x.2.2.2.2.2.1.1) (x.2.2.2.2.2.1.2.1) (x.2.2.2.2.2.1.2.2.1) (x.2.2.2.2.2.1.2.2.2) (x.2.2.2.2.2.2) hS h3 h4 h5 h6 h7 h8 h9
abbrev YO : Ty := .pair (.int .i64) (.pair .bool (.pair (.int .i64) (.sl .byte)))
abbrev XV := Int × Bool × Int × (List UInt8)
instance Qqz : DecidableEq XV := (@instDecidableEqProd _ _ inferInstance (@instDecidableEqProd _ _ inferInstance (@instDecidableEqProd _ _ inferInstance inferInstance)))
theorem Qax {m:Mem} {cs:List Value} {x0:Int} {x1:Bool} {x2:Int} {x3:List UInt8} (h:Rd YO m cs (x0,x1,x2,x3)):∃ (A3:Option Addr),∃ (c3:Nat),cs=[(.int .i64 x0:Value),.bool x1,.int .i64 x2,.slice A3 x3.length c3]∧inK .i64 x0∧inK .i64 x2∧Rd (.sl .byte) m [.slice A3 x3.length c3] x3:=by
 obtain ⟨p1,q1,rfl,u1,w1⟩:=Rd.pair h
 obtain ⟨rfl,z2⟩:=(show _=_∧_ from u1)
 obtain ⟨p3,q3,rfl,u3,w3⟩:=Rd.pair w1
 obtain rfl:=(show _=_ from u3)
 obtain ⟨p5,q5,rfl,u5,w5⟩:=Rd.pair w3
 obtain ⟨rfl,z6⟩:=(show _=_∧_ from u5)
 have z7:=w5
 obtain ⟨A7,c7,rfl,_⟩:=Rd.slice1 w5
 exact ⟨A7,c7,rfl,z2,z6,z7⟩
theorem QbQ {m:Mem} (x0:Int) (x1:Bool) (x2:Int) (x3:List UInt8) (h0:inK .i64 x0) (h2:inK .i64 x2) {v3:Value} (h3:Rd (.sl .byte) m [v3] x3):Rd YO m [.int .i64 x0,.bool x1,.int .i64 x2,v3] (x0,x1,x2,x3):=(Rd.mkPair (c1:=[_]) (show Rd (.int .i64) m [_] _ from ⟨rfl,h0⟩) (Rd.mkPair (c1:=[_]) (show Rd .bool m [_] _ from rfl) (Rd.mkPair (c1:=[_]) (show Rd (.int .i64) m [_] _ from ⟨rfl,h2⟩) h3)))
theorem QeI {m:Mem} {n3:Mem} (x0:Int) (x1:Bool) (x2:Int) (x3:List UInt8) (hS:QA m [n3]) (h0:inK .i64 x0) (h2:inK .i64 x2) {v3:Value} (h3:Ow (.sl .byte) n3 [v3] x3):Ow YO m [.int .i64 x0,.bool x1,.int .i64 x2,v3] (x0,x1,x2,x3):=by
 obtain ⟨e1,la1,lb1,Sa1,Sb1⟩:=QA.cut (l:=[]) (r:=[n3]) hS
 obtain ⟨e2,la2,lb2,Sa2,Sb2⟩:=QA.cut (l:=[]) (r:=[n3]) Sb1
 obtain ⟨e3,la3,lb3,Sa3,Sb3⟩:=QA.cut (l:=[]) (r:=[n3]) Sb2
 exact (Ow.mkPair (c1:=[_]) e1 la1 lb1 (show Ow (.int .i64) _ [_] _ from ⟨rfl,h0⟩) (Ow.mkPair (c1:=[_]) e2 la2 lb2 (show Ow .bool _ [_] _ from rfl) (Ow.mkPair (c1:=[_]) e3 la3 lb3 (show Ow (.int .i64) _ [_] _ from ⟨rfl,h2⟩) (h3.up (Sb3.1 _ (.head _))))))
abbrev QD : Ty := .pair .bool (.pair (.pair (.sl .byte) (.pair (.sl .byte) (.pair (.sl .byte) (.sl .byte)))) (.pair (.sl YO) (.pair .bool (.pair .bool (.pair (.int .i64) (.int .i64))))))
abbrev Qy := Bool × ((List UInt8) × (List UInt8) × (List UInt8) × (List UInt8)) × (List XV) × Bool × Bool × Int × Int
instance QpC : DecidableEq Qy := (@instDecidableEqProd _ _ inferInstance (@instDecidableEqProd _ _ (@instDecidableEqProd _ _ inferInstance (@instDecidableEqProd _ _ inferInstance (@instDecidableEqProd _ _ inferInstance inferInstance))) (@instDecidableEqProd _ _ inferInstance (@instDecidableEqProd _ _ inferInstance (@instDecidableEqProd _ _ inferInstance (@instDecidableEqProd _ _ inferInstance inferInstance))))))
theorem QfJ {m:Mem} {cs:List Value} {x0:Bool} {x1:List UInt8} {x2:List UInt8} {x3:List UInt8} {x4:List UInt8} {x5:List XV} {x6:Bool} {x7:Bool} {x8:Int} {x9:Int} (h:Ow QD m cs (x0,(x1,x2,x3,x4),x5,x6,x7,x8,x9)):∃ (A1:Option Addr),∃ (c1:Nat),∃ (A2:Option Addr),∃ (c2:Nat),∃ (A3:Option Addr),∃ (c3:Nat),∃ (A4:Option Addr),∃ (c4:Nat),∃ (A5:Option Addr),∃ (c5:Nat),∃ (n1:Mem),∃ (n2:Mem),∃ (n3:Mem),∃ (n4:Mem),∃ (n5:Mem),cs=[(.bool x0:Value),.slice A1 x1.length c1,.slice A2 x2.length c2,.slice A3 x3.length c3,.slice A4 x4.length c4,.slice A5 x5.length c5,.bool x6,.bool x7,.int .i64 x8,.int .i64 x9]∧QA m [n1,n2,n3,n4,n5]∧Ow (.sl .byte) n1 [.slice A1 x1.length c1] x1∧Ow (.sl .byte) n2 [.slice A2 x2.length c2] x2∧Ow (.sl .byte) n3 [.slice A3 x3.length c3] x3∧Ow (.sl .byte) n4 [.slice A4 x4.length c4] x4∧Ow (.sl YO) n5 [.slice A5 x5.length c5] x5∧inK .i64 x8∧inK .i64 x9:=by
 obtain ⟨p1,q1,ma1,mb1,rfl,dj1,la1,lb1,u1,w1⟩:=Ow.pair h
 obtain rfl:=(show _=_ from u1)
 obtain ⟨p3,q3,ma3,mb3,rfl,dj3,la3,lb3,u3,w3⟩:=Ow.pair w1
 obtain ⟨p4,q4,ma4,mb4,rfl,dj4,la4,lb4,u4,w4⟩:=Ow.pair u3
 have z5:=u4
 obtain ⟨A5,c5,rfl,_⟩:=Ow.slice1 u4
 obtain ⟨p6,q6,ma6,mb6,rfl,dj6,la6,lb6,u6,w6⟩:=Ow.pair w4
 have z7:=u6
 obtain ⟨A7,c7,rfl,_⟩:=Ow.slice1 u6
 obtain ⟨p8,q8,ma8,mb8,rfl,dj8,la8,lb8,u8,w8⟩:=Ow.pair w6
 have z9:=u8
 obtain ⟨A9,c9,rfl,_⟩:=Ow.slice1 u8
 have z10:=w8
 obtain ⟨A10,c10,rfl,_⟩:=Ow.slice1 w8
 obtain ⟨p11,q11,ma11,mb11,rfl,dj11,la11,lb11,u11,w11⟩:=Ow.pair w3
 have z12:=u11
 obtain ⟨A12,c12,rfl,_⟩:=Ow.slice1 u11
 obtain ⟨p13,q13,ma13,mb13,rfl,dj13,la13,lb13,u13,w13⟩:=Ow.pair w11
 obtain rfl:=(show _=_ from u13)
 obtain ⟨p15,q15,ma15,mb15,rfl,dj15,la15,lb15,u15,w15⟩:=Ow.pair w13
 obtain rfl:=(show _=_ from u15)
 obtain ⟨p17,q17,ma17,mb17,rfl,dj17,la17,lb17,u17,w17⟩:=Ow.pair w15
 obtain ⟨rfl,z18⟩:=(show _=_∧_ from u17)
 obtain ⟨rfl,z19⟩:=(show _=_∧_ from w17)
 exact ⟨A5,c5,A7,c7,A9,c9,A10,c10,A12,c12,_,_,_,_,_,rfl,(QA.app dj1 la1 lb1 (QA.nil _) (QA.app dj3 la3 lb3 (QA.app dj4 la4 lb4 (QA.one (Qc _)) (QA.app dj6 la6 lb6 (QA.one (Qc _)) (QA.app dj8 la8 lb8 (QA.one (Qc _)) (QA.one (Qc _))))) (QA.app dj11 la11 lb11 (QA.one (Qc _)) (QA.app dj13 la13 lb13 (QA.nil _) (QA.app dj15 la15 lb15 (QA.nil _) (QA.app dj17 la17 lb17 (QA.nil _) (QA.nil _))))))),z5,z7,z9,z10,z12,z18,z19⟩
theorem Qhv {m:Mem} {n1 n2 n3 n4 n5:Mem} (x0:Bool) (x1:List UInt8) (x2:List UInt8) (x3:List UInt8) (x4:List UInt8) (x5:List XV) (x6:Bool) (x7:Bool) (x8:Int) (x9:Int) (hS:QA m [n1,n2,n3,n4,n5]) {v1:Value} (h1:Ow (.sl .byte) n1 [v1] x1) {v2:Value} (h2:Ow (.sl .byte) n2 [v2] x2) {v3:Value} (h3:Ow (.sl .byte) n3 [v3] x3) {v4:Value} (h4:Ow (.sl .byte) n4 [v4] x4) {v5:Value} (h5:Ow (.sl YO) n5 [v5] x5) (h8:inK .i64 x8) (h9:inK .i64 x9):Ow QD m [.bool x0,v1,v2,v3,v4,v5,.bool x6,.bool x7,.int .i64 x8,.int .i64 x9] (x0,(x1,x2,x3,x4),x5,x6,x7,x8,x9):=by
 obtain ⟨e1,la1,lb1,Sa1,Sb1⟩:=QA.cut (l:=[]) (r:=[n1,n2,n3,n4,n5]) hS
 obtain ⟨e2,la2,lb2,Sa2,Sb2⟩:=QA.cut (l:=[n1,n2,n3,n4]) (r:=[n5]) Sb1
 obtain ⟨e3,la3,lb3,Sa3,Sb3⟩:=QA.cut (l:=[n1]) (r:=[n2,n3,n4]) Sa2
 obtain ⟨e4,la4,lb4,Sa4,Sb4⟩:=QA.cut (l:=[n2]) (r:=[n3,n4]) Sb3
 obtain ⟨e5,la5,lb5,Sa5,Sb5⟩:=QA.cut (l:=[n3]) (r:=[n4]) Sb4
 obtain ⟨e6,la6,lb6,Sa6,Sb6⟩:=QA.cut (l:=[n5]) (r:=[]) Sb2
 obtain ⟨e7,la7,lb7,Sa7,Sb7⟩:=QA.cut (l:=[]) (r:=[]) Sb6
 obtain ⟨e8,la8,lb8,Sa8,Sb8⟩:=QA.cut (l:=[]) (r:=[]) Sb7
 obtain ⟨e9,la9,lb9,Sa9,Sb9⟩:=QA.cut (l:=[]) (r:=[]) Sb8
 exact (Ow.mkPair (c1:=[_]) e1 la1 lb1 (show Ow .bool _ [_] _ from rfl) (Ow.mkPair (c1:=[_,_,_,_]) e2 la2 lb2 (Ow.mkPair (c1:=[_]) e3 la3 lb3 (h1.up (Sa3.1 _ (.head _))) (Ow.mkPair (c1:=[_]) e4 la4 lb4 (h2.up (Sa4.1 _ (.head _))) (Ow.mkPair (c1:=[_]) e5 la5 lb5 (h3.up (Sa5.1 _ (.head _))) (h4.up (Sb5.1 _ (.head _)))))) (Ow.mkPair (c1:=[_]) e6 la6 lb6 (h5.up (Sa6.1 _ (.head _))) (Ow.mkPair (c1:=[_]) e7 la7 lb7 (show Ow .bool _ [_] _ from rfl) (Ow.mkPair (c1:=[_]) e8 la8 lb8 (show Ow .bool _ [_] _ from rfl) (Ow.mkPair (c1:=[_]) e9 la9 lb9 (show Ow (.int .i64) _ [_] _ from ⟨rfl,h8⟩) (show Ow (.int .i64) _ [_] _ from ⟨rfl,h9⟩)))))))
theorem Qcm {m:Mem} {cs:List Value} {g:Nat} {x0:Bool} {x1:List UInt8} {x2:List UInt8} {x3:List UInt8} {x4:List UInt8} {x5:List XV} {x6:Bool} {x7:Bool} {x8:Int} {x9:Int} (h:Ow (.ptr QD) m cs (g,(x0,(x1,x2,x3,x4),x5,x6,x7,x8,x9))):∃ (E:TypeId),∃ (A1:Option Addr),∃ (c1:Nat),∃ (A2:Option Addr),∃ (c2:Nat),∃ (A3:Option Addr),∃ (c3:Nat),∃ (A4:Option Addr),∃ (c4:Nat),∃ (A5:Option Addr),∃ (c5:Nat),∃ (n1:Mem),∃ (n2:Mem),∃ (n3:Mem),∃ (n4:Mem),∃ (n5:Mem),cs=[.pointer (some ⟨g,0,none⟩)]∧QA m [QM g (.cells [(.bool x0:Value),.slice A1 x1.length c1,.slice A2 x2.length c2,.slice A3 x3.length c3,.slice A4 x4.length c4,.slice A5 x5.length c5,.bool x6,.bool x7,.int .i64 x8,.int .i64 x9].toArray E (0,0)),n1,n2,n3,n4,n5]∧Ow (.sl .byte) n1 [.slice A1 x1.length c1] x1∧Ow (.sl .byte) n2 [.slice A2 x2.length c2] x2∧Ow (.sl .byte) n3 [.slice A3 x3.length c3] x3∧Ow (.sl .byte) n4 [.slice A4 x4.length c4] x4∧Ow (.sl YO) n5 [.slice A5 x5.length c5] x5∧inK .i64 x8∧inK .i64 x9:=by
 obtain ⟨rfl,rc,E,m1,hd,l0,l1,h1⟩:=Ow.opnP h
 obtain ⟨A1,c1,A2,c2,A3,c3,A4,c4,A5,c5,n1,n2,n3,n4,n5,rfl,hS,f1,f2,f3,f4,f5,f8,f9⟩:=QfJ h1
 exact ⟨E,A1,c1,A2,c2,A3,c3,A4,c4,A5,c5,n1,n2,n3,n4,n5,rfl,QA.app hd l0 l1 (QA.one (Qc _)) hS,f1,f2,f3,f4,f5,f8,f9⟩
theorem Qt {m : Mem} {cs : List Value} {g : Nat} {x : Qy} (h : Ow (.ptr QD) m cs (g, x)) : type_of% (Qcm (x0 := x.1) (x1 := x.2.1.1) (x2 := x.2.1.2.1) (x3 := x.2.1.2.2.1) (x4 := x.2.1.2.2.2) (x5 := x.2.2.1) (x6 := x.2.2.2.1) (x7 := x.2.2.2.2.1) (x8 := x.2.2.2.2.2.1) (x9 := x.2.2.2.2.2.2) h) := Qcm (x0 := x.1) (x1 := x.2.1.1) (x2 := x.2.1.2.1) (x3 := x.2.1.2.2.1) (x4 := x.2.1.2.2.2) (x5 := x.2.2.1) (x6 := x.2.2.2.1) (x7 := x.2.2.2.2.1) (x8 := x.2.2.2.2.2.1) (x9 := x.2.2.2.2.2.2) h
theorem Jl {m:Mem} {g:Nat} {E:TypeId} {n1 n2 n3 n4 n5:Mem}{v1:Value}{v2:Value}{v3:Value}{v4:Value}{v5:Value} (x0:Bool) (x1:List UInt8) (x2:List UInt8) (x3:List UInt8) (x4:List UInt8) (x5:List XV) (x6:Bool) (x7:Bool) (x8:Int) (x9:Int) (hS:QA m [QM g (.cells [.bool x0,v1,v2,v3,v4,v5,.bool x6,.bool x7,.int .i64 x8,.int .i64 x9].toArray E (0,0)),n1,n2,n3,n4,n5]) (h1:Ow (.sl .byte) n1 [v1] x1) (h2:Ow (.sl .byte) n2 [v2] x2) (h3:Ow (.sl .byte) n3 [v3] x3) (h4:Ow (.sl .byte) n4 [v4] x4) (h5:Ow (.sl YO) n5 [v5] x5) (h8:inK .i64 x8) (h9:inK .i64 x9):Ow (.ptr QD) m [.pointer (some ⟨g,0,none⟩)] (g,(x0,(x1,x2,x3,x4),x5,x6,x7,x8,x9)):=
 Ow.clsP hS fun hS=>Qhv x0 x1 x2 x3 x4 x5 x6 x7 x8 x9 hS h1 h2 h3 h4 h5 h8 h9
theorem QP {m:Mem} {g:Nat} {E:TypeId} {n1 n2 n3 n4 n5:Mem}{v1:Value}{v2:Value}{v3:Value}{v4:Value}{v5:Value} (x:Qy) (hS:QA m [QM g (.cells [.bool x.1,v1,v2,v3,v4,v5,.bool x.2.2.2.1,.bool x.2.2.2.2.1,.int .i64 x.2.2.2.2.2.1,.int .i64 x.2.2.2.2.2.2].toArray E (0,0)),n1,n2,n3,n4,n5]) (h1:Ow (.sl .byte) n1 [v1] x.2.1.1) (h2:Ow (.sl .byte) n2 [v2] x.2.1.2.1) (h3:Ow (.sl .byte) n3 [v3] x.2.1.2.2.1) (h4:Ow (.sl .byte) n4 [v4] x.2.1.2.2.2) (h5:Ow (.sl YO) n5 [v5] x.2.2.1) (h8:inK .i64 x.2.2.2.2.2.1) (h9:inK .i64 x.2.2.2.2.2.2):Ow (.ptr QD) m [.pointer (some ⟨g,0,none⟩)] (g,x):=Jl (x.1) (x.2.1.1) (x.2.1.2.1) (x.2.1.2.2.1) (x.2.1.2.2.2) (x.2.2.1) (x.2.2.2.1) (x.2.2.2.2.1) (x.2.2.2.2.2.1) (x.2.2.2.2.2.2) hS h1 h2 h3 h4 h5 h8 h9
abbrev Qje := Int × Int × Int × Int × (List UInt8)
instance QqB : DecidableEq Qje := (@instDecidableEqProd _ _ inferInstance (@instDecidableEqProd _ _ inferInstance (@instDecidableEqProd _ _ inferInstance (@instDecidableEqProd _ _ inferInstance inferInstance))))
abbrev Dur := Qr × Qr × Qr × Qr
abbrev Xz := XW
abbrev QY := QO
def Qdf (q : Dur) (f : Int) : Qr := if f = 0 then q.1 else if f = 1 then q.2.1 else if f = 2 then q.2.2.1 else q.2.2.2
def Qoa (q : Dur) (f : Int) (b : Qr) : Dur := if f = 0 then (b, q.2) else if f = 1 then (q.1, b, q.2.2) else if f = 2 then (q.1, q.2.1, b, q.2.2.2) else (q.1, q.2.1, q.2.2.1, b)
def QcR (b : Qr) (s : Xz) : Qr := if s.1 = 0 then b ++ s.2.2.1 else if s.1 = 1 then b.take s.2.2.2.toNat else b
def ZW (q : Dur) (s : Xz) : Dur := Qoa q s.2.1 (QcR (Qdf q s.2.1) s)
def QcU (q : Dur) (l : List Xz) : Dur := l.foldl ZW q
def XC (f : Int) (b : Qr) (s : Xz) : Qr := if s.2.1 = f then QcR b s else b
def J6 (q : Dur) (l : List Xz) (f : Int) : Qr := l.foldl (XC f) (Qdf q f)
def inF (f : Int) : Prop := 0 ≤ f ∧ f < 4
instance (f : Int) : Decidable (inF f) := by unfold inF; infer_instance
theorem Qp6 {q:Dur} {f g:Int} {b:Qr} (hf:inF f) (hg:inF g):Qdf (Qoa q f b) g=if f=g then b else Qdf q g:=by
 obtain ⟨h0,h1⟩:=hf;obtain ⟨h2,h3⟩:=hg
 obtain rfl | rfl | rfl | rfl:f=0∨f=1∨f=2∨f=3:=by omega
 all_goals obtain rfl | rfl | rfl | rfl:g=0∨g=1∨g=2∨g=3:=by omega
 all_goals rfl
def QiP (q : Dur) (s : Xz) : Prop := (s.1 = 0 ∨ s.1 = 1) ∧ inF s.2.1 ∧ (s.1 = 0 → 1 ≤ s.2.2.1.length ∧ s.2.2.1.length ≤ 64) ∧ (s.1 = 1 → 0 ≤ s.2.2.2 ∧ s.2.2.2 ≤ (Qdf q s.2.1).length)
def Qde : Dur → List Xz → Prop
  | _, [] => True
  | q, s :: r => QiP q s ∧ Qde (ZW q s) r
theorem QdK : ∀ {l r : List Xz} {q : Dur}, Qde q (l ++ r) ↔ Qde q l ∧ Qde (QcU q l) r
  | [], r, q => by simp [Qde, QcU]
  | s :: l, r, q => by
    show QiP q s ∧ Qde (ZW q s) (l ++ r) ↔ (QiP q s ∧ Qde (ZW q s) l) ∧ Qde (QcU (ZW q s) l) r
    rw [QdK (l := l), and_assoc]
theorem QdC : ∀ {l : List Xz} {q : Dur} {f : Int}, Qde q l → inF f → Qdf (QcU q l) f = J6 q l f
  | [], q, f, _, _ => rfl
  | s :: l, q, f, h, hf => by
    show Qdf (QcU (ZW q s) l) f = _
    rw [QdC h.2 hf]
    show l.foldl (XC f) (Qdf (ZW q s) f) = l.foldl (XC f) (XC f (Qdf q f) s)
    rw [ZW, Qp6 h.1.2.1 hf]
    unfold XC
    split
    · rename_i he; rw [he]
    · rfl
def YU (q : Dur) : Nat := q.1.length + q.2.1.length + q.2.2.1.length + q.2.2.2.length
def Qai (l : List Xz) : Nat := (l.map fun s => s.2.2.1.length).sum
theorem Qbu (s:Xz) (l:List Xz):Qai (s::l)=s.2.2.1.length+Qai l:=by simp [Qai]
theorem Qfz (l r:List Xz):Qai (l++r)=Qai l+Qai r:=by simp [Qai]
theorem QdL (q:Dur) (f:Int):(Qdf q f).length≤YU q:=by unfold Qdf YU;split <;> (try split) <;> (try split) <;> omega
theorem QmE {q:Dur} {f:Int} {b:Qr}:YU (Qoa q f b)+(Qdf q f).length=YU q+b.length:=by
 unfold Qoa Qdf YU
 split
 ·dsimp only;omega
 ·split
  ·dsimp only;omega
  ·split <;> (dsimp only;omega)
theorem QgT (b:Qr) (s:Xz):(QcR b s).length≤b.length+s.2.2.1.length:=by
 unfold QcR
 split
 ·simp
 ·split
  ·simp only [List.length_take];omega
  ·omega
theorem Qgw (q:Dur) (s:Xz):YU (ZW q s)≤YU q+s.2.2.1.length:=by
 have:=QmE (q:=q) (f:=s.2.1) (b:=QcR (Qdf q s.2.1) s)
 have:=QgT (Qdf q s.2.1) s
 unfold ZW
 omega
theorem QdB : ∀ (l : List Xz) (q : Dur), YU (QcU q l) ≤ YU q + Qai l
  | [], q => by simp [QcU, Qai]
  | s :: l, q => by
    have h1 := QdB l (ZW q s)
    have h2 := Qgw q s
    rw [Qbu]
    show YU (QcU (ZW q s) l) ≤ _
    omega
theorem QaW (f : Int) : ∀ (l : List Xz) (b : Qr), (l.foldl (XC f) b).length ≤ b.length + Qai l
  | [], b => by simp [Qai]
  | s :: l, b => by
    have h1 := QaW f l (XC f b s)
    have h2 : (XC f b s).length ≤ b.length + s.2.2.1.length := by
      unfold XC
      split
      · exact QgT b s
      · omega
    rw [Qbu, List.foldl_cons]; omega
theorem XH (q:Dur) (l:List Xz) (f:Int):(J6 q l f).length≤YU q+Qai l:=by
 have:=QaW f l (Qdf q f)
 have:=QdL q f
 unfold J6;omega
def okD (d : QY) : Prop := Qde d.2.2.2.2.2.1 d.2.2.2.2.2.2 ∧ 0 ≤ d.2.2.2.1 ∧ 0 ≤ d.2.2.2.2.1
def wD (d : QY) : Nat := YU d.2.2.2.2.2.1 + Qai d.2.2.2.2.2.2 + d.2.2.2.2.2.2.length + d.2.2.2.2.1.toNat
def Qz : QY := (true, false, false, 0, 0, ([], [], [], []), [])
theorem Qen:okD Qz:=⟨trivial,Int.le_refl _,Int.le_refl _⟩
def Jj (d : QY) : Int := if d.1 = false then 1 else if d.2.1 = true then 6 else 0
def Q9 (d : QY) : QY × Bool := if d.2.2.1 = true then (if d.2.2.2.1 = 0 then ((d.1, true, d.2.2), false) else ((d.1, d.2.1, d.2.2.1, d.2.2.2.1 - 1, d.2.2.2.2.1 + 1, d.2.2.2.2.2), true)) else ((d.1, d.2.1, d.2.2.1, d.2.2.2.1, d.2.2.2.2.1 + 1, d.2.2.2.2.2), true)
def Qgi (d : QY) (s : Xz) : QY := (d.1, d.2.1, d.2.2.1, d.2.2.2.1, d.2.2.2.2.1, d.2.2.2.2.2.1, d.2.2.2.2.2.2 ++ [s])
theorem Xv {q:Dur} {f:Int} (h:f=0):Qdf q f=q.1:=by subst h;rfl
theorem Xu {q:Dur} {f:Int} (h:f=1):Qdf q f=q.2.1:=by subst h;rfl
theorem Xt {q:Dur} {f:Int} (h:f=2):Qdf q f=q.2.2.1:=by subst h;rfl
theorem Xs {q:Dur} {f:Int} (h:f=3):Qdf q f=q.2.2.2:=by subst h;rfl
theorem Qgb {q:Dur} {f:Int} {b:Qr} (h:f=0):Qoa q f b=(b,q.2):=by subst h;rfl
theorem Qga {q:Dur} {f:Int} {b:Qr} (h:f=1):Qoa q f b=(q.1,b,q.2.2):=by subst h;rfl
theorem Qf9 {q:Dur} {f:Int} {b:Qr} (h:f=2):Qoa q f b=(q.1,q.2.1,b,q.2.2.2):=by subst h;rfl
theorem Qf8 {q:Dur} {f:Int} {b:Qr} (h:f=3):Qoa q f b=(q.1,q.2.1,q.2.2.1,b):=by subst h;rfl
def ZN (d : QY) (k : Nat) : QY := (d.1, d.2.1, d.2.2.1, d.2.2.2.1, d.2.2.2.2.1, QcU d.2.2.2.2.2.1 (d.2.2.2.2.2.2.take k), d.2.2.2.2.2.2.drop k)
theorem Zk {α:Type} {l:List α} {n k:Nat} {x:α} (h:(l.take n)[k]? =some x):l[k]? =some x:=by
 rw [List.getElem?_take] at h
 split at h
 ·exact h
 ·cases h
theorem QgS {α:Type} {l:List α} {k:Nat} {x:α} (h:l[k]? =some x):l=l.take k++x::l.drop (k+1):=by
 obtain ⟨h1,h2⟩:=List.getElem?_eq_some_iff.1 h
 rw [← h2,← List.drop_eq_getElem_cons h1,List.take_append_drop]
section
variable {q : Dur} {l : List Xz} {f : Int} {b : Qr} {k : Nat} {s : Xz}
theorem QiN (hb:b=J6 q (l.take k) f) (hs:l[k]? =some s):XC f b s=J6 q (l.take (k+1)) f:=by
 rw [hb,J6,J6,List.take_add_one,hs,List.foldl_append];rfl
theorem Qfb (hb:b=J6 q (l.take k) f) (hs:l[k]? =some s) (h:s.2.1=f):QcR b s=J6 q (l.take (k+1)) f:=by
 rw [← QiN hb hs,XC,if_pos h]
theorem QhB (hb:b=J6 q (l.take k) f) (hs:l[k]? =some s) (h:¬ s.2.1=f):b=J6 q (l.take (k+1)) f:=by
 rw [← QiN hb hs,XC,if_neg h]
theorem QhC (hg:Qde q l) (hs:l[k]? =some s):QiP (QcU q (l.take k)) s∧Qde q (l.take k):=by
 rw [QgS hs,QdK] at hg
 exact ⟨hg.2.1,hg.1⟩
theorem QkX (hg:Qde q l) (hb:b=J6 q (l.take k) f) (hs:l[k]? =some s) (hf:inF f) (h:s.2.1=f):s.1=1→0≤s.2.2.2∧s.2.2.2≤b.length:=by
 obtain ⟨h1,h2⟩:=QhC hg hs
 intro h3
 have:=h1.2.2.2 h3
 rw [h,QdC h2 hf,← hb] at this
 exact this
theorem QgA (hs:l[k]? =some s):Qai (l.take k)+s.2.2.1.length≤Qai l:=by
 conv=>rhs;rw [QgS hs]
 rw [Qfz,Qbu];omega
theorem QiM (hb:b=J6 q (l.take k) f) (hs:l[k]? =some s):b.length+s.2.2.1.length≤YU q+Qai l:=by
 have h1:=XH q (l.take k) f
 have h2:=QgA hs
 rw [hb];omega
theorem Jn {q0:Dur} (hb:q=QcU q0 (l.take k)) (hs:l[k]? =some s):ZW q s=QcU q0 (l.take (k+1)):=by
 rw [hb,QcU,QcU,List.take_add_one,hs,List.foldl_append];rfl
theorem X7 {q0:Dur} (hg:Qde q0 l) (hb:q=QcU q0 (l.take k)) (hs:l[k]? =some s):inF s.2.1∧(s.1=1→0≤s.2.2.2∧s.2.2.2≤(Qdf q s.2.1).length):=by
 obtain ⟨h1,h2⟩:=QhC hg hs
 subst hb
 exact ⟨h1.2.1,h1.2.2.2⟩
theorem Xr {q0:Dur} (hb:q=QcU q0 (l.take k)) (hs:l[k]? =some s):(Qdf q s.2.1).length+s.2.2.1.length≤YU q0+Qai l:=by
 have h1:=QdB (l.take k) q0
 have h2:=QgA hs
 have h3:=QdL q s.2.1
 subst hb;omega
end
theorem XT {d:QY} (h:okD d):okD (Q9 d).1:=by
 obtain ⟨h1,h2,h3⟩:=h
 unfold Q9
 split
 ·split
  ·exact ⟨h1,h2,h3⟩
  ·exact ⟨h1,by dsimp only;omega,by dsimp only;omega⟩
 ·exact ⟨h1,h2,by dsimp only;omega⟩
theorem QdU {d:QY} (h:okD d):wD (Q9 d).1≤wD d+1:=by
 have h3:=h.2.2
 unfold Q9
 split
 ·split
  ·show wD d≤_;omega
  ·simp only [wD];omega
 ·simp only [wD];omega
theorem Qi9 (d:QY):(Q9 d).1.1=d.1∧(Q9 d).1.2.2.2.2.2=d.2.2.2.2.2:=by
 unfold Q9
 split
 ·split <;> exact ⟨rfl,rfl⟩
 ·exact ⟨rfl,rfl⟩
theorem QpF {d:QY} {s:Xz} (h:okD d) (hs:QiP (QcU d.2.2.2.2.2.1 d.2.2.2.2.2.2) s):okD (Qgi d s):=
 ⟨QdK.2 ⟨h.1,hs,trivial⟩,h.2⟩
theorem add_w (d:QY) (s:Xz):wD (Qgi d s)=wD d+s.2.2.1.length+1:=by
 simp only [wD,Qgi,Qfz,Qbu,List.length_append,List.length_cons,List.length_nil]
 show YU _+(Qai _+(s.2.2.1.length+Qai []))+_+_=_
 simp only [Qai,List.map_nil,List.sum_nil]
 omega
theorem QfB {d:QY} (k:Nat) (h:okD d):okD (ZN d k):=by
 obtain ⟨h1,h2⟩:=h
 rw [← List.take_append_drop k d.2.2.2.2.2.2,QdK] at h1
 exact ⟨h1.2,h2⟩
theorem Qe4 (d:QY) (k:Nat):wD (ZN d k)≤wD d:=by
 have h1:=QdB (d.2.2.2.2.2.2.take k) d.2.2.2.2.2.1
 have h2:Qai d.2.2.2.2.2.2=Qai (d.2.2.2.2.2.2.take k)+Qai (d.2.2.2.2.2.2.drop k):=by rw [← Qfz,List.take_append_drop]
 simp only [wD,ZN,List.length_drop]
 omega
def Zx : Nat → QY → Int → Qr → QY × Int
  | 0, d, _, _ => (d, 0)
  | n + 1, d, f, b => if b.length = 0 then (d, 0) else if (Q9 d).2 = true then Zx n (Qgi (Q9 d).1 (0, f, b.take 64, 0)) f (b.drop 64) else ((Q9 d).1, 6)
def ZC (d : QY) (f : Int) (b : Qr) : QY × Int := if ¬ Jj d = 0 then (d, Jj d) else if ¬ inF f then (d, 2) else Zx b.length d f b
section
variable {d d' : QY} {f : Int} {b : Qr} {n m : Nat} {p : QY × Int}
theorem Qfj (hp:p=Zx n d f b) (hb:b.length=0):p=(d,0):=by
 rw [hp];cases n with
 | zero=>rfl
 | succ n=>exact if_pos hb
theorem Qcd (hp:p=Zx n d f b) (hn:b.length≤n) (hb:0 < b.length) (h:¬ (Q9 d).2=true):p=((Q9 d).1,6):=by
 rw [hp];cases n with
 | zero=>omega
 | succ n=>rw [Zx,if_neg (by omega),if_neg h]
theorem Qgn (hp : p = Zx n d f b) (hn : b.length ≤ n) (hb : 0 < b.length) (h : (Q9 d).2 = true) (hm : m = min b.length 64) : p = Zx (n - 1) (Qgi (Q9 d).1 (0, f, b.take m, 0)) f (b.drop m) := by
  rw [hp]; cases n with
  | zero => omega
  | succ n =>
    rw [Zx, if_neg (by omega), if_pos h]
    have h1 : b.take m = b.take 64 := by
      by_cases h0 : b.length ≤ 64
      · rw [hm, List.take_of_length_le (by omega), List.take_of_length_le h0]
      · rw [hm, Nat.min_eq_right (by omega)]
    have h2 : b.drop m = b.drop 64 := by
      by_cases h0 : b.length ≤ 64
      · rw [hm, List.drop_of_length_le (by omega), List.drop_of_length_le h0]
      · rw [hm, Nat.min_eq_right (by omega)]
    rw [h1, h2]; rfl
theorem Qju (h:okD d) (hf:inF f) (hb:0 < b.length) (hm:m=min b.length 64):okD (Qgi (Q9 d).1 (0,f,b.take m,0)):=
 QpF (XT h) ⟨.inl rfl,hf,fun _=>by simp only [List.length_take];omega,fun h=>by cases h⟩
theorem QmD (h:okD d) (hb:0 < b.length) (hm:m=min b.length 64):wD (Qgi (Q9 d).1 (0,f,b.take m,0))+3*(b.drop m).length≤wD d+3*b.length:=by
 have h1:=QdU h
 rw [add_w]
 simp only [List.length_take,List.length_drop]
 omega
theorem Qd4 : ∀ (n : Nat) {d : QY} {b : Qr}, okD d → inF f → okD (Zx n d f b).1 ∧ wD (Zx n d f b).1 ≤ wD d + 3 * b.length + 1
  | 0, d, b, h, _ => ⟨h, by show wD d ≤ _; omega⟩
  | n + 1, d, b, h, hf => by
    unfold Zx
    split
    · exact ⟨h, by show wD d ≤ _; omega⟩
    · rename_i h0
      split
      · have e1 : b.take 64 = b.take (min b.length 64) := by
          by_cases h0 : b.length ≤ 64
          · rw [Nat.min_eq_left h0, List.take_of_length_le h0, List.take_of_length_le (Nat.le_refl _)]
          · rw [Nat.min_eq_right (by omega)]
        have h1 := Qju (m := min b.length 64) h hf (by omega) rfl
        have h2 := QmD (f := f) (m := min b.length 64) h (by omega) rfl
        rw [← e1] at h1 h2
        obtain ⟨k1, k2⟩ := Qd4 n (b := b.drop 64) h1 hf
        simp only [List.length_drop] at h2 k2
        exact ⟨k1, by omega⟩
      · have := QdU h
        exact ⟨XT h, by dsimp only; omega⟩
end
theorem QeZ {d:QY} {f:Int} {b:Qr} (h:okD d):okD (ZC d f b).1:=by
 unfold ZC;split
 ·exact h
 ·split
  ·exact h
  ·rename_i hf;exact (Qd4 _ h (Decidable.not_not.1 hf)).1
theorem Qjl {d:QY} {f:Int} {b:Qr} (h:okD d):wD (ZC d f b).1≤wD d+3*b.length+1:=by
 unfold ZC;split
 ·show wD d≤_;omega
 ·split
  ·show wD d≤_;omega
  ·rename_i hf;exact (Qd4 _ h (Decidable.not_not.1 hf)).2
def Xk (d : QY) (f n : Int) : QY × Int := if ¬ Jj d = 0 then (d, Jj d) else if ¬ inF f ∨ n < 0 ∨ ((J6 d.2.2.2.2.2.1 d.2.2.2.2.2.2 f).length : Int) < n then (d, 2) else
  if (Q9 d).2 = true then (Qgi (Q9 d).1 (1, f, [], n), 0) else ((Q9 d).1, 6)
theorem Qb7 {d:QY} {f n:Int} (h:okD d):okD (Xk d f n).1:=by
 unfold Xk;split
 ·exact h
 ·split
  ·exact h
  ·rename_i h1
   have hf:inF f:=Decidable.byContradiction fun q=>h1 (.inl q)
   have hn:¬ n < 0:=fun q=>h1 (.inr (.inl q))
   have hl:¬ ((J6 d.2.2.2.2.2.1 d.2.2.2.2.2.2 f).length:Int) < n:=fun q=>h1 (.inr (.inr q))
   split
   ·refine QpF (XT h) ⟨.inr rfl,hf,fun h=>(by cases h),fun _=>?_⟩
    rw [(Qi9 d).2]
    rw [QdC h.1 hf]
    dsimp only;omega
   ·exact XT h
theorem Ql2 {d:QY} {f n:Int} (h:okD d):wD (Xk d f n).1≤wD d+2:=by
 have:=QdU h
 unfold Xk;split
 ·show wD d≤_;omega
 ·split
  ·show wD d≤_;omega
  ·split
   ·rw [add_w];simp only [List.length_nil];omega
   ·dsimp only;omega
def YB (d : QY) : QY × Int := if ¬ Jj d = 0 then (d, Jj d) else if (Q9 d).2 = true then (ZN (Q9 d).1 (Q9 d).1.2.2.2.2.2.2.length, 0) else ((Q9 d).1, 6)
theorem Qc8 {d:QY} (h:okD d):okD (YB d).1:=by
 unfold YB;split
 ·exact h
 ·split
  ·exact QfB _ (XT h)
  ·exact XT h
theorem Qgu {d:QY} (h:okD d):wD (YB d).1≤wD d+1:=by
 have h1:=QdU h
 unfold YB;split
 ·show wD d≤_;omega
 ·split
  ·have:=Qe4 (Q9 d).1 (Q9 d).1.2.2.2.2.2.2.length
   dsimp only;omega
  ·dsimp only;omega
def JW (d : QY) (f : Int) : Qr × Int := if ¬ Jj d = 0 then ([], Jj d) else if ¬ inF f then ([], 2) else (J6 d.2.2.2.2.2.1 d.2.2.2.2.2.2 f, 0)
theorem Qiq (d:QY) (f:Int):(JW d f).1.length≤wD d:=by
 have:=XH d.2.2.2.2.2.1 d.2.2.2.2.2.2 f
 unfold JW;split
 ·exact Nat.zero_le _
 ·split
  ·exact Nat.zero_le _
  ·dsimp only [wD];omega
def ZK (d : QY) (n : Int) : QY × Int := if ¬ Jj d = 0 then (d, Jj d) else if n < 0 then (d, 2) else ((d.1, d.2.1, true, n, d.2.2.2.2), 0)
theorem QfQ {d:QY} {n:Int} (h:okD d):okD (ZK d n).1:=by
 unfold ZK;split
 ·exact h
 ·split
  ·exact h
  ·exact ⟨h.1,by dsimp only;omega,h.2.2⟩
theorem Qng (d:QY) (n:Int):wD (ZK d n).1=wD d:=by
 unfold ZK;split
 ·rfl
 ·split <;> rfl
def Z4 (d : QY) : QY × Int := if ¬ Jj d = 0 then (d, Jj d) else ((d.1, true, d.2.2), 0)
theorem Qej {d:QY} (h:okD d):okD (Z4 d).1:=by unfold Z4;split <;> exact h
theorem QkJ (d:QY):wD (Z4 d).1=wD d:=by unfold Z4;split <;> rfl
def Qdt (d : QY) (t : Int) : Dur := match d.2.2.2.2.2.2 with
  | [] => d.2.2.2.2.2.1
  | s :: _ => if s.1 = 0 then ZW d.2.2.2.2.2.1 (s.1, s.2.1, s.2.2.1.take (min t ((s.2.2.1.length : Int) - 1)).toNat, s.2.2.2) else d.2.2.2.2.2.1
def Za (d : QY) (k t : Int) : QY × Int := if d.1 = false then (d, 1) else if d.2.1 = false ∨ k < 0 ∨ t < 0 then (d, 2) else
  ((d.1, false, false, 0, d.2.2.2.2.1, Qdt (ZN d (min k d.2.2.2.2.2.2.length).toNat) t, []), 0)
theorem Qmy (d:QY) (t:Int):YU (Qdt d t)≤YU d.2.2.2.2.2.1+Qai d.2.2.2.2.2.2:=by
 unfold Qdt
 split
 ·omega
 ·rename_i s r hl
  rw [hl,Qbu]
  split
  ·have:=Qgw d.2.2.2.2.2.1 (s.1,s.2.1,s.2.2.1.take (min t ((s.2.2.1.length:Int) - 1)).toNat,s.2.2.2)
   simp only [List.length_take] at this
   omega
  ·omega
theorem Qcy {d:QY} {k t:Int} (h:okD d):okD (Za d k t).1:=by
 unfold Za;split
 ·exact h
 ·split
  ·exact h
  ·exact ⟨trivial,Int.le_refl _,h.2.2⟩
theorem Qhi (d:QY) (k t:Int):wD (Za d k t).1≤wD d:=by
 unfold Za;split
 ·show wD d≤_;omega
 ·split
  ·show wD d≤_;omega
  ·have h1:=Qmy (ZN d (min k d.2.2.2.2.2.2.length).toNat) t
   have h2:=Qe4 d (min k d.2.2.2.2.2.2.length).toNat
   simp only [wD] at h2 ⊢
   show YU _+0+0+_≤_
   have:(ZN d (min k d.2.2.2.2.2.2.length).toNat).2.2.2.2.1=d.2.2.2.2.1:=rfl
   omega
def QcI (d : QY) : Int := if d.1 = false then 0 else d.2.2.2.2.2.2.length
def QgU (d : QY) : Int := if d.1 = false then 0 else d.2.2.2.2.1
def Ym (d : QY) (f : Int) : Qr := if d.1 = false ∨ ¬ inF f then [] else Qdf d.2.2.2.2.2.1 f
theorem QeP (d:QY) (f:Int):(Ym d f).length≤wD d:=by
 have:=QdL d.2.2.2.2.2.1 f
 unfold Ym;split
 ·exact Nat.zero_le _
 ·simp only [wD];omega
theorem XI {d:QY} {f:Int} (h:¬ d.1=false) (h2:¬ ¬ inF f):Ym d f=Qdf d.2.2.2.2.2.1 f:=if_neg fun q=>q.elim h h2
theorem QoC (d:QY):d.2.2.2.2.2.2.length≤wD d:=by unfold wD;omega
theorem Qd3 {d:QY} {f:Int} {b:Qr} (h:¬ Jj d=0):ZC d f b=(d,Jj d):=if_pos h
theorem Qd2 {d:QY} {f:Int} {b:Qr} (h:¬ ¬ Jj d=0) (h2:¬ inF f):ZC d f b=(d,2):=by unfold ZC;rw [if_neg h,if_pos h2]
theorem Qa6 {d:QY} {f:Int} {b:Qr} (h:¬ ¬ Jj d=0) (h2:¬ ¬ inF f):ZC d f b=Zx b.length d f b:=by unfold ZC;rw [if_neg h,if_neg h2]
theorem QhP {d:QY} {f n:Int} (h:¬ Jj d=0):Xk d f n=(d,Jj d):=if_pos h
theorem QaC {d:QY} {f n:Int} (h:¬ ¬ Jj d=0) (h2:¬ inF f∨n < 0∨((J6 d.2.2.2.2.2.1 d.2.2.2.2.2.2 f).length:Int) < n):Xk d f n=(d,2):=by unfold Xk;rw [if_neg h,if_pos h2]
theorem Qi5 {d:QY} {f n:Int} (h:¬ ¬ Jj d=0) (h1:¬ ¬ inF f) (h2:¬ n < 0) (h3:¬ ((J6 d.2.2.2.2.2.1 d.2.2.2.2.2.2 f).length:Int) < n) (h4:¬ ¬ (Q9 d).2=true):Xk d f n=(Qgi (Q9 d).1 (1,f,[],n),0):=by
 unfold Xk;rw [if_neg h,if_neg (fun q=>q.elim h1 fun q=>q.elim h2 h3),if_pos (Decidable.not_not.1 h4)]
theorem Qdi {d:QY} {f n:Int} (h:¬ ¬ Jj d=0) (h1:¬ ¬ inF f) (h2:¬ n < 0) (h3:¬ ((J6 d.2.2.2.2.2.1 d.2.2.2.2.2.2 f).length:Int) < n) (h4:¬ (Q9 d).2=true):Xk d f n=((Q9 d).1,6):=by
 unfold Xk;rw [if_neg h,if_neg (fun q=>q.elim h1 fun q=>q.elim h2 h3),if_neg h4]
theorem XB {d:QY} (h:¬ Jj d=0):YB d=(d,Jj d):=if_pos h
theorem Ys {d:QY} (h:¬ ¬ Jj d=0) (h4:¬ (Q9 d).2=true):YB d=((Q9 d).1,6):=by unfold YB;rw [if_neg h,if_neg h4]
theorem X1 {d:QY} (h:¬ ¬ Jj d=0) (h4:¬ ¬ (Q9 d).2=true):YB d=(ZN (Q9 d).1 (Q9 d).1.2.2.2.2.2.2.length,0):=by unfold YB;rw [if_neg h,if_pos (Decidable.not_not.1 h4)]
theorem Qd9 {d:QY} {k t:Int} (h:d.1=false):Za d k t=(d,1):=if_pos h
theorem Xh {d:QY} {k t:Int} (h:¬ d.1=false) (h2:d.2.1=false∨k < 0∨t < 0):Za d k t=(d,2):=by unfold Za;rw [if_neg h,if_pos h2]
theorem QbJ {d:QY} {k t:Int} (h:¬ d.1=false) (h2:d.2.1=true) (h3:¬ k < 0) (h4:¬ t < 0):Za d k t=((d.1,false,false,0,d.2.2.2.2.1,Qdt (ZN d (min k d.2.2.2.2.2.2.length).toNat) t,[]),0):=by
 unfold Za;rw [if_neg h,if_neg (fun q=>q.elim (fun q=>absurd (h2.symm.trans q) (by decide)) fun q=>q.elim h3 h4)]
theorem Qkw {d:QY} {t:Int} (h:d.2.2.2.2.2.2.length≤0):Qdt d t=d.2.2.2.2.2.1:=by unfold Qdt;rw [List.eq_nil_of_length_eq_zero (Nat.le_zero.1 h)]
theorem QmA {d:QY} {t:Int} {s:Xz} (hs:d.2.2.2.2.2.2[0]? =some s) (h:¬ s.1=0):Qdt d t=d.2.2.2.2.2.1:=by
 unfold Qdt
 cases hl:d.2.2.2.2.2.2 with
 | nil=>rfl
 | cons x r=>rw [hl] at hs;cases hs;exact if_neg h
theorem Qds {d:QY} {t:Int} {s:Xz} (hs:d.2.2.2.2.2.2[0]? =some s) (h:s.1=0):Qdt d t=ZW d.2.2.2.2.2.1 (s.1,s.2.1,s.2.2.1.take (min t ((s.2.2.1.length:Int) - 1)).toNat,s.2.2.2):=by
 unfold Qdt
 cases hl:d.2.2.2.2.2.2 with
 | nil=>rw [hl] at hs;cases hs
 | cons x r=>rw [hl] at hs;cases hs;exact if_pos h
theorem Qbt {d:QY} {s:Xz} (h:okD d) (hs:d.2.2.2.2.2.2[0]? =some s):inF s.2.1∧(s.1=0→1≤s.2.2.1.length)∧(Qdf d.2.2.2.2.2.1 s.2.1).length+s.2.2.1.length≤wD d:=by
 obtain ⟨h1,_⟩:=QhC h.1 hs
 have h2:=Xr (q:=d.2.2.2.2.2.1) (q0:=d.2.2.2.2.2.1) (by rfl) hs
 exact ⟨h1.2.1,fun h=>(h1.2.2.1 h).1,by unfold wD;omega⟩
abbrev DAct := Qje
def Qo5 (l : List DAct) : Prop := (∀ a ∈ l, a.2.2.2.2.length ≤ 400) ∧ l.length ≤ 100
instance (l : List DAct) : Decidable (Qo5 l) := by unfold Qo5; infer_instance
structure Fz (n : Int) (d : QY) : Prop where
  ok : okD d
  made : d.1 = true
  has : d.2.2.1 = true
  sum : d.2.2.2.2.1 + d.2.2.2.1 = n
  off : d.2.1 = true → d.2.2.2.1 = 0
theorem Fz.add {n:Int} {d:QY} {s:Xz} (h:Fz n d) (hk:okD (Qgi d s)):Fz n (Qgi d s):=⟨hk,h.made,h.has,h.sum,h.off⟩
def leQ (p q : Dur) : Prop := ∀ f : Int, inF f → Qdf p f <+: Qdf q f
theorem leQ.trans {p q r:Dur} (h:leQ p q) (h':leQ q r):leQ p r:=fun f hf=>(h f hf).trans (h' f hf)
def begB (b a : Qr) : Prop := a.length ≤ b.length ∧ b.take a.length = a
instance (b a : Qr) : Decidable (begB b a) := by unfold begB; infer_instance
abbrev Qh3 := Int × Int × (List Qe)
instance QqN : DecidableEq Qh3 := (@instDecidableEqProd _ _ inferInstance (@instDecidableEqProd _ _ inferInstance inferInstance))
def hB1 (B : Qr) : Qr := B.drop (sN B 1048576)
def hB2 (B : Qr) : Qr := (hB1 B).drop (sN (hB1 B) 1048576)
abbrev hR1 (B : Qr) : Int × RS := Qb B 1048576 (0, false)
abbrev hR2 (B : Qr) : Int × RS := Qb B 1048576 (hR1 B).2
abbrev hR3 (B : Qr) : Int × RS := Qb B 1048576 (hR2 B).2
theorem Qph {e n:Int} {l:List Qe} (h:¬ ((Qg e n l).1=0∧(Qg e n l).2=0)):¬ (Qg e n l).1=0:=fun q=>h (QkP.2 q)
abbrev QnX := XV
abbrev Zb := Qy
def Q6 (r : QnX) : Xz := (if r.2.1 = true then 1 else 0, r.1, r.2.2.2, r.2.2.1)
def QjE (s : Xz) : QnX := (s.2.1, decide (s.1 = 1), s.2.2.2, s.2.2.1)
@[simp] theorem QkF (r : QnX) : QjE (Q6 r) = r := by obtain ⟨f, c, t, b⟩ := r; cases c <;> rfl
theorem Qn8 {s:Xz} (h:s.1=0∨s.1=1):Q6 (QjE s)=s:=by
 obtain ⟨k,f,b,t⟩:=s
 rcases h with h | h <;> (dsimp only at h;subst h;rfl)
@[simp] theorem Qeh (l : List QnX) : (l.map Q6).map QjE = l := by
  rw [List.map_map]
  conv => rhs; rw [← List.map_id l]
  congr 1; funext r; exact QkF r
@[simp] theorem comp_rs : QjE ∘ Q6 = id := funext QkF
theorem Qgv:∀ {l:List Xz} {q:Dur},Qde q l→(l.map QjE).map Q6=l
 | [],_,_=>rfl
 | s::l,q,h=>by rw [List.map_cons,List.map_cons,Qn8 h.1.1,Qgv h.2]
def Qd (r : Zb) : QY := (r.1, !r.2.2.2.1, r.2.2.2.2.1, if r.2.2.2.2.1 = true then r.2.2.2.2.2.1 else 0, r.2.2.2.2.2.2, r.2.1, r.2.2.1.map Q6)
def toR (d : QY) (x : Int) : Zb := (d.1, d.2.2.2.2.2.1, d.2.2.2.2.2.2.map QjE, !d.2.1, d.2.2.1, if d.2.2.1 = true then d.2.2.2.1 else x, d.2.2.2.2.1)
def nf (d : QY) : Prop := d.2.2.1 = false → d.2.2.2.1 = 0
theorem YV {d:QY} {x:Int} (h:okD d) (hn:nf d):Qd (toR d x)=d:=by
 obtain ⟨m,o,f,n,c,q,l⟩:=d
 have h1:=Qgv h.1
 unfold nf at hn
 dsimp only at h1 hn
 unfold Qd toR
 dsimp only
 rw [h1]
 cases f
 ·simp [hn rfl]
 ·simp
theorem QQ (r:Zb):toR (Qd r) r.2.2.2.2.2.1=r:=by
 obtain ⟨m,q,l,o,h,n,c⟩:=r
 unfold Qd toR
 dsimp only
 rw [Qeh]
 cases h <;> simp
theorem Zz (r:Zb):nf (Qd r):=by
 unfold nf Qd
 dsimp only
 intro h;rw [h];rfl
def okR (r : Zb) : Prop := okD (Qd r)
theorem QeG {d:QY} {x:Int} (h:okD d) (hn:nf d):okR (toR d x):=by unfold okR;rw [YV h hn];exact h
section
variable {d : QY}
theorem Qas (h:nf d):nf (Q9 d).1:=by
 unfold Q9
 split
 ·split
  ·exact h
  ·rename_i h1 _;intro q;exact absurd (h1.symm.trans q) (by decide)
 ·exact h
theorem Qpb {s:Xz} (h:nf d):nf (Qgi d s):=h
theorem Qm4 {k:Nat} (h:nf d):nf (ZN d k):=h
theorem nf_go {f : Int} : ∀ (n : Nat) {d : QY} {b : Qr}, nf d → nf (Zx n d f b).1
  | 0, d, b, h => h
  | n + 1, d, b, h => by
    unfold Zx
    split
    · exact h
    · split
      · exact nf_go n (Qpb (Qas h))
      · exact Qas h
theorem Qhr {f:Int} {b:Qr} (h:nf d):nf (ZC d f b).1:=by
 unfold ZC;split
 ·exact h
 ·split
  ·exact h
  ·exact nf_go _ h
theorem QeH {f n:Int} (h:nf d):nf (Xk d f n).1:=by
 unfold Xk;split
 ·exact h
 ·split
  ·exact h
  ·split
   ·exact Qpb (Qas h)
   ·exact Qas h
theorem Qhs (h:nf d):nf (YB d).1:=by
 unfold YB;split
 ·exact h
 ·split
  ·exact Qm4 (Qas h)
  ·exact Qas h
theorem QjP {n:Int} (h:nf d):nf (ZK d n).1:=by
 unfold ZK;split
 ·exact h
 ·split
  ·exact h
  ·intro q;cases q
theorem QjO (h:nf d):nf (Z4 d).1:=by unfold Z4;split <;> exact h
theorem Qht {k t:Int} (h:nf d):nf (Za d k t).1:=by
 unfold Za;split
 ·exact h
 ·split
  ·exact h
  ·intro _;rfl
end
def Qb9 (b : Qr) (r : QnX) : Qr := if r.2.1 = true then b.take r.2.2.1.toNat else b ++ r.2.2.2
theorem Yc (b:Qr) (r:QnX):Qb9 b r=QcR b (Q6 r):=by
 obtain ⟨f,c,t,y⟩:=r
 cases c <;> rfl
theorem Jz {l:List QnX} {k:Nat} {r:QnX} (h:l[k]? =some r):(l.map Q6)[k]? =some (Q6 r):=by rw [List.getElem?_map,h];rfl
def JB (d : QY) (n : Nat) : QY := (d.1, d.2.1, d.2.2.1, d.2.2.2.1, d.2.2.2.2.1, QcU d.2.2.2.2.2.1 (d.2.2.2.2.2.2.take n), d.2.2.2.2.2.2)
def Qd0 : Zb := (true, ([], [], [], []), [], true, false, 0, 0)
theorem Qbz:Qd Qd0=Qz:=rfl
theorem YC {r:QnX} {i:Int} (h:r.1=i):(Q6 r).2.1=i:=h
theorem QlE {r:QnX} (h:r.2.1=true):(Q6 r).1=1:=if_pos h
theorem Qbv {r:Zb} (h:r.2.2.2.2.1=true) (h0:r.2.2.2.2.2.1=0):toR (Q9 (Qd r)).1 r.2.2.2.2.2.1=(r.1,r.2.1,r.2.2.1,false,r.2.2.2.2.1,r.2.2.2.2.2.1,r.2.2.2.2.2.2)∧(Q9 (Qd r)).2=false:=by
 obtain ⟨m,q,l,o,f,n,c⟩:=r
 dsimp only at h h0
 subst h;subst h0
 simp [Q9,Qd,toR]
theorem Qbw {r:Zb} (h:r.2.2.2.2.1=true) (h0:¬ r.2.2.2.2.2.1=0):toR (Q9 (Qd r)).1 r.2.2.2.2.2.1=(r.1,r.2.1,r.2.2.1,r.2.2.2.1,r.2.2.2.2.1,r.2.2.2.2.2.1 - 1,r.2.2.2.2.2.2+1)∧(Q9 (Qd r)).2=true:=by
 obtain ⟨m,q,l,o,f,n,c⟩:=r
 dsimp only at h h0
 subst h
 simp [Q9,Qd,toR,h0]
theorem QaH {r:Zb} (h:r.2.2.2.2.1=false):toR (Q9 (Qd r)).1 r.2.2.2.2.2.1=(r.1,r.2.1,r.2.2.1,r.2.2.2.1,r.2.2.2.2.1,r.2.2.2.2.2.1,r.2.2.2.2.2.2+1)∧(Q9 (Qd r)).2=true:=by
 obtain ⟨m,q,l,o,f,n,c⟩:=r
 dsimp only at h
 subst h
 simp [Q9,Qd,toR]
theorem Qhc {X D:QY} {x:Int} (h:X.2.2.1=D.2.2.1):toR X (toR D x).2.2.2.2.2.1=toR X x:=by
 unfold toR
 dsimp only
 rw [h]
 cases D.2.2.1 <;> simp
theorem QgZ (d:QY):(Q9 d).1.2.2.1=d.2.2.1:=by
 unfold Q9
 split
 ·split <;> rfl
 ·rfl
theorem Qf2 {D:QY} {x:Int}:toR (Q9 D).1 (toR D x).2.2.2.2.2.1=toR (Q9 D).1 x:=Qhc (QgZ D)
theorem QaE {b:Bool} (h:¬ ¬ (if b=true then (0:Int) else 6)=0):b=true:=by cases b <;> simp_all
theorem ZD {b:Bool} (h:¬ (if b=true then (0:Int) else 6)=0):¬ b=true:=by cases b <;> simp_all
theorem Qon {l:Qr} {a M:Nat} (h:M=min l.length (a+64)):(l.take M).drop a=(l.drop a).take 64:=by
 rw [List.drop_take,h]
 by_cases h0:l.length≤a+64
 ·rw [Nat.min_eq_left h0,List.take_of_length_le (by simp),List.take_of_length_le (by simp;omega)]
 ·rw [Nat.min_eq_right (by omega)];congr 1;omega
theorem Qhh (b:Qr):b.take 64=b.take (min b.length 64):=by
 by_cases h0:b.length≤64
 ·rw [Nat.min_eq_left h0,List.take_of_length_le h0,List.take_of_length_le (Nat.le_refl _)]
 ·rw [Nat.min_eq_right (by omega)]
theorem Qlb (b:Qr):b.drop 64=b.drop (min b.length 64):=by
 by_cases h0:b.length≤64
 ·rw [Nat.min_eq_left h0,List.drop_of_length_le h0,List.drop_of_length_le (Nat.le_refl _)]
 ·rw [Nat.min_eq_right (by omega)]
section
variable {r : Zb} {D : QY} {x f : Int} {p q : Qr}
theorem Qjy (hr:r=toR D x) (hfr:Qd r=D) (hp:p=q):
  (((toR (Q9 (Qd r)).1 r.2.2.2.2.2.1).1,(toR (Q9 (Qd r)).1 r.2.2.2.2.2.1).2.1,(toR (Q9 (Qd r)).1 r.2.2.2.2.2.1).2.2.1++[(f,false,0,p)],(toR (Q9 (Qd r)).1 r.2.2.2.2.2.1).2.2.2):Zb)=toR (Qgi (Q9 D).1 (0,f,q,0)) x:=by
 rw [hfr,hr,Qf2,hp]
 unfold toR Qgi
 dsimp only
 rw [List.map_append]
 rfl
theorem QmR {n:Int} (hr:r=toR D x) (hfr:Qd r=D):
  (((toR (Q9 (Qd r)).1 r.2.2.2.2.2.1).1,(toR (Q9 (Qd r)).1 r.2.2.2.2.2.1).2.1,(toR (Q9 (Qd r)).1 r.2.2.2.2.2.1).2.2.1++[(f,true,n,[])],(toR (Q9 (Qd r)).1 r.2.2.2.2.2.1).2.2.2):Zb)=toR (Qgi (Q9 D).1 (1,f,[],n)) x:=by
 rw [hfr,hr,Qf2]
 unfold toR Qgi
 dsimp only
 rw [List.map_append]
 rfl
theorem QlH (hr:r=toR D x) (hfr:Qd r=D):toR (Q9 D).1 x=toR (Q9 (Qd r)).1 r.2.2.2.2.2.1:=by rw [hfr,hr,Qf2]
end
section
variable {D : QY} {f : Int} {l : Qr} {a n : Nat} {P : QY × Int}
theorem QmJ (h:okD D) (hn:nf D) (hf:inF f) (hb:0 < (l.drop a).length):okD (Qgi (Q9 D).1 (0,f,(l.drop a).take 64,0))∧nf (Qgi (Q9 D).1 (0,f,(l.drop a).take 64,0)):=by
 refine ⟨?_,Qas hn⟩
 rw [Qhh];exact Qju h hf hb rfl
theorem Qjx (hp:P=Zx n D f (l.drop a)) (hn:(l.drop a).length≤n) (hb:0 < (l.drop a).length) (h:(Q9 D).2=true):P=Zx (n - 1) (Qgi (Q9 D).1 (0,f,(l.drop a).take 64,0)) f (l.drop (a+64)):=by
 rw [Qgn hp hn hb h rfl,← Qhh,← Qlb,List.drop_drop]
theorem Qob (h:okD D) (hb:0 < (l.drop a).length):wD (Qgi (Q9 D).1 (0,f,(l.drop a).take 64,0))+3*(l.drop (a+64)).length≤wD D+3*(l.drop a).length:=by
 rw [← List.drop_drop,Qhh,Qlb];exact QmD h hb rfl
end
theorem Qg7 {r:Zb} (h:okD (Qd r)):(toR (Q9 (Qd r)).1 r.2.2.2.2.2.1).2.2.1.length≤wD (Qd r)+1:=by
 have h1:=QdU h
 have h2:=QoC (Q9 (Qd r)).1
 show (((Q9 (Qd r)).1.2.2.2.2.2.2).map QjE).length≤_
 rw [List.length_map];omega
theorem Qed {X:QY} {x:Int} (h:okD X) (hn:nf X) {n:Nat} (hl:n=(toR X x).2.2.1.length):
  (((toR (JB (Qd (toR X x)) n) (toR X x).2.2.2.2.2.1).1,(toR (JB (Qd (toR X x)) n) (toR X x).2.2.2.2.2.1).2.1,[],(toR (JB (Qd (toR X x)) n) (toR X x).2.2.2.2.2.1).2.2.2):Zb)=toR (ZN X X.2.2.2.2.2.2.length) x:=by
 have hl2:n=X.2.2.2.2.2.2.length:=by rw [hl];exact List.length_map ..
 rw [YV h hn,Qhc (X:=JB X n) (D:=X) rfl,hl2]
 unfold toR JB ZN
 dsimp only
 rw [List.drop_length,List.map_nil]
section
variable {r : Zb} {k t : Int} {x : QnX}
theorem QfE (hk:0≤k):(ZN (Qd r) (min k (Qd r).2.2.2.2.2.2.length).toNat).2.2.2.2.2.2=(r.2.2.1.map Q6).drop k.toNat:=by
 show (r.2.2.1.map Q6).drop (min k ((r.2.2.1.map Q6).length:Int)).toNat=_
 by_cases h:k≤((r.2.2.1.map Q6).length:Int)
 ·rw [show min k ((r.2.2.1.map Q6).length:Int)=k by omega]
 ·rw [List.drop_of_length_le (by omega),List.drop_of_length_le (by omega)]
theorem Qee (hk:0≤k):(ZN (Qd r) (min k (Qd r).2.2.2.2.2.2.length).toNat).2.2.2.2.2.1=QcU r.2.1 ((r.2.2.1.map Q6).take k.toNat):=by
 show QcU r.2.1 ((r.2.2.1.map Q6).take (min k ((r.2.2.1.map Q6).length:Int)).toNat)=_
 by_cases h:k≤((r.2.2.1.map Q6).length:Int)
 ·rw [show min k ((r.2.2.1.map Q6).length:Int)=k by omega]
 ·rw [List.take_of_length_le (by omega),List.take_of_length_le (by omega)]
theorem Yw (n:Nat) (y:Int):(toR (JB (Qd r) n) y).2.2.1=r.2.2.1:=Qeh _
theorem QaS (h:¬ r.1=false) (h2:r.2.2.2.1=false) (h3:¬ k < 0) (h4:¬ t < 0):
  toR (Za (Qd r) k t).1 r.2.2.2.2.2.1=(r.1,Qdt (ZN (Qd r) (min k (Qd r).2.2.2.2.2.2.length).toNat) t,[],true,false,r.2.2.2.2.2.1,r.2.2.2.2.2.2)∧(Za (Qd r) k t).2=0:=by
 rw [QbJ (d:=Qd r) h (by show (!r.2.2.2.1)=true;rw [h2];rfl) h3 h4]
 exact ⟨rfl,rfl⟩
theorem QmL (hk:0≤k) (h:¬ k < ((r.2.2.1).length:Int)):Qdt (ZN (Qd r) (min k (Qd r).2.2.2.2.2.2.length).toNat) t=QcU r.2.1 ((r.2.2.1.map Q6).take k.toNat):=by
 rw [Qkw (by rw [QfE hk];simp only [List.length_drop,List.length_map];omega),Qee hk]
theorem QkC (hk:0≤k) (hx:r.2.2.1[k.toNat]? =some x):(ZN (Qd r) (min k (Qd r).2.2.2.2.2.2.length).toNat).2.2.2.2.2.2[0]? =some (Q6 x):=by
 rw [QfE hk,List.getElem?_drop,Nat.add_zero];exact Jz hx
theorem Qoe (hk:0≤k) (hx:r.2.2.1[k.toNat]? =some x) (h:x.2.1=true):Qdt (ZN (Qd r) (min k (Qd r).2.2.2.2.2.2.length).toNat) t=QcU r.2.1 ((r.2.2.1.map Q6).take k.toNat):=by
 rw [QmA (QkC hk hx) (by rw [QlE h];decide),Qee hk]
theorem Qdx (hk:0≤k) (hx:r.2.2.1[k.toNat]? =some x) (h:x.2.1=false):Qdt (ZN (Qd r) (min k (Qd r).2.2.2.2.2.2.length).toNat) t=
  Qoa (QcU r.2.1 ((r.2.2.1.map Q6).take k.toNat)) x.1 (Qb9 (Qdf (QcU r.2.1 ((r.2.2.1.map Q6).take k.toNat)) x.1) (x.1,false,0,x.2.2.2.take (min t ((x.2.2.2.length:Int) - 1)).toNat)):=by
 rw [Qds (QkC hk hx) (by unfold Q6;rw [if_neg (by rw [h];decide)]),Qee hk]
 obtain ⟨f,c,y,b⟩:=x
 dsimp only at h
 subst h
 rfl
theorem QaR (h:okD (Qd r)) (hx:r.2.2.1[k.toNat]? =some x):inF x.1∧(x.2.1=false→1≤x.2.2.2.length)∧(Qdf (QcU r.2.1 ((r.2.2.1.map Q6).take k.toNat)) x.1).length+x.2.2.2.length≤wD (Qd r):=by
 obtain ⟨h1,h2⟩:=QhC h.1 (Jz hx)
 have h3:=Xr (q0:=r.2.1) rfl (Jz hx)
 refine ⟨h1.2.1,fun hc=>(h1.2.2.1 (by unfold Q6;rw [if_neg (by rw [hc];decide)])).1,?_⟩
 have h4:YU r.2.1+Qai (r.2.2.1.map Q6)≤wD (Qd r):=by unfold wD;show _≤YU r.2.1+Qai (r.2.2.1.map Q6)+_+_;omega
 exact Nat.le_trans h3 h4
end
theorem QkD {r:Zb} (h:¬ ¬ Jj (Qd r)=0):toR (Z4 (Qd r)).1 r.2.2.2.2.2.1=(r.1,r.2.1,r.2.2.1,false,r.2.2.2.2.1,r.2.2.2.2.2.1,r.2.2.2.2.2.2):=by
 unfold Z4
 rw [if_neg h]
 obtain ⟨m,q,l,o,f,n,c⟩:=r
 cases f <;> simp [toR,Qd]
theorem on_T {r:Zb} (h:¬ r.1=false):r.2.2.2.1=decide ((Qd r).1=true∧(Qd r).2.1=false):=by
 obtain ⟨m,q,l,o,f,n,c⟩:=r
 dsimp only at h
 cases m
 ·exact absurd rfl h
 ·cases o <;> rfl
theorem on_F {r:Zb} (h:¬ ¬ r.1=false):false=decide ((Qd r).1=true∧(Qd r).2.1=false):=by
 obtain ⟨m,q,l,o,f,n,c⟩:=r
 dsimp only at h
 cases m
 ·rfl
 ·exact absurd (by decide) h
theorem Xo {α:Type} {A B:List α} {w N m:Nat} (h:A.length+B.length≤w) (hw:w≤N):A.length+(B.take m).length≤N:=by rw [List.length_take];omega
theorem is_on {r:Zb} (h:r.2.2.2.1=true):(Qd r).2.1=false:=by show (!r.2.2.2.1)=false;rw [h];rfl
theorem Qnc {r:Zb} {n:Nat}:(toR (JB (Qd r) n) r.2.2.2.2.2.1).2.2.2.2.2.1=r.2.2.2.2.2.1:=by
 obtain ⟨m,q,l,o,f,x,c⟩:=r
 cases f <;> rfl
theorem X2 {r:Zb} {n:Nat} {Q Q':Dur} (hQ:Q=Q'):((r.1,Q,[],true,false,r.2.2.2.2.2.1,r.2.2.2.2.2.2):Zb)=((toR (JB (Qd r) n) r.2.2.2.2.2.1).1,Q',[],true,false,(toR (JB (Qd r) n) r.2.2.2.2.2.1).2.2.2.2.2.1,(toR (JB (Qd r) n) r.2.2.2.2.2.1).2.2.2.2.2.2):=by
 rw [Qnc,hQ];rfl
theorem Qnd {r:Zb} {n k:Nat} {b0 b1 b2 b3:Qr} (hb:(b0,b1,b2,b3)=QcU r.2.1 ((r.2.2.1.map Q6).take k)) (hk:k=n∨(k≤n∧r.2.2.1.length≤k)):
  toR (JB (Qd r) n) r.2.2.2.2.2.1=(r.1,(b0,b1,b2,b3),r.2.2.1,r.2.2.2.1,r.2.2.2.2.1,r.2.2.2.2.2.1,r.2.2.2.2.2.2):=by
 have h:QcU r.2.1 ((r.2.2.1.map Q6).take n)=(b0,b1,b2,b3):=by
  rw [hb]
  rcases hk with rfl | ⟨h1,h2⟩
  ·rfl
  ·rw [List.take_of_length_le (by rw [List.length_map];omega),List.take_of_length_le (by rw [List.length_map];omega)]
 obtain ⟨m,q,l,o,f,x,c⟩:=r
 dsimp only at h
 unfold toR JB Qd
 dsimp only
 rw [h,Qeh]
 cases f <;> simp
theorem Qof {r:Zb} {f:Int} {b:Qr} (h:okR r):okR (toR (ZC (Qd r) f b).1 r.2.2.2.2.2.1):=QeG (QeZ h) (Qhr (Zz r))
theorem Qoc {r:Zb} {f:Int} {b:Qr} (h:okR r):wD (Qd (toR (ZC (Qd r) f b).1 r.2.2.2.2.2.1))≤wD (Qd r)+3*b.length+1:=by rw [YV (QeZ h) (Qhr (Zz r))];exact Qjl h
theorem Qo8 {r:Zb} {f n:Int} (h:okR r):okR (toR (Xk (Qd r) f n).1 r.2.2.2.2.2.1):=QeG (Qb7 h) (QeH (Zz r))
theorem Qo6 {r:Zb} {f n:Int} (h:okR r):wD (Qd (toR (Xk (Qd r) f n).1 r.2.2.2.2.2.1))≤wD (Qd r)+2:=by rw [YV (Qb7 h) (QeH (Zz r))];exact Ql2 h
theorem QmO {r:Zb}  (h:okR r):okR (toR (YB (Qd r)).1 r.2.2.2.2.2.1):=QeG (Qc8 h) (Qhs (Zz r))
theorem QmK {r:Zb}  (h:okR r):wD (Qd (toR (YB (Qd r)).1 r.2.2.2.2.2.1))≤wD (Qd r)+1:=by rw [YV (Qc8 h) (Qhs (Zz r))];exact Qgu h
theorem QpR {r:Zb} {n:Int} (h:okR r):okR (toR (ZK (Qd r) n).1 r.2.2.2.2.2.1):=QeG (QfQ h) (QjP (Zz r))
theorem QpP {r:Zb} {n:Int} (h:okR r):wD (Qd (toR (ZK (Qd r) n).1 r.2.2.2.2.2.1))≤wD (Qd r):=by rw [YV (QfQ h) (QjP (Zz r))];exact Nat.le_of_eq (Qng _ _)
theorem QpQ {r:Zb}  (h:okR r):okR (toR (Z4 (Qd r)).1 r.2.2.2.2.2.1):=QeG (Qej h) (QjO (Zz r))
theorem QpO {r:Zb}  (h:okR r):wD (Qd (toR (Z4 (Qd r)).1 r.2.2.2.2.2.1))≤wD (Qd r):=by rw [YV (Qej h) (QjO (Zz r))];exact Nat.le_of_eq (QkJ _)
theorem Qog {r:Zb} {k t:Int} (h:okR r):okR (toR (Za (Qd r) k t).1 r.2.2.2.2.2.1):=QeG (Qcy h) (Qht (Zz r))
theorem Qod {r:Zb} {k t:Int} (h:okR r):wD (Qd (toR (Za (Qd r) k t).1 r.2.2.2.2.2.1))≤wD (Qd r):=by rw [YV (Qcy h) (Qht (Zz r))];exact Qhi _ _ _
theorem QjA {r:Zb}  (h:okR r):okR (toR (Q9 (Qd r)).1 r.2.2.2.2.2.1):=QeG (XT h) (Qas (Zz r))
theorem Qjz {r:Zb}  (h:okR r):wD (Qd (toR (Q9 (Qd r)).1 r.2.2.2.2.2.1))≤wD (Qd r)+1:=by rw [YV (XT h) (Qas (Zz r))];exact QdU h
section
variable {d : QY} {f n : Int} {b : Qr}
theorem QfF {f:Int} (h:Jj d=0) (hf:inF f):JW d f=(J6 d.2.2.2.2.2.1 d.2.2.2.2.2.2 f,0):=by
 unfold JW;rw [if_neg (by rw [h];decide),if_neg (Decidable.not_not.2 hf)]
theorem QlD:(YB d).1.2.2.1=d.2.2.1:=by
 unfold YB;split
 ·rfl
 ·split <;> exact QgZ d
theorem Qpf : ∀ (n : Nat) {d : QY} {b : Qr}, (Zx n d f b).2 = 0 ∨ (Zx n d f b).2 = 6
  | 0, d, b => .inl rfl
  | n + 1, d, b => by
    unfold Zx
    split
    · exact .inl rfl
    · split
      · exact Qpf n
      · exact .inr rfl
end
def curD (d : QY) : Dur := QcU d.2.2.2.2.2.1 d.2.2.2.2.2.2
theorem QoP {d:QY} {f:Int} (h:okD d) (hf:inF f):J6 d.2.2.2.2.2.1 d.2.2.2.2.2.2 f=Qdf (curD d) f:=(QdC h.1 hf).symm
theorem QaV (d:QY):(Q9 d).1.1=d.1:=(Qi9 d).1
theorem QoO {d:QY} (f:Int):(Qdf (curD d) f).length≤wD d:=by
 have h1:=QdB d.2.2.2.2.2.2 d.2.2.2.2.2.1
 have h2:=QdL (curD d) f
 unfold curD at h2 ⊢;unfold wD;omega
section
variable {d : QY} {A S : Dur} {f n k t : Int} {b : Qr}
theorem Qma (d:QY):((Q9 d).2=true∧(Q9 d).1.2.1=d.2.1)∨((Q9 d).2=false∧(Q9 d).1.2.1=true):=by
 unfold Q9
 split
 ·split
  ·exact .inr ⟨rfl,rfl⟩
  ·exact .inl ⟨rfl,rfl⟩
 ·exact .inl ⟨rfl,rfl⟩
end
def Tw (d : QY) (r : Zb) : Prop := okD d ∧ Qd r = d
theorem Tw.keep {d d':QY} {r:Zb} {x:Int} (h:Tw d r) (hk:okD d') (hn:nf d'):Tw d' (toR d' x):=⟨hk,YV hk hn⟩
def Qo3 (s : Qh3) : Prop := (∀ c ∈ s.2.2, c.2.2.length ≤ 40) ∧ s.2.2.length ≤ 40
instance (s : Qh3) : Decidable (Qo3 s) := by unfold Qo3; infer_instance
def XE : Nat → List Qe → List Int
  | _, [] => []
  | a, c :: l => ((a + (Y2 c).length : Nat) : Int) :: XE (a + (Y2 c).length) l
def JK (l : List Qe) : List Int := XE 0 l
theorem QeO : ∀ {l r : List Qe} {a : Nat}, XE a (l ++ r) = XE a l ++ XE (a + (Jo l).length) r
  | [], r, a => rfl
  | c :: l, r, a => by
    show _ :: XE _ (l ++ r) = _ :: (_ ++ _)
    rw [QeO (l := l), QeQ, List.length_append, Nat.add_assoc]
theorem QeN:∀ {l:List Qe} {a:Nat},(XE a l).length=l.length
 | [],_=>rfl
 | c::l,a=>by show _+1=_+1;rw [QeN (l:=l)]
theorem Qct (l:List Qe):(JK l).length=l.length:=QeN
theorem QbZ (c:Qe):Jo [c]=Y2 c:=by simp [Jo]
theorem Qes (l:List Qe) (c:Qe):JK (l++[c])=JK l++[((Jo l).length:Int)+((Y2 c).length:Int)]:=by
 unfold JK;rw [QeO]
 show _++[_]=_
 rw [Nat.zero_add,Int.natCast_add]
theorem QdS:∀ {l:List Qe} {a k:Nat},(XE a l).take k=XE a (l.take k)
 | [],_,_=>by simp [XE]
 | c::l,a,0=>rfl
 | c::l,a,k+1=>by show _::(XE _ l).take k=_::XE _ (l.take k);rw [QdS]
theorem QgQ (l:List Qe) (k:Nat):(JK l).take k=JK (l.take k):=QdS
def Qa4 (l : List Int) : Int := match l.getLast? with
  | some x => x
  | none => 0
theorem Qnb {l:List Int} {k:Nat} {x:Int} (hx:l[k]? =some x) (h0:k+1=l.length):Qa4 l=x:=by
 unfold Qa4;rw [List.getLast?_eq_getElem?,show l.length - 1=k by omega,hx]
theorem QkW {l:List Int} (h0:l.length=0):Qa4 l=0:=by rw [List.eq_nil_of_length_eq_zero h0];rfl
theorem Z0 (l:List Qe):Qa4 (JK l)=((Jo l).length:Int):=by
 rcases List.eq_nil_or_concat l with rfl | ⟨l,c,rfl⟩
 ·rfl
 ·rw [List.concat_eq_append,Qes,Qb0,QbZ,List.length_append,Int.natCast_add]
  unfold Qa4;rw [List.getLast?_append];rfl
def QbS (ep n : Int) (B : Qr) : Prop := (Qw B).2.2 = 0 ∧ (Qf (Qw B).1).2 = 0 ∧ (Qg ep n [(Qf (Qw B).1).1]).1 = 0
instance (ep n : Int) (B : Qr) : Decidable (QbS ep n B) := by unfold QbS; infer_instance
def QcP : Nat → Qr → List Qe → Int → List Qe × Int
  | 0, _, l, a => (l, a)
  | k + 1, B, l, a => if QbS (Qv 0 l) l.length (B.drop a.toNat) then QcP k B (l ++ [(Qf (Qw (B.drop a.toNat)).1).1]) (a + (Qw (B.drop a.toNat)).2.1) else (l, a)
def Y0 (B : Qr) : List Qe × Int := QcP B.length B [] 0
section
variable {B : Qr} {k : Nat} {l : List Qe} {a : Int} {p : List Qe × Int}
theorem Qp4 (hp:p=QcP k B l a) (h:¬ QbS (Qv 0 l) l.length (B.drop a.toNat)):p=(l,a):=by
 rw [hp];cases k with
 | zero=>rfl
 | succ k=>exact if_neg h
theorem QiB {ep n:Int} (h:QbS ep n B):1≤(Qw B).2.1∧(Qw B).2.1≤B.length:=by
 have:=Xa B
 exact ⟨this.2.2.2.2.1 h.1,this.2.1⟩
theorem QoA (hp : p = QcP k B l a) (ha : 0 ≤ a) (hk : (B.length : Int) - a ≤ k) (h : QbS (Qv 0 l) l.length (B.drop a.toNat)) :
    p = QcP (k - 1) B (l ++ [(Qf (Qw (B.drop a.toNat)).1).1]) (a + (Qw (B.drop a.toNat)).2.1) := by
  rw [hp]; cases k with
  | zero =>
    exfalso
    have := QiB h
    simp only [List.length_drop] at this
    omega
  | succ k => rw [QcP, if_pos h]; rfl
theorem QjU {e n:Int} {c:Qe} (h:(Qg e n [c]).1=0):QW c=0∧c.2.1=n+1∧e≤c.1:=by
 obtain ⟨h1,h2,h3,_⟩:=Qal h;exact ⟨h1,h2,h3⟩
theorem Qcr {c:Qe} (h:(Qg 0 0 l).1=0) (hc:(Qg (Qv 0 l) l.length [c]).1=0):(Qg 0 0 (l++[c])).1=0:=
 QfS (j:=0) h (by rw [Int.zero_add];exact hc)
theorem QgH : ∀ {k : Nat} {l : List Qe} {a : Int}, (Qg 0 0 l).1 = 0 → a = ((Jo l).length : Int) → Jo l <+: B → B.length - (Jo l).length ≤ k →
    (Qg 0 0 (QcP k B l a).1).1 = 0 ∧ (QcP k B l a).2 = ((Jo (QcP k B l a).1).length : Int) ∧ Jo (QcP k B l a).1 <+: B ∧ ¬ QbS (Qv 0 (QcP k B l a).1) (QcP k B l a).1.length (B.drop (Jo (QcP k B l a).1).length)
  | 0, l, a, h, ha, hb, hk => by
    refine ⟨h, ha, hb, fun q => ?_⟩
    have := QiB q
    simp only [List.length_drop, QcP] at this
    omega
  | k + 1, l, a, h, ha, hb, hk => by
    unfold QcP
    split
    · rename_i h2
      subst ha
      rw [Int.toNat_natCast] at h2 ⊢
      obtain ⟨h3, h4, h5⟩ := QgK h2.1 h2.2.1
      have hl := QiB h2
      have e : Jo (l ++ [(Qf (Qw (B.drop (Jo l).length)).1).1]) = Jo l ++ Y2 (Qf (Qw (B.drop (Jo l).length)).1).1 := by rw [Qb0, QbZ]
      refine QgH (Qcr h h2.2.2) ?_ ?_ ?_
      · rw [e, h5, List.length_append, Int.natCast_add]
      · rw [e]
        obtain ⟨s, hs⟩ := hb
        rw [← hs, List.drop_left] at h4 ⊢
        exact ⟨s.drop (Qw s).2.1.toNat, by rw [List.append_assoc, ← h4]⟩
      · rw [e, List.length_append]; omega
    · rename_i h2
      refine ⟨h, ha, hb, ?_⟩
      rw [ha, Int.toNat_natCast] at h2; exact h2
theorem QkT (B:Qr):(Qg 0 0 (Y0 B).1).1=0∧(Y0 B).2=((Jo (Y0 B).1).length:Int)∧Jo (Y0 B).1 <+:B∧¬ QbS (Qv 0 (Y0 B).1) (Y0 B).1.length (B.drop (Jo (Y0 B).1).length):=
 QgH rfl rfl (List.nil_prefix) (Nat.sub_le _ _)
theorem ZT (B:Qr):0≤(Y0 B).2∧(Y0 B).2≤B.length∧(Y0 B).1.length≤1048576∧(Qg 0 0 (Y0 B).1).1=0∧(Y0 B).2=Qa4 (JK (Y0 B).1)∧(JK (Y0 B).1).length=(Y0 B).1.length:=by
 obtain ⟨h1,h2,h3,_⟩:=QkT B
 have h4:=h3.length_le
 have h5:=QbU h1 (by omega)
 exact ⟨by omega,by omega,by omega,h1,by rw [Z0,h2],Qct _⟩
end
def QfP (B : Qr) (l : List Qe) (a : Int) : Prop := a = ((Jo l).length : Int) ∧ a ≤ B.length ∧ (Qg 0 0 l).1 = 0 ∧ ∃ n : Nat, (B.length : Int) - a ≤ n ∧ Y0 B = QcP n B l a
section
variable {B : Qr} {l : List Qe} {a : Int}
theorem Qna (B:Qr):QfP B [] 0:=⟨rfl,Int.natCast_nonneg _,rfl,B.length,by omega,rfl⟩
theorem ZI (h:QfP B l a) (hn:¬ QbS (Qv 0 l) l.length (B.drop a.toNat)):Y0 B=(l,a):=by
 obtain ⟨_,_,_,n,_,h2⟩:=h
 exact Qp4 h2 hn
theorem QkU (h:QbS (Qv 0 l) l.length B):(Qw B).2.1=((Y2 (Qf (Qw B).1).1).length:Int):=(QgK h.1 h.2.1).2.2
theorem QcF (h:QfP B l a) (ho:QbS (Qv 0 l) l.length (B.drop a.toNat)):QfP B (l++[(Qf (Qw (B.drop a.toNat)).1).1]) (a+(Qw (B.drop a.toNat)).2.1):=by
 obtain ⟨h0,h1,h3,n,hn,h2⟩:=h
 have hp:=QiB ho
 rw [List.length_drop] at hp
 refine ⟨?_,by omega,Qcr h3 ho.2.2,n - 1,by omega,QoA h2 (by omega) hn ho⟩
 rw [Qb0,QbZ,List.length_append,Int.natCast_add,← h0,QkU ho]
theorem QfX {es:List Int} (he:es=JK l) (h:QfP B l a) (ho:QbS (Qv 0 l) l.length (B.drop a.toNat)):es++[a+(Qw (B.drop a.toNat)).2.1]=JK (l++[(Qf (Qw (B.drop a.toNat)).1).1]):=by
 rw [Qes,he,QkU ho,h.1]
theorem QbT {e:Int} {c:Qe}:Qv e (l++[c])=c.1:=by unfold Qv;rw [List.getLast?_append];rfl
theorem QiJ (h:QfP B l a):(l.length:Int)≤1048576:=by
 have:=QbU h.2.2.1 (by omega)
 omega
theorem Y6 {l : List Qe} (h : (Qg 0 0 l).1 = 0) : 0 ≤ Qv 0 l ∧ Qv 0 l ≤ 1048576 := by
  unfold Qv
  cases e : l.getLast? with
  | none => exact ⟨Int.le_refl _, by decide⟩
  | some c =>
    have := QbC (Qb1 h c (List.mem_of_getLast? e))
    exact ⟨by dsimp only; omega, by dsimp only; omega⟩
theorem QlR (h1:(Qw B).2.2=0) (h2:¬ ¬ (Qf (Qw B).1).2=0) {ep:Int} (he:ep=Qv 0 l) (h3:¬ ¬ (Qg ep l.length [(Qf (Qw B).1).1]).1=0):QbS (Qv 0 l) l.length B:=⟨h1,Decidable.not_not.1 h2,by rw [← he];exact Decidable.not_not.1 h3⟩
theorem QkQ (h2:¬ (Qf (Qw B).1).2=0):¬ QbS (Qv 0 l) l.length B:=fun h=>h2 h.2.1
theorem Qpa {ep:Int} (he:ep=Qv 0 l) (h3:¬ (Qg ep l.length [(Qf (Qw B).1).1]).1=0):¬ QbS (Qv 0 l) l.length B:=fun h=>h3 (by rw [he];exact h.2.2)
theorem QcY (h2:¬ (Qw B).2.2=0):¬ QbS (Qv 0 l) l.length B:=fun h=>h2 h.1
end
theorem Qqs:JR Tryz.prog 107=true:=by kernel_rfl
theorem Qqr:JR Tryz.prog 108=true:=by kernel_rfl
theorem Qqq:JR Tryz.prog 109=true:=by kernel_rfl
theorem Qhf:∀ F:Array Field,Tryz.prog.underlying 89=some (.struct F)→∀ f,F[0]? =some f→tk Tryz.prog f.type=some none:=tfk_of (by kernel_rfl)
theorem QlC:tk Tryz.prog 82=some none:=by kernel_rfl
theorem Qd8:tsl Tryz.prog 82=some (3,1,8):=by kernel_rfl
theorem tz3:tz Tryz.prog 3=some [.int .i64 0]:=by kernel_rfl
theorem tz82:tz Tryz.prog 82=some [.slice none 0 0]:=by kernel_rfl
theorem Qbr:tk Tryz.prog 41=some none:=by kernel_rfl
theorem tz41:tz Tryz.prog 41=some [.slice none 0 0]:=by kernel_rfl
def eachE (B : Qr) (a : Int) (args : List Value) (mr : Mem) : Prop := 0 ≤ a ∧ a ≤ B.length ∧ (Qw (B.drop a.toNat)).2.2 = 0 ∧ ∃ A c, args = [.int .i64 a, .slice A (Qw (B.drop a.toNat)).1.length c] ∧ Ow (.sl .byte) mr [.slice A (Qw (B.drop a.toNat)).1.length c] (Qw (B.drop a.toNat)).1
def Qj5 (B : Qr) (a : Int) : Int := a + (Qw (B.drop a.toNat)).2.1
def eachD (B : Qr) (a : Int) : Prop := 0 ≤ a ∧ a ≤ B.length ∧ ¬ (Qw (B.drop a.toNat)).2.2 = 0
theorem Qqy {B:Qr} {a:Int} (h:0≤a) (h2:a≤B.length) (h3:(Qw (B.drop a.toNat)).2.2=0):a+1≤Qj5 B a∧Qj5 B a≤B.length:=by
 have:=Xa (B.drop a.toNat)
 rw [List.length_drop] at this
 have h4:=this.2.2.2.2.1 h3
 unfold Qj5;omega
theorem QoM {B:Qr} {gc:Nat} {A:Option Addr} {c:Nat} {mB:Mem} (hB:Ow (.sl .byte) mB [.slice A B.length c] B) (hd:mdj (QM gc (.cells [(.slice A B.length c:Value)].toArray 56 (0,0))) mB) (hlen:B.length≤9000000000000000000):
  Qls Tryz.prog 122 [.pointer (some ⟨gc,0,none⟩)] (mun (QM gc (.cells [(.slice A B.length c:Value)].toArray 56 (0,0))) mB) (eachE B) (Qj5 B) 0 (eachD B):=by
 intro G M I X l W g0 h0 hm hdj hy
 obtain ⟨lB,kB⟩:=Ow.rm hB
 have d1:mdj (M g0) (QM gc (.cells [(.slice A B.length c:Value)].toArray 56 (0,0))):=hdj.mono (Qc _) (QR _ _)
 have d2:mdj (M g0) mB:=hdj.mono (Qc _) (QS hd)
 refine Qi.ofX (n:=27) Tryz.func122 rfl rfl rfl hm ?_
 refine VX.parts 1 [1,2,3] (l:=[M g0,QM gc (.cells [(.slice A B.length c:Value)].toArray 56 (0,0)),mB]) rfl ⟨fun x hx=>?_,List.pairwise_cons.2 ⟨fun x hx=>?_,List.pairwise_cons.2 ⟨fun x hx=>?_,List.pairwise_singleton _ _⟩⟩⟩ ?_
 ·simp only [List.mem_cons,List.not_mem_nil,or_false] at hx
  rcases hx with rfl | rfl | rfl
  ·exact QR _ _
  ·exact (QR _ _).trans (QS hdj)
  ·exact (QS hd).trans (QS hdj)
 ·simp only [List.mem_cons,List.not_mem_nil,or_false] at hx
  rcases hx with rfl | rfl
  ·exact d1
  ·exact d2
 ·simp only [List.mem_cons,List.not_mem_nil,or_false] at hx
  subst hx;exact hd
 refine VX.rs ?_
 refine VO.as ?_
 refine VO.k3 0 1 3 ?_
 refine VX.block ?_
 refine VX.loop (G:=Int × G) (fun s=>[(0,.func (.yield l) #[] #[]),(1,.pointer (some ⟨gc,0,none⟩)),(3,.int .i64 s.1)]) (fun s=>[(1,M s.2),(2,QM gc (.cells [(.slice A B.length c:Value)].toArray 56 (0,0))),(3,mB),(0,J4 (wm W) (mun (M g0) (mun (QM gc (.cells [(.slice A B.length c:Value)].toArray 56 (0,0))) mB)))]) (fun s=>I s.1 s.2∧0≤s.1∧s.1≤B.length) (fun s=>(B.length - s.1).toNat) (0,g0) ⟨h0,Int.le_refl _,Int.natCast_nonneg _⟩ ⟨esn,fun _ h=>h.sub [1,2,3,0]⟩ ?_
 rintro ⟨a,g⟩ ⟨hI,ha,hal⟩
 dsimp only at hI ha hal
 show VX _ _ _ _ _ _ _ [(0,.func (.yield l) #[] #[]),(1,.pointer (some ⟨gc,0,none⟩)),(3,.int .i64 a)] [(1,M g),(2,QM gc (.cells [(.slice A B.length c:Value)].toArray 56 (0,0))),(3,mB),(0,J4 (wm W) (mun (M g0) (mun (QM gc (.cells [(.slice A B.length c:Value)].toArray 56 (0,0))) mB)))]
 refine VX.block ?_
 refine VX.rs ?_
 refine VO.z (.ld1 2 rfl (by kernel_rfl) rfl (Qa rfl rfl)) ?_
 refine VO.mv ?_
 obtain ⟨As,hAs,hs⟩:=(hB.rd (Qc _)).drop 1 a.toNat rfl Qn
 refine VO.z (.slLI a.toNat As rfl rfl Ji Qn hAs Qn) ?_
 refine VO.callN 10 rfl (by kernel_rfl) rfl (fun W' hW=>Qk8 W' (Rd.mono hs (hW.t 3))) (fun v3 m3 hv3=>?_)
 obtain ⟨s3_0,rfl,f3_0⟩:=hv3
 have hfb:=Xa (B.drop a.toNat)
 obtain ⟨A3,c3,eq3,l3,k3⟩:=f3_0.slice
 subst eq3
 refine VO.mv ?_
 refine VO.z (.ext rfl rfl) ?_
 refine VO.z (.ext rfl rfl) ?_
 refine VO.z (.ext rfl rfl) ?_
 refine VO.as ?_
 refine VO.as ?_
 refine VO.as ?_
 refine VO.k6 0 1 3 4 5 6 ?_
 refine VX.seq ?_
 refine VX.seq ?_
 refine VX.regL _ (hix:=?_) (VL.pre (r:=[6,7,8]) 6 (by kernel_rfl) ?_)
 ·kernel_rfl
 refine VO.mv ?_
 refine VO.z (.neq rfl rfl) ?_
 refine VO.mv ?_
 refine VO.dec (t:=17) rfl (fun hc=>?_) (fun hc=>?_)
 ·refine VO.gN ?_
  refine VO.gN ?_
  refine VO.gN ?_
  refine VO.nil ?_
  refine VL.skip rfl rfl ⟨_,rfl,rfl⟩ ?_
  refine VL.post 7 rfl (by kernel_rfl) ?_
  refine VO.gN ?_
  refine VO.z (.pT rfl rfl) ?_
  refine VO.k4 0 1 3 23 ?_
  refine Qm (VX.condT rfl ?_)
  refine VX.ret ?_
  refine QZ (JO (QZ (JO ?_)))
  refine ⟨_,_,Jr (rs:=[]) rfl .nil,fun W_ hI_=>JZ (l:=[M g]) hI_ [1] rfl rfl (Qc _) (fun hS_=>⟨g,QjR _,.inr ⟨a,hI,ha,hal,hc⟩⟩)⟩
 ·have h5:(Qw (B.drop a.toNat)).2.2=0:=Decidable.not_not.1 hc
  have hat:=Qqy ha hal h5
  refine VO.w (.mv rfl) ?_
  refine VO.w (.mv rfl) ?_
  refine VO.w (.mv rfl) ?_
  refine VO.nil ?_
  refine VL.yield2 1 10 rfl rfl (.inr ⟨_,_,rfl,_,rfl,rfl⟩) rfl rfl rfl rfl (fun W' hW=>hy a g _ m3 W' hI ⟨ha,hal,h5,_,_,rfl,f3_0⟩ (hW.sub [0,1,10]).three) (fun v m' hv=>?_)
  obtain ⟨g',rfl,hv⟩:=hv
  rcases hv with ⟨rfl,hI'⟩ | ⟨rfl,hX⟩
  ·refine VL.post 7 rfl (by kernel_rfl) ?_
   refine VO.w (.not rfl) ?_
   refine VO.z (.pF rfl rfl) ?_
   refine VO.k5 0 1 3 5 23 ?_
   refine Qm (VX.condF rfl ?_)
   refine VX.skip (Qm ?_)
   refine VX.reg ?_
   refine VO.mv ?_
   refine VO.mv ?_
   refine VO.z (.add (c:=Qj5 B a) rfl rfl rfl ⟨by omega,by omega⟩) ?_
   refine VO.as ?_
   refine VO.nil ?_
   refine JL (Qm ⟨rfl,(Qj5 B a,g'),⟨hI',by dsimp only;omega,by dsimp only;omega⟩,by dsimp only;omega,⟨esn,fun _ h=>h.sub [1,2,3,0]⟩⟩)
  ·refine VL.post 7 rfl (by kernel_rfl) ?_
   refine VO.w (.not rfl) ?_
   refine VO.z (.pF rfl rfl) ?_
   refine VO.k4 0 1 3 23 ?_
   refine Qm (VX.condT rfl ?_)
   refine VX.ret ?_
   refine QZ (JO (QZ (JO ?_)))
   refine ⟨_,_,Jr (rs:=[]) rfl .nil,fun W_ hI_=>JZ (l:=[M g']) hI_ [1] rfl rfl (Qc _) (fun hS_=>⟨g',QjR _,.inl hX⟩)⟩
theorem Qqx (W:World) {v0:Value} {d0:List UInt8} (h0:Rd (.sl .byte) (wm W) [v0] d0) (e0:d0.length≤140737488355000):Qi Tryz.prog 107 [v0] W Qx (fun v m'=>∃ caps,v= .func (.func 122) #[] (List.toArray caps)∧Qls Tryz.prog 122 caps m' (eachE d0) (Qj5 d0) 0 (eachD d0)):=by
 obtain ⟨A0,c0,rfl,l0,k0⟩:=h0.slice
 refine Qi.ofA (n:=7) Tryz.func107 rfl rfl rfl ?_
 refine VC.rs (VO.as (VO.k2 0 2 (VC.rs (VO.mv ?_))))
 refine VO.callN 103 rfl (by kernel_rfl) rfl (fun W hW=>Qi7 W (Rd.mono h0 (hW.t 0)) Qn) (fun v3 m3 hv3=>?_)
 obtain ⟨_,rfl,hv3⟩:=hv3
 obtain ⟨A3,c3,eq3,l3,k3⟩:=hv3.slice
 subst eq3
 refine VO.alloc 102 rfl (show tz Tryz.prog 56=some [.slice none 0 0] by kernel_rfl) (fun g1=>?_)
 refine VO.store (k:=1) (c':=[(.slice A3 d0.length c3:Value)]) 102 rfl rfl (.inr ⟨(by kernel_rfl),rfl⟩) rfl rfl rfl rfl rfl ?_
 refine VO.k3 0 2 3 (VC.rs (VO.z (.mkf rfl) (VO.as (VO.k1 2 (VC.ret ?_)))))
 refine ⟨_,_,Jr (rs:=[.tmp 2]) rfl (.tmp rfl .nil),fun W_ hI=>JZ (l:=[QM g1 (.cells #[(.slice A3 d0.length c3:Value)] 56 (0,0)),m3]) hI [102,103] rfl rfl (Qc _) (fun hS_=>⟨[.pointer (some ⟨g1,0,none⟩)],rfl,?_⟩)⟩
 show Qls _ _ _ (mun _ (mun m3 Qx)) _ _ _ _
 rw [QjR]
 exact QoM hv3 ((List.pairwise_cons.1 hS_.2).1 _ (.head _)) Qn
set_option maxHeartbeats 4000000 in
theorem Qic (W:World) {v0:Value} {d0:List UInt8} (h0:Rd (.sl .byte) (wm W) [v0] d0) (e0:d0.length≤140737488355000):Qi Tryz.prog 63 [v0] W (Qx) (fun v m'=>∃ (s0:Value),∃ (s1:Value),∃ (p0:Mem),∃ (p1:Mem),v= .tuple #[s0,s1]∧QA m' [p0,p1]∧Ow (.sl Ql) p0 [s0] ((Y0 d0).1)∧Ow (.sl (.int .i64)) p1 [s1] (JK (Y0 d0).1)):=by
 obtain ⟨A0,c0,rfl,l0,k0⟩:=h0.slc
 refine Qi.ofXA (n:=57) Tryz.func63 rfl rfl rfl ?_
 refine VX.rs ?_
 refine VO.box (cs:=[.slice A0 (d0.length) (c0)]) 102 rfl rfl rfl (fun g1=>?_)
 refine VO.as (VO.as (VO.k4 0 1 2 3 ?_))
 refine VX.rs ?_
 refine VO.alloc 104 rfl tz41 (fun g3=>?_)
 refine VO.k5 0 1 2 3 4 ?_
 refine VX.rs ?_
 refine VO.alloc 106 rfl tz82 (fun g5=>?_)
 refine VO.p4 106 104 102 0 (VO.k6 0 1 2 3 4 5 ?_)
 refine VX.rs ?_
 refine VO.alloc 108 rfl tz3 (fun g7=>?_)
 refine VO.store (k:=1) (c':=[.int .i64 (0)]) 108 rfl rfl (.inr ⟨tk3,rfl⟩) rfl rfl rfl rfl rfl ?_
 refine VO.k7 0 1 2 3 4 5 6 ?_
 refine VX.seq ?_
 refine VX.rs ?_
 refine VO.z (.ld1 102 rfl Y4 rfl (Qa rfl rfl)) ?_
 refine VO.callN 109 rfl Qqs rfl (fun W hW=>Qqx W (Rd.mono h0 (hW.t 0)) bd) (fun v9 m9 hv9=>?_)
 obtain ⟨ca9,rfl,hit9⟩:=hv9
 refine VO.k8 0 1 2 3 4 5 6 15 ?_
 refine VX.block ?_
 refine VX.inv ((110,Qx)::_) (fun _ h=>h.nilc 110) ?_
 refine VX.inv ((111,Qx)::_) (fun _ h=>h.nilc 111) ?_
 refine VX.gather (l:=[Qx,Qx,QM g7 (.cells [Value.int .i64 (0)].toArray 3 (0,0)),QM g5 (.cells [Value.slice none (0) (0)].toArray 82 (0,0)),QM g3 (.cells [Value.slice none (0) (0)].toArray 41 (0,0))]) 113 [111,110,108,106,104] rfl (fun hg12=>?_)
 refine VX.inv [(109,m9),(113,Zc [Qx,Qx,QM g7 (.cells [Value.int .i64 (0)].toArray 3 (0,0)),QM g5 (.cells [Value.slice none (0) (0)].toArray 82 (0,0)),QM g3 (.cells [Value.slice none (0) (0)].toArray 41 (0,0))]),(102,QM g1 (.cells [Value.slice A0 (d0.length) (c0)].toArray 56 (0,0))),(0,wm W)] (fun _ h=>h.sub [109,113,102,0]) ?_
 refine VX.rangeF (A:=Int) (G:=(List Qe) × (Option Addr) × Nat × Mem × (List Int) × (Option Addr) × Nat × Mem × Int) (rest:=[(102,QM g1 (.cells #[.slice A0 (d0.length) (c0)] 56 (0,0))),(0,wm W)]) 113 109 114 115 116 117 (fun g=>Zc [(g.2.2.2.2.2.2.2.1),(g.2.2.2.1),QM g7 (.cells #[.int .i64 ((g.2.2.2.2.2.2.2.2))] 3 (0,0)),QM g5 (.cells #[.slice (g.2.2.2.2.2.1) ((g.2.2.2.2.1).length) ((g.2.2.2.2.2.2.1))] 82 (0,0)),QM g3 (.cells #[.slice (g.2.1) ((g.1).length) ((g.2.2.1))] 41 (0,0))]) (fun at_ g=>(QfP d0 (g.1) at_)∧((g.2.2.2.2.1)=JK (g.1))∧((g.2.2.2.2.2.2.2.2)=Qv 0 (g.1))∧(Ow (.sl Ql) (g.2.2.2.1) [.slice (g.2.1) (g.1).length (g.2.2.1)] (g.1))∧(QH (.int .i64) (g.2.2.2.2.2.2.2.1) Qx (.slice (g.2.2.2.2.2.1) (g.2.2.2.2.1).length (g.2.2.2.2.2.2.1)) (g.2.2.2.2.1))∧(QA (Zc [(g.2.2.2.2.2.2.2.1),(g.2.2.2.1),QM g7 (.cells #[.int .i64 ((g.2.2.2.2.2.2.2.2))] 3 (0,0)),QM g5 (.cells #[.slice (g.2.2.2.2.2.1) ((g.2.2.2.2.1).length) ((g.2.2.2.2.2.2.1))] 82 (0,0)),QM g3 (.cells #[.slice (g.2.1) ((g.1).length) ((g.2.2.1))] 41 (0,0))]) [(g.2.2.2.2.2.2.2.1),(g.2.2.2.1),QM g7 (.cells #[.int .i64 ((g.2.2.2.2.2.2.2.2))] 3 (0,0)),QM g5 (.cells #[.slice (g.2.2.2.2.2.1) ((g.2.2.2.2.1).length) ((g.2.2.2.2.2.2.1))] 82 (0,0)),QM g3 (.cells #[.slice (g.2.1) ((g.1).length) ((g.2.2.1))] 41 (0,0))])) (fun e g=>e=(.exit 0)∧((Y0 d0).1=(g.1))∧((g.2.2.2.2.1)=JK (g.1))∧(Ow (.sl Ql) (g.2.2.2.1) [.slice (g.2.1) (g.1).length (g.2.2.1)] (g.1))∧(QH (.int .i64) (g.2.2.2.2.2.2.2.1) Qx (.slice (g.2.2.2.2.2.1) (g.2.2.2.2.1).length (g.2.2.2.2.2.2.1)) (g.2.2.2.2.1))∧(QA (Zc [(g.2.2.2.2.2.2.2.1),(g.2.2.2.1),QM g7 (.cells #[.int .i64 ((g.2.2.2.2.2.2.2.2))] 3 (0,0)),QM g5 (.cells #[.slice (g.2.2.2.2.2.1) ((g.2.2.2.2.1).length) ((g.2.2.2.2.2.2.1))] 82 (0,0)),QM g3 (.cells #[.slice (g.2.1) ((g.1).length) ((g.2.2.1))] 41 (0,0))]) [(g.2.2.2.2.2.2.2.1),(g.2.2.2.1),QM g7 (.cells #[.int .i64 ((g.2.2.2.2.2.2.2.2))] 3 (0,0)),QM g5 (.cells #[.slice (g.2.2.2.2.2.1) ((g.2.2.2.2.1).length) ((g.2.2.2.2.2.2.1))] 82 (0,0)),QM g3 (.cells #[.slice (g.2.1) ((g.1).length) ((g.2.2.1))] 41 (0,0))])) ([],none,0,Qx,[],none,0,Qx,0) ⟨by exact Qna d0,by rfl,by rfl,(Ow.nil Ql Qx),(QH.nil (.int .i64) Qx Qx),hg12⟩ (fun _ _=>hit9) rfl rfl rfl (fun _ _ _ h=>by obtain ⟨_,_,_,_,_,rfl,_⟩:=h;rfl) (fun args=>[(7,args.getD 0 undef),(8,args.getD 1 undef),(0,.slice A0 (d0.length) (c0)),(1,.pointer (some ⟨g1,0,none⟩)),(2,.slice none (0) (0)),(3,.slice none (0) (0)),(4,.pointer (some ⟨g3,0,none⟩)),(5,.pointer (some ⟨g5,0,none⟩)),(6,.pointer (some ⟨g7,0,none⟩))]) ?_ ?_ ?_ ?_
 · intro w1_ l_ args_ Ω_ hl_
   obtain ⟨y0_,y1_,rfl⟩:∃ y0_ y1_,args_=[y0_,y1_]:=(match args_,hl_ with | [y0_,y1_],_=>⟨y0_,y1_,rfl⟩)
   refine VX.rs ?_
   refine VO.as ?_
   refine VO.nil ?_
   refine VX.reg ?_
   refine VO.as ?_
   refine VO.nil ?_
   exact ⟨rfl,rfl,esn,rfl⟩
 rintro w1_ l_ D_ at_ ⟨l,l_A,l_c,l_m,es,es_A,es_c,es_m,ep⟩ args_ mr_ ml_ mo_ ⟨hl,he,hep,h_l,h_es,hSep_⟩ hE_
 replace hl:QfP d0 l at_:=hl
 replace he:es=JK l:=he
 replace hep:ep=Qv 0 l:=hep
 replace h_l:Ow (.sl Ql) l_m [.slice l_A l.length l_c] l:=h_l
 replace h_es:QH (.int .i64) es_m Qx (.slice es_A es.length es_c) es:=h_es
 replace hSep_:QA (Zc [es_m,l_m,QM g7 (.cells [Value.int .i64 (ep)].toArray 3 (0,0)),QM g5 (.cells [Value.slice es_A (es.length) (es_c)].toArray 82 (0,0)),QM g3 (.cells [Value.slice l_A (l.length) (l_c)].toArray 41 (0,0))]) [es_m,l_m,QM g7 (.cells [Value.int .i64 (ep)].toArray 3 (0,0)),QM g5 (.cells [Value.slice es_A (es.length) (es_c)].toArray 82 (0,0)),QM g3 (.cells [Value.slice l_A (l.length) (l_c)].toArray 41 (0,0))]:=hSep_
 obtain ⟨hat0,hat1,hat2,rA,rc,rfl,hrec⟩:=hE_
 obtain ⟨hrl,hrc⟩:=Ow.rm hrec
 have hrb:=Xa (d0.drop at_.toNat)
 have hll:=QiJ hl
 have hel:=Qct l;rw [← he] at hel
 have hlr:=Y6 hl.2.2.1;rw [← hep] at hlr
 refine VX.parts 113 [111,110,108,106,104] rfl hSep_ ?_
 show VX _ _ _ _ _ _ _ [(7,.int .i64 (at_)),(8,.slice rA ((Qw (d0.drop at_.toNat)).1.length) (rc)),(0,.slice A0 (d0.length) (c0)),(1,.pointer (some ⟨g1,0,none⟩)),(2,.slice none (0) (0)),(3,.slice none (0) (0)),(4,.pointer (some ⟨g3,0,none⟩)),(5,.pointer (some ⟨g5,0,none⟩)),(6,.pointer (some ⟨g7,0,none⟩))] [(111,es_m),(110,l_m),(108,QM g7 (.cells #[.int .i64 (ep)] 3 (0,0))),(106,QM g5 (.cells #[.slice es_A (es.length) (es_c)] 82 (0,0))),(104,QM g3 (.cells #[.slice l_A (l.length) (l_c)] 41 (0,0))),(116,mr_),(117,mo_),(115,ml_),(114,QM D_ (.deferred (some []))),(102,QM g1 (.cells #[.slice A0 (d0.length) (c0)] 56 (0,0))),(0,wm W)]
 have l_l:l.length≤l_c:=by obtain ⟨_,_,he,hl,_⟩:=h_l.slice;simp only [Value.slice.injEq] at he;omega
 have k_l:l_c≤9223372036854775807:=by obtain ⟨_,_,he,_,hl⟩:=h_l.slice;simp only [Value.slice.injEq,maxLen] at he hl;omega
 have l_es:es.length≤es_c:=by obtain ⟨_,_,he,hl,_⟩:=h_es.slice;simp only [Value.slice.injEq] at he;omega
 have k_es:es_c≤9223372036854775807:=by obtain ⟨_,_,he,_,hl⟩:=h_es.slice;simp only [Value.slice.injEq,maxLen] at he hl;omega
 refine VX.block ?_
 refine VX.rs ?_
 refine VO.mv ?_
 refine VO.callN 118 rfl Qqr rfl (fun W hW=>Qkc W (Ow.rd hrec (hW.t 116))) (fun v18 m18 hv18=>?_)
 obtain ⟨s18_0,rfl,f18_0⟩:=hv18
 have hfa19:=QeR ((Qw (d0.drop at_.toNat)).1)
 obtain ⟨q18_0_A2,q18_0_c2,q18_0_n2,rfl,q18_0_S,q18_0_0,q18_0_1,q18_0_2⟩:=ZE (x0:=((Qf ((Qw (d0.drop at_.toNat)).1)).1).1) (x1:=((Qf ((Qw (d0.drop at_.toNat)).1)).1).2.1) (x2:=((Qf ((Qw (d0.drop at_.toNat)).1)).1).2.2) f18_0
 simp only [inK] at q18_0_0 q18_0_1
 have q18_0_r2:=q18_0_2.rm
 refine VO.inv _ (fun _ h=>h.parts (i:=118) rfl q18_0_S [120]) ?_
 refine VO.mv (VO.z (.ext rfl rfl) (VO.z (.ext rfl rfl) ?_))
 refine VO.alloc 122 rfl XA (fun g21=>?_)
 refine VO.store (k:=3) (c':=[.int .i64 (((Qf ((Qw (d0.drop at_.toNat)).1)).1).1),.int .i64 (((Qf ((Qw (d0.drop at_.toNat)).1)).1).2.1),.slice q18_0_A2 ((((Qf ((Qw (d0.drop at_.toNat)).1)).1).2.2).length) (q18_0_c2)]) 122 rfl rfl (.inl Yv) rfl rfl rfl rfl rfl ?_
 refine VO.as ?_
 refine VO.kp [122,120,111,110,108,106,104,116,117,115,114,102,0] [(122,QM g21 (.cells #[.int .i64 (((Qf ((Qw (d0.drop at_.toNat)).1)).1).1),.int .i64 (((Qf ((Qw (d0.drop at_.toNat)).1)).1).2.1),.slice q18_0_A2 ((((Qf ((Qw (d0.drop at_.toNat)).1)).1).2.2).length) (q18_0_c2)] 37 (0,0))),(120,q18_0_n2),(111,es_m),(110,l_m),(108,QM g7 (.cells #[.int .i64 (ep)] 3 (0,0))),(106,QM g5 (.cells #[.slice es_A (es.length) (es_c)] 82 (0,0))),(104,QM g3 (.cells #[.slice l_A (l.length) (l_c)] 41 (0,0))),(116,mr_),(117,mo_),(115,ml_),(114,QM D_ (.deferred (some []))),(102,QM g1 (.cells #[.slice A0 (d0.length) (c0)] 56 (0,0))),(0,wm W)] ?_
 refine VO.k11 0 1 2 3 4 5 6 7 8 9 10 ?_
 refine VX.seq ?_
 refine VX.rs ?_
 refine VO.mv (VO.z (.neq rfl rfl) (VO.mv ?_))
 refine VO.dec (t:=25) rfl (fun hc23=>?_) (fun hc23=>?_)
 refine VO.gN (VO.gN (VO.gN (VO.gN (VO.gN (VO.gN (VO.gN (VO.gN (VO.z (.pT rfl rfl) (VO.k12 0 1 2 3 4 5 6 7 8 9 10 34 ?_)))))))))
 refine VX.condT rfl ?_
 refine VX.exit ?_
 refine Zh ?_
 refine QlN rfl ?_
 exact ⟨rfl,fun W_ hW_=>⟨⟨l,l_A,l_c,l_m,es,es_A,es_c,es_m,ep⟩,(hW_.gather (ids:=[111,110,108,106,104]) 113 rfl).1.sub [117,115,113,114,102,0],.inr ⟨rfl,rfl,by first | exact congrArg Prod.fst (ZI hl (QkQ Qo)) | exact congrArg Prod.fst (ZI hl (Qpa hep Qo)),by exact he,h_l,h_es,(hW_.gather (ids:=[111,110,108,106,104]) 113 rfl).2⟩⟩⟩
 refine VO.w (.ld1 108 rfl tk3 rfl (Qa rfl rfl)) (VO.w (.ld1 104 rfl Qbr rfl (Qa rfl rfl)) (VO.w (.lenS rfl Jx) (VO.w (.ldA 122 rfl Yv rfl (Qa rfl rfl)) ?_)))
 refine VO.gbsl (cs:=[Value.int .i64 (((Qf ((Qw (d0.drop at_.toNat)).1)).1).1),Value.int .i64 (((Qf ((Qw (d0.drop at_.toNat)).1)).1).2.1),Value.slice q18_0_A2 ((((Qf ((Qw (d0.drop at_.toNat)).1)).1).2.2).length) (q18_0_c2)]) 125 rfl ⟨_,rfl,rfl⟩ rfl Jx XA rfl rfl (fun g24=>?_)
 refine VO.gather (l:=[QM g24 (.cells [Value.int .i64 (((Qf ((Qw (d0.drop at_.toNat)).1)).1).1),Value.int .i64 (((Qf ((Qw (d0.drop at_.toNat)).1)).1).2.1),Value.slice q18_0_A2 ((((Qf ((Qw (d0.drop at_.toNat)).1)).1).2.2).length) (q18_0_c2)].toArray 37 (0,0)),q18_0_n2]) 128 [125,120] rfl (fun hg27=>?_)
 have ho27:Ow (.sl Ql) (Zc [QM g24 (.cells [Value.int .i64 (((Qf ((Qw (d0.drop at_.toNat)).1)).1).1),Value.int .i64 (((Qf ((Qw (d0.drop at_.toNat)).1)).1).2.1),Value.slice q18_0_A2 ((((Qf ((Qw (d0.drop at_.toNat)).1)).1).2.2).length) (q18_0_c2)].toArray 37 (0,0)),q18_0_n2]) [Value.slice (some ⟨g24,0,none⟩) (1) (1)] [((Qf ((Qw (d0.drop at_.toNat)).1)).1)]:=Ow.lit 1 (QA.grp1 (ls:=[[q18_0_n2]]) hg27) (Qg2.cons (m:=Zc [q18_0_n2]) (c1:=[Value.int .i64 (((Qf ((Qw (d0.drop at_.toNat)).1)).1).1),Value.int .i64 (((Qf ((Qw (d0.drop at_.toNat)).1)).1).2.1),Value.slice q18_0_A2 ((((Qf ((Qw (d0.drop at_.toNat)).1)).1).2.2).length) (q18_0_c2)]) (show Ow Ql _ _ ((Qf ((Qw (d0.drop at_.toNat)).1)).1) from (Jt (((Qf ((Qw (d0.drop at_.toNat)).1)).1).1) (((Qf ((Qw (d0.drop at_.toNat)).1)).1).2.1) (((Qf ((Qw (d0.drop at_.toNat)).1)).1).2.2) (QA.self hg27 (List.Sublist.cons _ (List.Sublist.cons_cons _ List.Sublist.slnil))) bdk bdk q18_0_2)) Qg2.nil) rfl rfl
 refine VO.gcallN 126 rfl ⟨_,rfl,rfl⟩ QiW rfl (fun W hW=>QbA W ep bdk ((l.length:Nat):Int) bdk (Ow.rd ho27 (hW.t 128))) (fun v26 m26 hv26=>?_)
 obtain ⟨s26_0,rfl,f26_0⟩:=hv26
 obtain ⟨rfl,q26_0_0,q26_0_1⟩:=Yf (x0:=(Qg ep ((l.length:Nat):Int) ([((Qf ((Qw (d0.drop at_.toNat)).1)).1)])).1) (x1:=(Qg ep ((l.length:Nat):Int) ([((Qf ((Qw (d0.drop at_.toNat)).1)).1)])).2) (f26_0.rd (Qc _))
 simp only [inK] at q26_0_0 q26_0_1
 refine VO.parts 128 [125,120] rfl hg27 ?_
 refine VO.w (.fld1 rfl Qa3 rfl Qhf rfl) ?_
 refine VO.w (.neq rfl rfl) (VO.z (.pF rfl rfl) (VO.k12 0 1 2 3 4 5 6 7 8 9 10 34 ?_))
 refine VX.cond rfl (fun hc29=>?_) (fun hc29=>?_)
 refine VX.exit ?_
 refine Zh ?_
 refine QlN rfl ?_
 exact ⟨rfl,fun W_ hW_=>⟨⟨l,l_A,l_c,l_m,es,es_A,es_c,es_m,ep⟩,(hW_.gather (ids:=[111,110,108,106,104]) 113 rfl).1.sub [117,115,113,114,102,0],.inr ⟨rfl,rfl,by first | exact congrArg Prod.fst (ZI hl (QkQ Qo)) | exact congrArg Prod.fst (ZI hl (Qpa hep Qo)),by exact he,h_l,h_es,(hW_.gather (ids:=[111,110,108,106,104]) 113 rfl).2⟩⟩⟩
 refine VX.skip ?_
 refine Qm ?_
 refine VX.rs ?_
 refine VO.z (.ld1 102 rfl Y4 rfl (Qa rfl rfl)) (VO.mv ?_)
 obtain ⟨A30,hA30,hs30⟩:=h0.drop 1 ((at_).toNat) rfl bd
 refine VO.z (.slLI ((at_).toNat) A30 rfl rfl Ji bd hA30 bd) ?_
 refine VO.callN 131 rfl Qqq rfl (fun W hW=>Qk8 W (Rd.mono hs30 (hW.t 0))) (fun v31 m31 hv31=>?_)
 obtain ⟨s31_0,rfl,f31_0⟩:=hv31
 have hfa32:=Xa (d0.drop ((at_).toNat))
 obtain ⟨A31_0,c31_0,eq31_0,l31_0,k31_0⟩:=f31_0.slc
 subst eq31_0
 refine VO.mv (VO.z (.ext rfl rfl) (VO.z (.ext rfl rfl) (VO.z (.ext rfl rfl) (VO.as (VO.as (VO.as (VO.nil ?_)))))))
 refine VX.inv _ (fun _ h=>Inv.num h 106 2106 rfl) ?_
 refine VX.inv _ (fun _ h=>Inv.num h 104 2104 rfl) ?_
 refine VX.regE [(131,m31),(125,QM g24 (.cells #[.int .i64 (((Qf ((Qw (d0.drop at_.toNat)).1)).1).1),.int .i64 (((Qf ((Qw (d0.drop at_.toNat)).1)).1).2.1),.slice q18_0_A2 ((((Qf ((Qw (d0.drop at_.toNat)).1)).1).2.2).length) (q18_0_c2)] 37 (0,0))),(126,m26),(122,QM g21 (.cells #[.int .i64 (((Qf ((Qw (d0.drop at_.toNat)).1)).1).1),.int .i64 (((Qf ((Qw (d0.drop at_.toNat)).1)).1).2.1),.slice q18_0_A2 ((((Qf ((Qw (d0.drop at_.toNat)).1)).1).2.2).length) (q18_0_c2)] 37 (0,0))),(108,QM g7 (.cells #[.int .i64 (ep)] 3 (0,0))),(2106,QM g5 (.cells #[.slice es_A (es.length) (es_c)] 82 (0,0))),(2104,QM g3 (.cells #[.slice l_A (l.length) (l_c)] 41 (0,0))),(116,mr_),(117,mo_),(115,ml_),(114,QM D_ (.deferred (some []))),(102,QM g1 (.cells #[.slice A0 (d0.length) (c0)] 56 (0,0))),(0,wm W)] 14 follows (by kernel_rfl) (fun _ h=>h.sub [131,125,126,122,108,2106,2104,116,117,115,114,102,0]) ?_
 refine VE.yH 0 rfl rfl (.inl rfl) (by kernel_rfl) (by kernel_rfl) (.ld1 2104 rfl Qbr rfl (Qa rfl rfl)) ?_
 refine VE.y 1 rfl rfl (.inl rfl) (by kernel_rfl) (.ldA 122 rfl Yv rfl (Qa rfl rfl)) ?_
 refine VE.yH 4 rfl rfl (.inl rfl) (by kernel_rfl) (by kernel_rfl) (.ld1 2106 rfl QlC rfl (Qa rfl rfl)) ?_
 refine VE.y 5 rfl rfl (.inl rfl) (by kernel_rfl) (.mv rfl) ?_
 refine VE.y 6 rfl rfl (.inl rfl) (by kernel_rfl) (.mv rfl) ?_
 refine VE.y 7 rfl rfl (.inl rfl) (by kernel_rfl) (.add rfl rfl rfl ⟨bd,bd⟩) ?_
 refine VE.y 10 rfl rfl (.inl rfl) (by kernel_rfl) (.fa rfl Jq rfl) ?_
 refine VE.y 11 rfl rfl (.inl rfl) (by kernel_rfl) (.ld1 122 rfl tk3 rfl (Qa rfl rfl)) ?_
 refine VE.tree [2,8] (by kernel_rfl) ⟨?_,?_,trivial⟩
 refine VI.bsl (cs:=[.int .i64 (((Qf ((Qw (d0.drop at_.toNat)).1)).1).1),.int .i64 (((Qf ((Qw (d0.drop at_.toNat)).1)).1).2.1),.slice q18_0_A2 ((((Qf ((Qw (d0.drop at_.toNat)).1)).1).2.2).length) (q18_0_c2)]) 134 rfl rfl rfl Jx XA rfl rfl (fun _ h=>Inv.sbK [131,125,126,122,108,2106,2104,116,117,115,114,102,0] h) (fun g33=>?_)
 refine VE.tree [3,8] (by kernel_rfl) ⟨?_,?_,trivial⟩
 refine VI.appO (e:=Ql) 110 120 134 rfl rfl rfl rfl Jx XA rfl rfl rfl rfl h_l (show Ow Ql _ _ ((Qf ((Qw (d0.drop at_.toNat)).1)).1) from (Jt (((Qf ((Qw (d0.drop at_.toNat)).1)).1).1) (((Qf ((Qw (d0.drop at_.toNat)).1)).1).2.1) (((Qf ((Qw (d0.drop at_.toNat)).1)).1).2.2) (QA.one (Qc _)) bdk bdk q18_0_2)) Tryz.underlying41 (Qa rfl rfl) bdm bd (by decide) (fun _ _ h=>Inv.sbK [131,125,126,122,108,2106,2104,116,117,115,114,102,0] h) (fun v35 m35 ho35=>?_)
 obtain ⟨A35,c35,rfl,l35,k35⟩:=ho35.slc
 refine VE.tree [8] (by kernel_rfl) ⟨?_,trivial⟩
 refine VI.bsl (cs:=[.int .i64 (at_+((Qw (d0.drop ((at_).toNat))).2.1))]) 137 rfl rfl rfl Qd8 tz3 rfl rfl (fun _ h=>Inv.sbK [131,125,126,122,108,2106,2104,116,117,115,114,102,0] h) (fun g36=>?_)
 refine VE.tree [9] (by kernel_rfl) ⟨?_,trivial⟩
 obtain ⟨mo38,cs38,hM38,hA38,hC38⟩:=h_es
 refine VI.app 111 rfl rfl rfl rfl Qd8 tz3 rfl rfl hM38 hA38 (.row 137 _ _ _ 1 1 _ _ Tryz.underlying82 rfl (Qa rfl rfl)) (by simp [Value.oneCell']) bdm bd (by decide) (fun _ _ h=>Inv.sbK [131,125,126,122,108,2106,2104,116,117,115,114,102,0] h) (fun v38 m38 hN38=>?_)
 have ho38:QH (.int .i64) m38 Qx v38 (es++[(at_+((Qw (d0.drop ((at_).toNat))).2.1))]):=QH.one hC38 hN38 (show Rd (.int .i64) _ [_] _ from ⟨rfl,by simp only [inK];(first | exact bd)⟩)
 obtain ⟨A38,c38,rfl,l38,k38⟩:=ho38.slc
 refine VE.tree [12] (by kernel_rfl) ⟨?_,trivial⟩
 refine VI.storeH (k:=1) (c':=[Value.slice A35 ((l++[((Qf ((Qw (d0.drop at_.toNat)).1)).1)]).length) (c35)]) 2104 rfl rfl rfl (.inr ⟨Qbr,rfl⟩) rfl rfl rfl rfl rfl (fun _ h=>Inv.sbK [131,125,126,122,108,116,117,115,114,102,0] h) ?_
 refine VE.tree [13] (by kernel_rfl) ⟨?_,trivial⟩
 refine VI.storeH (k:=1) (c':=[Value.slice A38 ((es++[(at_+((Qw (d0.drop ((at_).toNat))).2.1))]).length) (c38)]) 2106 rfl rfl rfl (.inr ⟨QlC,rfl⟩) rfl rfl rfl rfl rfl (fun _ h=>Inv.sbK [131,125,126,122,108,116,117,115,114,102,0] h) ?_
 refine VE.nil (by kernel_rfl) rfl ?_ rfl
 refine VO.store (k:=1) (c':=[.int .i64 (((Qf ((Qw (d0.drop at_.toNat)).1)).1).1)]) 108 rfl rfl (.inr ⟨tk3,rfl⟩) rfl rfl rfl rfl rfl ?_
 refine VO.kp [110,122,111,108,2106,2104,116,117,115,114,102,0] [(110,m35),(122,QM g21 (.cells #[.int .i64 (((Qf ((Qw (d0.drop at_.toNat)).1)).1).1),.int .i64 (((Qf ((Qw (d0.drop at_.toNat)).1)).1).2.1),.slice q18_0_A2 ((((Qf ((Qw (d0.drop at_.toNat)).1)).1).2.2).length) (q18_0_c2)] 37 (0,0))),(111,m38),(108,QM g7 (.cells #[.int .i64 (((Qf ((Qw (d0.drop at_.toNat)).1)).1).1)] 3 (0,0))),(2106,QM g5 (.cells #[.slice A38 ((es++[(at_+((Qw (d0.drop ((at_).toNat))).2.1))]).length) (c38)] 82 (0,0))),(2104,QM g3 (.cells #[.slice A35 ((l++[((Qf ((Qw (d0.drop at_.toNat)).1)).1)]).length) (c35)] 41 (0,0))),(116,mr_),(117,mo_),(115,ml_),(114,QM D_ (.deferred (some []))),(102,QM g1 (.cells #[.slice A0 (d0.length) (c0)] 56 (0,0))),(0,wm W)] ?_
 refine VO.nil (JL ?_)
 exact ⟨rfl,fun W_ hW_=>⟨⟨l++[((Qf ((Qw (d0.drop at_.toNat)).1)).1)],A35,c35,m35,es++[(at_+((Qw (d0.drop ((at_).toNat))).2.1))],A38,c38,m38,((Qf ((Qw (d0.drop at_.toNat)).1)).1).1⟩,(hW_.gather (ids:=[111,110,108,2106,2104]) 113 rfl).1.sub [117,115,113,114,102,0],.inl ⟨rfl,by exact QcF hl (QlR hat2 Qo hep Qo),by exact QfX he hl (QlR hat2 Qo hep Qo),by exact QbT.symm,ho35,ho38,(hW_.gather (ids:=[111,110,108,2106,2104]) 113 rfl).2⟩⟩⟩
 refine VI.bsl (cs:=[.int .i64 (at_+((Qw (d0.drop ((at_).toNat))).2.1))]) 140 rfl rfl rfl Qd8 tz3 rfl rfl (fun _ h=>Inv.sbK [131,125,126,122,108,2106,2104,116,117,115,114,102,0] h) (fun g39=>?_)
 refine VE.tree [3] (by kernel_rfl) ⟨?_,trivial⟩
 refine VI.appO (e:=Ql) 110 120 134 rfl rfl rfl rfl Jx XA rfl rfl rfl rfl h_l (show Ow Ql _ _ ((Qf ((Qw (d0.drop at_.toNat)).1)).1) from (Jt (((Qf ((Qw (d0.drop at_.toNat)).1)).1).1) (((Qf ((Qw (d0.drop at_.toNat)).1)).1).2.1) (((Qf ((Qw (d0.drop at_.toNat)).1)).1).2.2) (QA.one (Qc _)) bdk bdk q18_0_2)) Tryz.underlying41 (Qa rfl rfl) bdm bd (by decide) (fun _ _ h=>Inv.sbK [131,125,126,122,108,2106,2104,116,117,115,114,102,0] h) (fun v41 m41 ho41=>?_)
 obtain ⟨A41,c41,rfl,l41,k41⟩:=ho41.slc
 refine VE.tree [9] (by kernel_rfl) ⟨?_,trivial⟩
 obtain ⟨mo42,cs42,hM42,hA42,hC42⟩:=h_es
 refine VI.app 111 rfl rfl rfl rfl Qd8 tz3 rfl rfl hM42 hA42 (.row 140 _ _ _ 1 1 _ _ Tryz.underlying82 rfl (Qa rfl rfl)) (by simp [Value.oneCell']) bdm bd (by decide) (fun _ _ h=>Inv.sbK [131,125,126,122,108,2106,2104,116,117,115,114,102,0] h) (fun v42 m42 hN42=>?_)
 have ho42:QH (.int .i64) m42 Qx v42 (es++[(at_+((Qw (d0.drop ((at_).toNat))).2.1))]):=QH.one hC42 hN42 (show Rd (.int .i64) _ [_] _ from ⟨rfl,by simp only [inK];(first | exact bd)⟩)
 obtain ⟨A42,c42,rfl,l42,k42⟩:=ho42.slc
 refine VE.tree [12] (by kernel_rfl) ⟨?_,trivial⟩
 refine VI.storeH (k:=1) (c':=[Value.slice A41 ((l++[((Qf ((Qw (d0.drop at_.toNat)).1)).1)]).length) (c41)]) 2104 rfl rfl rfl (.inr ⟨Qbr,rfl⟩) rfl rfl rfl rfl rfl (fun _ h=>Inv.sbK [131,125,126,122,108,116,117,115,114,102,0] h) ?_
 refine VE.tree [13] (by kernel_rfl) ⟨?_,trivial⟩
 refine VI.storeH (k:=1) (c':=[Value.slice A42 ((es++[(at_+((Qw (d0.drop ((at_).toNat))).2.1))]).length) (c42)]) 2106 rfl rfl rfl (.inr ⟨QlC,rfl⟩) rfl rfl rfl rfl rfl (fun _ h=>Inv.sbK [131,125,126,122,108,116,117,115,114,102,0] h) ?_
 refine VE.nil (by kernel_rfl) rfl ?_ rfl
 refine VO.store (k:=1) (c':=[.int .i64 (((Qf ((Qw (d0.drop at_.toNat)).1)).1).1)]) 108 rfl rfl (.inr ⟨tk3,rfl⟩) rfl rfl rfl rfl rfl ?_
 refine VO.kp [110,122,111,108,2106,2104,116,117,115,114,102,0] [(110,m41),(122,QM g21 (.cells #[.int .i64 (((Qf ((Qw (d0.drop at_.toNat)).1)).1).1),.int .i64 (((Qf ((Qw (d0.drop at_.toNat)).1)).1).2.1),.slice q18_0_A2 ((((Qf ((Qw (d0.drop at_.toNat)).1)).1).2.2).length) (q18_0_c2)] 37 (0,0))),(111,m42),(108,QM g7 (.cells #[.int .i64 (((Qf ((Qw (d0.drop at_.toNat)).1)).1).1)] 3 (0,0))),(2106,QM g5 (.cells #[.slice A42 ((es++[(at_+((Qw (d0.drop ((at_).toNat))).2.1))]).length) (c42)] 82 (0,0))),(2104,QM g3 (.cells #[.slice A41 ((l++[((Qf ((Qw (d0.drop at_.toNat)).1)).1)]).length) (c41)] 41 (0,0))),(116,mr_),(117,mo_),(115,ml_),(114,QM D_ (.deferred (some []))),(102,QM g1 (.cells #[.slice A0 (d0.length) (c0)] 56 (0,0))),(0,wm W)] ?_
 refine VO.nil (JL ?_)
 exact ⟨rfl,fun W_ hW_=>⟨⟨l++[((Qf ((Qw (d0.drop at_.toNat)).1)).1)],A41,c41,m41,es++[(at_+((Qw (d0.drop ((at_).toNat))).2.1))],A42,c42,m42,((Qf ((Qw (d0.drop at_.toNat)).1)).1).1⟩,(hW_.gather (ids:=[111,110,108,2106,2104]) 113 rfl).1.sub [117,115,113,114,102,0],.inl ⟨rfl,by exact QcF hl (QlR hat2 Qo hep Qo),by exact QfX he hl (QlR hat2 Qo hep Qo),by exact QbT.symm,ho41,ho42,(hW_.gather (ids:=[111,110,108,2106,2104]) 113 rfl).2⟩⟩⟩
 refine VI.bsl (cs:=[.int .i64 (at_+((Qw (d0.drop ((at_).toNat))).2.1))]) 144 rfl rfl rfl Qd8 tz3 rfl rfl (fun _ h=>Inv.sbK [131,125,126,122,108,2106,2104,116,117,115,114,102,0] h) (fun g43=>?_)
 refine VE.tree [2] (by kernel_rfl) ⟨?_,trivial⟩
 refine VI.bsl (cs:=[.int .i64 (((Qf ((Qw (d0.drop at_.toNat)).1)).1).1),.int .i64 (((Qf ((Qw (d0.drop at_.toNat)).1)).1).2.1),.slice q18_0_A2 ((((Qf ((Qw (d0.drop at_.toNat)).1)).1).2.2).length) (q18_0_c2)]) 146 rfl rfl rfl Jx XA rfl rfl (fun _ h=>Inv.sbK [131,125,126,122,108,2106,2104,116,117,115,114,102,0] h) (fun g45=>?_)
 refine VE.tree [3] (by kernel_rfl) ⟨?_,trivial⟩
 refine VI.appO (e:=Ql) 110 120 146 rfl rfl rfl rfl Jx XA rfl rfl rfl rfl h_l (show Ow Ql _ _ ((Qf ((Qw (d0.drop at_.toNat)).1)).1) from (Jt (((Qf ((Qw (d0.drop at_.toNat)).1)).1).1) (((Qf ((Qw (d0.drop at_.toNat)).1)).1).2.1) (((Qf ((Qw (d0.drop at_.toNat)).1)).1).2.2) (QA.one (Qc _)) bdk bdk q18_0_2)) Tryz.underlying41 (Qa rfl rfl) bdm bd (by decide) (fun _ _ h=>Inv.sbK [131,125,126,122,108,2106,2104,116,117,115,114,102,0] h) (fun v47 m47 ho47=>?_)
 obtain ⟨A47,c47,rfl,l47,k47⟩:=ho47.slc
 refine VE.tree [9] (by kernel_rfl) ⟨?_,trivial⟩
 obtain ⟨mo48,cs48,hM48,hA48,hC48⟩:=h_es
 refine VI.app 111 rfl rfl rfl rfl Qd8 tz3 rfl rfl hM48 hA48 (.row 144 _ _ _ 1 1 _ _ Tryz.underlying82 rfl (Qa rfl rfl)) (by simp [Value.oneCell']) bdm bd (by decide) (fun _ _ h=>Inv.sbK [131,125,126,122,108,2106,2104,116,117,115,114,102,0] h) (fun v48 m48 hN48=>?_)
 have ho48:QH (.int .i64) m48 Qx v48 (es++[(at_+((Qw (d0.drop ((at_).toNat))).2.1))]):=QH.one hC48 hN48 (show Rd (.int .i64) _ [_] _ from ⟨rfl,by simp only [inK];(first | exact bd)⟩)
 obtain ⟨A48,c48,rfl,l48,k48⟩:=ho48.slc
 refine VE.tree [12] (by kernel_rfl) ⟨?_,trivial⟩
 refine VI.storeH (k:=1) (c':=[Value.slice A47 ((l++[((Qf ((Qw (d0.drop at_.toNat)).1)).1)]).length) (c47)]) 2104 rfl rfl rfl (.inr ⟨Qbr,rfl⟩) rfl rfl rfl rfl rfl (fun _ h=>Inv.sbK [131,125,126,122,108,116,117,115,114,102,0] h) ?_
 refine VE.tree [13] (by kernel_rfl) ⟨?_,trivial⟩
 refine VI.storeH (k:=1) (c':=[Value.slice A48 ((es++[(at_+((Qw (d0.drop ((at_).toNat))).2.1))]).length) (c48)]) 2106 rfl rfl rfl (.inr ⟨QlC,rfl⟩) rfl rfl rfl rfl rfl (fun _ h=>Inv.sbK [131,125,126,122,108,116,117,115,114,102,0] h) ?_
 refine VE.nil (by kernel_rfl) rfl ?_ rfl
 refine VO.store (k:=1) (c':=[.int .i64 (((Qf ((Qw (d0.drop at_.toNat)).1)).1).1)]) 108 rfl rfl (.inr ⟨tk3,rfl⟩) rfl rfl rfl rfl rfl ?_
 refine VO.kp [110,122,111,108,2106,2104,116,117,115,114,102,0] [(110,m47),(122,QM g21 (.cells #[.int .i64 (((Qf ((Qw (d0.drop at_.toNat)).1)).1).1),.int .i64 (((Qf ((Qw (d0.drop at_.toNat)).1)).1).2.1),.slice q18_0_A2 ((((Qf ((Qw (d0.drop at_.toNat)).1)).1).2.2).length) (q18_0_c2)] 37 (0,0))),(111,m48),(108,QM g7 (.cells #[.int .i64 (((Qf ((Qw (d0.drop at_.toNat)).1)).1).1)] 3 (0,0))),(2106,QM g5 (.cells #[.slice A48 ((es++[(at_+((Qw (d0.drop ((at_).toNat))).2.1))]).length) (c48)] 82 (0,0))),(2104,QM g3 (.cells #[.slice A47 ((l++[((Qf ((Qw (d0.drop at_.toNat)).1)).1)]).length) (c47)] 41 (0,0))),(116,mr_),(117,mo_),(115,ml_),(114,QM D_ (.deferred (some []))),(102,QM g1 (.cells #[.slice A0 (d0.length) (c0)] 56 (0,0))),(0,wm W)] ?_
 refine VO.nil (JL ?_)
 exact ⟨rfl,fun W_ hW_=>⟨⟨l++[((Qf ((Qw (d0.drop at_.toNat)).1)).1)],A47,c47,m47,es++[(at_+((Qw (d0.drop ((at_).toNat))).2.1))],A48,c48,m48,((Qf ((Qw (d0.drop at_.toNat)).1)).1).1⟩,(hW_.gather (ids:=[111,110,108,2106,2104]) 113 rfl).1.sub [117,115,113,114,102,0],.inl ⟨rfl,by exact QcF hl (QlR hat2 Qo hep Qo),by exact QfX he hl (QlR hat2 Qo hep Qo),by exact QbT.symm,ho47,ho48,(hW_.gather (ids:=[111,110,108,2106,2104]) 113 rfl).2⟩⟩⟩
 · rintro D_ at_ ⟨l,l_A,l_c,l_m,es,es_A,es_c,es_m,ep⟩ ⟨hl,he,hep,h_l,h_es,hSep_⟩ hDn_
   replace hl:QfP d0 l at_:=hl
   replace he:es=JK l:=he
   replace hep:ep=Qv 0 l:=hep
   replace h_l:Ow (.sl Ql) l_m [.slice l_A l.length l_c] l:=h_l
   replace h_es:QH (.int .i64) es_m Qx (.slice es_A es.length es_c) es:=h_es
   replace hSep_:QA (Zc [es_m,l_m,QM g7 (.cells [Value.int .i64 (ep)].toArray 3 (0,0)),QM g5 (.cells [Value.slice es_A (es.length) (es_c)].toArray 82 (0,0)),QM g3 (.cells [Value.slice l_A (l.length) (l_c)].toArray 41 (0,0))]) [es_m,l_m,QM g7 (.cells [Value.int .i64 (ep)].toArray 3 (0,0)),QM g5 (.cells [Value.slice es_A (es.length) (es_c)].toArray 82 (0,0)),QM g3 (.cells [Value.slice l_A (l.length) (l_c)].toArray 41 (0,0))]:=hSep_
   have l_l:l.length≤l_c:=by obtain ⟨_,_,he,hl,_⟩:=h_l.slice;simp only [Value.slice.injEq] at he;omega
   have k_l:l_c≤9223372036854775807:=by obtain ⟨_,_,he,_,hl⟩:=h_l.slice;simp only [Value.slice.injEq,maxLen] at he hl;omega
   have l_es:es.length≤es_c:=by obtain ⟨_,_,he,hl,_⟩:=h_es.slice;simp only [Value.slice.injEq] at he;omega
   have k_es:es_c≤9223372036854775807:=by obtain ⟨_,_,he,_,hl⟩:=h_es.slice;simp only [Value.slice.injEq,maxLen] at he hl;omega
   refine JL (Qm ?_)
   refine VX.parts 113 [111,110,108,106,104] rfl hSep_ ?_
   show VX _ _ _ _ _ _ _ [(0,.slice A0 (d0.length) (c0)),(1,.pointer (some ⟨g1,0,none⟩)),(2,.slice none (0) (0)),(3,.slice none (0) (0)),(4,.pointer (some ⟨g3,0,none⟩)),(5,.pointer (some ⟨g5,0,none⟩)),(6,.pointer (some ⟨g7,0,none⟩)),(15,.func (.func 122) #[] ca9.toArray)] [(111,es_m),(110,l_m),(108,QM g7 (.cells #[.int .i64 (ep)] 3 (0,0))),(106,QM g5 (.cells #[.slice es_A (es.length) (es_c)] 82 (0,0))),(104,QM g3 (.cells #[.slice l_A (l.length) (l_c)] 41 (0,0))),(114,QM D_ (.deferred (some []))),(102,QM g1 (.cells #[.slice A0 (d0.length) (c0)] 56 (0,0))),(0,wm W)]
   refine VX.seq ?_
   refine VX.regD _ 3 [(0,true),(1,true),(2,true)] follows (by kernel_rfl) (fun _ h=>h.sub [111,110,108,106,104,114,102,0]) ?_
   refine VD.z rfl (.ld1 104 rfl Qbr rfl (Qa rfl rfl)) (VD.z rfl (.ld1 106 rfl QlC rfl (Qa rfl rfl)) (VD.z rfl (.as rfl) ?_))
   refine VD.nil rfl ?_ rfl
   refine VO.as (VO.p8 111 110 108 106 104 114 102 0 (VO.k8 0 1 2 3 4 5 6 15 (Qm ?_)))
   refine VX.ret ?_
   refine ⟨114,rfl,?_⟩
   refine ⟨_,_,Jr (rs:=[.tmp 2,.tmp 3]) rfl (.tmp rfl (.tmp rfl .nil)),fun W_ hI=>JZ (l:=[l_m,es_m]) hI [110,111] rfl rfl (Qc _) (fun hS_=>?_)⟩
   dsimp only [QE]
   refine ⟨.slice l_A (l.length) (l_c),.slice es_A (es.length) (es_c),Zc [l_m],Zc [es_m],?_,?_,?_,?_⟩
   rotate_left
   · exact QA.grp (ls:=[[l_m],[es_m]]) hS_
   · exact Ow.cg (Ow.up h_l ((QA.self hS_ (List.Sublist.cons_cons _ (List.Sublist.cons _ List.Sublist.slnil))).1 _ (.head _))) (by first | rfl | (first | exact hs | (rw [hs,he];done) | exact congrArg Prod.fst (ZI hl (QcY hDn_.2.2)) | (rw [congrArg Prod.fst (ZI hl (QcY hDn_.2.2)),he];done)))
   · exact Ow.cg (Ow.up (QH.ow h_es rfl) ((QA.self hS_ (List.Sublist.cons _ (List.Sublist.cons_cons _ List.Sublist.slnil))).1 _ (.head _))) (by first | rfl | (first | exact hs | (rw [hs,he];done) | exact congrArg Prod.fst (ZI hl (QcY hDn_.2.2)) | (rw [congrArg Prod.fst (ZI hl (QcY hDn_.2.2)),he];done)))
   all_goals (first | rfl | (simp [*];done))
 · rintro D_ _ ⟨l,l_A,l_c,l_m,es,es_A,es_c,es_m,ep⟩ ⟨rfl,hs,he,h_l,h_es,hSep_⟩ _
   replace hs:(Y0 d0).1=l:=hs
   replace he:es=JK l:=he
   replace h_l:Ow (.sl Ql) l_m [.slice l_A l.length l_c] l:=h_l
   replace h_es:QH (.int .i64) es_m Qx (.slice es_A es.length es_c) es:=h_es
   replace hSep_:QA (Zc [es_m,l_m,QM g7 (.cells [Value.int .i64 (ep)].toArray 3 (0,0)),QM g5 (.cells [Value.slice es_A (es.length) (es_c)].toArray 82 (0,0)),QM g3 (.cells [Value.slice l_A (l.length) (l_c)].toArray 41 (0,0))]) [es_m,l_m,QM g7 (.cells [Value.int .i64 (ep)].toArray 3 (0,0)),QM g5 (.cells [Value.slice es_A (es.length) (es_c)].toArray 82 (0,0)),QM g3 (.cells [Value.slice l_A (l.length) (l_c)].toArray 41 (0,0))]:=hSep_
   have l_l:l.length≤l_c:=by obtain ⟨_,_,he,hl,_⟩:=h_l.slice;simp only [Value.slice.injEq] at he;omega
   have k_l:l_c≤9223372036854775807:=by obtain ⟨_,_,he,_,hl⟩:=h_l.slice;simp only [Value.slice.injEq,maxLen] at he hl;omega
   have l_es:es.length≤es_c:=by obtain ⟨_,_,he,hl,_⟩:=h_es.slice;simp only [Value.slice.injEq] at he;omega
   have k_es:es_c≤9223372036854775807:=by obtain ⟨_,_,he,_,hl⟩:=h_es.slice;simp only [Value.slice.injEq,maxLen] at he hl;omega
   refine Zi (Qm ?_)
   refine VX.parts 113 [111,110,108,106,104] rfl hSep_ ?_
   show VX _ _ _ _ _ _ _ [(0,.slice A0 (d0.length) (c0)),(1,.pointer (some ⟨g1,0,none⟩)),(2,.slice none (0) (0)),(3,.slice none (0) (0)),(4,.pointer (some ⟨g3,0,none⟩)),(5,.pointer (some ⟨g5,0,none⟩)),(6,.pointer (some ⟨g7,0,none⟩)),(15,.func (.func 122) #[] ca9.toArray)] [(111,es_m),(110,l_m),(108,QM g7 (.cells #[.int .i64 (ep)] 3 (0,0))),(106,QM g5 (.cells #[.slice es_A (es.length) (es_c)] 82 (0,0))),(104,QM g3 (.cells #[.slice l_A (l.length) (l_c)] 41 (0,0))),(114,QM D_ (.deferred (some []))),(102,QM g1 (.cells #[.slice A0 (d0.length) (c0)] 56 (0,0))),(0,wm W)]
   refine VX.seq ?_
   refine VX.regD _ 3 [(0,true),(1,true),(2,true)] follows (by kernel_rfl) (fun _ h=>h.sub [111,110,108,106,104,114,102,0]) ?_
   refine VD.z rfl (.ld1 104 rfl Qbr rfl (Qa rfl rfl)) (VD.z rfl (.ld1 106 rfl QlC rfl (Qa rfl rfl)) (VD.z rfl (.as rfl) ?_))
   refine VD.nil rfl ?_ rfl
   refine VO.as (VO.p8 111 110 108 106 104 114 102 0 (VO.k8 0 1 2 3 4 5 6 15 (Qm ?_)))
   refine VX.ret ?_
   refine ⟨114,rfl,?_⟩
   refine ⟨_,_,Jr (rs:=[.tmp 2,.tmp 3]) rfl (.tmp rfl (.tmp rfl .nil)),fun W_ hI=>JZ (l:=[l_m,es_m]) hI [110,111] rfl rfl (Qc _) (fun hS_=>?_)⟩
   dsimp only [QE]
   refine ⟨.slice l_A (l.length) (l_c),.slice es_A (es.length) (es_c),Zc [l_m],Zc [es_m],?_,?_,?_,?_⟩
   rotate_left
   · exact QA.grp (ls:=[[l_m],[es_m]]) hS_
   · exact Ow.cg (Ow.up h_l ((QA.self hS_ (List.Sublist.cons_cons _ (List.Sublist.cons _ List.Sublist.slnil))).1 _ (.head _))) (by first | rfl | (first | exact hs | (rw [hs,he];done) | exact congrArg Prod.fst (ZI hl (QcY hDn_.2.2)) | (rw [congrArg Prod.fst (ZI hl (QcY hDn_.2.2)),he];done)))
   · exact Ow.cg (Ow.up (QH.ow h_es rfl) ((QA.self hS_ (List.Sublist.cons _ (List.Sublist.cons_cons _ List.Sublist.slnil))).1 _ (.head _))) (by first | rfl | (first | exact hs | (rw [hs,he];done) | exact congrArg Prod.fst (ZI hl (QcY hDn_.2.2)) | (rw [congrArg Prod.fst (ZI hl (QcY hDn_.2.2)),he];done)))
   all_goals (first | rfl | (simp [*];done))
theorem QgN:JR Tryz.prog 74=true:=by kernel_rfl
theorem Qa8:tst Tryz.prog 104=some [(0,1),(1,1),(2,1),(3,1)]:=by kernel_rfl
theorem J9:tst Tryz.prog 60=some [(0,1),(1,1),(2,1),(3,1),(4,1),(5,4),(9,1)]:=by kernel_rfl
theorem tz60:tz Tryz.prog 60=some [.bool false,.bool false,.bool false,.int .i64 0,.int .i64 0,.slice none 0 0,.slice none 0 0,.slice none 0 0,.slice none 0 0,.slice none 0 0]:=by kernel_rfl
theorem QnN (W:World):Qi Tryz.prog 6 [] W (Qx) (fun v m'=>∃ (s0:Nat),v= .pointer (some ⟨s0,0,none⟩)∧Ow (.ptr QN) m' [.pointer (some ⟨s0,0,none⟩)] (s0,Qz)):=by
 refine Qi.ofA (n:=3) Tryz.func6 rfl rfl rfl ?_
 refine VC.rs (VO.as (VO.k1 0 (VC.rs ?_)))
 refine VO.z (.bst (cs:=[.bool true,.bool false,.bool false,.int .i64 (0),.int .i64 (0),.slice none (0) (0),.slice none (0) (0),.slice none (0) (0),.slice none (0) (0),.slice none (0) (0)]) rfl J9 tz60 rfl) ?_
 refine VO.box (cs:=[.bool true,.bool false,.bool false,.int .i64 (0),.int .i64 (0),.slice none (0) (0),.slice none (0) (0),.slice none (0) (0),.slice none (0) (0),.slice none (0) (0)]) 102 rfl rfl rfl (fun g1=>?_)
 refine VO.as (VO.k1 0 (VC.ret ?_))
 refine Yd 0 [102] fun hS_=>?_
 dsimp only [QE]
 have he0:(Qz:QO)=(true,false,false,0,0,([],[],[],[]),[]):=by first | rfl | (simp [*];done)
 refine ⟨g1,?_,?_⟩
 rotate_left
 ·rw [he0];exact (JM _ _ _ _ _ _ _ _ _ _ (QA.nilAt 5 (QA.nilAt 4 (QA.nilAt 3 (QA.nilAt 2 (QA.nilAt 1 hS_))))) bdk bdk (Ow.nil _ _) (Ow.nil _ _) (Ow.nil _ _) (Ow.nil _ _) (Ow.nil _ _))
 all_goals (first | rfl | (simp [*];done))
theorem Qle (W:World) (d0:Int) (h0:inK .i64 d0):Qi Tryz.prog 101 [.int .i64 d0] W (Qx) (fun v m'=>v= .bool (decide (inF d0))):=by
 have h0':=h0;simp only [inK] at h0'
 refine Qi.ofA (n:=9) Tryz.func101 rfl rfl rfl ?_
 refine VC.rs (VO.as (VO.k2 0 2 (VC.rs (VO.mv (VO.z (.geq rfl rfl) (VO.mv ?_))))))
 refine VO.dec (t:=5) rfl (fun hc1=>?_) (fun hc1=>?_)
 refine VO.w (.mv rfl) (VO.w (.lss rfl rfl) (VO.z (.pT rfl rfl) (VO.as (VO.k2 0 2 (VC.ret ?_)))))
 exact Xl 2 rfl (by first | rfl | (simp [inF, *]))
 refine VO.gN (VO.gN (VO.z (.pF rfl rfl) (VO.as (VO.k2 0 2 (VC.ret ?_)))))
 exact Xl 2 rfl (by first | rfl | (simp [inF, *]))
theorem QcJ (W:World) {m0:Mem} (hm:mle (m0) (wm W)) {g0:Nat} {d0:QO} (h0:Ow (.ptr QN) m0 [.pointer (some ⟨g0,0,none⟩)] (g0,d0)):Qi Tryz.prog 74 [.pointer (some ⟨g0,0,none⟩)] W (m0) (fun v m'=>v= .bool (decide (d0.1=false))∧Ow (.ptr QN) m' [.pointer (some ⟨g0,0,none⟩)] (g0,d0)):=by
 refine Qi.ofB (n:=12) hm Tryz.func74 rfl rfl rfl ?_
 refine VC.rs (VO.as (VO.k2 0 2 (VC.rs (VO.mv ?_))))
 refine VO.z (.pnil rfl rfl Tryz.underlying26 rfl) ?_
 refine VO.mv (VO.w (.mv rfl) (VO.w (.nilp rfl) (VO.w (.fa rfl J9 rfl) ?_)))
 obtain ⟨q1_E,q1_A5,q1_c5,q1_A6,q1_c6,q1_A7,q1_c7,q1_A8,q1_c8,q1_A9,q1_c9,q1_n5,q1_n6,q1_n7,q1_n8,q1_n9,_,q1_S,q1_3,q1_4,q1_5,q1_6,q1_7,q1_8,q1_9⟩:=QF h0
 simp only [inK] at q1_3 q1_4
 have q1_r5:=q1_5.rm
 have q1_r6:=q1_6.rm
 have q1_r7:=q1_7.rm
 have q1_r8:=q1_8.rm
 have q1_r9:=q1_9.rm
 refine VO.inv _ (fun _ h=>h.parts (i:=1) rfl q1_S [107,102,103,104,105,106]) ?_
 refine VO.w (.ld1 107 rfl tk4 rfl (Qa rfl rfl)) (VO.w (.not rfl) (VO.z (.pF rfl rfl) (VO.as ?_)))
 refine VO.clsP 108 [107,102,103,104,105,106] rfl (fun hg8=>(Q7 d0 hg8 bdk bdk q1_5 q1_6 q1_7 q1_8 q1_9)) (fun mc8 ho8=>?_)
 refine VO.k2 0 2 (VC.ret ?_)
 exact Zs 2 108 rfl ho8 (by first | rfl | (simp [*];done)) (by first | rfl | (cases d0.1 <;> rfl))
theorem QbB (W:World) {m0:Mem} (hm:mle (m0) (wm W)) {g0:Nat} {d0:QO} (h0:Ow (.ptr QN) m0 [.pointer (some ⟨g0,0,none⟩)] (g0,d0)):Qi Tryz.prog 73 [.pointer (some ⟨g0,0,none⟩)] W (m0) (fun v m'=>v= .int .i64 (Jj d0)∧Ow (.ptr QN) m' [.pointer (some ⟨g0,0,none⟩)] (g0,d0)):=by
 refine Qi.ofB (n:=11) hm Tryz.func73 rfl rfl rfl ?_
 refine VC.rs (VO.as (VO.k2 0 2 (VC.seq (VC.block (VC.rs (VO.mv ?_))))))
 refine VO.call 1 rfl QgN rfl rfl (fun W hW=>QcJ W (hW.t 1) h0) (fun v1 m1 hv1=>?_)
 obtain ⟨rfl,w1_0⟩:=hv1
 refine VO.as (VO.k3 0 2 3 ?_)
 refine VC.cond rfl (fun hc2=>?_) (fun hc2=>?_)
 ·refine VC.rs (VO.as (VO.p2 1 0 (VO.k3 0 2 3 (VC.ret (JO (QZ ?_))))))
  exact Zs 2 1 rfl w1_0 (by first | rfl | (simp [*];done)) (by first | rfl | (simp [Jj, *]))
 refine VC.rs (VO.mv (VO.z (.nilp rfl) (VO.z (.fa rfl J9 rfl) ?_)))
 obtain ⟨q3_E,q3_A5,q3_c5,q3_A6,q3_c6,q3_A7,q3_c7,q3_A8,q3_c8,q3_A9,q3_c9,q3_n5,q3_n6,q3_n7,q3_n8,q3_n9,_,q3_S,q3_3,q3_4,q3_5,q3_6,q3_7,q3_8,q3_9⟩:=QF w1_0
 simp only [inK] at q3_3 q3_4
 have q3_r5:=q3_5.rm
 have q3_r6:=q3_6.rm
 have q3_r7:=q3_7.rm
 have q3_r8:=q3_8.rm
 have q3_r9:=q3_9.rm
 refine VO.inv _ (fun _ h=>h.parts (i:=1) rfl q3_S [109,104,105,106,107,108]) ?_
 refine VO.z (.ld1 109 rfl tk4 rfl (Qa rfl rfl)) (VO.as ?_)
 refine VO.clsP 110 [109,104,105,106,107,108] rfl (fun hg10=>(Q7 d0 hg10 bdk bdk q3_5 q3_6 q3_7 q3_8 q3_9)) (fun mc10 ho10=>?_)
 refine VO.p2 110 0 (VO.k4 0 2 3 6 ?_)
 refine VC.condB rfl (fun hc11=>?_) (fun hc11=>?_)
 ·refine VC.rs (VO.as (VO.k4 0 2 3 6 (VC.ret (JO (QZ ?_)))))
  exact Zs 2 110 rfl ho10 (by first | rfl | (simp [*];done)) (by first | rfl | (simp [Jj, *]))
 ·refine VC.skip (JL (Qm (VC.rs (VO.as (VO.k4 0 2 3 6 (VC.ret ?_))))))
  exact Zs 2 110 rfl ho10 (by first | rfl | (simp [*];done)) (by first | rfl | (simp [Jj, *]))
theorem QhO (W:World) {m0:Mem} (hm:mle (m0) (wm W)) {g0:Nat} {d0:QO} (h0:Ow (.ptr QN) m0 [.pointer (some ⟨g0,0,none⟩)] (g0,d0)) (e0:okD d0) (e1:wD d0≤2*1000000000000):Qi Tryz.prog 110 [.pointer (some ⟨g0,0,none⟩)] W (m0) (fun v m'=>v= .bool (decide ((Q9 d0).2=true))∧Ow (.ptr QN) m' [.pointer (some ⟨g0,0,none⟩)] (g0,(Q9 d0).1)):=by
 obtain ⟨hg,hfu,hst⟩:=e0;simp only [wD] at e1
 refine Qi.ofB (n:=29) hm Tryz.func110 rfl rfl rfl ?_
 refine VC.rs (VO.as (VO.k2 0 2 (VC.seq (VC.rs (VO.mv (VO.z (.nilp rfl) (VO.z (.fa rfl J9 rfl) ?_)))))))
 obtain ⟨q1_E,q1_A5,q1_c5,q1_A6,q1_c6,q1_A7,q1_c7,q1_A8,q1_c8,q1_A9,q1_c9,q1_n5,q1_n6,q1_n7,q1_n8,q1_n9,_,q1_S,q1_3,q1_4,q1_5,q1_6,q1_7,q1_8,q1_9⟩:=QF h0
 simp only [inK] at q1_3 q1_4
 have q1_r5:=q1_5.rm
 have q1_r6:=q1_6.rm
 have q1_r7:=q1_7.rm
 have q1_r8:=q1_8.rm
 have q1_r9:=q1_9.rm
 refine VO.inv _ (fun _ h=>h.parts (i:=1) rfl q1_S [107,102,103,104,105,106]) ?_
 refine VO.z (.ld1 107 rfl tk4 rfl (Qa rfl rfl)) ?_
 refine VO.clsP 108 [107,102,103,104,105,106] rfl (fun hg8=>(Q7 d0 hg8 bdk bdk q1_5 q1_6 q1_7 q1_8 q1_9)) (fun mc8 ho8=>?_)
 refine VO.k3 0 2 6 ?_
 refine VC.condB rfl (fun hc9=>?_) (fun hc9=>?_)
 refine VC.seq (VC.rs (VO.mv (VO.z (.nilp rfl) (VO.z (.fa rfl J9 rfl) ?_))))
 obtain ⟨q10_E,q10_A5,q10_c5,q10_A6,q10_c6,q10_A7,q10_c7,q10_A8,q10_c8,q10_A9,q10_c9,q10_n5,q10_n6,q10_n7,q10_n8,q10_n9,_,q10_S,q10_3,q10_4,q10_5,q10_6,q10_7,q10_8,q10_9⟩:=QF ho8
 simp only [inK] at q10_3 q10_4
 have q10_r5:=q10_5.rm
 have q10_r6:=q10_6.rm
 have q10_r7:=q10_7.rm
 have q10_r8:=q10_8.rm
 have q10_r9:=q10_9.rm
 refine VO.inv _ (fun _ h=>h.parts (i:=108) rfl q10_S [116,111,112,113,114,115]) ?_
 refine VO.z (.ld1 116 rfl tk3 rfl (Qa rfl rfl)) (VO.z (.eql rfl rfl) ?_)
 refine VO.clsP 117 [116,111,112,113,114,115] rfl (fun hg17=>(Q7 d0 hg17 bdk bdk q10_5 q10_6 q10_7 q10_8 q10_9)) (fun mc17 ho17=>?_)
 refine VO.p2 117 0 (VO.k4 0 2 6 11 ?_)
 refine VC.cond rfl (fun hc18=>?_) (fun hc18=>?_)
 ·refine VC.rs (VO.mv (VO.z (.nilp rfl) (VO.z (.fa rfl J9 rfl) ?_)))
  obtain ⟨q19_E,q19_A5,q19_c5,q19_A6,q19_c6,q19_A7,q19_c7,q19_A8,q19_c8,q19_A9,q19_c9,q19_n5,q19_n6,q19_n7,q19_n8,q19_n9,_,q19_S,q19_3,q19_4,q19_5,q19_6,q19_7,q19_8,q19_9⟩:=QF ho17
  simp only [inK] at q19_3 q19_4
  have q19_r5:=q19_5.rm
  have q19_r6:=q19_6.rm
  have q19_r7:=q19_7.rm
  have q19_r8:=q19_8.rm
  have q19_r9:=q19_9.rm
  refine VO.inv _ (fun _ h=>h.parts (i:=117) rfl q19_S [125,120,121,122,123,124]) ?_
  refine VO.s1 125 tk4 ?_
  refine VO.clsP 126 [125,120,121,122,123,124] rfl (fun hg26=>(JM _ _ _ _ _ _ _ _ _ _ hg26 bdk bdk q19_5 q19_6 q19_7 q19_8 q19_9)) (fun mc26 ho26=>?_)
  refine VO.k4 0 2 6 11 (VC.rs (VO.as (VO.k4 0 2 6 11 (VC.ret (QZ (QZ ?_))))))
  refine Yd 2 [126] fun hS_=>?_
  dsimp only [QE]
  have hm0_:((Q9 d0).1:QO)=(d0.1,true,d0.2.2):=by first | rfl | (simp [Q9, *];done)
  refine ⟨?_,?_⟩
  rotate_left
  ·rw [hm0_];exact (Ow.up ho26 (hS_.1 _ (.head _)))
  all_goals (first | rfl | (simp [Q9, *];done))
 ·refine VC.skip (Qm ?_)
  refine VC.reg ?_
  refine VO.mv (VO.z (.nilp rfl) (VO.z (.fa rfl J9 rfl) ?_))
  obtain ⟨q27_E,q27_A5,q27_c5,q27_A6,q27_c6,q27_A7,q27_c7,q27_A8,q27_c8,q27_A9,q27_c9,q27_n5,q27_n6,q27_n7,q27_n8,q27_n9,_,q27_S,q27_3,q27_4,q27_5,q27_6,q27_7,q27_8,q27_9⟩:=QF ho17
  simp only [inK] at q27_3 q27_4
  have q27_r5:=q27_5.rm
  have q27_r6:=q27_6.rm
  have q27_r7:=q27_7.rm
  have q27_r8:=q27_8.rm
  have q27_r9:=q27_9.rm
  refine VO.inv _ (fun _ h=>h.parts (i:=117) rfl q27_S [133,128,129,130,131,132]) ?_
  refine VO.z (.ld1 133 rfl tk3 rfl (Qa rfl rfl)) ?_
  refine VO.z (.sub rfl rfl rfl ⟨bd,bd⟩) ?_
  refine VO.z (.nilp rfl) (VO.z (.fa rfl J9 rfl) ?_)
  refine VO.s1 133 tk3 ?_
  refine VO.clsP 134 [133,128,129,130,131,132] rfl (fun hg34=>(JM _ _ _ _ _ _ _ _ _ _ hg34 bdk bdk q27_5 q27_6 q27_7 q27_8 q27_9)) (fun mc34 ho34=>?_)
  refine VO.k4 0 2 6 11 (Qm (VC.rs (VO.mv (VO.z (.nilp rfl) (VO.z (.fa rfl J9 rfl) ?_)))))
  obtain ⟨q35_E,q35_A5,q35_c5,q35_A6,q35_c6,q35_A7,q35_c7,q35_A8,q35_c8,q35_A9,q35_c9,q35_n5,q35_n6,q35_n7,q35_n8,q35_n9,_,q35_S,q35_3,q35_4,q35_5,q35_6,q35_7,q35_8,q35_9⟩:=QcX (x0:=d0.1) (x1:=d0.2.1) (x2:=d0.2.2.1) (x3:=d0.2.2.2.1 - 1) (x4:=d0.2.2.2.2.1) (x5:=d0.2.2.2.2.2.1.1) (x6:=d0.2.2.2.2.2.1.2.1) (x7:=d0.2.2.2.2.2.1.2.2.1) (x8:=d0.2.2.2.2.2.1.2.2.2) (x9:=d0.2.2.2.2.2.2) ho34
  simp only [inK] at q35_3 q35_4
  have q35_r5:=q35_5.rm
  have q35_r6:=q35_6.rm
  have q35_r7:=q35_7.rm
  have q35_r8:=q35_8.rm
  have q35_r9:=q35_9.rm
  refine VO.inv _ (fun _ h=>h.parts (i:=134) rfl q35_S [141,136,137,138,139,140]) ?_
  refine VO.z (.ld1 141 rfl tk3 rfl (Qa rfl rfl)) ?_
  refine VO.z (.add rfl rfl rfl ⟨bd,bd⟩) ?_
  refine VO.z (.nilp rfl) (VO.z (.fa rfl J9 rfl) ?_)
  refine VO.s1 141 tk3 ?_
  refine VO.clsP 142 [141,136,137,138,139,140] rfl (fun hg42=>(JM _ _ _ _ _ _ _ _ _ _ hg42 bdk bdk q35_5 q35_6 q35_7 q35_8 q35_9)) (fun mc42 ho42=>?_)
  refine VO.k4 0 2 6 11 (VC.rs (VO.as (VO.p2 142 0 (VO.k4 0 2 6 11 (VC.ret ?_)))))
  refine Yd 2 [142] fun hS_=>?_
  dsimp only [QE]
  have hm0_:((Q9 d0).1:QO)=(d0.1,d0.2.1,d0.2.2.1,d0.2.2.2.1 - 1,d0.2.2.2.2.1+1,d0.2.2.2.2.2):=by first | rfl | (simp [Q9, *];done)
  refine ⟨?_,?_⟩
  rotate_left
  ·rw [hm0_];exact (Ow.up ho42 (hS_.1 _ (.head _)))
  all_goals (first | rfl | (simp [Q9, *];done))
 ·refine VC.skip (Qm (VC.rs (VO.mv (VO.z (.nilp rfl) (VO.z (.fa rfl J9 rfl) ?_)))))
  obtain ⟨q43_E,q43_A5,q43_c5,q43_A6,q43_c6,q43_A7,q43_c7,q43_A8,q43_c8,q43_A9,q43_c9,q43_n5,q43_n6,q43_n7,q43_n8,q43_n9,_,q43_S,q43_3,q43_4,q43_5,q43_6,q43_7,q43_8,q43_9⟩:=QF ho8
  simp only [inK] at q43_3 q43_4
  have q43_r5:=q43_5.rm
  have q43_r6:=q43_6.rm
  have q43_r7:=q43_7.rm
  have q43_r8:=q43_8.rm
  have q43_r9:=q43_9.rm
  refine VO.inv _ (fun _ h=>h.parts (i:=108) rfl q43_S [149,144,145,146,147,148]) ?_
  refine VO.z (.ld1 149 rfl tk3 rfl (Qa rfl rfl)) ?_
  refine VO.z (.add rfl rfl rfl ⟨bd,bd⟩) ?_
  refine VO.z (.nilp rfl) (VO.z (.fa rfl J9 rfl) ?_)
  refine VO.s1 149 tk3 ?_
  refine VO.clsP 150 [149,144,145,146,147,148] rfl (fun hg50=>(JM _ _ _ _ _ _ _ _ _ _ hg50 bdk bdk q43_5 q43_6 q43_7 q43_8 q43_9)) (fun mc50 ho50=>?_)
  refine VO.p2 150 0 (VO.k3 0 2 6 (VC.rs (VO.as (VO.k3 0 2 6 (VC.ret ?_)))))
  refine Yd 2 [150] fun hS_=>?_
  dsimp only [QE]
  have hm0_:((Q9 d0).1:QO)=(d0.1,d0.2.1,d0.2.2.1,d0.2.2.2.1,d0.2.2.2.2.1+1,d0.2.2.2.2.2):=by first | rfl | (simp [Q9, *];done)
  refine ⟨?_,?_⟩
  rotate_left
  ·rw [hm0_];exact (Ow.up ho50 (hS_.1 _ (.head _)))
  all_goals (first | rfl | (simp [Q9, *];done))
theorem QaB (W:World) {m0:Mem} (hm:mle (m0) (wm W)) {v0:Value} {d0:List UInt8} (h0:Ow (.sl .byte) m0 [v0] d0) {v1:List Value} {d1:XW} (h1:Rd YP (J4 (wm W) (m0)) v1 d1) (e0:d1.1=1→0≤d1.2.2.2∧d1.2.2.2≤d0.length) (e1:d0.length+d1.2.2.1.length≤140737488355000):Qi Tryz.prog 76 [v0,.agg v1.toArray] W (m0) (fun v m'=>∃ (s0:Value),v=s0∧Ow (.sl .byte) m' [s0] (QcR d0 d1)):=by
 obtain ⟨A0,c0,e0_,l0,k0⟩:=h0.slc
 subst e0_
 obtain ⟨p1_A2,p1_c2,rfl,p1_0,p1_1,p1_2,p1_3⟩:=XQ (x0:=d1.1) (x1:=d1.2.1) (x2:=d1.2.2.1) (x3:=d1.2.2.2) h1
 simp only [inK] at p1_0 p1_1
 have p1_r2:=Rd.room p1_2
 simp only [inK] at p1_3
 refine Qi.ofB (n:=20) hm Tryz.func76 rfl rfl rfl ?_
 refine VC.rs ?_
 refine VO.box (cs:=[.int .i64 (d1.1),.int .i64 (d1.2.1),.slice p1_A2 (d1.2.2.1.length) (p1_c2),.int .i64 (d1.2.2.2)]) 102 rfl rfl rfl (fun g1=>?_)
 refine VO.as (VO.k4 0 1 3 4 (VC.seq (VC.rs (VO.z (.fa rfl Qa8 rfl) (VO.z (.ld1 102 rfl tk3 rfl (Qa rfl rfl)) (VO.k5 0 1 3 4 6 (VC.block (VC.rs (VO.z (.eql rfl rfl) (VO.as (VO.p3 102 0 1 ?_)))))))))))
 refine VO.k6 0 1 3 4 6 7 ?_
 refine VC.cond rfl (fun hc3=>?_) (fun hc3=>?_)
 ·refine VC.rs (VO.mv (VO.z (.fa rfl Qa8 rfl) (VO.z (.ld1 102 rfl Y4 rfl (Qa rfl rfl)) ?_)))
  obtain ⟨mo4,cs4,hM4,hA4,hC4⟩:=(Ow.ownl h0 rfl Qx)
  obtain ⟨all4,hS4,hR4⟩:=Rd.srcI (P:=Tryz.prog) (p1_2) Tryz.underlying56
  refine VO.app 1 rfl rfl rfl Ji tz5 rfl rfl hM4 hA4 (hS4 _ 0 rfl) hR4.nice bdm bd (by decide) (fun v4 m4 hN4=>?_)
  have ho4:QH .byte m4 Qx v4 (d0++d1.2.2.1):=QH.more hC4 hN4 (Je.mono hR4 fun _ _ h=>Rd.flat rfl h _)
  obtain ⟨A4,c4,rfl,l4,k4⟩:=ho4.slc
  refine VO.as (VO.k6 0 1 3 4 6 7 (VC.ret (JO (QZ ?_))))
  refine Yd 4 [1] fun hS_=>?_
  dsimp only [QE]
  exact ⟨Value.slice A4 ((d0++d1.2.2.1).length) (c4),(by first | rfl | (simp [*];done)),(Ow.cg (Ow.up (QH.ow ho4 rfl) (hS_.1 _ (.head _))) (by first | rfl | (simp [QcR, *];done)))⟩
 refine VC.rs (VO.z (.eql rfl rfl) (VO.as (VO.k7 0 1 3 4 6 7 13 ?_)))
 refine VC.cond rfl (fun hc5=>?_) (fun hc5=>?_)
 ·refine VC.rs (VO.mv (VO.z (.fa rfl Qa8 rfl) (VO.z (.ld1 102 rfl tk3 rfl (Qa rfl rfl)) ?_)))
  have hs6:=(Ow.rd h0 (Qc _)).pre (j:=((d1.2.2.2).toNat)) bd
  refine VO.z (.slHI ((d1.2.2.2).toNat) rfl rfl Ji bd bd) ?_
  refine VO.as (VO.k7 0 1 3 4 6 7 13 (VC.ret (JO (QZ ?_))))
  refine Yd 4 [1] fun hS_=>?_
  dsimp only [QE]
  exact ⟨Value.slice A0 ((d1.2.2.2).toNat) (c0),(by first | rfl | (simp [*];done)),(Ow.cg (Ow.up (QH.ow ((Ow.ownl h0 rfl Qx).pre (j:=((d1.2.2.2).toNat)) bd) rfl) (hS_.1 _ (.head _))) (by first | rfl | (simp [QcR, *];done)))⟩
 ·refine VC.skip (JL (Qm (VC.rs (VO.mv (VO.as (VO.k7 0 1 3 4 6 7 13 (VC.ret ?_)))))))
  refine Yd 4 [1] fun hS_=>?_
  dsimp only [QE]
  exact ⟨Value.slice A0 (d0.length) (c0),(by first | rfl | (simp [*];done)),(Ow.cg (Ow.up h0 (hS_.1 _ (.head _))) (by first | rfl | (simp [QcR, *];done)))⟩
theorem QdO:JR Tryz.prog 76=true:=by kernel_rfl
theorem Ya:tar Tryz.prog 57=some (4,1):=by kernel_rfl
theorem Qc7:tk Tryz.prog 104=some (some 4):=by kernel_rfl
theorem Qgs:tk Tryz.prog 58=some none:=by kernel_rfl
theorem QcO:tsl Tryz.prog 58=some (104,4,48):=by kernel_rfl
theorem Qg9:tz Tryz.prog 104=some [.int .i64 0,.int .i64 0,.slice none 0 0,.int .i64 0]:=by kernel_rfl
set_option maxHeartbeats 1000000 in
theorem Qlf (W:World) {m0:Mem} (hm:mle (m0) (wm W)) {g0:Nat} {d0:QO} (h0:Ow (.ptr QN) m0 [.pointer (some ⟨g0,0,none⟩)] (g0,d0)) (d1:Int) (h1:inK .i64 d1) (e0:okD d0) (e1:wD d0≤2*1000000000000) (e2:inF d1):Qi Tryz.prog 106 [.pointer (some ⟨g0,0,none⟩),.int .i64 d1] W (m0) (fun v m'=>∃ (s0:Value),∃ (p0:Mem),∃ (p1:Mem),v=s0∧QA m' [p0,p1]∧Ow (.sl .byte) p0 [s0] (J6 d0.2.2.2.2.2.1 d0.2.2.2.2.2.2 d1)∧Ow (.ptr QN) p1 [.pointer (some ⟨g0,0,none⟩)] (g0,d0)):=by
 obtain ⟨hg,hfu,hst⟩:=e0;simp only [wD,YU] at e1;have hin:=e2;simp only [inF] at hin
 have h1':=h1;simp only [inK] at h1'
 refine Qi.ofB (n:=33) hm Tryz.func106 rfl rfl rfl ?_
 refine VC.rs (VO.as (VO.k3 0 1 4 ?_))
 refine VC.seqJ (G:=(List UInt8) × (Option Addr) × Nat × Mem × Mem) (fun g=>[(5,.slice (g.2.1) ((g.1).length) ((g.2.2.1))),(0,.pointer (some ⟨g0,0,none⟩)),(1,.int .i64 (d1)),(4,.slice none (0) (0))]) (fun g=>[(111,(g.2.2.2.2)),(110,(g.2.2.2.1)),(0,J4 (wm W) (m0))]) (fun g=>((g.1)=J6 d0.2.2.2.2.2.1 (d0.2.2.2.2.2.2.take 0) d1)∧(QH .byte (g.2.2.2.1) Qx (.slice (g.2.1) (g.1).length (g.2.2.1)) (g.1))∧(Ow (.ptr QN) (g.2.2.2.2) [.pointer (some ⟨g0,0,none⟩)] (g0,d0))) ?_ ?_
 rintro ⟨bj,bj_A,bj_c,bj_m,dd_m⟩ ⟨hbj,h_bj,h_dd⟩
 replace hbj:bj=J6 d0.2.2.2.2.2.1 (d0.2.2.2.2.2.2.take 0) d1:=hbj
 replace h_bj:QH .byte bj_m Qx (.slice bj_A bj.length bj_c) bj:=h_bj
 replace h_dd:Ow (.ptr QN) dd_m [.pointer (some ⟨g0,0,none⟩)] (g0,d0):=h_dd
 show VC _ _ _ _ _ [(5,.slice bj_A (bj.length) (bj_c)),(0,.pointer (some ⟨g0,0,none⟩)),(1,.int .i64 (d1)),(4,.slice none (0) (0))] [(111,dd_m),(110,bj_m),(0,J4 (wm W) (m0))]
 have l_bj:bj.length≤bj_c:=by obtain ⟨_,_,he,hl,_⟩:=h_bj.slice;simp only [Value.slice.injEq] at he;omega
 have k_bj:bj_c≤9223372036854775807:=by obtain ⟨_,_,he,_,hl⟩:=h_bj.slice;simp only [Value.slice.injEq,maxLen] at he hl;omega
 refine VC.seq (VC.rs (VO.mv (VO.z (.nilp rfl) (VO.z (.fa rfl J9 rfl) ?_))))
 obtain ⟨q12_E,q12_A5,q12_c5,q12_A6,q12_c6,q12_A7,q12_c7,q12_A8,q12_c8,q12_A9,q12_c9,q12_n5,q12_n6,q12_n7,q12_n8,q12_n9,_,q12_S,q12_3,q12_4,q12_5,q12_6,q12_7,q12_8,q12_9⟩:=QF h_dd
 simp only [inK] at q12_3 q12_4
 have q12_r5:=q12_5.rm
 have q12_r6:=q12_6.rm
 have q12_r7:=q12_7.rm
 have q12_r8:=q12_8.rm
 have q12_r9:=q12_9.rm
 refine VO.inv _ (fun _ h=>h.parts (i:=111) rfl q12_S [118,113,114,115,116,117]) ?_
 refine VO.z (.ld1 118 rfl Qgs rfl (Qa rfl rfl)) (VO.z (.lenS rfl QcO) (VO.mv (VO.p8 118 113 114 115 116 117 110 0 (VO.k7 0 1 4 5 18 19 20 (VC.block ?_)))))
 refine VC.loop (G:=Nat × (List UInt8) × (Option Addr) × Nat × Mem) (fun g=>[(5,.slice (g.2.2.1) ((g.2.1).length) ((g.2.2.2.1))),(20,.int .i64 ((((g.1):Nat):Int))),(0,.pointer (some ⟨g0,0,none⟩)),(1,.int .i64 (d1)),(4,.slice none (0) (0)),(18,.slice q12_A9 (d0.2.2.2.2.2.2.length) (q12_c9)),(19,.int .i64 (((d0.2.2.2.2.2.2.length:Nat):Int)))]) (fun g=>[(118,QM g0 (.cells #[.bool d0.1,.bool d0.2.1,.bool d0.2.2.1,.int .i64 (d0.2.2.2.1),.int .i64 (d0.2.2.2.2.1),.slice q12_A5 (d0.2.2.2.2.2.1.1.length) (q12_c5),.slice q12_A6 (d0.2.2.2.2.2.1.2.1.length) (q12_c6),.slice q12_A7 (d0.2.2.2.2.2.1.2.2.1.length) (q12_c7),.slice q12_A8 (d0.2.2.2.2.2.1.2.2.2.length) (q12_c8),.slice q12_A9 (d0.2.2.2.2.2.2.length) (q12_c9)] q12_E (0,0))),(113,q12_n5),(114,q12_n6),(115,q12_n7),(116,q12_n8),(117,q12_n9),(110,(g.2.2.2.2)),(0,J4 (wm W) (m0))]) (fun g=>((g.1)≤d0.2.2.2.2.2.2.length)∧((g.2.1)=J6 d0.2.2.2.2.2.1 (d0.2.2.2.2.2.2.take (g.1)) d1)∧(QH .byte (g.2.2.2.2) Qx (.slice (g.2.2.1) (g.2.1).length (g.2.2.2.1)) (g.2.1))) (fun g=>d0.2.2.2.2.2.2.length - (g.1)) (0,bj,bj_A,bj_c,bj_m) (⟨by omega,by exact hbj,h_bj⟩) ⟨esn,fun _ h=>h.sub [118,113,114,115,116,117,110,0]⟩ ?_
 rintro ⟨k,b,b_A,b_c,b_m⟩ ⟨hk,hb,h_b⟩
 replace hk:k≤d0.2.2.2.2.2.2.length:=hk
 replace hb:b=J6 d0.2.2.2.2.2.1 (d0.2.2.2.2.2.2.take k) d1:=hb
 replace h_b:QH .byte b_m Qx (.slice b_A b.length b_c) b:=h_b
 show VC _ _ _ _ _ [(5,.slice b_A (b.length) (b_c)),(20,.int .i64 (((k:Nat):Int))),(0,.pointer (some ⟨g0,0,none⟩)),(1,.int .i64 (d1)),(4,.slice none (0) (0)),(18,.slice q12_A9 (d0.2.2.2.2.2.2.length) (q12_c9)),(19,.int .i64 (((d0.2.2.2.2.2.2.length:Nat):Int)))] [(118,QM g0 (.cells #[.bool d0.1,.bool d0.2.1,.bool d0.2.2.1,.int .i64 (d0.2.2.2.1),.int .i64 (d0.2.2.2.2.1),.slice q12_A5 (d0.2.2.2.2.2.1.1.length) (q12_c5),.slice q12_A6 (d0.2.2.2.2.2.1.2.1.length) (q12_c6),.slice q12_A7 (d0.2.2.2.2.2.1.2.2.1.length) (q12_c7),.slice q12_A8 (d0.2.2.2.2.2.1.2.2.2.length) (q12_c8),.slice q12_A9 (d0.2.2.2.2.2.2.length) (q12_c9)] q12_E (0,0))),(113,q12_n5),(114,q12_n6),(115,q12_n7),(116,q12_n8),(117,q12_n9),(110,b_m),(0,J4 (wm W) (m0))]
 have l_b:b.length≤b_c:=by obtain ⟨_,_,he,hl,_⟩:=h_b.slice;simp only [Value.slice.injEq] at he;omega
 have k_b:b_c≤9223372036854775807:=by obtain ⟨_,_,he,_,hl⟩:=h_b.slice;simp only [Value.slice.injEq,maxLen] at he hl;omega
 refine VC.rs (VO.z (.lss rfl rfl) (VO.k8 0 1 4 5 18 19 20 21 (VC.seq ?_)))
 refine VC.cond rfl (fun hc19=>?_) (fun hc19=>?_)
 refine VC.skip (Qm (VC.seq (VC.block (VC.rs ?_))))
 obtain ⟨x20,hx20⟩:∃ z_,(d0.2.2.2.2.2.2)[k]? =some z_:=⟨_,List.getElem?_eq_getElem bd⟩
 obtain ⟨gg20,oo20,ec20,ea20,hce20,hre20⟩:=(Ow.rd q12_9 (Qc _)).elem hx20
 cases ea20
 obtain ⟨q20_A2,q20_c2,rfl,q20_0,q20_1,q20_2,q20_3⟩:=XQ (x0:=x20.1) (x1:=x20.2.1) (x2:=x20.2.2.1) (x3:=x20.2.2.2) hre20
 simp only [inK] at q20_0 q20_1
 have q20_r2:=Rd.room q20_2
 simp only [inK] at q20_3
 refine VO.z (.ixI k rfl rfl QcO rfl bd) ?_
 refine VO.z (.ldA 117 rfl Qc7 rfl hce20) ?_
 refine VO.alloc 122 rfl Qg9 (fun g21=>?_)
 refine VO.store (k:=4) (c':=[.int .i64 (x20.1),.int .i64 (x20.2.1),.slice q20_A2 (x20.2.2.1.length) (q20_c2),.int .i64 (x20.2.2.2)]) 122 rfl rfl (.inl Qc7) rfl rfl rfl rfl rfl ?_
 refine VO.k9 0 1 4 5 7 18 19 20 21 (VC.rs (VO.z (.fa rfl Qa8 rfl) (VO.z (.ld1 122 rfl tk3 rfl (Qa rfl rfl)) (VO.mv (VO.z (.eql rfl rfl) (VO.p9 122 118 113 114 115 116 117 110 0 (VO.k10 0 1 4 5 7 18 19 20 21 27 ?_)))))))
 refine VC.cond rfl (fun hc23=>?_) (fun hc23=>?_)
 refine VC.reg ?_
 refine VO.mv (VO.z (.ldA 122 rfl Qc7 rfl (Qa rfl rfl)) ?_)
 refine VO.call 110 rfl QdO rfl rfl (fun W hW=>QaB W (hW.t 110) (QH.ow h_b rfl) (Rd.mono hre20 (hW.o 110 117)) (by exact QkX hg hb ‹d0.2.2.2.2.2.2[k]? =some _› e2 ‹_=d1›) (by (have h_:=QiM hb ‹d0.2.2.2.2.2.2[k]? =some _›;simp only [YU] at h_;omega))) (fun v24 m24 hv24=>?_)
 obtain ⟨s24_0,rfl,f24_0⟩:=hv24
 obtain ⟨A24_0,c24_0,eq24_0,l24_0,k24_0⟩:=f24_0.slc
 subst eq24_0
 refine VO.as (VO.k10 0 1 4 5 7 18 19 20 21 27 (JL (Qm ?_)))
 refine VC.reg ?_
 refine VO.z (.add (c:=((k+1:Nat):Int)) rfl rfl Qn ⟨bd,bd⟩) ?_
 refine VO.mv (VO.k10 0 1 4 5 7 18 19 20 21 27 ?_)
 exact Qm ⟨⟨k+1,QcR b x20,A24_0,c24_0,m24⟩,⟨by omega,by first | exact Qfb hb ‹d0.2.2.2.2.2.2[k]? =some _› ‹_=d1› | exact QhB hb ‹d0.2.2.2.2.2.2[k]? =some _› ‹¬ _=d1›,(Ow.ownl f24_0 rfl Qx)⟩,bd,⟨esn,fun _ h=>Inv.sub h [118,113,114,115,116,117,110,0]⟩⟩
 refine VC.skip (JL (Qm ?_))
 refine VC.reg ?_
 refine VO.z (.add (c:=((k+1:Nat):Int)) rfl rfl Qn ⟨bd,bd⟩) ?_
 refine VO.mv (VO.k10 0 1 4 5 7 18 19 20 21 27 ?_)
 exact Qm ⟨⟨k+1,b,b_A,b_c,b_m⟩,⟨by omega,by first | exact Qfb hb ‹d0.2.2.2.2.2.2[k]? =some _› ‹_=d1› | exact QhB hb ‹d0.2.2.2.2.2.2[k]? =some _› ‹¬ _=d1›,h_b⟩,bd,⟨esn,fun _ h=>Inv.sub h [118,113,114,115,116,117,110,0]⟩⟩
 · refine VC.exit (Zh (Zh (Zi (Qm (VC.rs (VO.mv (VO.as (VO.k8 0 1 4 5 18 19 20 21 (VC.ret ?_)))))))))
   refine Yd 4 [110,118,113,114,115,116,117] fun hS_=>?_
   dsimp only [QE]
   have hm0_:(d0:QO)=d0:=by first | rfl | (rw [hb,List.take_of_length_le Qn])
   refine ⟨.slice b_A (b.length) (b_c),Zc [b_m],Zc [QM g0 (.cells #[.bool d0.1,.bool d0.2.1,.bool d0.2.2.1,.int .i64 (d0.2.2.2.1),.int .i64 (d0.2.2.2.2.1),.slice q12_A5 (d0.2.2.2.2.2.1.1.length) (q12_c5),.slice q12_A6 (d0.2.2.2.2.2.1.2.1.length) (q12_c6),.slice q12_A7 (d0.2.2.2.2.2.1.2.2.1.length) (q12_c7),.slice q12_A8 (d0.2.2.2.2.2.1.2.2.2.length) (q12_c8),.slice q12_A9 (d0.2.2.2.2.2.2.length) (q12_c9)] q12_E (0,0)),q12_n5,q12_n6,q12_n7,q12_n8,q12_n9],?_,?_,?_,?_⟩
   rotate_left
   · exact QA.grp (ls:=[[b_m],[QM g0 (.cells [Value.bool d0.1,Value.bool d0.2.1,Value.bool d0.2.2.1,Value.int .i64 (d0.2.2.2.1),Value.int .i64 (d0.2.2.2.2.1),Value.slice q12_A5 (d0.2.2.2.2.2.1.1.length) (q12_c5),Value.slice q12_A6 (d0.2.2.2.2.2.1.2.1.length) (q12_c6),Value.slice q12_A7 (d0.2.2.2.2.2.1.2.2.1.length) (q12_c7),Value.slice q12_A8 (d0.2.2.2.2.2.1.2.2.2.length) (q12_c8),Value.slice q12_A9 (d0.2.2.2.2.2.2.length) (q12_c9)].toArray q12_E (0,0)),q12_n5,q12_n6,q12_n7,q12_n8,q12_n9]]) hS_
   · exact Ow.cg (Ow.up (QH.ow h_b rfl) ((QA.self hS_ (List.Sublist.cons_cons _ (List.Sublist.cons _ (List.Sublist.cons _ (List.Sublist.cons _ (List.Sublist.cons _ (List.Sublist.cons _ (List.Sublist.cons _ List.Sublist.slnil)))))))).1 _ (.head _))) (by first | rfl | (rw [hb,List.take_of_length_le Qn]))
   · rw [hm0_];exact (Q7 d0 (QA.self hS_ (List.Sublist.cons _ (List.Sublist.cons_cons _ (List.Sublist.cons_cons _ (List.Sublist.cons_cons _ (List.Sublist.cons_cons _ (List.Sublist.cons_cons _ (List.Sublist.cons_cons _ List.Sublist.slnil)))))))) bdk bdk q12_5 q12_6 q12_7 q12_8 q12_9)
   all_goals (first | rfl | (simp [*];done))
 intro hJ1
 refine VC.reg ?_
 refine VO.mv (VO.mv (VO.z (.nilp rfl) (VO.z (.fa rfl J9 rfl) ?_)))
 rcases (show d1=(0:Int)∨d1=(1:Int)∨d1=(2:Int)∨d1=(3:Int) from by first | exact bd) with hi25 | hi25 | hi25 | hi25
 refine VO.z (.ixa (i:=0) (o:=5) rfl rfl Ya hi25 rfl rfl) ?_
 obtain ⟨q26_E,q26_A5,q26_c5,q26_A6,q26_c6,q26_A7,q26_c7,q26_A8,q26_c8,q26_A9,q26_c9,q26_n5,q26_n6,q26_n7,q26_n8,q26_n9,_,q26_S,q26_3,q26_4,q26_5,q26_6,q26_7,q26_8,q26_9⟩:=QF h0
 simp only [inK] at q26_3 q26_4
 have q26_r5:=q26_5.rm
 have q26_r6:=q26_6.rm
 have q26_r7:=q26_7.rm
 have q26_r8:=q26_8.rm
 have q26_r9:=q26_9.rm
 refine VO.inv _ (fun _ h=>h.parts (i:=1) rfl q26_S [132,127,128,129,130,131]) ?_
 refine VO.z (.ld1 132 rfl Y4 rfl (Qa rfl rfl)) ?_
 refine VO.inv _ (fun _ h=>h.nilc 134) ?_
 obtain ⟨mo33,cs33,hM33,hA33,hC33⟩:=(QH.nil .byte Qx Qx)
 obtain ⟨all33,hS33,hR33⟩:=Rd.srcI (P:=Tryz.prog) ((Ow.rd q26_5 (Qc _))) Tryz.underlying56
 refine VO.app 134 rfl rfl rfl Ji tz5 rfl rfl hM33 hA33 (hS33 _ 127 rfl) hR33.nice bdm bd (by decide) (fun v33 m33 hN33=>?_)
 have ho33:QH .byte m33 Qx v33 (d0.2.2.2.2.2.1.1):=QH.more hC33 hN33 (Je.mono hR33 fun _ _ h=>Rd.flat rfl h _)
 obtain ⟨A33,c33,rfl,l33,k33⟩:=ho33.slc
 refine VO.as ?_
 refine VO.clsP 135 [132,127,128,129,130,131] rfl (fun hg35=>(Q7 d0 hg35 bdk bdk q26_5 q26_6 q26_7 q26_8 q26_9)) (fun mc35 ho35=>?_)
 refine VO.k4 0 1 4 5 ?_
 exact Qm (hJ1 ⟨d0.2.2.2.2.2.1.1,A33,c33,m33,mc35⟩ _ _ ⟨by first | exact (Xv ‹d1=(0:Int)›).symm | exact (Xu ‹d1=(1:Int)›).symm | exact (Xt ‹d1=(2:Int)›).symm | exact (Xs ‹d1=(3:Int)›).symm,ho33,ho35⟩ ⟨esn,fun _ h=>Inv.sub (Inv.num (Inv.num h 134 110 rfl) 135 111 rfl) [111,110,0]⟩)
 refine VO.z (.ixa (i:=1) (o:=6) rfl rfl Ya hi25 rfl rfl) ?_
 obtain ⟨q36_E,q36_A5,q36_c5,q36_A6,q36_c6,q36_A7,q36_c7,q36_A8,q36_c8,q36_A9,q36_c9,q36_n5,q36_n6,q36_n7,q36_n8,q36_n9,_,q36_S,q36_3,q36_4,q36_5,q36_6,q36_7,q36_8,q36_9⟩:=QF h0
 simp only [inK] at q36_3 q36_4
 have q36_r5:=q36_5.rm
 have q36_r6:=q36_6.rm
 have q36_r7:=q36_7.rm
 have q36_r8:=q36_8.rm
 have q36_r9:=q36_9.rm
 refine VO.inv _ (fun _ h=>h.parts (i:=1) rfl q36_S [142,137,138,139,140,141]) ?_
 refine VO.z (.ld1 142 rfl Y4 rfl (Qa rfl rfl)) ?_
 refine VO.inv _ (fun _ h=>h.nilc 144) ?_
 obtain ⟨mo43,cs43,hM43,hA43,hC43⟩:=(QH.nil .byte Qx Qx)
 obtain ⟨all43,hS43,hR43⟩:=Rd.srcI (P:=Tryz.prog) ((Ow.rd q36_6 (Qc _))) Tryz.underlying56
 refine VO.app 144 rfl rfl rfl Ji tz5 rfl rfl hM43 hA43 (hS43 _ 138 rfl) hR43.nice bdm bd (by decide) (fun v43 m43 hN43=>?_)
 have ho43:QH .byte m43 Qx v43 (d0.2.2.2.2.2.1.2.1):=QH.more hC43 hN43 (Je.mono hR43 fun _ _ h=>Rd.flat rfl h _)
 obtain ⟨A43,c43,rfl,l43,k43⟩:=ho43.slc
 refine VO.as ?_
 refine VO.clsP 145 [142,137,138,139,140,141] rfl (fun hg45=>(Q7 d0 hg45 bdk bdk q36_5 q36_6 q36_7 q36_8 q36_9)) (fun mc45 ho45=>?_)
 refine VO.k4 0 1 4 5 ?_
 exact Qm (hJ1 ⟨d0.2.2.2.2.2.1.2.1,A43,c43,m43,mc45⟩ _ _ ⟨by first | exact (Xv ‹d1=(0:Int)›).symm | exact (Xu ‹d1=(1:Int)›).symm | exact (Xt ‹d1=(2:Int)›).symm | exact (Xs ‹d1=(3:Int)›).symm,ho43,ho45⟩ ⟨esn,fun _ h=>Inv.sub (Inv.num (Inv.num h 144 110 rfl) 145 111 rfl) [111,110,0]⟩)
 refine VO.z (.ixa (i:=2) (o:=7) rfl rfl Ya hi25 rfl rfl) ?_
 obtain ⟨q46_E,q46_A5,q46_c5,q46_A6,q46_c6,q46_A7,q46_c7,q46_A8,q46_c8,q46_A9,q46_c9,q46_n5,q46_n6,q46_n7,q46_n8,q46_n9,_,q46_S,q46_3,q46_4,q46_5,q46_6,q46_7,q46_8,q46_9⟩:=QF h0
 simp only [inK] at q46_3 q46_4
 have q46_r5:=q46_5.rm
 have q46_r6:=q46_6.rm
 have q46_r7:=q46_7.rm
 have q46_r8:=q46_8.rm
 have q46_r9:=q46_9.rm
 refine VO.inv _ (fun _ h=>h.parts (i:=1) rfl q46_S [152,147,148,149,150,151]) ?_
 refine VO.z (.ld1 152 rfl Y4 rfl (Qa rfl rfl)) ?_
 refine VO.inv _ (fun _ h=>h.nilc 154) ?_
 obtain ⟨mo53,cs53,hM53,hA53,hC53⟩:=(QH.nil .byte Qx Qx)
 obtain ⟨all53,hS53,hR53⟩:=Rd.srcI (P:=Tryz.prog) ((Ow.rd q46_7 (Qc _))) Tryz.underlying56
 refine VO.app 154 rfl rfl rfl Ji tz5 rfl rfl hM53 hA53 (hS53 _ 149 rfl) hR53.nice bdm bd (by decide) (fun v53 m53 hN53=>?_)
 have ho53:QH .byte m53 Qx v53 (d0.2.2.2.2.2.1.2.2.1):=QH.more hC53 hN53 (Je.mono hR53 fun _ _ h=>Rd.flat rfl h _)
 obtain ⟨A53,c53,rfl,l53,k53⟩:=ho53.slc
 refine VO.as ?_
 refine VO.clsP 155 [152,147,148,149,150,151] rfl (fun hg55=>(Q7 d0 hg55 bdk bdk q46_5 q46_6 q46_7 q46_8 q46_9)) (fun mc55 ho55=>?_)
 refine VO.k4 0 1 4 5 ?_
 exact Qm (hJ1 ⟨d0.2.2.2.2.2.1.2.2.1,A53,c53,m53,mc55⟩ _ _ ⟨by first | exact (Xv ‹d1=(0:Int)›).symm | exact (Xu ‹d1=(1:Int)›).symm | exact (Xt ‹d1=(2:Int)›).symm | exact (Xs ‹d1=(3:Int)›).symm,ho53,ho55⟩ ⟨esn,fun _ h=>Inv.sub (Inv.num (Inv.num h 154 110 rfl) 155 111 rfl) [111,110,0]⟩)
 refine VO.z (.ixa (i:=3) (o:=8) rfl rfl Ya hi25 rfl rfl) ?_
 obtain ⟨q56_E,q56_A5,q56_c5,q56_A6,q56_c6,q56_A7,q56_c7,q56_A8,q56_c8,q56_A9,q56_c9,q56_n5,q56_n6,q56_n7,q56_n8,q56_n9,_,q56_S,q56_3,q56_4,q56_5,q56_6,q56_7,q56_8,q56_9⟩:=QF h0
 simp only [inK] at q56_3 q56_4
 have q56_r5:=q56_5.rm
 have q56_r6:=q56_6.rm
 have q56_r7:=q56_7.rm
 have q56_r8:=q56_8.rm
 have q56_r9:=q56_9.rm
 refine VO.inv _ (fun _ h=>h.parts (i:=1) rfl q56_S [162,157,158,159,160,161]) ?_
 refine VO.z (.ld1 162 rfl Y4 rfl (Qa rfl rfl)) ?_
 refine VO.inv _ (fun _ h=>h.nilc 164) ?_
 obtain ⟨mo63,cs63,hM63,hA63,hC63⟩:=(QH.nil .byte Qx Qx)
 obtain ⟨all63,hS63,hR63⟩:=Rd.srcI (P:=Tryz.prog) ((Ow.rd q56_8 (Qc _))) Tryz.underlying56
 refine VO.app 164 rfl rfl rfl Ji tz5 rfl rfl hM63 hA63 (hS63 _ 160 rfl) hR63.nice bdm bd (by decide) (fun v63 m63 hN63=>?_)
 have ho63:QH .byte m63 Qx v63 (d0.2.2.2.2.2.1.2.2.2):=QH.more hC63 hN63 (Je.mono hR63 fun _ _ h=>Rd.flat rfl h _)
 obtain ⟨A63,c63,rfl,l63,k63⟩:=ho63.slc
 refine VO.as ?_
 refine VO.clsP 165 [162,157,158,159,160,161] rfl (fun hg65=>(Q7 d0 hg65 bdk bdk q56_5 q56_6 q56_7 q56_8 q56_9)) (fun mc65 ho65=>?_)
 refine VO.k4 0 1 4 5 ?_
 exact Qm (hJ1 ⟨d0.2.2.2.2.2.1.2.2.2,A63,c63,m63,mc65⟩ _ _ ⟨by first | exact (Xv ‹d1=(0:Int)›).symm | exact (Xu ‹d1=(1:Int)›).symm | exact (Xt ‹d1=(2:Int)›).symm | exact (Xs ‹d1=(3:Int)›).symm,ho63,ho65⟩ ⟨esn,fun _ h=>Inv.sub (Inv.num (Inv.num h 164 110 rfl) 165 111 rfl) [111,110,0]⟩)
theorem XS {P:Prop} (h:P:=by first | (have h_:=Xr hb (Zk ‹(d0.2.2.2.2.2.2.take d1.toNat)[k]? =some _›);rw [Xv ‹_=(0:Int)›] at h_;simp only [YU] at h_;omega) | (have h_:=Xr hb (Zk ‹(d0.2.2.2.2.2.2.take d1.toNat)[k]? =some _›);rw [Xu ‹_=(1:Int)›] at h_;simp only [YU] at h_;omega) | (have h_:=Xr hb (Zk ‹(d0.2.2.2.2.2.2.take d1.toNat)[k]? =some _›);rw [Xt ‹_=(2:Int)›] at h_;simp only [YU] at h_;omega) | (have h_:=Xr hb (Zk ‹(d0.2.2.2.2.2.2.take d1.toNat)[k]? =some _›);rw [Xs ‹_=(3:Int)›] at h_;simp only [YU] at h_;omega)):P:=h
theorem XR {P:Prop} (h:P:=by first | (have h_:=(X7 hg hb (Zk ‹(d0.2.2.2.2.2.2.take d1.toNat)[k]? =some _›)).2;rw [Xv ‹_=(0:Int)›] at h_;exact h_) | (have h_:=(X7 hg hb (Zk ‹(d0.2.2.2.2.2.2.take d1.toNat)[k]? =some _›)).2;rw [Xu ‹_=(1:Int)›] at h_;exact h_) | (have h_:=(X7 hg hb (Zk ‹(d0.2.2.2.2.2.2.take d1.toNat)[k]? =some _›)).2;rw [Xt ‹_=(2:Int)›] at h_;exact h_) | (have h_:=(X7 hg hb (Zk ‹(d0.2.2.2.2.2.2.take d1.toNat)[k]? =some _›)).2;rw [Xs ‹_=(3:Int)›] at h_;exact h_)):P:=h
theorem QU {P:Prop} (h:P:=by first | exact bd | (have h_:=(X7 hg hb (Zk ‹(d0.2.2.2.2.2.2.take d1.toNat)[k]? =some _›)).1;simp only [inF] at h_;omega)):P:=h
set_option maxHeartbeats 1000000 in
theorem QgV (W:World) {m0:Mem} (hm:mle (m0) (wm W)) {g0:Nat} {d0:QO} (h0:Ow (.ptr QN) m0 [.pointer (some ⟨g0,0,none⟩)] (g0,d0)) (d1:Int) (h1:inK .i64 d1) (e0:okD d0) (e1:wD d0≤2*1000000000000) (e2:0≤d1∧d1≤d0.2.2.2.2.2.2.length):Qi Tryz.prog 75 [.pointer (some ⟨g0,0,none⟩),.int .i64 d1] W (m0) (fun v m'=>v= .tuple #[]∧Ow (.ptr QN) m' [.pointer (some ⟨g0,0,none⟩)] (g0,ZN d0 d1.toNat)):=by
 obtain ⟨hg,hfu,hst⟩:=e0;simp only [wD,YU] at e1
 have h1':=h1;simp only [inK] at h1'
 refine Qi.ofB (n:=42) hm Tryz.func75 rfl rfl rfl ?_
 refine VC.seq (VC.rs (VO.mv (VO.z (.nilp rfl) (VO.z (.fa rfl J9 rfl) ?_))))
 obtain ⟨q1_E,q1_A5,q1_c5,q1_A6,q1_c6,q1_A7,q1_c7,q1_A8,q1_c8,q1_A9,q1_c9,q1_n5,q1_n6,q1_n7,q1_n8,q1_n9,_,q1_S,q1_3,q1_4,q1_5,q1_6,q1_7,q1_8,q1_9⟩:=QF h0
 simp only [inK] at q1_3 q1_4
 have q1_r5:=q1_5.rm
 have q1_r6:=q1_6.rm
 have q1_r7:=q1_7.rm
 have q1_r8:=q1_8.rm
 have q1_r9:=q1_9.rm
 refine VO.inv _ (fun _ h=>h.parts (i:=1) rfl q1_S [107,102,103,104,105,106]) ?_
 refine VO.z (.ld1 107 rfl Qgs rfl (Qa rfl rfl)) (VO.mv ?_)
 have hs8:=(Ow.rd q1_9 (Qc _)).pre (j:=((d1).toNat)) QU
 refine VO.z (.slHI ((d1).toNat) rfl rfl QcO QU QU) ?_
 refine VO.z (.lenS rfl QcO) (VO.mv (VO.k5 0 1 11 12 13 (VC.block ?_)))
 refine VC.loop (G:=Nat × (List UInt8) × (Option Addr) × Nat × Mem × (List UInt8) × (Option Addr) × Nat × Mem × (List UInt8) × (Option Addr) × Nat × Mem × (List UInt8) × (Option Addr) × Nat × Mem) (fun g=>[(13,.int .i64 ((((g.1):Nat):Int))),(0,.pointer (some ⟨g0,0,none⟩)),(1,.int .i64 (d1)),(11,.slice q1_A9 ((d1).toNat) (q1_c9)),(12,.int .i64 ((((d1).toNat:Nat):Int)))]) (fun g=>[(107,QM g0 (.cells #[.bool d0.1,.bool d0.2.1,.bool d0.2.2.1,.int .i64 (d0.2.2.2.1),.int .i64 (d0.2.2.2.2.1),.slice (g.2.2.1) ((g.2.1).length) ((g.2.2.2.1)),.slice (g.2.2.2.2.2.2.1) ((g.2.2.2.2.2.1).length) ((g.2.2.2.2.2.2.2.1)),.slice (g.2.2.2.2.2.2.2.2.2.2.1) ((g.2.2.2.2.2.2.2.2.2.1).length) ((g.2.2.2.2.2.2.2.2.2.2.2.1)),.slice (g.2.2.2.2.2.2.2.2.2.2.2.2.2.2.1) ((g.2.2.2.2.2.2.2.2.2.2.2.2.2.1).length) ((g.2.2.2.2.2.2.2.2.2.2.2.2.2.2.2.1)),.slice q1_A9 (d0.2.2.2.2.2.2.length) (q1_c9)] q1_E (0,0))),(102,(g.2.2.2.2.1)),(103,(g.2.2.2.2.2.2.2.2.1)),(104,(g.2.2.2.2.2.2.2.2.2.2.2.2.1)),(105,(g.2.2.2.2.2.2.2.2.2.2.2.2.2.2.2.2)),(106,q1_n9),(0,J4 (wm W) (m0))]) (fun g=>((g.1)≤d1.toNat)∧(((g.2.1),(g.2.2.2.2.2.1),(g.2.2.2.2.2.2.2.2.2.1),(g.2.2.2.2.2.2.2.2.2.2.2.2.2.1))=QcU d0.2.2.2.2.2.1 (d0.2.2.2.2.2.2.take (g.1)))∧(QH .byte (g.2.2.2.2.1) Qx (.slice (g.2.2.1) (g.2.1).length (g.2.2.2.1)) (g.2.1))∧(QH .byte (g.2.2.2.2.2.2.2.2.1) Qx (.slice (g.2.2.2.2.2.2.1) (g.2.2.2.2.2.1).length (g.2.2.2.2.2.2.2.1)) (g.2.2.2.2.2.1))∧(QH .byte (g.2.2.2.2.2.2.2.2.2.2.2.2.1) Qx (.slice (g.2.2.2.2.2.2.2.2.2.2.1) (g.2.2.2.2.2.2.2.2.2.1).length (g.2.2.2.2.2.2.2.2.2.2.2.1)) (g.2.2.2.2.2.2.2.2.2.1))∧(QH .byte (g.2.2.2.2.2.2.2.2.2.2.2.2.2.2.2.2) Qx (.slice (g.2.2.2.2.2.2.2.2.2.2.2.2.2.2.1) (g.2.2.2.2.2.2.2.2.2.2.2.2.2.1).length (g.2.2.2.2.2.2.2.2.2.2.2.2.2.2.2.1)) (g.2.2.2.2.2.2.2.2.2.2.2.2.2.1))) (fun g=>d1.toNat - (g.1)) (0,d0.2.2.2.2.2.1.1,q1_A5,q1_c5,q1_n5,d0.2.2.2.2.2.1.2.1,q1_A6,q1_c6,q1_n6,d0.2.2.2.2.2.1.2.2.1,q1_A7,q1_c7,q1_n7,d0.2.2.2.2.2.1.2.2.2,q1_A8,q1_c8,q1_n8) (⟨by omega,by rfl,(Ow.ownl q1_5 rfl Qx),(Ow.ownl q1_6 rfl Qx),(Ow.ownl q1_7 rfl Qx),(Ow.ownl q1_8 rfl Qx)⟩) ⟨esn,fun _ h=>h.sub [107,102,103,104,105,106,0]⟩ ?_
 rintro ⟨k,b0,b0_A,b0_c,b0_m,b1,b1_A,b1_c,b1_m,b2,b2_A,b2_c,b2_m,b3,b3_A,b3_c,b3_m⟩ ⟨hk,hb,h_b0,h_b1,h_b2,h_b3⟩
 replace hk:k≤d1.toNat:=hk
 replace hb:(b0,b1,b2,b3)=QcU d0.2.2.2.2.2.1 (d0.2.2.2.2.2.2.take k):=hb
 replace h_b0:QH .byte b0_m Qx (.slice b0_A b0.length b0_c) b0:=h_b0
 replace h_b1:QH .byte b1_m Qx (.slice b1_A b1.length b1_c) b1:=h_b1
 replace h_b2:QH .byte b2_m Qx (.slice b2_A b2.length b2_c) b2:=h_b2
 replace h_b3:QH .byte b3_m Qx (.slice b3_A b3.length b3_c) b3:=h_b3
 show VC _ _ _ _ _ [(13,.int .i64 (((k:Nat):Int))),(0,.pointer (some ⟨g0,0,none⟩)),(1,.int .i64 (d1)),(11,.slice q1_A9 ((d1).toNat) (q1_c9)),(12,.int .i64 ((((d1).toNat:Nat):Int)))] [(107,QM g0 (.cells #[.bool d0.1,.bool d0.2.1,.bool d0.2.2.1,.int .i64 (d0.2.2.2.1),.int .i64 (d0.2.2.2.2.1),.slice b0_A (b0.length) (b0_c),.slice b1_A (b1.length) (b1_c),.slice b2_A (b2.length) (b2_c),.slice b3_A (b3.length) (b3_c),.slice q1_A9 (d0.2.2.2.2.2.2.length) (q1_c9)] q1_E (0,0))),(102,b0_m),(103,b1_m),(104,b2_m),(105,b3_m),(106,q1_n9),(0,J4 (wm W) (m0))]
 have l_b0:b0.length≤b0_c:=by obtain ⟨_,_,he,hl,_⟩:=h_b0.slice;simp only [Value.slice.injEq] at he;omega
 have k_b0:b0_c≤9223372036854775807:=by obtain ⟨_,_,he,_,hl⟩:=h_b0.slice;simp only [Value.slice.injEq,maxLen] at he hl;omega
 have l_b1:b1.length≤b1_c:=by obtain ⟨_,_,he,hl,_⟩:=h_b1.slice;simp only [Value.slice.injEq] at he;omega
 have k_b1:b1_c≤9223372036854775807:=by obtain ⟨_,_,he,_,hl⟩:=h_b1.slice;simp only [Value.slice.injEq,maxLen] at he hl;omega
 have l_b2:b2.length≤b2_c:=by obtain ⟨_,_,he,hl,_⟩:=h_b2.slice;simp only [Value.slice.injEq] at he;omega
 have k_b2:b2_c≤9223372036854775807:=by obtain ⟨_,_,he,_,hl⟩:=h_b2.slice;simp only [Value.slice.injEq,maxLen] at he hl;omega
 have l_b3:b3.length≤b3_c:=by obtain ⟨_,_,he,hl,_⟩:=h_b3.slice;simp only [Value.slice.injEq] at he;omega
 have k_b3:b3_c≤9223372036854775807:=by obtain ⟨_,_,he,_,hl⟩:=h_b3.slice;simp only [Value.slice.injEq,maxLen] at he hl;omega
 refine VC.rs (VO.z (.lss rfl rfl) (VO.k6 0 1 11 12 13 14 (VC.seq ?_)))
 refine VC.cond rfl (fun hc9=>?_) (fun hc9=>?_)
 refine VC.skip (Qm (VC.seq (VC.block (VC.rs ?_))))
 obtain ⟨x10,hx10⟩:∃ z_,((d0.2.2.2.2.2.2).take ((d1).toNat))[k]? =some z_:=⟨_,List.getElem?_eq_getElem QU⟩
 obtain ⟨gg10,oo10,ec10,ea10,hce10,hre10⟩:=(Ow.rd (q1_9.pre (j:=((d1).toNat)) QU) (Qc _)).elem hx10
 cases ea10
 obtain ⟨q10_A2,q10_c2,rfl,q10_0,q10_1,q10_2,q10_3⟩:=XQ (x0:=x10.1) (x1:=x10.2.1) (x2:=x10.2.2.1) (x3:=x10.2.2.2) hre10
 simp only [inK] at q10_0 q10_1
 have q10_r2:=Rd.room q10_2
 simp only [inK] at q10_3
 refine VO.z (.ixI k rfl rfl QcO rfl QU) ?_
 refine VO.z (.ldA 106 rfl Qc7 rfl hce10) ?_
 refine VO.alloc 112 rfl Qg9 (fun g11=>?_)
 refine VO.store (k:=4) (c':=[.int .i64 (x10.1),.int .i64 (x10.2.1),.slice q10_A2 (x10.2.2.1.length) (q10_c2),.int .i64 (x10.2.2.2)]) 112 rfl rfl (.inl Qc7) rfl rfl rfl rfl rfl ?_
 refine VO.p8 112 107 102 103 104 105 106 0 (VO.k7 0 1 5 11 12 13 14 ?_)
 refine VC.regD _ 14 [(0,true),(1,true),(2,true),(3,true),(4,true),(5,true),(6,true),(7,true),(8,true),(9,true),(10,true),(12,true),(13,true),(11,false)] follows (by kernel_rfl) (fun _ h=>h.sub [112,107,106,0]) ?_
 refine VD.z rfl (.mv rfl) (VD.z rfl (.fa rfl Qa8 rfl) (VD.z rfl (.ld1 112 rfl tk3 rfl (Qa rfl rfl)) (VD.z rfl (.mv rfl) (VD.z rfl (.fa rfl Qa8 rfl) (VD.z rfl (.ld1 112 rfl tk3 rfl (Qa rfl rfl)) (VD.z rfl (.nilp rfl) (VD.z rfl (.fa rfl J9 rfl) ?_)))))))
 rcases (show x10.2.1=(0:Int)∨x10.2.1=(1:Int)∨x10.2.1=(2:Int)∨x10.2.1=(3:Int) from by exact QU) with hi13 | hi13 | hi13 | hi13
 refine VD.z rfl (.ixa (i:=0) (o:=5) rfl rfl Ya hi13 rfl rfl) ?_
 refine VD.z rfl (.ld1 107 rfl Y4 rfl (Qa rfl rfl)) (VD.z rfl (.ldA 112 rfl Qc7 rfl (Qa rfl rfl)) (VD.z rfl (.nilp rfl) (VD.z rfl (.fa rfl J9 rfl) ?_)))
 refine VD.call 102 rfl rfl (.inl rfl) QdO rfl rfl (fun _ _ h=>h.sub [112,107,106,0]) (fun W hW=>QaB W (hW.t 102) (QH.ow h_b0 rfl) (Rd.mono hre10 (hW.o 102 106)) XR XS) (fun v14 m14 hv14=>?_)
 obtain ⟨s14_0,rfl,f14_0⟩:=hv14
 obtain ⟨A14_0,c14_0,eq14_0,l14_0,k14_0⟩:=f14_0.slc
 subst eq14_0
 refine VD.nil rfl ?_ rfl
 refine VO.z (.ixa (i:=0) (o:=5) rfl rfl Ya hi13 rfl rfl) ?_
 refine VO.s1 107 Y4 ?_
 refine VO.k7 0 1 5 11 12 13 14 (JL (Qm ?_))
 refine VC.reg ?_
 refine VO.z (.add (c:=((k+1:Nat):Int)) rfl rfl Qn ⟨by exact QU,by exact QU⟩) ?_
 refine VO.mv (VO.k7 0 1 5 11 12 13 14 ?_)
 exact Qm ⟨⟨k+1,QcR b0 x10,A14_0,c14_0,m14,b1,b1_A,b1_c,b1_m,b2,b2_A,b2_c,b2_m,b3,b3_A,b3_c,b3_m⟩,⟨by omega,by first | (have h_:=Jn hb (Zk ‹(d0.2.2.2.2.2.2.take d1.toNat)[k]? =some _›);rw [ZW,Qgb ‹_=(0:Int)›,Xv ‹_=(0:Int)›] at h_;exact h_) | (have h_:=Jn hb (Zk ‹(d0.2.2.2.2.2.2.take d1.toNat)[k]? =some _›);rw [ZW,Qga ‹_=(1:Int)›,Xu ‹_=(1:Int)›] at h_;exact h_) | (have h_:=Jn hb (Zk ‹(d0.2.2.2.2.2.2.take d1.toNat)[k]? =some _›);rw [ZW,Qf9 ‹_=(2:Int)›,Xt ‹_=(2:Int)›] at h_;exact h_) | (have h_:=Jn hb (Zk ‹(d0.2.2.2.2.2.2.take d1.toNat)[k]? =some _›);rw [ZW,Qf8 ‹_=(3:Int)›,Xs ‹_=(3:Int)›] at h_;exact h_),(Ow.ownl f14_0 rfl Qx),h_b1,h_b2,h_b3⟩,by exact QU,⟨esn,fun _ h=>Inv.sub h [107,102,103,104,105,106,0]⟩⟩
 refine VD.z rfl (.ixa (i:=1) (o:=6) rfl rfl Ya hi13 rfl rfl) ?_
 refine VD.z rfl (.ld1 107 rfl Y4 rfl (Qa rfl rfl)) (VD.z rfl (.ldA 112 rfl Qc7 rfl (Qa rfl rfl)) (VD.z rfl (.nilp rfl) (VD.z rfl (.fa rfl J9 rfl) ?_)))
 refine VD.call 103 rfl rfl (.inl rfl) QdO rfl rfl (fun _ _ h=>h.sub [112,107,106,0]) (fun W hW=>QaB W (hW.t 103) (QH.ow h_b1 rfl) (Rd.mono hre10 (hW.o 103 106)) XR XS) (fun v15 m15 hv15=>?_)
 obtain ⟨s15_0,rfl,f15_0⟩:=hv15
 obtain ⟨A15_0,c15_0,eq15_0,l15_0,k15_0⟩:=f15_0.slc
 subst eq15_0
 refine VD.nil rfl ?_ rfl
 refine VO.z (.ixa (i:=1) (o:=6) rfl rfl Ya hi13 rfl rfl) ?_
 refine VO.s1 107 Y4 ?_
 refine VO.k7 0 1 5 11 12 13 14 (JL (Qm ?_))
 refine VC.reg ?_
 refine VO.z (.add (c:=((k+1:Nat):Int)) rfl rfl Qn ⟨by exact QU,by exact QU⟩) ?_
 refine VO.mv (VO.k7 0 1 5 11 12 13 14 ?_)
 exact Qm ⟨⟨k+1,b0,b0_A,b0_c,b0_m,QcR b1 x10,A15_0,c15_0,m15,b2,b2_A,b2_c,b2_m,b3,b3_A,b3_c,b3_m⟩,⟨by omega,by first | (have h_:=Jn hb (Zk ‹(d0.2.2.2.2.2.2.take d1.toNat)[k]? =some _›);rw [ZW,Qgb ‹_=(0:Int)›,Xv ‹_=(0:Int)›] at h_;exact h_) | (have h_:=Jn hb (Zk ‹(d0.2.2.2.2.2.2.take d1.toNat)[k]? =some _›);rw [ZW,Qga ‹_=(1:Int)›,Xu ‹_=(1:Int)›] at h_;exact h_) | (have h_:=Jn hb (Zk ‹(d0.2.2.2.2.2.2.take d1.toNat)[k]? =some _›);rw [ZW,Qf9 ‹_=(2:Int)›,Xt ‹_=(2:Int)›] at h_;exact h_) | (have h_:=Jn hb (Zk ‹(d0.2.2.2.2.2.2.take d1.toNat)[k]? =some _›);rw [ZW,Qf8 ‹_=(3:Int)›,Xs ‹_=(3:Int)›] at h_;exact h_),h_b0,(Ow.ownl f15_0 rfl Qx),h_b2,h_b3⟩,by exact QU,⟨esn,fun _ h=>Inv.sub h [107,102,103,104,105,106,0]⟩⟩
 refine VD.z rfl (.ixa (i:=2) (o:=7) rfl rfl Ya hi13 rfl rfl) ?_
 refine VD.z rfl (.ld1 107 rfl Y4 rfl (Qa rfl rfl)) (VD.z rfl (.ldA 112 rfl Qc7 rfl (Qa rfl rfl)) (VD.z rfl (.nilp rfl) (VD.z rfl (.fa rfl J9 rfl) ?_)))
 refine VD.call 104 rfl rfl (.inl rfl) QdO rfl rfl (fun _ _ h=>h.sub [112,107,106,0]) (fun W hW=>QaB W (hW.t 104) (QH.ow h_b2 rfl) (Rd.mono hre10 (hW.o 104 106)) XR XS) (fun v16 m16 hv16=>?_)
 obtain ⟨s16_0,rfl,f16_0⟩:=hv16
 obtain ⟨A16_0,c16_0,eq16_0,l16_0,k16_0⟩:=f16_0.slc
 subst eq16_0
 refine VD.nil rfl ?_ rfl
 refine VO.z (.ixa (i:=2) (o:=7) rfl rfl Ya hi13 rfl rfl) ?_
 refine VO.s1 107 Y4 ?_
 refine VO.k7 0 1 5 11 12 13 14 (JL (Qm ?_))
 refine VC.reg ?_
 refine VO.z (.add (c:=((k+1:Nat):Int)) rfl rfl Qn ⟨by exact QU,by exact QU⟩) ?_
 refine VO.mv (VO.k7 0 1 5 11 12 13 14 ?_)
 exact Qm ⟨⟨k+1,b0,b0_A,b0_c,b0_m,b1,b1_A,b1_c,b1_m,QcR b2 x10,A16_0,c16_0,m16,b3,b3_A,b3_c,b3_m⟩,⟨by omega,by first | (have h_:=Jn hb (Zk ‹(d0.2.2.2.2.2.2.take d1.toNat)[k]? =some _›);rw [ZW,Qgb ‹_=(0:Int)›,Xv ‹_=(0:Int)›] at h_;exact h_) | (have h_:=Jn hb (Zk ‹(d0.2.2.2.2.2.2.take d1.toNat)[k]? =some _›);rw [ZW,Qga ‹_=(1:Int)›,Xu ‹_=(1:Int)›] at h_;exact h_) | (have h_:=Jn hb (Zk ‹(d0.2.2.2.2.2.2.take d1.toNat)[k]? =some _›);rw [ZW,Qf9 ‹_=(2:Int)›,Xt ‹_=(2:Int)›] at h_;exact h_) | (have h_:=Jn hb (Zk ‹(d0.2.2.2.2.2.2.take d1.toNat)[k]? =some _›);rw [ZW,Qf8 ‹_=(3:Int)›,Xs ‹_=(3:Int)›] at h_;exact h_),h_b0,h_b1,(Ow.ownl f16_0 rfl Qx),h_b3⟩,by exact QU,⟨esn,fun _ h=>Inv.sub h [107,102,103,104,105,106,0]⟩⟩
 refine VD.z rfl (.ixa (i:=3) (o:=8) rfl rfl Ya hi13 rfl rfl) ?_
 refine VD.z rfl (.ld1 107 rfl Y4 rfl (Qa rfl rfl)) (VD.z rfl (.ldA 112 rfl Qc7 rfl (Qa rfl rfl)) (VD.z rfl (.nilp rfl) (VD.z rfl (.fa rfl J9 rfl) ?_)))
 refine VD.call 105 rfl rfl (.inl rfl) QdO rfl rfl (fun _ _ h=>h.sub [112,107,106,0]) (fun W hW=>QaB W (hW.t 105) (QH.ow h_b3 rfl) (Rd.mono hre10 (hW.o 105 106)) XR XS) (fun v17 m17 hv17=>?_)
 obtain ⟨s17_0,rfl,f17_0⟩:=hv17
 obtain ⟨A17_0,c17_0,eq17_0,l17_0,k17_0⟩:=f17_0.slc
 subst eq17_0
 refine VD.nil rfl ?_ rfl
 refine VO.z (.ixa (i:=3) (o:=8) rfl rfl Ya hi13 rfl rfl) ?_
 refine VO.s1 107 Y4 ?_
 refine VO.k7 0 1 5 11 12 13 14 (JL (Qm ?_))
 refine VC.reg ?_
 refine VO.z (.add (c:=((k+1:Nat):Int)) rfl rfl Qn ⟨by exact QU,by exact QU⟩) ?_
 refine VO.mv (VO.k7 0 1 5 11 12 13 14 ?_)
 exact Qm ⟨⟨k+1,b0,b0_A,b0_c,b0_m,b1,b1_A,b1_c,b1_m,b2,b2_A,b2_c,b2_m,QcR b3 x10,A17_0,c17_0,m17⟩,⟨by omega,by first | (have h_:=Jn hb (Zk ‹(d0.2.2.2.2.2.2.take d1.toNat)[k]? =some _›);rw [ZW,Qgb ‹_=(0:Int)›,Xv ‹_=(0:Int)›] at h_;exact h_) | (have h_:=Jn hb (Zk ‹(d0.2.2.2.2.2.2.take d1.toNat)[k]? =some _›);rw [ZW,Qga ‹_=(1:Int)›,Xu ‹_=(1:Int)›] at h_;exact h_) | (have h_:=Jn hb (Zk ‹(d0.2.2.2.2.2.2.take d1.toNat)[k]? =some _›);rw [ZW,Qf9 ‹_=(2:Int)›,Xt ‹_=(2:Int)›] at h_;exact h_) | (have h_:=Jn hb (Zk ‹(d0.2.2.2.2.2.2.take d1.toNat)[k]? =some _›);rw [ZW,Qf8 ‹_=(3:Int)›,Xs ‹_=(3:Int)›] at h_;exact h_),h_b0,h_b1,h_b2,(Ow.ownl f17_0 rfl Qx)⟩,by exact QU,⟨esn,fun _ h=>Inv.sub h [107,102,103,104,105,106,0]⟩⟩
 · refine VC.exit (Zh (Zh (Zi (Qm ?_))))
   refine VC.reg ?_
   refine VO.mv (VO.mv (VO.z (.nilp rfl) (VO.z (.fa rfl J9 rfl) (VO.z (.ld1 107 rfl Qgs rfl (Qa rfl rfl)) (VO.mv ?_)))))
   obtain ⟨A18,hA18,ho18⟩:=q1_9.drop' 4 ((d1).toNat) rfl QU
   refine VO.z (.slLI ((d1).toNat) A18 rfl rfl QcO QU hA18 QU) ?_
   refine VO.z (.nilp rfl) (VO.z (.fa rfl J9 rfl) ?_)
   refine VO.s1 107 Qgs ?_
   refine VO.p7 107 102 103 104 105 106 0 (VO.k6 0 1 11 12 13 14 ?_)
   refine ⟨_,_,Jr (rs:=[]) rfl .nil,fun W_ hI=>JZ (l:=[QM g0 (.cells #[.bool d0.1,.bool d0.2.1,.bool d0.2.2.1,.int .i64 (d0.2.2.2.1),.int .i64 (d0.2.2.2.2.1),.slice b0_A (b0.length) (b0_c),.slice b1_A (b1.length) (b1_c),.slice b2_A (b2.length) (b2_c),.slice b3_A (b3.length) (b3_c),.slice A18 (d0.2.2.2.2.2.2.length - ((d1).toNat)) (q1_c9 - ((d1).toNat))] q1_E (0,0)),b0_m,b1_m,b2_m,b3_m,q1_n9]) hI [107,102,103,104,105,106] rfl rfl (Qc _) (fun hS_=>?_)⟩
   dsimp only [QE]
   have hm0_:(ZN d0 d1.toNat:QO)=(d0.1,d0.2.1,d0.2.2.1,d0.2.2.2.1,d0.2.2.2.2.1,(b0,b1,b2,b3),d0.2.2.2.2.2.2.drop ((d1).toNat)):=by first | rfl | ((have hk2:k=d1.toNat:=Qn;subst hk2;unfold ZN;rw [← hb]))
   refine ⟨?_,?_⟩
   rotate_left
   · rw [hm0_];exact (JM _ _ _ _ _ _ _ _ _ _ hS_ (by simp only [inK];(exact QU)) (by simp only [inK];(exact QU)) (QH.ow h_b0 rfl) (QH.ow h_b1 rfl) (QH.ow h_b2 rfl) (QH.ow h_b3 rfl) ho18)
   all_goals (first | rfl | (simp [*];done))
theorem QhH:JR Tryz.prog 101=true:=by kernel_rfl
theorem QnC:JR Tryz.prog 106=true:=by kernel_rfl
theorem Qj1:JR Tryz.prog 110=true:=by kernel_rfl
theorem QgO:JR Tryz.prog 73=true:=by kernel_rfl
theorem Qpq:JR Tryz.prog 75=true:=by kernel_rfl
theorem Z7 {P:Prop} (h:P:=by first | (rw [Qd3 (by assumption)] <;> rfl) | (rw [Qd2 (by assumption) (by assumption)] <;> rfl) | (rw [Qa6 (by assumption) (by assumption),Qcd hp hn (by omega) (by assumption)] <;> rfl) | (rw [Qa6 (by assumption) (by assumption),Qfj hp (by omega)] <;> rfl)):P:=h
set_option maxHeartbeats 1000000 in
theorem QnL (W:World) {m0:Mem} (hm:mle (m0) (wm W)) {g0:Nat} {d0:QO} (h0:Ow (.ptr QN) m0 [.pointer (some ⟨g0,0,none⟩)] (g0,d0)) (d1:Int) (h1:inK .i64 d1) {v2:Value} {d2:List UInt8} (h2:Rd (.sl .byte) (J4 (wm W) (m0)) [v2] d2) (e0:okD d0) (e1:wD d0+3*d2.length≤1000000000000):Qi Tryz.prog 72 [.pointer (some ⟨g0,0,none⟩),.int .i64 d1,v2] W (m0) (fun v m'=>v= .int .i64 ((ZC d0 d1 d2).2)∧Ow (.ptr QN) m' [.pointer (some ⟨g0,0,none⟩)] (g0,(ZC d0 d1 d2).1)):=by
 have hok0:=e0;obtain ⟨hg,hfu,hst⟩:=e0
 have h1':=h1;simp only [inK] at h1'
 obtain ⟨A2,c2,rfl,l2,k2⟩:=h2.slc
 refine Qi.ofB (n:=44) hm Tryz.func72 rfl rfl rfl ?_
 refine VC.rs (VO.as (VO.k4 0 1 2 6 (VC.seq (VC.rs (VO.mv ?_)))))
 refine VO.call 1 rfl QgO rfl rfl (fun W hW=>QbB W (hW.t 1) h0) (fun v1 m1 hv1=>?_)
 obtain ⟨rfl,w1_0⟩:=hv1
 refine VO.as (VO.k5 0 1 2 6 7 (VC.rs (VO.mv (VO.z (.neq rfl rfl) (VO.p2 1 0 (VO.k6 0 1 2 6 7 12 ?_))))))
 refine VC.cond rfl (fun hc2=>?_) (fun hc2=>?_)
 refine VC.rs (VO.mv (VO.as (VO.k6 0 1 2 6 7 12 (VC.ret (QZ ?_)))))
 exact Zs 6 1 rfl w1_0 (by first | rfl | exact Z7) (by first | rfl | exact Z7)
 refine VC.skip (Qm (VC.seq (VC.rs (VO.mv ?_))))
 refine VO.callN 103 rfl QhH rfl (fun W hW=>Qle W d1 bdk) (fun v3 m3 hv3=>?_)
 subst hv3
 refine VO.z (.notD rfl) (VO.k7 0 1 2 6 7 12 16 ?_)
 refine VC.cond rfl (fun hc4=>?_) (fun hc4=>?_)
 refine VC.rs (VO.as (VO.k7 0 1 2 6 7 12 16 (VC.ret (QZ ?_))))
 exact Zs 6 1 rfl w1_0 (by first | rfl | exact Z7) (by first | rfl | exact Z7)
 refine VC.skip (Qm (VC.seq (VC.block ?_)))
 refine VC.loop (G:=QO × Mem × (List UInt8) × (Option Addr) × Nat × Nat) (fun g=>[(2,.slice (g.2.2.2.1) ((g.2.2.1).length) ((g.2.2.2.2.1))),(0,.pointer (some ⟨g0,0,none⟩)),(1,.int .i64 (d1)),(7,.int .i64 (Jj d0)),(12,.bool (decide (¬ (Jj d0)=0))),(16,.bool (decide (¬ (inF d1))))]) (fun g=>[(1,(g.2.1)),(0,J4 (wm W) (m0))]) (fun g=>(Zx d2.length d0 d1 d2=Zx (g.2.2.2.2.2) (g.1) d1 (g.2.2.1))∧((g.2.2.1).length≤(g.2.2.2.2.2))∧(okD (g.1))∧(wD (g.1)+3*(g.2.2.1).length≤1000000000000)∧(Rd (.sl .byte) (J4 (wm W) (m0)) [.slice (g.2.2.2.1) (g.2.2.1).length (g.2.2.2.2.1)] (g.2.2.1))∧(Ow (.ptr QN) (g.2.1) [.pointer (some ⟨g0,0,none⟩)] (g0,(g.1)))) (fun g=>(g.2.2.1).length) (d0,m1,d2,A2,c2,d2.length) (⟨by rfl,by (dsimp only;omega),by exact hok0,by (dsimp only;omega),h2,w1_0⟩) ⟨esn,fun _ h=>h.sub [1,0]⟩ ?_
 rintro ⟨d,d_m,b,b_A,b_c,n⟩ ⟨hp,hn,hok,hw,h_b,h_d⟩
 replace hp:Zx d2.length d0 d1 d2=Zx n d d1 b:=hp
 replace hn:b.length≤n:=hn
 replace hok:okD d:=hok
 replace hw:wD d+3*b.length≤1000000000000:=hw
 replace h_b:Rd (.sl .byte) (J4 (wm W) (m0)) [.slice b_A b.length b_c] b:=h_b
 replace h_d:Ow (.ptr QN) d_m [.pointer (some ⟨g0,0,none⟩)] (g0,d):=h_d
 show VC _ _ _ _ _ [(2,.slice b_A (b.length) (b_c)),(0,.pointer (some ⟨g0,0,none⟩)),(1,.int .i64 (d1)),(7,.int .i64 (Jj d0)),(12,.bool (decide (¬ (Jj d0)=0))),(16,.bool (decide (¬ (inF d1))))] [(1,d_m),(0,J4 (wm W) (m0))]
 have l_b:b.length≤b_c:=by obtain ⟨_,_,he,hl,_⟩:=h_b.slice;simp only [Value.slice.injEq] at he;omega
 have k_b:b_c≤9223372036854775807:=by obtain ⟨_,_,he,_,hl⟩:=h_b.slice;simp only [Value.slice.injEq,maxLen] at he hl;omega
 refine VC.seq (VC.rs (VO.mv (VO.z (.lenS rfl Ji) (VO.z (.gtr rfl rfl) (VO.k7 0 1 2 7 12 16 19 ?_)))))
 refine VC.cond rfl (fun hc5=>?_) (fun hc5=>?_)
 refine VC.skip (Qm (VC.block (VC.seq (VC.rs (VO.mv ?_)))))
 refine VO.call 1 rfl Qj1 rfl rfl (fun W hW=>QhO W (hW.t 1) h_d Qo bd) (fun v6 m6 hv6=>?_)
 obtain ⟨rfl,w6_0⟩:=hv6
 have hfa7:=(XT (show okD d by assumption))
 have hfa8:=(QdU (show okD d by assumption))
 have hfa9:=(QoC (Q9 d).1)
 refine VO.z (.notD rfl) (VO.p2 1 0 (VO.k8 0 1 2 7 12 16 19 22 ?_))
 refine VC.cond rfl (fun hc10=>?_) (fun hc10=>?_)
 refine VC.rs (VO.as (VO.k9 0 1 2 6 7 12 16 19 22 (VC.ret (QZ (JO (QZ (JO (QZ ?_))))))))
 exact Zs 6 1 rfl w6_0 (by first | rfl | exact Z7) (by first | rfl | exact Z7)
 refine VC.skip (Qm (VC.rs (VO.mv (VO.z (.lenS rfl Ji) (VO.z (.minM rfl rfl) (VO.as (VO.k9 0 1 2 7 8 12 16 19 22 (VC.seq ?_))))))))
 obtain ⟨q11_E,q11_A5,q11_c5,q11_A6,q11_c6,q11_A7,q11_c7,q11_A8,q11_c8,q11_A9,q11_c9,q11_n5,q11_n6,q11_n7,q11_n8,q11_n9,_,q11_S,q11_3,q11_4,q11_5,q11_6,q11_7,q11_8,q11_9⟩:=QF w6_0
 simp only [inK] at q11_3 q11_4
 have q11_r5:=q11_5.rm
 have q11_r6:=q11_6.rm
 have q11_r7:=q11_7.rm
 have q11_r8:=q11_8.rm
 have q11_r9:=q11_9.rm
 refine VC.inv _ (fun _ h=>h.parts (i:=1) rfl q11_S [117,112,113,114,115,116]) ?_
 refine VC.regD _ 13 [(0,true),(1,true),(2,true),(3,true),(4,true),(5,true),(6,true),(7,true),(8,true),(9,false),(10,true),(11,false),(12,false)] follows (by kernel_rfl) (fun _ h=>h.sub [117,112,113,114,115,0]) ?_
 refine VD.z rfl (.mv rfl) (VD.z rfl (.mv rfl) (VD.z rfl (.nilp rfl) (VD.z rfl (.fa rfl J9 rfl) (VD.z rfl (.ld1 117 rfl Qgs rfl (Qa rfl rfl)) (VD.z rfl (.mv rfl) (VD.z rfl (.mv rfl) (VD.z rfl (.mv rfl) ?_)))))))
 have hs18:=h_b.pre (j:=((min ((b.length:Nat):Int) 64).toNat)) bd
 refine VD.z rfl (.slHI ((min ((b.length:Nat):Int) 64).toNat) rfl rfl Ji bd bd) ?_
 refine VD.inv _ (fun _ h=>h.nilc 120) ?_
 obtain ⟨mo19,cs19,hM19,hA19,hC19⟩:=(QH.nil .byte Qx Qx)
 obtain ⟨all19,hS19,hR19⟩:=Rd.srcI (P:=Tryz.prog) (hs18) Tryz.underlying56
 refine VD.app 120 rfl rfl rfl rfl Ji tz5 rfl rfl hM19 hA19 (hS19 _ 0 rfl) hR19.nice bdm bd (by decide) (fun _ _ h=>h.sub [117,112,113,114,115,0]) (fun v19 m19 hN19=>?_)
 have ho19:QH .byte m19 Qx v19 ((b).take ((min ((b.length:Nat):Int) 64).toNat)):=QH.more hC19 hN19 (Je.mono hR19 fun _ _ h=>Rd.flat rfl h _)
 obtain ⟨A19,c19,rfl,l19,k19⟩:=ho19.slc
 refine VD.z rfl (.bst (cs:=[.int .i64 (0),.int .i64 (d1),.slice A19 (((b).take ((min ((b.length:Nat):Int) 64).toNat)).length) (c19),.int .i64 (0)]) rfl Qa8 Qg9 rfl) ?_
 refine VD.bsl (cs:=[.int .i64 (0),.int .i64 (d1),.slice A19 (((b).take ((min ((b.length:Nat):Int) 64).toNat)).length) (c19),.int .i64 (0)]) 122 rfl rfl rfl QcO Qg9 rfl rfl (fun _ h=>h.sub [117,112,113,114,115,0]) (fun g21=>?_)
 refine VD.appO (e:=YP) 116 120 122 rfl rfl rfl rfl QcO Qg9 rfl rfl rfl rfl q11_9 (QeJ _ _ _ _ (QA.one (Qc _)) bdk bdk (QH.ow ho19 rfl) bdk) Tryz.underlying58 (Qa rfl rfl) bdm bd (by decide) (fun _ _ h=>h.sub [117,112,113,114,115,0]) (fun v23 m23 ho23=>?_)
 obtain ⟨A23,c23,rfl,l23,k23⟩:=ho23.slc
 refine VD.nil rfl ?_ rfl
 refine VO.z (.nilp rfl) (VO.z (.fa rfl J9 rfl) ?_)
 refine VO.s1 117 Qgs ?_
 refine VO.clsP 124 [117,112,113,114,115,116] rfl (fun hg24=>(JM _ _ _ _ _ _ _ _ _ _ hg24 bdk bdk q11_5 q11_6 q11_7 q11_8 ho23)) (fun mc24 ho24=>?_)
 refine VO.k9 0 1 2 7 8 12 16 19 22 (Qm ?_)
 refine VC.reg ?_
 refine VO.mv (VO.mv ?_)
 obtain ⟨A25,hA25,hs25⟩:=h_b.drop 1 ((min ((b.length:Nat):Int) 64).toNat) rfl bd
 refine VO.z (.slLI ((min ((b.length:Nat):Int) 64).toNat) A25 rfl rfl Ji bd hA25 bd) ?_
 refine VO.as (VO.p2 124 0 (VO.k9 0 1 2 7 8 12 16 19 22 (JL ?_)))
 have hrl26:b.length - ((min ((b.length:Nat):Int) 64).toNat)=(b.drop ((min ((b.length:Nat):Int) 64).toNat)).length:=by simp only [List.length_drop,List.length_take];try omega
 rw [hrl26]
 exact Qm ⟨⟨(((Q9 d).1).1,((Q9 d).1).2.1,((Q9 d).1).2.2.1,((Q9 d).1).2.2.2.1,((Q9 d).1).2.2.2.2.1,(((Q9 d).1).2.2.2.2.2.1),(((Q9 d).1).2.2.2.2.2.2)++[((0,d1,(b).take ((min ((b.length:Nat):Int) 64).toNat),0):XW)]),mc24,b.drop ((min ((b.length:Nat):Int) 64).toNat),A25,b_c - ((min ((b.length:Nat):Int) 64).toNat),n - 1⟩,⟨by exact Qgn hp hn Qn (Decidable.not_not.1 ‹¬ ¬ (Q9 d).2=true›) Qn,by (simp only [List.length_drop];omega),by exact Qju hok (Decidable.not_not.1 ‹¬ ¬ inF d1›) Qn Qn,by exact Nat.le_trans (QmD (f:=d1) (b:=b) (m:=(min ((b.length:Nat):Int) 64).toNat) hok Qn Qn) hw,(Rd.relen hs25 rfl),ho24⟩,by (simp only [List.length_drop];omega),⟨esn,fun _ h=>Inv.sub (Inv.num h 124 1 rfl) [1,0]⟩⟩
 refine VC.exit (Zh (Zh (Zi (Qm (VC.rs (VO.as (VO.p2 1 0 (VO.k8 0 1 2 6 7 12 16 19 (VC.ret ?_)))))))))
 exact Zs 6 1 rfl h_d (by first | rfl | exact Z7) (by first | rfl | exact Z7)
theorem ZG {P:Prop} (h:P:=by first | (rw [QhP (by assumption)] <;> rfl) | (rw [QaC (by assumption) (.inl (by assumption))] <;> rfl) | (rw [QaC (by assumption) (.inr (.inl (by assumption)))] <;> rfl) | (rw [QaC (by assumption) (.inr (.inr (by assumption)))] <;> rfl) | (rw [Qi5 (by assumption) (by assumption) (by assumption) (by assumption) (by assumption)] <;> rfl) | (rw [Qdi (by assumption) (by assumption) (by assumption) (by assumption) (by assumption)] <;> rfl)):P:=h
theorem Qj9 (W:World) {m0:Mem} (hm:mle (m0) (wm W)) {g0:Nat} {d0:QO} (h0:Ow (.ptr QN) m0 [.pointer (some ⟨g0,0,none⟩)] (g0,d0)) (d1:Int) (h1:inK .i64 d1) (d2:Int) (h2:inK .i64 d2) (e0:okD d0) (e1:wD d0≤1000000000000):Qi Tryz.prog 65 [.pointer (some ⟨g0,0,none⟩),.int .i64 d1,.int .i64 d2] W (m0) (fun v m'=>v= .int .i64 ((Xk d0 d1 d2).2)∧Ow (.ptr QN) m' [.pointer (some ⟨g0,0,none⟩)] (g0,(Xk d0 d1 d2).1)):=by
 have h1':=h1;simp only [inK] at h1'
 have h2':=h2;simp only [inK] at h2'
 refine Qi.ofB (n:=43) hm Tryz.func65 rfl rfl rfl ?_
 refine VC.rs (VO.as (VO.k4 0 1 2 6 (VC.seq (VC.rs (VO.mv ?_)))))
 refine VO.call 1 rfl QgO rfl rfl (fun W hW=>QbB W (hW.t 1) h0) (fun v1 m1 hv1=>?_)
 obtain ⟨rfl,w1_0⟩:=hv1
 refine VO.as (VO.k5 0 1 2 6 7 (VC.rs (VO.mv (VO.z (.neq rfl rfl) (VO.p2 1 0 (VO.k6 0 1 2 6 7 11 ?_))))))
 refine VC.cond rfl (fun hc2=>?_) (fun hc2=>?_)
 refine VC.rs (VO.mv (VO.as (VO.k6 0 1 2 6 7 11 (VC.ret (QZ ?_)))))
 exact Zs 6 1 rfl w1_0 (by first | rfl | exact ZG) (by first | rfl | exact ZG)
 refine VC.skip (Qm (VC.seq (VC.rs (VO.mv ?_))))
 refine VO.callN 103 rfl QhH rfl (fun W hW=>Qle W d1 bdk) (fun v3 m3 hv3=>?_)
 subst hv3
 refine VO.z (.notD rfl) (VO.mv ?_)
 refine VO.dec (t:=16) rfl (fun hc4=>?_) (fun hc4=>?_)
 refine VO.gN (VO.gN (VO.z (.pT rfl rfl) (VO.mv (VO.gN (VO.gN (VO.gN (VO.gN (VO.gN (VO.gN (VO.z (.pT rfl rfl) (VO.k7 0 1 2 6 7 11 27 ?_)))))))))))
 refine VC.condT rfl (VC.rs (VO.as (VO.k7 0 1 2 6 7 11 27 (VC.ret (QZ ?_)))))
 exact Zs 6 1 rfl w1_0 (by first | rfl | exact ZG) (by first | rfl | exact ZG)
 refine VO.w (.mv rfl) (VO.w (.lss rfl rfl) (VO.z (.pF rfl rfl) (VO.mv ?_)))
 refine VO.dec (t:=20) rfl (fun hc5=>?_) (fun hc5=>?_)
 refine VO.gN (VO.gN (VO.gN (VO.gN (VO.gN (VO.gN (VO.z (.pT rfl rfl) (VO.k7 0 1 2 6 7 11 27 (VC.condT rfl (VC.rs (VO.as (VO.k7 0 1 2 6 7 11 27 ?_)))))))))))
 refine VC.ret (QZ ?_)
 exact Zs 6 1 rfl w1_0 (by first | rfl | exact ZG) (by first | rfl | exact ZG)
 refine VO.w (.mv rfl) (VO.w (.mv rfl) (VO.w (.mv rfl) ?_))
 refine VO.gcall 1 rfl ⟨_,rfl,rfl⟩ QnC rfl rfl (fun W hW=>Qlf W (hW.t 1) w1_0 d1 bdk Qo bd (by first | assumption | (apply Decidable.not_not.1;assumption))) (fun v6 m6 hv6=>?_)
 obtain ⟨s6_0,p6_0,p6_1,rfl,hS6,f6_0,w6_0⟩:=hv6
 refine VO.inv _ (fun _ h=>h.parts (i:=1) rfl hS6 [107,108]) ?_
 have hfa9:=XH d0.2.2.2.2.2.1 d0.2.2.2.2.2.2 d1
 obtain ⟨A6_0,c6_0,eq6_0,l6_0,k6_0⟩:=f6_0.slc
 subst eq6_0
 refine VO.w (.lenS rfl Ji) (VO.w (.gtr rfl rfl) (VO.z (.pF rfl rfl) (VO.k7 0 1 2 6 7 11 27 ?_)))
 refine VC.cond rfl (fun hc10=>?_) (fun hc10=>?_)
 refine VC.rs (VO.as (VO.k7 0 1 2 6 7 11 27 (VC.ret (QZ ?_))))
 exact Zs 6 108 rfl w6_0 (by first | rfl | exact ZG) (by first | rfl | exact ZG)
 refine VC.skip (Qm (VC.seq (VC.rs (VO.mv ?_))))
 refine VO.call 108 rfl Qj1 rfl rfl (fun W hW=>QhO W (hW.t 108) w6_0 Qo bd) (fun v11 m11 hv11=>?_)
 obtain ⟨rfl,w11_0⟩:=hv11
 have hfa12:=(XT (show okD d0 by assumption))
 have hfa13:=(QdU (show okD d0 by assumption))
 have hfa14:=(QoC (Q9 d0).1)
 refine VO.z (.notD rfl) (VO.k8 0 1 2 6 7 11 27 30 ?_)
 refine VC.cond rfl (fun hc15=>?_) (fun hc15=>?_)
 refine VC.rs (VO.as (VO.p2 108 0 (VO.k8 0 1 2 6 7 11 27 30 (VC.ret (QZ ?_)))))
 exact Zs 6 108 rfl w11_0 (by first | rfl | exact ZG) (by first | rfl | exact ZG)
 refine VC.skip (Qm (VC.rs (VO.mv (VO.mv (VO.z (.nilp rfl) (VO.z (.fa rfl J9 rfl) ?_))))))
 obtain ⟨q16_E,q16_A5,q16_c5,q16_A6,q16_c6,q16_A7,q16_c7,q16_A8,q16_c8,q16_A9,q16_c9,q16_n5,q16_n6,q16_n7,q16_n8,q16_n9,_,q16_S,q16_3,q16_4,q16_5,q16_6,q16_7,q16_8,q16_9⟩:=QF w11_0
 simp only [inK] at q16_3 q16_4
 have q16_r5:=q16_5.rm
 have q16_r6:=q16_6.rm
 have q16_r7:=q16_7.rm
 have q16_r8:=q16_8.rm
 have q16_r9:=q16_9.rm
 refine VO.inv _ (fun _ h=>h.parts (i:=108) rfl q16_S [122,117,118,119,120,121]) ?_
 refine VO.z (.ld1 122 rfl Qgs rfl (Qa rfl rfl)) (VO.mv (VO.mv ?_))
 refine VO.z (.bst (cs:=[.int .i64 (1),.int .i64 (d1),.slice none (0) (0),.int .i64 (d2)]) rfl Qa8 Qg9 rfl) ?_
 refine VO.bsl (cs:=[.int .i64 (1),.int .i64 (d1),.slice none (0) (0),.int .i64 (d2)]) 124 rfl rfl QcO Qg9 rfl rfl (fun g23=>?_)
 refine VO.inv ((126,Qx)::_) (fun _ h=>h.nilc 126) ?_
 refine VO.appO (e:=YP) 121 126 124 rfl rfl rfl QcO Qg9 rfl rfl rfl rfl q16_9 (QeJ _ _ _ _ (QA.nilAt 0 (QA.nil _)) bdk bdk (Ow.nil _ _) bdk) Tryz.underlying58 (Qa rfl rfl) bdm bd (by decide) (fun v25 m25 ho25=>?_)
 obtain ⟨A25,c25,rfl,l25,k25⟩:=ho25.slc
 refine VO.z (.nilp rfl) (VO.z (.fa rfl J9 rfl) ?_)
 refine VO.s1 122 Qgs ?_
 refine VO.clsP 127 [122,117,118,119,120,121] rfl (fun hg27=>(JM _ _ _ _ _ _ _ _ _ _ hg27 bdk bdk q16_5 q16_6 q16_7 q16_8 ho25)) (fun mc27 ho27=>?_)
 refine VO.p2 127 0 (VO.k8 0 1 2 6 7 11 27 30 (VC.rs (VO.as (VO.k8 0 1 2 6 7 11 27 30 (VC.ret ?_)))))
 exact Zs 6 127 rfl ho27 (by first | rfl | exact ZG) (by first | rfl | exact ZG)
theorem QhN (W:World) {m0:Mem} (hm:mle (m0) (wm W)) {g0:Nat} {d0:QO} (h0:Ow (.ptr QN) m0 [.pointer (some ⟨g0,0,none⟩)] (g0,d0)) (e0:okD d0) (e1:wD d0≤1000000000000):Qi Tryz.prog 66 [.pointer (some ⟨g0,0,none⟩)] W (m0) (fun v m'=>v= .int .i64 ((YB d0).2)∧Ow (.ptr QN) m' [.pointer (some ⟨g0,0,none⟩)] (g0,(YB d0).1)):=by
 refine Qi.ofB (n:=19) hm Tryz.func66 rfl rfl rfl ?_
 refine VC.rs (VO.as (VO.k2 0 2 (VC.seq (VC.rs (VO.mv ?_)))))
 refine VO.call 1 rfl QgO rfl rfl (fun W hW=>QbB W (hW.t 1) h0) (fun v1 m1 hv1=>?_)
 obtain ⟨rfl,w1_0⟩:=hv1
 refine VO.as (VO.k3 0 2 3 (VC.rs (VO.mv (VO.z (.neq rfl rfl) (VO.p2 1 0 (VO.k4 0 2 3 7 ?_))))))
 refine VC.cond rfl (fun hc2=>?_) (fun hc2=>?_)
 refine VC.rs (VO.mv (VO.as (VO.k4 0 2 3 7 (VC.ret (QZ ?_)))))
 exact Zs 2 1 rfl w1_0 (by first | rfl | (first | (rw [XB Qo] <;> rfl) | (rw [Ys Qo Qo] <;> rfl) | (rw [X1 Qo Qo] <;> rfl))) (by first | rfl | (first | (rw [XB Qo] <;> rfl) | (rw [Ys Qo Qo] <;> rfl) | (rw [X1 Qo Qo] <;> rfl)))
 refine VC.skip (Qm (VC.seq (VC.rs (VO.mv ?_))))
 refine VO.call 1 rfl Qj1 rfl rfl (fun W hW=>QhO W (hW.t 1) w1_0 Qo bd) (fun v3 m3 hv3=>?_)
 obtain ⟨rfl,w3_0⟩:=hv3
 have hfa4:=(XT (show okD d0 by assumption))
 have hfa5:=(QdU (show okD d0 by assumption))
 have hfa6:=(QoC (Q9 d0).1)
 refine VO.z (.notD rfl) (VO.k5 0 2 3 7 11 ?_)
 refine VC.cond rfl (fun hc7=>?_) (fun hc7=>?_)
 refine VC.rs (VO.as (VO.k5 0 2 3 7 11 (VC.ret (QZ ?_))))
 exact Zs 2 1 rfl w3_0 (by first | rfl | (first | (rw [XB Qo] <;> rfl) | (rw [Ys Qo Qo] <;> rfl) | (rw [X1 Qo Qo] <;> rfl))) (by first | rfl | (first | (rw [XB Qo] <;> rfl) | (rw [Ys Qo Qo] <;> rfl) | (rw [X1 Qo Qo] <;> rfl)))
 refine VC.skip (Qm (VC.rs (VO.mv (VO.mv (VO.z (.nilp rfl) (VO.z (.fa rfl J9 rfl) ?_))))))
 obtain ⟨q8_E,q8_A5,q8_c5,q8_A6,q8_c6,q8_A7,q8_c7,q8_A8,q8_c8,q8_A9,q8_c9,q8_n5,q8_n6,q8_n7,q8_n8,q8_n9,_,q8_S,q8_3,q8_4,q8_5,q8_6,q8_7,q8_8,q8_9⟩:=QF w3_0
 simp only [inK] at q8_3 q8_4
 have q8_r5:=q8_5.rm
 have q8_r6:=q8_6.rm
 have q8_r7:=q8_7.rm
 have q8_r8:=q8_8.rm
 have q8_r9:=q8_9.rm
 refine VO.inv _ (fun _ h=>h.parts (i:=1) rfl q8_S [114,109,110,111,112,113]) ?_
 refine VO.z (.ld1 114 rfl Qgs rfl (Qa rfl rfl)) (VO.z (.lenS rfl QcO) ?_)
 refine VO.clsP 116 [114,109,110,111,112,113] rfl (fun hg16=>(Q7 ((Q9 d0).1) hg16 bdk bdk q8_5 q8_6 q8_7 q8_8 q8_9)) (fun mc16 ho16=>?_)
 refine VO.call 116 rfl Qpq rfl rfl (fun W hW=>QgV W (hW.t 116) ho16 (((((Q9 d0).1).2.2.2.2.2.2).length:Nat):Int) bdk Qo bd bd) (fun v15 m15 hv15=>?_)
 obtain ⟨rfl,w15_0⟩:=hv15
 have hfa17:=(QfB (((((Q9 d0).1).2.2.2.2.2.2).length:Nat):Int).toNat (show okD ((Q9 d0).1) by assumption))
 have hfa18:=(Qe4 ((Q9 d0).1) (((((Q9 d0).1).2.2.2.2.2.2).length:Nat):Int).toNat)
 refine VO.k5 0 2 3 7 11 (VC.rs (VO.as (VO.p2 116 0 (VO.k5 0 2 3 7 11 (VC.ret ?_)))))
 exact Zs 2 116 rfl w15_0 (by first | rfl | (first | (rw [XB Qo] <;> rfl) | (rw [Ys Qo Qo] <;> rfl) | (rw [X1 Qo Qo] <;> rfl))) (by first | rfl | (first | (rw [XB Qo] <;> rfl) | (rw [Ys Qo Qo] <;> rfl) | (rw [X1 Qo Qo] <;> rfl)))
theorem Qlc (W:World) {m0:Mem} (hm:mle (m0) (wm W)) {g0:Nat} {d0:QO} (h0:Ow (.ptr QN) m0 [.pointer (some ⟨g0,0,none⟩)] (g0,d0)) (d1:Int) (h1:inK .i64 d1) (e0:okD d0) (e1:wD d0≤1000000000000):Qi Tryz.prog 62 [.pointer (some ⟨g0,0,none⟩),.int .i64 d1] W (m0) (fun v m'=>∃ (s0:Value),∃ (p0:Mem),∃ (p1:Mem),v= .tuple #[s0,.int .i64 ((JW d0 d1).2)]∧QA m' [p0,p1]∧Ow (.sl .byte) p0 [s0] ((JW d0 d1).1)∧Ow (.ptr QN) p1 [.pointer (some ⟨g0,0,none⟩)] (g0,d0)):=by
 have h1':=h1;simp only [inK] at h1'
 refine Qi.ofB (n:=18) hm Tryz.func62 rfl rfl rfl ?_
 refine VC.rs (VO.as (VO.as (VO.k4 0 1 4 5 (VC.seq (VC.rs (VO.mv ?_))))))
 refine VO.call 1 rfl QgO rfl rfl (fun W hW=>QbB W (hW.t 1) h0) (fun v1 m1 hv1=>?_)
 obtain ⟨rfl,w1_0⟩:=hv1
 refine VO.as (VO.k5 0 1 4 5 6 (VC.rs (VO.mv (VO.z (.neq rfl rfl) (VO.p2 1 0 (VO.k6 0 1 4 5 6 10 ?_))))))
 refine VC.cond rfl (fun hc2=>?_) (fun hc2=>?_)
 ·refine VC.rs (VO.mv (VO.as (VO.as (VO.k6 0 1 4 5 6 10 (VC.ret (QZ ?_))))))
  refine Qef 4 5 [1] fun hS_=>?_
  dsimp only [QE]
  have he0:((JW d0 d1).1:Ty.Den (.sl .byte))=[]:=by first | rfl | (first | rfl | (simp [JW, *];done))
  refine ⟨.slice none (0) (0),Zc [],Zc [m1],?_,?_,?_,?_⟩
  rotate_left
  ·exact QA.grp (ls:=[[],[m1]]) hS_
  ·rw [he0];exact (Ow.nil _ _)
  ·exact Ow.cgP (Ow.up w1_0 ((QA.self hS_ (List.Sublist.cons_cons _ List.Sublist.slnil)).1 _ (.head _))) (by first | rfl | (first | rfl | (simp [JW, *];done)))
  all_goals (first | rfl | (first | rfl | (simp [JW, *];done)))
 refine VC.skip (Qm (VC.seq (VC.rs (VO.mv ?_))))
 refine VO.callN 103 rfl QhH rfl (fun W hW=>Qle W d1 bdk) (fun v3 m3 hv3=>?_)
 subst hv3
 refine VO.z (.notD rfl) (VO.k7 0 1 4 5 6 10 14 ?_)
 refine VC.cond rfl (fun hc4=>?_) (fun hc4=>?_)
 ·refine VC.rs (VO.as (VO.as (VO.k7 0 1 4 5 6 10 14 (VC.ret (QZ ?_)))))
  refine Qef 4 5 [1] fun hS_=>?_
  dsimp only [QE]
  have he0:((JW d0 d1).1:Ty.Den (.sl .byte))=[]:=by first | rfl | (first | rfl | (simp [JW, *];done))
  refine ⟨.slice none (0) (0),Zc [],Zc [m1],?_,?_,?_,?_⟩
  rotate_left
  ·exact QA.grp (ls:=[[],[m1]]) hS_
  ·rw [he0];exact (Ow.nil _ _)
  ·exact Ow.cgP (Ow.up w1_0 ((QA.self hS_ (List.Sublist.cons_cons _ List.Sublist.slnil)).1 _ (.head _))) (by first | rfl | (first | rfl | (simp [JW, *];done)))
  all_goals (first | rfl | (first | rfl | (simp [JW, *];done)))
 ·refine VC.skip (Qm (VC.rs (VO.mv (VO.mv ?_))))
  refine VO.call 1 rfl QnC rfl rfl (fun W hW=>Qlf W (hW.t 1) w1_0 d1 bdk Qo bd (by first | assumption | (apply Decidable.not_not.1;assumption))) (fun v5 m5 hv5=>?_)
  obtain ⟨s5_0,p5_0,p5_1,rfl,hS5,f5_0,w5_0⟩:=hv5
  refine VO.inv _ (fun _ h=>h.parts (i:=1) rfl hS5 [106,107]) ?_
  have hfa8:=XH d0.2.2.2.2.2.1 d0.2.2.2.2.2.2 d1
  obtain ⟨A5_0,c5_0,eq5_0,l5_0,k5_0⟩:=f5_0.slc
  subst eq5_0
  refine VO.as (VO.as (VO.k7 0 1 4 5 6 10 14 (VC.ret ?_)))
  refine Qef 4 5 [106,107] fun hS_=>?_
  dsimp only [QE]
  refine ⟨.slice A5_0 ((J6 d0.2.2.2.2.2.1 d0.2.2.2.2.2.2 d1).length) (c5_0),Zc [p5_0],Zc [p5_1],?_,?_,?_,?_⟩
  rotate_left
  ·exact QA.grp (ls:=[[p5_0],[p5_1]]) hS_
  ·exact Ow.cg (Ow.up f5_0 ((QA.self hS_ (List.Sublist.cons_cons _ (List.Sublist.cons _ List.Sublist.slnil))).1 _ (.head _))) (by first | rfl | (first | rfl | (simp [JW, *];done)))
  ·exact Ow.cgP (Ow.up w5_0 ((QA.self hS_ (List.Sublist.cons _ (List.Sublist.cons_cons _ List.Sublist.slnil))).1 _ (.head _))) (by first | rfl | (first | rfl | (simp [JW, *];done)))
  all_goals (first | rfl | (first | rfl | (simp [JW, *];done)))
theorem QoN (W:World) {m0:Mem} (hm:mle (m0) (wm W)) {g0:Nat} {d0:QO} (h0:Ow (.ptr QN) m0 [.pointer (some ⟨g0,0,none⟩)] (g0,d0)) (d1:Int) (h1:inK .i64 d1) (e0:okD d0):Qi Tryz.prog 38 [.pointer (some ⟨g0,0,none⟩),.int .i64 d1] W (m0) (fun v m'=>v= .int .i64 ((ZK d0 d1).2)∧Ow (.ptr QN) m' [.pointer (some ⟨g0,0,none⟩)] (g0,(ZK d0 d1).1)):=by
 have h1':=h1;simp only [inK] at h1'
 refine Qi.ofB (n:=20) hm Tryz.func38 rfl rfl rfl ?_
 refine VC.rs (VO.as (VO.k3 0 1 4 (VC.seq (VC.rs (VO.mv ?_)))))
 refine VO.call 1 rfl QgO rfl rfl (fun W hW=>QbB W (hW.t 1) h0) (fun v1 m1 hv1=>?_)
 obtain ⟨rfl,w1_0⟩:=hv1
 refine VO.as (VO.k4 0 1 4 5 (VC.rs (VO.mv (VO.z (.neq rfl rfl) (VO.p2 1 0 (VO.k5 0 1 4 5 9 ?_))))))
 refine VC.cond rfl (fun hc2=>?_) (fun hc2=>?_)
 ·refine VC.rs (VO.mv (VO.as (VO.k5 0 1 4 5 9 (VC.ret (QZ ?_)))))
  exact Zs 4 1 rfl w1_0 (by first | rfl | (first | rfl | (simp [ZK, *];done))) (by first | rfl | (first | rfl | (simp [ZK, *];done)))
 refine VC.skip (Qm (VC.seq (VC.rs (VO.mv (VO.z (.lss rfl rfl) (VO.k6 0 1 4 5 9 12 ?_))))))
 refine VC.cond rfl (fun hc3=>?_) (fun hc3=>?_)
 ·refine VC.rs (VO.as (VO.k6 0 1 4 5 9 12 (VC.ret (QZ ?_))))
  exact Zs 4 1 rfl w1_0 (by first | rfl | (first | rfl | (simp [ZK, *];done))) (by first | rfl | (first | rfl | (simp [ZK, *];done)))
 ·refine VC.skip (Qm (VC.rs (VO.mv (VO.mv (VO.mv (VO.z (.nilp rfl) (VO.z (.fa rfl J9 rfl) ?_)))))))
  obtain ⟨q4_E,q4_A5,q4_c5,q4_A6,q4_c6,q4_A7,q4_c7,q4_A8,q4_c8,q4_A9,q4_c9,q4_n5,q4_n6,q4_n7,q4_n8,q4_n9,_,q4_S,q4_3,q4_4,q4_5,q4_6,q4_7,q4_8,q4_9⟩:=QF w1_0
  simp only [inK] at q4_3 q4_4
  have q4_r5:=q4_5.rm
  have q4_r6:=q4_6.rm
  have q4_r7:=q4_7.rm
  have q4_r8:=q4_8.rm
  have q4_r9:=q4_9.rm
  refine VO.inv _ (fun _ h=>h.parts (i:=1) rfl q4_S [110,105,106,107,108,109]) ?_
  refine VO.s1 110 tk4 ?_
  refine VO.z (.nilp rfl) (VO.z (.fa rfl J9 rfl) ?_)
  refine VO.s1 110 tk3 ?_
  refine VO.clsP 111 [110,105,106,107,108,109] rfl (fun hg11=>(JM _ _ _ _ _ _ _ _ _ _ hg11 bdk bdk q4_5 q4_6 q4_7 q4_8 q4_9)) (fun mc11 ho11=>?_)
  refine VO.k6 0 1 4 5 9 12 (VC.rs (VO.as (VO.p2 111 0 (VO.k6 0 1 4 5 9 12 (VC.ret ?_)))))
  exact Zs 4 111 rfl ho11 (by first | rfl | (first | rfl | (simp [ZK, *];done))) (by first | rfl | (first | rfl | (simp [ZK, *];done)))
theorem Qld (W:World) {m0:Mem} (hm:mle (m0) (wm W)) {g0:Nat} {d0:QO} (h0:Ow (.ptr QN) m0 [.pointer (some ⟨g0,0,none⟩)] (g0,d0)) (e0:okD d0):Qi Tryz.prog 19 [.pointer (some ⟨g0,0,none⟩)] W (m0) (fun v m'=>v= .int .i64 ((Z4 d0).2)∧Ow (.ptr QN) m' [.pointer (some ⟨g0,0,none⟩)] (g0,(Z4 d0).1)):=by
 refine Qi.ofB (n:=12) hm Tryz.func19 rfl rfl rfl ?_
 refine VC.rs (VO.as (VO.k2 0 2 (VC.seq (VC.rs (VO.mv ?_)))))
 refine VO.call 1 rfl QgO rfl rfl (fun W hW=>QbB W (hW.t 1) h0) (fun v1 m1 hv1=>?_)
 obtain ⟨rfl,w1_0⟩:=hv1
 refine VO.as (VO.k3 0 2 3 (VC.rs (VO.mv (VO.z (.neq rfl rfl) (VO.p2 1 0 (VO.k4 0 2 3 7 ?_))))))
 refine VC.cond rfl (fun hc2=>?_) (fun hc2=>?_)
 ·refine VC.rs (VO.mv (VO.as (VO.k4 0 2 3 7 (VC.ret (QZ ?_)))))
  exact Zs 2 1 rfl w1_0 (by first | rfl | (first | rfl | (simp [Z4, *];done))) (by first | rfl | (first | rfl | (simp [Z4, *];done)))
 ·refine VC.skip (Qm (VC.rs (VO.mv (VO.z (.nilp rfl) (VO.z (.fa rfl J9 rfl) ?_)))))
  obtain ⟨q3_E,q3_A5,q3_c5,q3_A6,q3_c6,q3_A7,q3_c7,q3_A8,q3_c8,q3_A9,q3_c9,q3_n5,q3_n6,q3_n7,q3_n8,q3_n9,_,q3_S,q3_3,q3_4,q3_5,q3_6,q3_7,q3_8,q3_9⟩:=QF w1_0
  simp only [inK] at q3_3 q3_4
  have q3_r5:=q3_5.rm
  have q3_r6:=q3_6.rm
  have q3_r7:=q3_7.rm
  have q3_r8:=q3_8.rm
  have q3_r9:=q3_9.rm
  refine VO.inv _ (fun _ h=>h.parts (i:=1) rfl q3_S [109,104,105,106,107,108]) ?_
  refine VO.s1 109 tk4 ?_
  refine VO.clsP 110 [109,104,105,106,107,108] rfl (fun hg10=>(JM _ _ _ _ _ _ _ _ _ _ hg10 bdk bdk q3_5 q3_6 q3_7 q3_8 q3_9)) (fun mc10 ho10=>?_)
  refine VO.k4 0 2 3 7 (VC.rs (VO.as (VO.k4 0 2 3 7 (VC.ret ?_))))
  exact Zs 2 110 rfl ho10 (by first | rfl | (first | rfl | (simp [Z4, *];done))) (by first | rfl | (first | rfl | (simp [Z4, *];done)))
theorem QpD (W:World) {m0:Mem} (hm:mle (m0) (wm W)) {g0:Nat} {d0:QO} (h0:Ow (.ptr QN) m0 [.pointer (some ⟨g0,0,none⟩)] (g0,d0)):Qi Tryz.prog 50 [.pointer (some ⟨g0,0,none⟩)] W (m0) (fun v m'=>v= .bool (decide (d0.1=true∧d0.2.1=false))∧Ow (.ptr QN) m' [.pointer (some ⟨g0,0,none⟩)] (g0,d0)):=by
 refine Qi.ofB (n:=13) hm Tryz.func50 rfl rfl rfl ?_
 refine VC.rs (VO.as (VO.k2 0 2 (VC.rs (VO.mv ?_))))
 refine VO.call 1 rfl QgN rfl rfl (fun W hW=>QcJ W (hW.t 1) h0) (fun v1 m1 hv1=>?_)
 obtain ⟨rfl,w1_0⟩:=hv1
 refine VO.z (.notD rfl) (VO.mv ?_)
 refine VO.dec (t:=6) rfl (fun hc2=>?_) (fun hc2=>?_)
 ·refine VO.w (.mv rfl) (VO.w (.nilp rfl) (VO.w (.fa rfl J9 rfl) ?_))
  obtain ⟨q3_E,q3_A5,q3_c5,q3_A6,q3_c6,q3_A7,q3_c7,q3_A8,q3_c8,q3_A9,q3_c9,q3_n5,q3_n6,q3_n7,q3_n8,q3_n9,_,q3_S,q3_3,q3_4,q3_5,q3_6,q3_7,q3_8,q3_9⟩:=QF w1_0
  simp only [inK] at q3_3 q3_4
  have q3_r5:=q3_5.rm
  have q3_r6:=q3_6.rm
  have q3_r7:=q3_7.rm
  have q3_r8:=q3_8.rm
  have q3_r9:=q3_9.rm
  refine VO.inv _ (fun _ h=>h.parts (i:=1) rfl q3_S [109,104,105,106,107,108]) ?_
  refine VO.w (.ld1 109 rfl tk4 rfl (Qa rfl rfl)) (VO.w (.not rfl) (VO.z (.pT rfl rfl) (VO.as ?_)))
  refine VO.clsP 110 [109,104,105,106,107,108] rfl (fun hg10=>(Q7 d0 hg10 bdk bdk q3_5 q3_6 q3_7 q3_8 q3_9)) (fun mc10 ho10=>?_)
  refine VO.k2 0 2 (VC.ret ?_)
  exact Zs 2 110 rfl ho10 (by first | rfl | (simp [*];done)) (by first | rfl | (cases h1_:d0.1 <;> cases h2_:d0.2.1 <;> simp_all))
 ·refine VO.gN (VO.gN (VO.gN (VO.gN (VO.gN (VO.z (.pF rfl rfl) (VO.as (VO.k2 0 2 (VC.ret ?_))))))))
  exact Zs 2 1 rfl w1_0 (by first | rfl | (simp [*];done)) (by first | rfl | (cases h1_:d0.1 <;> cases h2_:d0.2.1 <;> simp_all))
theorem Qj7 (W:World) {m0:Mem} (hm:mle (m0) (wm W)) {g0:Nat} {d0:QO} (h0:Ow (.ptr QN) m0 [.pointer (some ⟨g0,0,none⟩)] (g0,d0)):Qi Tryz.prog 48 [.pointer (some ⟨g0,0,none⟩)] W (m0) (fun v m'=>v= .int .i64 (QcI d0)∧Ow (.ptr QN) m' [.pointer (some ⟨g0,0,none⟩)] (g0,d0)):=by
 refine Qi.ofB (n:=10) hm Tryz.func48 rfl rfl rfl ?_
 refine VC.rs (VO.as (VO.k2 0 2 (VC.seq (VC.rs (VO.mv ?_)))))
 refine VO.call 1 rfl QgN rfl rfl (fun W hW=>QcJ W (hW.t 1) h0) (fun v1 m1 hv1=>?_)
 obtain ⟨rfl,w1_0⟩:=hv1
 refine VO.k3 0 2 4 ?_
 refine VC.cond rfl (fun hc2=>?_) (fun hc2=>?_)
 ·refine VC.rs (VO.as (VO.p2 1 0 (VO.k3 0 2 4 (VC.ret (QZ ?_)))))
  exact Zs 2 1 rfl w1_0 (by first | rfl | (simp [*];done)) (by first | rfl | (first | rfl | (simp [QcI, *];done)))
 ·refine VC.skip (Qm (VC.rs (VO.mv (VO.z (.nilp rfl) (VO.z (.fa rfl J9 rfl) ?_)))))
  obtain ⟨q3_E,q3_A5,q3_c5,q3_A6,q3_c6,q3_A7,q3_c7,q3_A8,q3_c8,q3_A9,q3_c9,q3_n5,q3_n6,q3_n7,q3_n8,q3_n9,_,q3_S,q3_3,q3_4,q3_5,q3_6,q3_7,q3_8,q3_9⟩:=QF w1_0
  simp only [inK] at q3_3 q3_4
  have q3_r5:=q3_5.rm
  have q3_r6:=q3_6.rm
  have q3_r7:=q3_7.rm
  have q3_r8:=q3_8.rm
  have q3_r9:=q3_9.rm
  refine VO.inv _ (fun _ h=>h.parts (i:=1) rfl q3_S [109,104,105,106,107,108]) ?_
  refine VO.z (.ld1 109 rfl Qgs rfl (Qa rfl rfl)) (VO.z (.lenS rfl QcO) (VO.as ?_))
  refine VO.clsP 110 [109,104,105,106,107,108] rfl (fun hg10=>(Q7 d0 hg10 bdk bdk q3_5 q3_6 q3_7 q3_8 q3_9)) (fun mc10 ho10=>?_)
  refine VO.p2 110 0 (VO.k3 0 2 4 (VC.ret ?_))
  exact Zs 2 110 rfl ho10 (by first | rfl | (simp [*];done)) (by first | rfl | (first | rfl | (simp [QcI, *];done)))
theorem QnM (W:World) {m0:Mem} (hm:mle (m0) (wm W)) {g0:Nat} {d0:QO} (h0:Ow (.ptr QN) m0 [.pointer (some ⟨g0,0,none⟩)] (g0,d0)):Qi Tryz.prog 52 [.pointer (some ⟨g0,0,none⟩)] W (m0) (fun v m'=>v= .int .i64 (QgU d0)∧Ow (.ptr QN) m' [.pointer (some ⟨g0,0,none⟩)] (g0,d0)):=by
 refine Qi.ofB (n:=9) hm Tryz.func52 rfl rfl rfl ?_
 refine VC.rs (VO.as (VO.k2 0 2 (VC.seq (VC.rs (VO.mv ?_)))))
 refine VO.call 1 rfl QgN rfl rfl (fun W hW=>QcJ W (hW.t 1) h0) (fun v1 m1 hv1=>?_)
 obtain ⟨rfl,w1_0⟩:=hv1
 refine VO.k3 0 2 4 ?_
 refine VC.cond rfl (fun hc2=>?_) (fun hc2=>?_)
 ·refine VC.rs (VO.as (VO.p2 1 0 (VO.k3 0 2 4 (VC.ret (QZ ?_)))))
  exact Zs 2 1 rfl w1_0 (by first | rfl | (simp [*];done)) (by first | rfl | (first | rfl | (simp [QgU, *];done)))
 ·refine VC.skip (Qm (VC.rs (VO.mv (VO.z (.nilp rfl) (VO.z (.fa rfl J9 rfl) ?_)))))
  obtain ⟨q3_E,q3_A5,q3_c5,q3_A6,q3_c6,q3_A7,q3_c7,q3_A8,q3_c8,q3_A9,q3_c9,q3_n5,q3_n6,q3_n7,q3_n8,q3_n9,_,q3_S,q3_3,q3_4,q3_5,q3_6,q3_7,q3_8,q3_9⟩:=QF w1_0
  simp only [inK] at q3_3 q3_4
  have q3_r5:=q3_5.rm
  have q3_r6:=q3_6.rm
  have q3_r7:=q3_7.rm
  have q3_r8:=q3_8.rm
  have q3_r9:=q3_9.rm
  refine VO.inv _ (fun _ h=>h.parts (i:=1) rfl q3_S [109,104,105,106,107,108]) ?_
  refine VO.z (.ld1 109 rfl tk3 rfl (Qa rfl rfl)) (VO.as ?_)
  refine VO.clsP 110 [109,104,105,106,107,108] rfl (fun hg10=>(Q7 d0 hg10 bdk bdk q3_5 q3_6 q3_7 q3_8 q3_9)) (fun mc10 ho10=>?_)
  refine VO.p2 110 0 (VO.k3 0 2 4 (VC.ret ?_))
  exact Zs 2 110 rfl ho10 (by first | rfl | (simp [*];done)) (by first | rfl | (first | rfl | (simp [QgU, *];done)))
theorem JC {P:Prop} (h:P:=by first | rfl | (simp [Ym, *];done) | (rw [XI (by assumption) (by assumption),Xv ‹d1=(0:Int)›] <;> rfl) | (rw [XI (by assumption) (by assumption),Xu ‹d1=(1:Int)›] <;> rfl) | (rw [XI (by assumption) (by assumption),Xt ‹d1=(2:Int)›] <;> rfl) | (rw [XI (by assumption) (by assumption),Xs ‹d1=(3:Int)›] <;> rfl)):P:=h
theorem J1 {P:Prop} (h:P:=by first | exact bd | (have h_:=Decidable.not_not.1 ‹¬ ¬ inF d1›;simp only [inF] at h_;omega) | (simp only [wD,YU,List.length_nil] at*;omega)):P:=h
theorem ZA {k:IntKind} {x:Int} (h:inK k x:=by simp only [inK];exact J1):inK k x:=h
set_option maxHeartbeats 1000000 in
theorem Qj8 (W:World) {m0:Mem} (hm:mle (m0) (wm W)) {g0:Nat} {d0:QO} (h0:Ow (.ptr QN) m0 [.pointer (some ⟨g0,0,none⟩)] (g0,d0)) (d1:Int) (h1:inK .i64 d1) (e0:wD d0≤1000000000000):Qi Tryz.prog 46 [.pointer (some ⟨g0,0,none⟩),.int .i64 d1] W (m0) (fun v m'=>∃ (s0:Value),∃ (p0:Mem),∃ (p1:Mem),v=s0∧QA m' [p0,p1]∧Ow (.sl .byte) p0 [s0] (Ym d0 d1)∧Ow (.ptr QN) p1 [.pointer (some ⟨g0,0,none⟩)] (g0,d0)):=by
 have h1':=h1;simp only [inK] at h1'
 refine Qi.ofB (n:=19) hm Tryz.func46 rfl rfl rfl ?_
 refine VC.rs (VO.as (VO.k3 0 1 4 (VC.seq (VC.rs (VO.mv ?_)))))
 refine VO.call 1 rfl QgN rfl rfl (fun W hW=>QcJ W (hW.t 1) h0) (fun v1 m1 hv1=>?_)
 obtain ⟨rfl,w1_0⟩:=hv1
 refine VO.mv ?_
 refine VO.dec (t:=7) rfl (fun hc2=>?_) (fun hc2=>?_)
 · refine VO.gN (VO.gN (VO.gN (VO.z (.pT rfl rfl) (VO.k4 0 1 4 11 (VC.condT rfl (VC.rs (VO.as (VO.p2 1 0 (VO.k4 0 1 4 11 (VC.ret (QZ ?_)))))))))))
   refine Yd 4 [1] fun hS_=>?_
   dsimp only [QE]
   have he0:(Ym d0 d1:Ty.Den (.sl .byte))=[]:=by first | rfl | (exact JC)
   refine ⟨.slice none (0) (0),Zc [],Zc [m1],?_,?_,?_,?_⟩
   rotate_left
   · exact QA.grp (ls:=[[],[m1]]) hS_
   · rw [he0];exact (Ow.nil _ _)
   · exact Ow.cgP (Ow.up w1_0 ((QA.self hS_ (List.Sublist.cons_cons _ List.Sublist.slnil)).1 _ (.head _))) (by first | rfl | exact JC)
   all_goals (first | rfl | (first | rfl | (simp [Ym, *];done)))
 refine VO.w (.mv rfl) ?_
 refine VO.gcallN 103 rfl ⟨_,rfl,rfl⟩ QhH rfl (fun W hW=>Qle W d1 ZA) (fun v3 m3 hv3=>?_)
 subst hv3
 refine VO.w (.notD rfl) (VO.z (.pF rfl rfl) (VO.k4 0 1 4 11 ?_))
 refine VC.cond rfl (fun hc4=>?_) (fun hc4=>?_)
 · refine VC.rs (VO.as (VO.p2 1 0 (VO.k4 0 1 4 11 (VC.ret (QZ ?_)))))
   refine Yd 4 [1] fun hS_=>?_
   dsimp only [QE]
   have he0:(Ym d0 d1:Ty.Den (.sl .byte))=[]:=by first | rfl | (exact JC)
   refine ⟨.slice none (0) (0),Zc [],Zc [m1],?_,?_,?_,?_⟩
   rotate_left
   · exact QA.grp (ls:=[[],[m1]]) hS_
   · rw [he0];exact (Ow.nil _ _)
   · exact Ow.cgP (Ow.up w1_0 ((QA.self hS_ (List.Sublist.cons_cons _ List.Sublist.slnil)).1 _ (.head _))) (by first | rfl | exact JC)
   all_goals (first | rfl | (first | rfl | (simp [Ym, *];done)))
 refine VC.skip (Qm (VC.rs (VO.mv (VO.mv (VO.z (.nilp rfl) (VO.z (.fa rfl J9 rfl) ?_))))))
 rcases (show d1=(0:Int)∨d1=(1:Int)∨d1=(2:Int)∨d1=(3:Int) from by exact J1) with hi5 | hi5 | hi5 | hi5
 · refine VO.z (.ixa (i:=0) (o:=5) rfl rfl Ya hi5 rfl rfl) ?_
   obtain ⟨q6_E,q6_A5,q6_c5,q6_A6,q6_c6,q6_A7,q6_c7,q6_A8,q6_c8,q6_A9,q6_c9,q6_n5,q6_n6,q6_n7,q6_n8,q6_n9,_,q6_S,q6_3,q6_4,q6_5,q6_6,q6_7,q6_8,q6_9⟩:=QF w1_0
   simp only [inK] at q6_3 q6_4
   have q6_r5:=q6_5.rm
   have q6_r6:=q6_6.rm
   have q6_r7:=q6_7.rm
   have q6_r8:=q6_8.rm
   have q6_r9:=q6_9.rm
   refine VO.inv _ (fun _ h=>h.parts (i:=1) rfl q6_S [112,107,108,109,110,111]) ?_
   refine VO.z (.ld1 112 rfl Y4 rfl (Qa rfl rfl)) ?_
   refine VO.inv _ (fun _ h=>h.nilc 114) ?_
   obtain ⟨mo13,cs13,hM13,hA13,hC13⟩:=(QH.nil .byte Qx Qx)
   obtain ⟨all13,hS13,hR13⟩:=Rd.srcI (P:=Tryz.prog) ((Ow.rd q6_5 (Qc _))) Tryz.underlying56
   refine VO.app 114 rfl rfl rfl Ji tz5 rfl rfl hM13 hA13 (hS13 _ 107 rfl) hR13.nice (by simp only [maxLen];(exact J1)) J1 (by decide) (fun v13 m13 hN13=>?_)
   have ho13:QH .byte m13 Qx v13 (d0.2.2.2.2.2.1.1):=QH.more hC13 hN13 (Je.mono hR13 fun _ _ h=>Rd.flat rfl h _)
   obtain ⟨A13,c13,rfl,l13,k13⟩:=ho13.slc
   refine VO.as ?_
   refine VO.clsP 115 [112,107,108,109,110,111] rfl (fun hg15=>(Q7 d0 hg15 ZA ZA q6_5 q6_6 q6_7 q6_8 q6_9)) (fun mc15 ho15=>?_)
   refine VO.p3 115 114 0 (VO.k4 0 1 4 11 (VC.ret ?_))
   refine Yd 4 [114,115] fun hS_=>?_
   dsimp only [QE]
   refine ⟨.slice A13 ((d0.2.2.2.2.2.1.1).length) (c13),Zc [m13],Zc [mc15],?_,?_,?_,?_⟩
   rotate_left
   · exact QA.grp (ls:=[[m13],[mc15]]) hS_
   · exact Ow.cg (Ow.up (QH.ow ho13 rfl) ((QA.self hS_ (List.Sublist.cons_cons _ (List.Sublist.cons _ List.Sublist.slnil))).1 _ (.head _))) (by first | rfl | exact JC)
   · exact Ow.cgP (Ow.up ho15 ((QA.self hS_ (List.Sublist.cons _ (List.Sublist.cons_cons _ List.Sublist.slnil))).1 _ (.head _))) (by first | rfl | exact JC)
   all_goals (first | rfl | (first | rfl | (simp [Ym, *];done)))
 · refine VO.z (.ixa (i:=1) (o:=6) rfl rfl Ya hi5 rfl rfl) ?_
   obtain ⟨q16_E,q16_A5,q16_c5,q16_A6,q16_c6,q16_A7,q16_c7,q16_A8,q16_c8,q16_A9,q16_c9,q16_n5,q16_n6,q16_n7,q16_n8,q16_n9,_,q16_S,q16_3,q16_4,q16_5,q16_6,q16_7,q16_8,q16_9⟩:=QF w1_0
   simp only [inK] at q16_3 q16_4
   have q16_r5:=q16_5.rm
   have q16_r6:=q16_6.rm
   have q16_r7:=q16_7.rm
   have q16_r8:=q16_8.rm
   have q16_r9:=q16_9.rm
   refine VO.inv _ (fun _ h=>h.parts (i:=1) rfl q16_S [122,117,118,119,120,121]) ?_
   refine VO.z (.ld1 122 rfl Y4 rfl (Qa rfl rfl)) ?_
   refine VO.inv _ (fun _ h=>h.nilc 124) ?_
   obtain ⟨mo23,cs23,hM23,hA23,hC23⟩:=(QH.nil .byte Qx Qx)
   obtain ⟨all23,hS23,hR23⟩:=Rd.srcI (P:=Tryz.prog) ((Ow.rd q16_6 (Qc _))) Tryz.underlying56
   refine VO.app 124 rfl rfl rfl Ji tz5 rfl rfl hM23 hA23 (hS23 _ 118 rfl) hR23.nice (by simp only [maxLen];(exact J1)) J1 (by decide) (fun v23 m23 hN23=>?_)
   have ho23:QH .byte m23 Qx v23 (d0.2.2.2.2.2.1.2.1):=QH.more hC23 hN23 (Je.mono hR23 fun _ _ h=>Rd.flat rfl h _)
   obtain ⟨A23,c23,rfl,l23,k23⟩:=ho23.slc
   refine VO.as ?_
   refine VO.clsP 125 [122,117,118,119,120,121] rfl (fun hg25=>(Q7 d0 hg25 ZA ZA q16_5 q16_6 q16_7 q16_8 q16_9)) (fun mc25 ho25=>?_)
   refine VO.p3 125 124 0 (VO.k4 0 1 4 11 (VC.ret ?_))
   refine Yd 4 [124,125] fun hS_=>?_
   dsimp only [QE]
   refine ⟨.slice A23 ((d0.2.2.2.2.2.1.2.1).length) (c23),Zc [m23],Zc [mc25],?_,?_,?_,?_⟩
   rotate_left
   · exact QA.grp (ls:=[[m23],[mc25]]) hS_
   · exact Ow.cg (Ow.up (QH.ow ho23 rfl) ((QA.self hS_ (List.Sublist.cons_cons _ (List.Sublist.cons _ List.Sublist.slnil))).1 _ (.head _))) (by first | rfl | exact JC)
   · exact Ow.cgP (Ow.up ho25 ((QA.self hS_ (List.Sublist.cons _ (List.Sublist.cons_cons _ List.Sublist.slnil))).1 _ (.head _))) (by first | rfl | exact JC)
   all_goals (first | rfl | (first | rfl | (simp [Ym, *];done)))
 · refine VO.z (.ixa (i:=2) (o:=7) rfl rfl Ya hi5 rfl rfl) ?_
   obtain ⟨q26_E,q26_A5,q26_c5,q26_A6,q26_c6,q26_A7,q26_c7,q26_A8,q26_c8,q26_A9,q26_c9,q26_n5,q26_n6,q26_n7,q26_n8,q26_n9,_,q26_S,q26_3,q26_4,q26_5,q26_6,q26_7,q26_8,q26_9⟩:=QF w1_0
   simp only [inK] at q26_3 q26_4
   have q26_r5:=q26_5.rm
   have q26_r6:=q26_6.rm
   have q26_r7:=q26_7.rm
   have q26_r8:=q26_8.rm
   have q26_r9:=q26_9.rm
   refine VO.inv _ (fun _ h=>h.parts (i:=1) rfl q26_S [132,127,128,129,130,131]) ?_
   refine VO.z (.ld1 132 rfl Y4 rfl (Qa rfl rfl)) ?_
   refine VO.inv _ (fun _ h=>h.nilc 134) ?_
   obtain ⟨mo33,cs33,hM33,hA33,hC33⟩:=(QH.nil .byte Qx Qx)
   obtain ⟨all33,hS33,hR33⟩:=Rd.srcI (P:=Tryz.prog) ((Ow.rd q26_7 (Qc _))) Tryz.underlying56
   refine VO.app 134 rfl rfl rfl Ji tz5 rfl rfl hM33 hA33 (hS33 _ 129 rfl) hR33.nice (by simp only [maxLen];(exact J1)) J1 (by decide) (fun v33 m33 hN33=>?_)
   have ho33:QH .byte m33 Qx v33 (d0.2.2.2.2.2.1.2.2.1):=QH.more hC33 hN33 (Je.mono hR33 fun _ _ h=>Rd.flat rfl h _)
   obtain ⟨A33,c33,rfl,l33,k33⟩:=ho33.slc
   refine VO.as ?_
   refine VO.clsP 135 [132,127,128,129,130,131] rfl (fun hg35=>(Q7 d0 hg35 ZA ZA q26_5 q26_6 q26_7 q26_8 q26_9)) (fun mc35 ho35=>?_)
   refine VO.p3 135 134 0 (VO.k4 0 1 4 11 (VC.ret ?_))
   refine Yd 4 [134,135] fun hS_=>?_
   dsimp only [QE]
   refine ⟨.slice A33 ((d0.2.2.2.2.2.1.2.2.1).length) (c33),Zc [m33],Zc [mc35],?_,?_,?_,?_⟩
   rotate_left
   · exact QA.grp (ls:=[[m33],[mc35]]) hS_
   · exact Ow.cg (Ow.up (QH.ow ho33 rfl) ((QA.self hS_ (List.Sublist.cons_cons _ (List.Sublist.cons _ List.Sublist.slnil))).1 _ (.head _))) (by first | rfl | exact JC)
   · exact Ow.cgP (Ow.up ho35 ((QA.self hS_ (List.Sublist.cons _ (List.Sublist.cons_cons _ List.Sublist.slnil))).1 _ (.head _))) (by first | rfl | exact JC)
   all_goals (first | rfl | (first | rfl | (simp [Ym, *];done)))
 · refine VO.z (.ixa (i:=3) (o:=8) rfl rfl Ya hi5 rfl rfl) ?_
   obtain ⟨q36_E,q36_A5,q36_c5,q36_A6,q36_c6,q36_A7,q36_c7,q36_A8,q36_c8,q36_A9,q36_c9,q36_n5,q36_n6,q36_n7,q36_n8,q36_n9,_,q36_S,q36_3,q36_4,q36_5,q36_6,q36_7,q36_8,q36_9⟩:=QF w1_0
   simp only [inK] at q36_3 q36_4
   have q36_r5:=q36_5.rm
   have q36_r6:=q36_6.rm
   have q36_r7:=q36_7.rm
   have q36_r8:=q36_8.rm
   have q36_r9:=q36_9.rm
   refine VO.inv _ (fun _ h=>h.parts (i:=1) rfl q36_S [142,137,138,139,140,141]) ?_
   refine VO.z (.ld1 142 rfl Y4 rfl (Qa rfl rfl)) ?_
   refine VO.inv _ (fun _ h=>h.nilc 144) ?_
   obtain ⟨mo43,cs43,hM43,hA43,hC43⟩:=(QH.nil .byte Qx Qx)
   obtain ⟨all43,hS43,hR43⟩:=Rd.srcI (P:=Tryz.prog) ((Ow.rd q36_8 (Qc _))) Tryz.underlying56
   refine VO.app 144 rfl rfl rfl Ji tz5 rfl rfl hM43 hA43 (hS43 _ 140 rfl) hR43.nice (by simp only [maxLen];(exact J1)) J1 (by decide) (fun v43 m43 hN43=>?_)
   have ho43:QH .byte m43 Qx v43 (d0.2.2.2.2.2.1.2.2.2):=QH.more hC43 hN43 (Je.mono hR43 fun _ _ h=>Rd.flat rfl h _)
   obtain ⟨A43,c43,rfl,l43,k43⟩:=ho43.slc
   refine VO.as ?_
   refine VO.clsP 145 [142,137,138,139,140,141] rfl (fun hg45=>(Q7 d0 hg45 ZA ZA q36_5 q36_6 q36_7 q36_8 q36_9)) (fun mc45 ho45=>?_)
   refine VO.p3 145 144 0 (VO.k4 0 1 4 11 (VC.ret ?_))
   refine Yd 4 [144,145] fun hS_=>?_
   dsimp only [QE]
   refine ⟨.slice A43 ((d0.2.2.2.2.2.1.2.2.2).length) (c43),Zc [m43],Zc [mc45],?_,?_,?_,?_⟩
   rotate_left
   · exact QA.grp (ls:=[[m43],[mc45]]) hS_
   · exact Ow.cg (Ow.up (QH.ow ho43 rfl) ((QA.self hS_ (List.Sublist.cons_cons _ (List.Sublist.cons _ List.Sublist.slnil))).1 _ (.head _))) (by first | rfl | exact JC)
   · exact Ow.cgP (Ow.up ho45 ((QA.self hS_ (List.Sublist.cons _ (List.Sublist.cons_cons _ List.Sublist.slnil))).1 _ (.head _))) (by first | rfl | exact JC)
   all_goals (first | rfl | (first | rfl | (simp [Ym, *];done)))
theorem Jb {P:Prop} (h:P:=by first | (rw [Qd9 (by assumption)] <;> rfl) | (rw [Xh (by assumption) (.inl (by simpa using ‹_›))] <;> rfl) | (rw [Xh (by assumption) (.inr (.inl (by assumption)))] <;> rfl) | (rw [Xh (by assumption) (.inr (.inr (by assumption)))] <;> rfl) | (rw [QbJ (by assumption) (by simpa using ‹_›) (by assumption) (by assumption),Qkw (by omega)] <;> rfl) | (rw [QbJ (by assumption) (by simpa using ‹_›) (by assumption) (by assumption),QmA (by assumption) (by assumption)] <;> rfl) | (rw [QbJ (by assumption) (by simpa using ‹_›) (by assumption) (by assumption),Qds (by assumption) (by assumption),ZW,Qgb ‹_=(0:Int)›,Xv ‹_=(0:Int)›] <;> rfl) | (rw [QbJ (by assumption) (by simpa using ‹_›) (by assumption) (by assumption),Qds (by assumption) (by assumption),ZW,Qga ‹_=(1:Int)›,Xu ‹_=(1:Int)›] <;> rfl) | (rw [QbJ (by assumption) (by simpa using ‹_›) (by assumption) (by assumption),Qds (by assumption) (by assumption),ZW,Qf9 ‹_=(2:Int)›,Xt ‹_=(2:Int)›] <;> rfl) | (rw [QbJ (by assumption) (by simpa using ‹_›) (by assumption) (by assumption),Qds (by assumption) (by assumption),ZW,Qf8 ‹_=(3:Int)›,Xs ‹_=(3:Int)›] <;> rfl)):P:=h
theorem JU {P:Prop} (h:P:=by first | exact bd | (have h_:=Qbt (by assumption) ‹_[0]? =some _›;simp only [inF] at h_;omega)):P:=h
theorem QG {k:IntKind} {x:Int} (h:inK k x:=by simp only [inK];exact JU):inK k x:=h
set_option maxHeartbeats 4000000 in
theorem Qi4 (W:World) {m0:Mem} (hm:mle (m0) (wm W)) {g0:Nat} {d0:QO} (h0:Ow (.ptr QN) m0 [.pointer (some ⟨g0,0,none⟩)] (g0,d0)) (d1:Int) (h1:inK .i64 d1) (d2:Int) (h2:inK .i64 d2) (e0:okD d0) (e1:wD d0≤1000000000000):Qi Tryz.prog 20 [.pointer (some ⟨g0,0,none⟩),.int .i64 d1,.int .i64 d2] W (m0) (fun v m'=>v= .int .i64 ((Za d0 d1 d2).2)∧Ow (.ptr QN) m' [.pointer (some ⟨g0,0,none⟩)] (g0,(Za d0 d1 d2).1)):=by
 have h1':=h1;simp only [inK] at h1'
 have h2':=h2;simp only [inK] at h2'
 refine Qi.ofB (n:=93) hm Tryz.func20 rfl rfl rfl ?_
 refine VC.rs (VO.as (VO.k4 0 1 2 6 (VC.seq (VC.block (VC.rs (VO.mv ?_))))))
 refine VO.call 1 rfl QgN rfl rfl (fun W hW=>QcJ W (hW.t 1) h0) (fun v1 m1 hv1=>?_)
 obtain ⟨rfl,w1_0⟩:=hv1
 refine VO.as (VO.k5 0 1 2 6 8 ?_)
 refine VC.cond rfl (fun hc2=>?_) (fun hc2=>?_)
 refine VC.rs (VO.as (VO.p2 1 0 (VO.k5 0 1 2 6 8 (VC.ret (JO (QZ ?_))))))
 exact Zs 6 1 rfl w1_0 (by first | rfl | exact Jb) (by first | rfl | exact Jb)
 refine VC.rs (VO.mv (VO.z (.nilp rfl) (VO.z (.fa rfl J9 rfl) ?_)))
 obtain ⟨q3_E,q3_A5,q3_c5,q3_A6,q3_c6,q3_A7,q3_c7,q3_A8,q3_c8,q3_A9,q3_c9,q3_n5,q3_n6,q3_n7,q3_n8,q3_n9,_,q3_S,q3_3,q3_4,q3_5,q3_6,q3_7,q3_8,q3_9⟩:=QF w1_0
 simp only [inK] at q3_3 q3_4
 have q3_r5:=q3_5.rm
 have q3_r6:=q3_6.rm
 have q3_r7:=q3_7.rm
 have q3_r8:=q3_8.rm
 have q3_r9:=q3_9.rm
 refine VO.inv _ (fun _ h=>h.parts (i:=1) rfl q3_S [109,104,105,106,107,108]) ?_
 refine VO.z (.ld1 109 rfl tk4 rfl (Qa rfl rfl)) (VO.z (.not rfl) (VO.mv ?_))
 refine VO.decBN (t:=17) rfl (fun hc10=>?_) (fun hc10=>?_)
 refine VO.gN (VO.gN (VO.z (.pT rfl rfl) (VO.mv (VO.gN (VO.gN (VO.z (.pT rfl rfl) (VO.as ?_)))))))
 refine VO.clsP 111 [109,104,105,106,107,108] rfl (fun hg11=>(Q7 d0 hg11 QG QG q3_5 q3_6 q3_7 q3_8 q3_9)) (fun mc11 ho11=>?_)
 refine VO.p2 111 0 (VO.k6 0 1 2 6 8 11 (VC.condT rfl (VC.rs (VO.as (VO.k6 0 1 2 6 8 11 (VC.ret (JO (QZ ?_))))))))
 exact Zs 6 111 rfl ho11 (by first | rfl | exact Jb) (by first | rfl | exact Jb)
 refine VO.w (.mv rfl) (VO.w (.lss rfl rfl) (VO.z (.pF rfl rfl) (VO.mv ?_)))
 refine VO.dec (t:=21) rfl (fun hc12=>?_) (fun hc12=>?_)
 refine VO.gN (VO.gN (VO.z (.pT rfl rfl) (VO.as ?_)))
 refine VO.clsP 113 [109,104,105,106,107,108] rfl (fun hg13=>(Q7 d0 hg13 QG QG q3_5 q3_6 q3_7 q3_8 q3_9)) (fun mc13 ho13=>?_)
 refine VO.p2 113 0 (VO.k6 0 1 2 6 8 11 (VC.condT rfl (VC.rs (VO.as (VO.k6 0 1 2 6 8 11 (VC.ret (JO (QZ ?_))))))))
 exact Zs 6 113 rfl ho13 (by first | rfl | exact Jb) (by first | rfl | exact Jb)
 refine VO.w (.mv rfl) (VO.w (.lss rfl rfl) (VO.z (.pF rfl rfl) (VO.as ?_)))
 refine VO.clsP 114 [109,104,105,106,107,108] rfl (fun hg14=>(Q7 d0 hg14 QG QG q3_5 q3_6 q3_7 q3_8 q3_9)) (fun mc14 ho14=>?_)
 refine VO.p2 114 0 (VO.k6 0 1 2 6 8 11 ?_)
 refine VC.cond rfl (fun hc15=>?_) (fun hc15=>?_)
 refine VC.rs (VO.as (VO.k6 0 1 2 6 8 11 (VC.ret (JO (QZ ?_)))))
 exact Zs 6 114 rfl ho14 (by first | rfl | exact Jb) (by first | rfl | exact Jb)
 refine VC.skip (JL (Qm (VC.rs (VO.mv (VO.mv (VO.mv (VO.z (.nilp rfl) (VO.z (.fa rfl J9 rfl) ?_))))))))
 obtain ⟨q16_E,q16_A5,q16_c5,q16_A6,q16_c6,q16_A7,q16_c7,q16_A8,q16_c8,q16_A9,q16_c9,q16_n5,q16_n6,q16_n7,q16_n8,q16_n9,_,q16_S,q16_3,q16_4,q16_5,q16_6,q16_7,q16_8,q16_9⟩:=QF ho14
 simp only [inK] at q16_3 q16_4
 have q16_r5:=q16_5.rm
 have q16_r6:=q16_6.rm
 have q16_r7:=q16_7.rm
 have q16_r8:=q16_8.rm
 have q16_r9:=q16_9.rm
 refine VO.inv _ (fun _ h=>h.parts (i:=114) rfl q16_S [122,117,118,119,120,121]) ?_
 refine VO.z (.ld1 122 rfl Qgs rfl (Qa rfl rfl)) (VO.z (.lenS rfl QcO) (VO.z (.minM rfl rfl) ?_))
 refine VO.clsP 124 [122,117,118,119,120,121] rfl (fun hg24=>(Q7 d0 hg24 QG QG q16_5 q16_6 q16_7 q16_8 q16_9)) (fun mc24 ho24=>?_)
 refine VO.call 124 rfl Qpq rfl rfl (fun W hW=>QgV W (hW.t 124) ho24 (min d1 ((d0.2.2.2.2.2.2.length:Nat):Int)) QG Qo JU JU) (fun v23 m23 hv23=>?_)
 obtain ⟨rfl,w23_0⟩:=hv23
 have hfa25:=(QfB (min d1 ((d0.2.2.2.2.2.2.length:Nat):Int)).toNat (show okD d0 by assumption))
 have hfa26:=(Qe4 d0 (min d1 ((d0.2.2.2.2.2.2.length:Nat):Int)).toNat)
 refine VO.k6 0 1 2 6 8 11 (VC.seq (VC.rs (VO.mv (VO.z (.nilp rfl) (VO.z (.fa rfl J9 rfl) ?_)))))
 obtain ⟨q27_E,q27_A5,q27_c5,q27_A6,q27_c6,q27_A7,q27_c7,q27_A8,q27_c8,q27_A9,q27_c9,q27_n5,q27_n6,q27_n7,q27_n8,q27_n9,_,q27_S,q27_3,q27_4,q27_5,q27_6,q27_7,q27_8,q27_9⟩:=QF w23_0
 simp only [inK] at q27_3 q27_4
 have q27_r5:=q27_5.rm
 have q27_r6:=q27_6.rm
 have q27_r7:=q27_7.rm
 have q27_r8:=q27_8.rm
 have q27_r9:=q27_9.rm
 refine VO.inv _ (fun _ h=>h.parts (i:=124) rfl q27_S [133,128,129,130,131,132]) ?_
 refine VO.z (.ld1 133 rfl Qgs rfl (Qa rfl rfl)) (VO.z (.lenS rfl QcO) (VO.z (.gtr rfl rfl) (VO.mv ?_)))
 refine VO.dec (t:=40) rfl (fun hc34=>?_) (fun hc34=>?_)
 refine VO.w (.mv rfl) (VO.w (.nilp rfl) (VO.w (.fa rfl J9 rfl) (VO.w (.ld1 133 rfl Qgs rfl (Qa rfl rfl)) ?_)))
 obtain ⟨x35,hx35⟩:∃ z_,((ZN d0 (min d1 ((d0.2.2.2.2.2.2.length:Nat):Int)).toNat).2.2.2.2.2.2)[0]? =some z_:=⟨_,List.getElem?_eq_getElem JU⟩
 obtain ⟨gg35,oo35,ec35,ea35,hce35,hre35⟩:=(Ow.rd q27_9 (Qc _)).elem hx35
 cases ea35
 obtain ⟨q35_A2,q35_c2,rfl,q35_0,q35_1,q35_2,q35_3⟩:=XQ (x0:=x35.1) (x1:=x35.2.1) (x2:=x35.2.2.1) (x3:=x35.2.2.2) hre35
 simp only [inK] at q35_0 q35_1
 have q35_r2:=Rd.room q35_2
 simp only [inK] at q35_3
 refine VO.w (.ixI 0 rfl rfl QcO rfl JU) ?_
 refine VO.w (.fa rfl Qa8 rfl) ?_
 refine VO.w (.ld1 132 rfl tk3 rfl (hce35.at1 (j:=0) rfl)) ?_
 refine VO.w (.eql rfl rfl) (VO.z (.pT rfl rfl) ?_)
 refine VO.clsP 136 [133,128,129,130,131,132] rfl (fun hg36=>(Q7 (ZN d0 (min d1 ((d0.2.2.2.2.2.2.length:Nat):Int)).toNat) hg36 QG QG q27_5 q27_6 q27_7 q27_8 q27_9)) (fun mc36 ho36=>?_)
 refine VO.k7 0 1 2 6 8 11 49 ?_
 refine VC.cond rfl (fun hc37=>?_) (fun hc37=>?_)
 refine VC.rs (VO.mv (VO.z (.nilp rfl) (VO.z (.fa rfl J9 rfl) ?_)))
 obtain ⟨q38_E,q38_A5,q38_c5,q38_A6,q38_c6,q38_A7,q38_c7,q38_A8,q38_c8,q38_A9,q38_c9,q38_n5,q38_n6,q38_n7,q38_n8,q38_n9,_,q38_S,q38_3,q38_4,q38_5,q38_6,q38_7,q38_8,q38_9⟩:=QF ho36
 simp only [inK] at q38_3 q38_4
 have q38_r5:=q38_5.rm
 have q38_r6:=q38_6.rm
 have q38_r7:=q38_7.rm
 have q38_r8:=q38_8.rm
 have q38_r9:=q38_9.rm
 refine VO.inv _ (fun _ h=>h.parts (i:=136) rfl q38_S [144,139,140,141,142,143]) ?_
 refine VO.z (.ld1 144 rfl Qgs rfl (Qa rfl rfl)) ?_
 obtain ⟨x45,hx45⟩:∃ z_,((ZN d0 (min d1 ((d0.2.2.2.2.2.2.length:Nat):Int)).toNat).2.2.2.2.2.2)[0]? =some z_:=⟨_,List.getElem?_eq_getElem JU⟩
 obtain ⟨gg45,oo45,ec45,ea45,hce45,hre45⟩:=(Ow.rd q38_9 (Qc _)).elem hx45
 cases ea45
 obtain ⟨q45_A2,q45_c2,rfl,q45_0,q45_1,q45_2,q45_3⟩:=XQ (x0:=x45.1) (x1:=x45.2.1) (x2:=x45.2.2.1) (x3:=x45.2.2.2) hre45
 simp only [inK] at q45_0 q45_1
 have q45_r2:=Rd.room q45_2
 simp only [inK] at q45_3
 refine VO.z (.ixI 0 rfl rfl QcO rfl JU) ?_
 refine VO.z (.ldA 143 rfl Qc7 rfl hce45) ?_
 refine VO.alloc 147 rfl Qg9 (fun g46=>?_)
 refine VO.store (k:=4) (c':=[.int .i64 (x45.1),.int .i64 (x45.2.1),.slice q45_A2 (x45.2.2.1.length) (q45_c2),.int .i64 (x45.2.2.2)]) 147 rfl rfl (.inl Qc7) rfl rfl rfl rfl rfl ?_
 refine VO.p8 147 144 139 140 141 142 143 0 (VO.k8 0 1 2 6 7 8 11 49 (VC.rs ?_))
 have hxe:x45=x35:=Option.some.inj (hx45.symm.trans hx35)
 subst hxe
 refine VO.z (.fa rfl Qa8 rfl) (VO.z (.ld1 147 rfl Y4 rfl (Qa rfl rfl)) (VO.mv (VO.z (.fa rfl Qa8 rfl) (VO.z (.ld1 147 rfl Y4 rfl (Qa rfl rfl)) (VO.z (.lenS rfl Ji) ?_)))))
 refine VO.z (.sub rfl rfl rfl ⟨by exact JU,by exact JU⟩) ?_
 refine VO.z (.minM rfl rfl) ?_
 have hs48:=q45_2.pre (j:=((min d2 (((x45.2.2.1.length:Nat):Int) - 1)).toNat)) JU
 refine VO.z (.slHI ((min d2 (((x45.2.2.1.length:Nat):Int) - 1)).toNat) rfl rfl Ji JU JU) ?_
 refine VO.z (.fa rfl Qa8 rfl) ?_
 refine VO.store (k:=1) (c':=[.int .i64 (x45.1),.int .i64 (x45.2.1),.slice q45_A2 ((min d2 (((x45.2.2.1.length:Nat):Int) - 1)).toNat) (q45_c2),.int .i64 (x45.2.2.2)]) 147 rfl rfl (.inr ⟨Y4,rfl⟩) rfl rfl rfl rfl rfl ?_
 refine VO.k8 0 1 2 6 7 8 11 49 ?_
 refine VC.regD _ 14 [(0,true),(1,true),(2,true),(3,true),(4,true),(5,true),(6,true),(7,true),(8,true),(9,true),(10,true),(12,true),(13,true),(11,false)] follows (by kernel_rfl) (fun _ h=>h.sub [147,144,143,0]) ?_
 refine VD.z rfl (.mv rfl) (VD.z rfl (.fa rfl Qa8 rfl) (VD.z rfl (.ld1 147 rfl tk3 rfl (Qa rfl rfl)) (VD.z rfl (.mv rfl) (VD.z rfl (.fa rfl Qa8 rfl) (VD.z rfl (.ld1 147 rfl tk3 rfl (Qa rfl rfl)) (VD.z rfl (.nilp rfl) (VD.z rfl (.fa rfl J9 rfl) ?_)))))))
 rcases (show x45.2.1=(0:Int)∨x45.2.1=(1:Int)∨x45.2.1=(2:Int)∨x45.2.1=(3:Int) from by exact JU) with hi49 | hi49 | hi49 | hi49
 refine VD.z rfl (.ixa (i:=0) (o:=5) rfl rfl Ya hi49 rfl rfl) ?_
 refine VD.z rfl (.ld1 144 rfl Y4 rfl (Qa rfl rfl)) (VD.z rfl (.ldA 147 rfl Qc7 rfl (Qa rfl rfl)) (VD.z rfl (.nilp rfl) (VD.z rfl (.fa rfl J9 rfl) ?_)))
 refine VD.call 139 rfl rfl (.inl rfl) QdO rfl rfl (fun _ _ h=>h.sub [147,144,143,0]) (fun W hW=>QaB W (hW.t 139) q38_5 (QbR (m:=J4 (wm W) (q38_n5)) x45.1 x45.2.1 ((x45.2.2.1).take ((min d2 (((x45.2.2.1.length:Nat):Int) - 1)).toNat)) x45.2.2.2 QG QG (Rd.mono hs48 (hW.o 139 143)) QG) (by intro h_;omega) (by (have h_:=(Qbt Qo ‹_[0]? =some _›).2.2;first | (rw [Xv ‹_=(0:Int)›] at h_;simp only [List.length_take];omega) | (rw [Xu ‹_=(1:Int)›] at h_;simp only [List.length_take];omega) | (rw [Xt ‹_=(2:Int)›] at h_;simp only [List.length_take];omega) | (rw [Xs ‹_=(3:Int)›] at h_;simp only [List.length_take];omega)))) (fun v50 m50 hv50=>?_)
 try dsimp only at hv50
 obtain ⟨s50_0,rfl,f50_0⟩:=hv50
 obtain ⟨A50_0,c50_0,eq50_0,l50_0,k50_0⟩:=f50_0.slc
 subst eq50_0
 refine VD.nil rfl ?_ rfl
 refine VO.z (.ixa (i:=0) (o:=5) rfl rfl Ya hi49 rfl rfl) ?_
 refine VO.s1 144 Y4 ?_
 refine VO.k8 0 1 2 6 7 8 11 49 (Qm (VC.rs (VO.mv (VO.mv (VO.mv (VO.mv (VO.z (.nilp rfl) (VO.z (.fa rfl J9 rfl) ?_))))))))
 refine VO.s1 144 Qgs ?_
 refine VO.z (.nilp rfl) (VO.z (.fa rfl J9 rfl) ?_)
 refine VO.s1 144 tk4 ?_
 refine VO.z (.nilp rfl) (VO.z (.fa rfl J9 rfl) ?_)
 refine VO.s1 144 tk4 ?_
 refine VO.z (.nilp rfl) (VO.z (.fa rfl J9 rfl) ?_)
 refine VO.s1 144 tk3 ?_
 refine VO.clsP 151 [144,139,140,141,142] rfl (fun hg51=>(JM _ _ _ _ _ _ _ _ _ _ (QA.nilAt 5 hg51) QG QG f50_0 q38_6 q38_7 q38_8 (Ow.nil _ _))) (fun mc51 ho51=>?_)
 refine VO.p4 151 147 143 0 (VO.k8 0 1 2 6 7 8 11 49 (VC.rs (VO.as (VO.k8 0 1 2 6 7 8 11 49 (VC.ret ?_)))))
 exact Zs 6 151 rfl ho51 (by first | rfl | exact Jb) (by first | rfl | exact Jb)
 refine VD.z rfl (.ixa (i:=1) (o:=6) rfl rfl Ya hi49 rfl rfl) ?_
 refine VD.z rfl (.ld1 144 rfl Y4 rfl (Qa rfl rfl)) (VD.z rfl (.ldA 147 rfl Qc7 rfl (Qa rfl rfl)) (VD.z rfl (.nilp rfl) (VD.z rfl (.fa rfl J9 rfl) ?_)))
 refine VD.call 140 rfl rfl (.inl rfl) QdO rfl rfl (fun _ _ h=>h.sub [147,144,143,0]) (fun W hW=>QaB W (hW.t 140) q38_6 (QbR (m:=J4 (wm W) (q38_n6)) x45.1 x45.2.1 ((x45.2.2.1).take ((min d2 (((x45.2.2.1.length:Nat):Int) - 1)).toNat)) x45.2.2.2 QG QG (Rd.mono hs48 (hW.o 140 143)) QG) (by intro h_;omega) (by (have h_:=(Qbt Qo ‹_[0]? =some _›).2.2;first | (rw [Xv ‹_=(0:Int)›] at h_;simp only [List.length_take];omega) | (rw [Xu ‹_=(1:Int)›] at h_;simp only [List.length_take];omega) | (rw [Xt ‹_=(2:Int)›] at h_;simp only [List.length_take];omega) | (rw [Xs ‹_=(3:Int)›] at h_;simp only [List.length_take];omega)))) (fun v52 m52 hv52=>?_)
 try dsimp only at hv52
 obtain ⟨s52_0,rfl,f52_0⟩:=hv52
 obtain ⟨A52_0,c52_0,eq52_0,l52_0,k52_0⟩:=f52_0.slc
 subst eq52_0
 refine VD.nil rfl ?_ rfl
 refine VO.z (.ixa (i:=1) (o:=6) rfl rfl Ya hi49 rfl rfl) ?_
 refine VO.s1 144 Y4 ?_
 refine VO.k8 0 1 2 6 7 8 11 49 (Qm (VC.rs (VO.mv (VO.mv (VO.mv (VO.mv (VO.z (.nilp rfl) (VO.z (.fa rfl J9 rfl) ?_))))))))
 refine VO.s1 144 Qgs ?_
 refine VO.z (.nilp rfl) (VO.z (.fa rfl J9 rfl) ?_)
 refine VO.s1 144 tk4 ?_
 refine VO.z (.nilp rfl) (VO.z (.fa rfl J9 rfl) ?_)
 refine VO.s1 144 tk4 ?_
 refine VO.z (.nilp rfl) (VO.z (.fa rfl J9 rfl) ?_)
 refine VO.s1 144 tk3 ?_
 refine VO.clsP 153 [144,139,140,141,142] rfl (fun hg53=>(JM _ _ _ _ _ _ _ _ _ _ (QA.nilAt 5 hg53) QG QG q38_5 f52_0 q38_7 q38_8 (Ow.nil _ _))) (fun mc53 ho53=>?_)
 refine VO.p4 153 147 143 0 (VO.k8 0 1 2 6 7 8 11 49 (VC.rs (VO.as (VO.k8 0 1 2 6 7 8 11 49 (VC.ret ?_)))))
 exact Zs 6 153 rfl ho53 (by first | rfl | exact Jb) (by first | rfl | exact Jb)
 refine VD.z rfl (.ixa (i:=2) (o:=7) rfl rfl Ya hi49 rfl rfl) ?_
 refine VD.z rfl (.ld1 144 rfl Y4 rfl (Qa rfl rfl)) (VD.z rfl (.ldA 147 rfl Qc7 rfl (Qa rfl rfl)) (VD.z rfl (.nilp rfl) (VD.z rfl (.fa rfl J9 rfl) ?_)))
 refine VD.call 141 rfl rfl (.inl rfl) QdO rfl rfl (fun _ _ h=>h.sub [147,144,143,0]) (fun W hW=>QaB W (hW.t 141) q38_7 (QbR (m:=J4 (wm W) (q38_n7)) x45.1 x45.2.1 ((x45.2.2.1).take ((min d2 (((x45.2.2.1.length:Nat):Int) - 1)).toNat)) x45.2.2.2 QG QG (Rd.mono hs48 (hW.o 141 143)) QG) (by intro h_;omega) (by (have h_:=(Qbt Qo ‹_[0]? =some _›).2.2;first | (rw [Xv ‹_=(0:Int)›] at h_;simp only [List.length_take];omega) | (rw [Xu ‹_=(1:Int)›] at h_;simp only [List.length_take];omega) | (rw [Xt ‹_=(2:Int)›] at h_;simp only [List.length_take];omega) | (rw [Xs ‹_=(3:Int)›] at h_;simp only [List.length_take];omega)))) (fun v54 m54 hv54=>?_)
 try dsimp only at hv54
 obtain ⟨s54_0,rfl,f54_0⟩:=hv54
 obtain ⟨A54_0,c54_0,eq54_0,l54_0,k54_0⟩:=f54_0.slc
 subst eq54_0
 refine VD.nil rfl ?_ rfl
 refine VO.z (.ixa (i:=2) (o:=7) rfl rfl Ya hi49 rfl rfl) ?_
 refine VO.s1 144 Y4 ?_
 refine VO.k8 0 1 2 6 7 8 11 49 (Qm (VC.rs (VO.mv (VO.mv (VO.mv (VO.mv (VO.z (.nilp rfl) (VO.z (.fa rfl J9 rfl) ?_))))))))
 refine VO.s1 144 Qgs ?_
 refine VO.z (.nilp rfl) (VO.z (.fa rfl J9 rfl) ?_)
 refine VO.s1 144 tk4 ?_
 refine VO.z (.nilp rfl) (VO.z (.fa rfl J9 rfl) ?_)
 refine VO.s1 144 tk4 ?_
 refine VO.z (.nilp rfl) (VO.z (.fa rfl J9 rfl) ?_)
 refine VO.s1 144 tk3 ?_
 refine VO.clsP 155 [144,139,140,141,142] rfl (fun hg55=>(JM _ _ _ _ _ _ _ _ _ _ (QA.nilAt 5 hg55) QG QG q38_5 q38_6 f54_0 q38_8 (Ow.nil _ _))) (fun mc55 ho55=>?_)
 refine VO.p4 155 147 143 0 (VO.k8 0 1 2 6 7 8 11 49 (VC.rs (VO.as (VO.k8 0 1 2 6 7 8 11 49 (VC.ret ?_)))))
 exact Zs 6 155 rfl ho55 (by first | rfl | exact Jb) (by first | rfl | exact Jb)
 refine VD.z rfl (.ixa (i:=3) (o:=8) rfl rfl Ya hi49 rfl rfl) ?_
 refine VD.z rfl (.ld1 144 rfl Y4 rfl (Qa rfl rfl)) (VD.z rfl (.ldA 147 rfl Qc7 rfl (Qa rfl rfl)) (VD.z rfl (.nilp rfl) (VD.z rfl (.fa rfl J9 rfl) ?_)))
 refine VD.call 142 rfl rfl (.inl rfl) QdO rfl rfl (fun _ _ h=>h.sub [147,144,143,0]) (fun W hW=>QaB W (hW.t 142) q38_8 (QbR (m:=J4 (wm W) (q38_n8)) x45.1 x45.2.1 ((x45.2.2.1).take ((min d2 (((x45.2.2.1.length:Nat):Int) - 1)).toNat)) x45.2.2.2 QG QG (Rd.mono hs48 (hW.o 142 143)) QG) (by intro h_;omega) (by (have h_:=(Qbt Qo ‹_[0]? =some _›).2.2;first | (rw [Xv ‹_=(0:Int)›] at h_;simp only [List.length_take];omega) | (rw [Xu ‹_=(1:Int)›] at h_;simp only [List.length_take];omega) | (rw [Xt ‹_=(2:Int)›] at h_;simp only [List.length_take];omega) | (rw [Xs ‹_=(3:Int)›] at h_;simp only [List.length_take];omega)))) (fun v56 m56 hv56=>?_)
 try dsimp only at hv56
 obtain ⟨s56_0,rfl,f56_0⟩:=hv56
 obtain ⟨A56_0,c56_0,eq56_0,l56_0,k56_0⟩:=f56_0.slc
 subst eq56_0
 refine VD.nil rfl ?_ rfl
 refine VO.z (.ixa (i:=3) (o:=8) rfl rfl Ya hi49 rfl rfl) ?_
 refine VO.s1 144 Y4 ?_
 refine VO.k8 0 1 2 6 7 8 11 49 (Qm (VC.rs (VO.mv (VO.mv (VO.mv (VO.mv (VO.z (.nilp rfl) (VO.z (.fa rfl J9 rfl) ?_))))))))
 refine VO.s1 144 Qgs ?_
 refine VO.z (.nilp rfl) (VO.z (.fa rfl J9 rfl) ?_)
 refine VO.s1 144 tk4 ?_
 refine VO.z (.nilp rfl) (VO.z (.fa rfl J9 rfl) ?_)
 refine VO.s1 144 tk4 ?_
 refine VO.z (.nilp rfl) (VO.z (.fa rfl J9 rfl) ?_)
 refine VO.s1 144 tk3 ?_
 refine VO.clsP 157 [144,139,140,141,142] rfl (fun hg57=>(JM _ _ _ _ _ _ _ _ _ _ (QA.nilAt 5 hg57) QG QG q38_5 q38_6 q38_7 f56_0 (Ow.nil _ _))) (fun mc57 ho57=>?_)
 refine VO.p4 157 147 143 0 (VO.k8 0 1 2 6 7 8 11 49 (VC.rs (VO.as (VO.k8 0 1 2 6 7 8 11 49 (VC.ret ?_)))))
 exact Zs 6 157 rfl ho57 (by first | rfl | exact Jb) (by first | rfl | exact Jb)
 refine VC.skip (Qm (VC.rs (VO.mv (VO.mv (VO.mv (VO.mv (VO.z (.nilp rfl) (VO.z (.fa rfl J9 rfl) ?_))))))))
 obtain ⟨q58_E,q58_A5,q58_c5,q58_A6,q58_c6,q58_A7,q58_c7,q58_A8,q58_c8,q58_A9,q58_c9,q58_n5,q58_n6,q58_n7,q58_n8,q58_n9,_,q58_S,q58_3,q58_4,q58_5,q58_6,q58_7,q58_8,q58_9⟩:=QF ho36
 simp only [inK] at q58_3 q58_4
 have q58_r5:=q58_5.rm
 have q58_r6:=q58_6.rm
 have q58_r7:=q58_7.rm
 have q58_r8:=q58_8.rm
 have q58_r9:=q58_9.rm
 refine VO.inv _ (fun _ h=>h.parts (i:=136) rfl q58_S [164,159,160,161,162,163]) ?_
 refine VO.s1 164 Qgs ?_
 refine VO.z (.nilp rfl) (VO.z (.fa rfl J9 rfl) ?_)
 refine VO.s1 164 tk4 ?_
 refine VO.z (.nilp rfl) (VO.z (.fa rfl J9 rfl) ?_)
 refine VO.s1 164 tk4 ?_
 refine VO.z (.nilp rfl) (VO.z (.fa rfl J9 rfl) ?_)
 refine VO.s1 164 tk3 ?_
 refine VO.clsP 165 [164,159,160,161,162] rfl (fun hg65=>(JM _ _ _ _ _ _ _ _ _ _ (QA.nilAt 5 hg65) QG QG q58_5 q58_6 q58_7 q58_8 (Ow.nil _ _))) (fun mc65 ho65=>?_)
 refine VO.p2 165 0 (VO.k7 0 1 2 6 8 11 49 (VC.rs (VO.as (VO.k7 0 1 2 6 8 11 49 (VC.ret ?_)))))
 exact Zs 6 165 rfl ho65 (by first | rfl | exact Jb) (by first | rfl | exact Jb)
 refine VO.gN (VO.gN (VO.gN (VO.gN (VO.gN (VO.gN (VO.gN (VO.gN (VO.z (.pF rfl rfl) ?_))))))))
 refine VO.clsP 166 [133,128,129,130,131,132] rfl (fun hg66=>(Q7 (ZN d0 (min d1 ((d0.2.2.2.2.2.2.length:Nat):Int)).toNat) hg66 QG QG q27_5 q27_6 q27_7 q27_8 q27_9)) (fun mc66 ho66=>?_)
 refine VO.k7 0 1 2 6 8 11 49 (VC.condF rfl (VC.skip (Qm (VC.rs (VO.mv (VO.mv (VO.mv (VO.mv (VO.z (.nilp rfl) (VO.z (.fa rfl J9 rfl) ?_))))))))))
 obtain ⟨q67_E,q67_A5,q67_c5,q67_A6,q67_c6,q67_A7,q67_c7,q67_A8,q67_c8,q67_A9,q67_c9,q67_n5,q67_n6,q67_n7,q67_n8,q67_n9,_,q67_S,q67_3,q67_4,q67_5,q67_6,q67_7,q67_8,q67_9⟩:=QF ho66
 simp only [inK] at q67_3 q67_4
 have q67_r5:=q67_5.rm
 have q67_r6:=q67_6.rm
 have q67_r7:=q67_7.rm
 have q67_r8:=q67_8.rm
 have q67_r9:=q67_9.rm
 refine VO.inv _ (fun _ h=>h.parts (i:=166) rfl q67_S [173,168,169,170,171,172]) ?_
 refine VO.s1 173 Qgs ?_
 refine VO.z (.nilp rfl) (VO.z (.fa rfl J9 rfl) ?_)
 refine VO.s1 173 tk4 ?_
 refine VO.z (.nilp rfl) (VO.z (.fa rfl J9 rfl) ?_)
 refine VO.s1 173 tk4 ?_
 refine VO.z (.nilp rfl) (VO.z (.fa rfl J9 rfl) ?_)
 refine VO.s1 173 tk3 ?_
 refine VO.clsP 174 [173,168,169,170,171] rfl (fun hg74=>(JM _ _ _ _ _ _ _ _ _ _ (QA.nilAt 5 hg74) QG QG q67_5 q67_6 q67_7 q67_8 (Ow.nil _ _))) (fun mc74 ho74=>?_)
 refine VO.p2 174 0 (VO.k7 0 1 2 6 8 11 49 (VC.rs (VO.as (VO.k7 0 1 2 6 8 11 49 (VC.ret ?_)))))
 exact Zs 6 174 rfl ho74 (by first | rfl | exact Jb) (by first | rfl | exact Jb)
section
def QdD (h : DH) : DH := (-h.1 - 1, h.2.1, h.2.2)
def hdO (h : DH) : Hd := h.2.2
variable {mo : Mem} {hss l : List (List DH)} {d was : List (List Qe)} {p k : Nat} {x : List DH} {y : List Qe} {a : DH} {b : Qe}
theorem Qnf (hF:F2 (F2 (Pc TOp mo)) hss d) (hl:l=hss.map (List.map QdD)) (hw:was=d) (hx:l[p]? =some x) (hy:was[p]? =some y):∃ h,x=h.map QdD∧F2 (Pc TOp mo) h y:=by
 rw [hl,List.getElem?_map] at hx
 obtain ⟨h,hh,rfl⟩:=Option.map_eq_some_iff.1 hx
 obtain ⟨y',hy',hp⟩:=hF.get hh
 rw [hw,hy'] at hy
 obtain rfl:=Option.some.inj hy
 exact ⟨h,rfl,hp⟩
theorem Qp5 (hF:F2 (F2 (Pc TOp mo)) hss d) (hl:l=hss.map (List.map QdD)) (hw:was=d) (hx:l[p]? =some x) (hy:was[p]? =some y):x.length=y.length:=by
 obtain ⟨h,rfl,hp⟩:=Qnf hF hl hw hx hy
 rw [List.length_map,hp.len]
theorem hdr_at (hF:F2 (F2 (Pc TOp mo)) hss d) (hl:l=hss.map (List.map QdD)) (hw:was=d) (hx:l[p]? =some x) (hy:was[p]? =some y) (ha:x[k]? =some a) (hb:y[k]? =some b):a.1= -b.1 - 1:=by
 obtain ⟨h,rfl,hp⟩:=Qnf hF hl hw hx hy
 rw [List.getElem?_map] at ha
 obtain ⟨h0,hh,rfl⟩:=Option.map_eq_some_iff.1 ha
 obtain ⟨b',hb',hq⟩:=hp.get hh
 rw [hb'] at hb
 obtain rfl:=Option.some.inj hb
 show -h0.1 - 1=_
 rw [hq.1]
theorem Qi2 {α β:Type} {f:α→β} {o:List β} {hs:List (List α)} {i:Nat} {r:List α} (h:o=(hs.take i).flatten.map f) (hr:hs[i]? =some r):o++r.map f=(hs.take (i+1)).flatten.map f:=by
 rw [QbI hr,List.flatten_append,List.map_append,h];simp
theorem QnD {α β:Type} {f:α→β} {o:List β} {hs:List (List α)} {i:Nat} {r:List α} (h:o=(hs.take i).flatten.map f) (hr:hs[i]? =some r):o.length+r.length≤hs.flatten.length:=by
 have h1:=congrArg List.length (Qi2 h hr)
 have h3:=congrArg (fun l=>l.flatten.length) (List.take_append_drop (i+1) hs)
 simp only [List.flatten_append,List.length_append] at h3
 simp only [List.length_append,List.length_map] at h1
 omega
theorem QoJ {α β:Type} {R:α→β→Prop} {hs:List (List α)} {d:List (List β)} (h:F2 (F2 R) hs d):hs.flatten.length=d.flatten.length:=by
 induction h with
 | nil=>rfl
 | cons h _ ih=>simp only [List.flatten_cons,List.length_append,h.len,ih]
theorem Qor {n j:Nat} {d:List (List Qe)} (h:∀ x∈d,∀ c∈x,c.2.2.length≤n∧∀ o∈c.2.2,o.2.1.length≤j):∀ x∈d.flatten.map (fun x=>x.2.2),x.length≤n∧∀ o∈x,o.2.1.length≤j:=fun x hx=>by
 obtain ⟨c,hc,rfl⟩:=List.mem_map.1 hx
 obtain ⟨r,hr,hcr⟩:=List.mem_flatten.1 hc
 exact h r hr c hcr
end
theorem Qnu:JR Tryz.prog 40=true:=by kernel_rfl
theorem fnOk54:JR Tryz.prog 54=true:=by kernel_rfl
theorem fnOk55:JR Tryz.prog 55=true:=by kernel_rfl
theorem fnOk56:JR Tryz.prog 56=true:=by kernel_rfl
theorem fnOk57:JR Tryz.prog 57=true:=by kernel_rfl
theorem Qc3:tsl Tryz.prog 43=some (41,1,24):=by kernel_rfl
theorem QoY (W:World) {v0:Value} {d0:List DHC} (h0:Rd (.sl THC) (wm W) [v0] d0) (e0:d0.length≤3518437200000):Qi Tryz.prog 55 [v0] W (Qx) (fun v m'=>∃ (s0:Value),v=s0∧Ow (.sl .hdr) m' [s0] (d0.map hdO)):=by
 obtain ⟨A0,c0,rfl,l0,k0⟩:=h0.slc
 refine Qi.ofA (n:=20) Tryz.func55 rfl rfl rfl ?_
 refine VC.rs (VO.as (VO.k2 0 2 (VC.rs (VO.as (VO.k3 0 2 3 (VC.seq (VC.rs (VO.as (VO.p1 0 (VO.k4 0 2 3 4 (VC.block ?_)))))))))))
 refine VC.inv ((101,Qx)::_) (fun _ h=>h.nilc 101) ?_
 refine VC.loop (G:=Nat × (List Hd) × (Option Addr) × Nat × Mem) (fun g=>[(3,.slice (g.2.2.1) ((g.2.1).length) ((g.2.2.2.1))),(4,.int .i64 ((((g.1):Nat):Int))),(0,.slice A0 (d0.length) (c0)),(2,.slice none (0) (0))]) (fun g=>[(101,(g.2.2.2.2)),(0,wm W)]) (fun g=>((g.1)≤d0.length)∧((g.2.1)=(d0.take (g.1)).map hdO)∧(QH .hdr (g.2.2.2.2) Qx (.slice (g.2.2.1) (g.2.1).length (g.2.2.2.1)) (g.2.1))) (fun g=>d0.length - (g.1)) (0,[],none,0,Qx) (⟨by omega,by rfl,(QH.nil .hdr Qx Qx)⟩) ⟨esn,fun _ h=>h.sub [101,0]⟩ ?_
 rintro ⟨k,out,out_A,out_c,out_m⟩ ⟨hk,ho,h_out⟩
 replace hk:k≤d0.length:=hk
 replace ho:out=(d0.take k).map hdO:=ho
 replace h_out:QH .hdr out_m Qx (.slice out_A out.length out_c) out:=h_out
 show VC _ _ _ _ _ [(3,.slice out_A (out.length) (out_c)),(4,.int .i64 (((k:Nat):Int))),(0,.slice A0 (d0.length) (c0)),(2,.slice none (0) (0))] [(101,out_m),(0,wm W)]
 have l_out:out.length≤out_c:=by obtain ⟨_,_,he,hl,_⟩:=h_out.slice;simp only [Value.slice.injEq] at he;omega
 have k_out:out_c≤9223372036854775807:=by obtain ⟨_,_,he,_,hl⟩:=h_out.slice;simp only [Value.slice.injEq,maxLen] at he hl;omega
 have hlo:out.length≤k:=by rw [ho];simp;omega
 refine VC.seq (VC.rs (VO.mv (VO.mv (VO.z (.lenS rfl Jx) (VO.z (.lss rfl rfl) (VO.k5 0 2 3 4 8 ?_))))))
 refine VC.cond rfl (fun hc2=>?_) (fun hc2=>?_)
 ·refine VC.skip (Qm (VC.seq (VC.block ?_)))
  refine VC.reg ?_
  refine VO.mv (VO.mv (VO.mv ?_))
  obtain ⟨x3,hx3⟩:∃ z_,(d0)[k]? =some z_:=⟨_,List.getElem?_eq_getElem bd⟩
  obtain ⟨gg3,oo3,ec3,ea3,hce3,hre3⟩:=h0.elem hx3
  cases ea3
  obtain ⟨rfl,q3_0,q3_1⟩:=Qho (x0:=x3.1) (x1:=x3.2.1) (x2:=x3.2.2) hre3
  simp only [inK] at q3_0 q3_1
  refine VO.z (.ixI k rfl rfl Jx rfl bd) ?_
  refine VO.z (.fa rfl Jq rfl) ?_
  refine VO.z (.ld1 0 rfl Qc6 rfl (hce3.at1 (j:=2) rfl)) ?_
  refine VO.bsl (cs:=[.slice x3.2.2.1 (x3.2.2.2.1) (x3.2.2.2.2)]) 105 rfl rfl QcN tz35 rfl rfl (fun g4=>?_)
  obtain ⟨mo6,cs6,hM6,hA6,hC6⟩:=h_out
  refine VO.app 101 rfl rfl rfl QcN tz35 rfl rfl hM6 hA6 (.row 105 _ _ _ 1 1 _ _ Tryz.underlying77 rfl (Qa rfl rfl)) (by simp [Value.oneCell']) bdm bd (by decide) (fun v6 m6 hN6=>?_)
  have ho6:QH .hdr m6 Qx v6 (out++[x3.2.2]):=QH.one hC6 hN6 (show Rd .hdr _ [_] _ from rfl)
  obtain ⟨A6,c6,rfl,l6,k6⟩:=ho6.slc
  refine VO.as (VO.k5 0 2 3 4 8 (JL (Qm ?_)))
  refine VC.reg ?_
  refine VO.mv ?_
  refine VO.z (.add (c:=((k+1:Nat):Int)) rfl rfl Qn ⟨bd,bd⟩) ?_
  refine VO.as (VO.p2 101 0 (VO.k5 0 2 3 4 8 ?_))
  exact Qm ⟨⟨k+1,out++[x3.2.2],A6,c6,m6⟩,⟨by omega,by (rw [ho,QbI ‹d0[k]? =some _›,List.map_append];rfl),ho6⟩,bd,⟨esn,fun _ h=>Inv.sub h [101,0]⟩⟩
 ·refine VC.exit (Zh (Zh (Zi (Qm (VC.rs (VO.mv (VO.as (VO.k5 0 2 3 4 8 (VC.ret ?_)))))))))
  refine Yd 2 [101] fun hS_=>?_
  dsimp only [QE]
  exact ⟨Value.slice out_A (out.length) (out_c),(by first | rfl | (simp [*];done)),(Ow.cg (Ow.up (QH.ow h_out rfl) (hS_.1 _ (.head _))) (by first | rfl | (rw [ho,List.take_of_length_le Qn])))⟩
theorem Qgc (W:World) {m0:Mem} (hm:mle (m0) (wm W)) {v0:Value} {d0:List DHC} (h0:Ow (.sl THC) m0 [v0] d0):Qi Tryz.prog 56 [v0] W (m0) (fun v m'=>v= .tuple #[]∧Ow (.sl THC) m' [v0] (d0.map QdD)):=by
 obtain ⟨A0,c0,e0_,l0,k0⟩:=h0.slc
 subst e0_
 refine Qi.ofB (n:=30) hm Tryz.func56 rfl rfl rfl ?_
 refine VC.rs (VO.mv (VO.z (.capS rfl Jx) (VO.as (VO.k2 0 2 (VC.seq (VC.rs (VO.as (VO.k3 0 2 3 (VC.block ?_)))))))))
 refine VC.loop (G:=Nat × (List DHC) × Mem) (fun g=>[(0,.slice A0 (d0.length) (c0)),(3,.int .i64 ((((g.1):Nat):Int))),(2,.int .i64 (((c0:Nat):Int)))]) (fun g=>[(0,J4 (wm W) (m0)),(1,(g.2.2))]) (fun g=>((g.1)≤d0.length)∧((g.2.1)=(d0.take (g.1)).map QdD++d0.drop (g.1))∧(QH THC (g.2.2) Qx (.slice A0 (d0.length) (c0)) (g.2.1))) (fun g=>d0.length - (g.1)) (0,d0,m0) (⟨by omega,by simp,(Ow.ownl h0 rfl Qx)⟩) ⟨esn,fun _ h=>h.sub [0,1]⟩ ?_
 rintro ⟨k,l,l_m⟩ ⟨hk,hl,h_l⟩
 replace hk:k≤d0.length:=hk
 replace hl:l=(d0.take k).map QdD++d0.drop k:=hl
 replace h_l:QH THC l_m Qx (.slice A0 (d0.length) (c0)) l:=h_l
 show VC _ _ _ _ _ [(0,.slice A0 (d0.length) (c0)),(3,.int .i64 (((k:Nat):Int))),(2,.int .i64 (((c0:Nat):Int)))] [(0,J4 (wm W) (m0)),(1,l_m)]
 have ll_l:=JA (QH.ow h_l rfl)
 refine VC.seq (VC.rs (VO.mv (VO.mv (VO.z (.lenS rfl Jx) (VO.z (.lss rfl rfl) (VO.p2 0 1 (VO.k4 0 2 3 9 ?_)))))))
 refine VC.cond rfl (fun hc1=>?_) (fun hc1=>?_)
 ·refine VC.skip (Qm (VC.seq (VC.block ?_)))
  refine VC.reg ?_
  refine VO.mv (VO.mv (VO.mv (VO.mv ?_)))
  obtain ⟨x2,hx2⟩:∃ z_,(l)[k]? =some z_:=⟨_,List.getElem?_eq_getElem bd⟩
  obtain ⟨gg2,oo2,ec2,ea2,hce2,hre2⟩:=h_l.elem hx2
  cases ea2
  obtain ⟨rfl,q2_0,q2_1⟩:=Qho (x0:=x2.1) (x1:=x2.2.1) (x2:=x2.2.2) hre2
  simp only [inK] at q2_0 q2_1
  refine VO.z (.ixI k rfl rfl Jx rfl bd) ?_
  refine VO.z (.fa rfl Jq rfl) ?_
  refine VO.z (.ld1 1 rfl tk3 rfl (hce2.at1 (j:=0) rfl)) ?_
  refine VO.z (.cpl rfl ⟨bd,bd⟩) ?_
  refine VO.z (.ixI k rfl rfl Jx rfl bd) ?_
  refine VO.z (.fa rfl Jq rfl) ?_
  refine VO.upd (e:=THC) (k:=1) (i:=k) (x':=(-x2.1 - 1,x2.2)) 1 0 rfl rfl (.inr ⟨tk3,rfl⟩) rfl rfl rfl (QH.ow h_l rfl) rfl hx2 rfl (fun mi ec he=>by obtain ⟨rfl,z0,z1⟩:=Qho (x0:=x2.1) (x1:=x2.2.1) (x2:=x2.2.2) (he.rd (Qc _));exact Ow.of (m:=Qx) rfl (mk_HC (-x2.1 - 1) x2.2.1 x2.2.2 bdk z1)) (fun mu4 hu4=>?_)
  have hl4:=JA hu4
  refine VO.k4 0 2 3 9 (JL (Qm ?_))
  refine VC.reg ?_
  refine VO.mv ?_
  refine VO.z (.add (c:=((k+1:Nat):Int)) rfl rfl Qn ⟨bd,bd⟩) ?_
  refine VO.as (VO.k4 0 2 3 9 ?_)
  exact Qm ⟨⟨k+1,(l).set k (-x2.1 - 1,x2.2),mu4⟩,⟨by omega,by exact (X8 (f:=QdD) hl ‹l[k]? =some _›).2,(Ow.ownl hu4 rfl Qx)⟩,bd,⟨esn,fun _ h=>Inv.sub h [0,1]⟩⟩
 refine VC.exit (Zh (Zh (Zi (Qm (VC.block ?_)))))
 refine VC.loop (G:=(List DHC) × Mem × Nat) (fun g=>[(0,.slice A0 ((g.2.2)) (c0)),(2,.int .i64 (((c0:Nat):Int))),(3,.int .i64 (((k:Nat):Int))),(9,.bool (decide (((k:Nat):Int) < ((d0.length:Nat):Int))))]) (fun g=>[(0,J4 (wm W) (m0)),(1,(g.2.1))]) (fun g=>(∃ j,(g.1)=d0.map QdD++List.replicate j (99,0,(none,0,0)))∧((g.2.2)≤c0)∧(QH THC (g.2.1) Qx (.slice A0 ((g.2.2)) (c0)) (g.1))) (fun g=>c0 - (g.2.2)) (l,l_m,d0.length) (⟨by (exact ⟨0,by rw [hl,List.take_of_length_le Qn,List.drop_of_length_le Qn];simp⟩),by omega,h_l⟩) ⟨esn,fun _ h=>h.sub [0,1]⟩ ?_
 rintro ⟨l2,l2_m,l2_n⟩ ⟨hl2,hc,h_l2⟩
 replace hl2:∃ j,l2=d0.map QdD++List.replicate j (99,0,(none,0,0)):=hl2
 replace hc:l2_n≤c0:=hc
 replace h_l2:QH THC l2_m Qx (.slice A0 (l2_n) (c0)) l2:=h_l2
 show VC _ _ _ _ _ [(0,.slice A0 (l2_n) (c0)),(2,.int .i64 (((c0:Nat):Int))),(3,.int .i64 (((k:Nat):Int))),(9,.bool (decide (((k:Nat):Int) < ((d0.length:Nat):Int))))] [(0,J4 (wm W) (m0)),(1,l2_m)]
 have ll_l2:=JA (QH.ow h_l2 rfl)
 refine VC.seq (VC.rs (VO.mv (VO.z (.lenS rfl Jx) (VO.mv (VO.z (.lss rfl rfl) (VO.k5 0 2 3 9 25 ?_))))))
 refine VC.cond rfl (fun hc5=>?_) (fun hc5=>?_)
 refine VC.skip (Qm (VC.block ?_))
 refine VC.reg ?_
 refine VO.mv ?_
 refine VO.z (.bst (cs:=[.int .i64 (99),.int .i64 (0),.slice none (0) (0)]) rfl Jq XA rfl) ?_
 refine VO.bsl (cs:=[.int .i64 (99),.int .i64 (0),.slice none (0) (0)]) 107 rfl rfl Jx XA rfl rfl (fun g6=>?_)
 refine VO.inv ((109,Qx)::_) (fun _ h=>h.nilc 109) ?_
 have hxl8:=JA (QH.ow h_l2 rfl)
 refine VO.appI (e:=THC) (xs:=l2) (cap:=c0) (A:=A0) (l:=l2_n) 1 109 107 rfl rfl rfl Jx rfl rfl rfl (QH.ow h_l2 rfl) (Ow.of (m:=Qx) rfl (mk_HC (m:=_) 99 0 (none,0,0) bdk bdk)) Tryz.underlying41 (Qa rfl rfl) bd (fun m8 ho8=>?_)
 refine VO.as (VO.k5 0 2 3 9 25 (JL ?_))
 exact Qm ⟨⟨l2++[(99,0,(none,0,0))],m8,l2_n+1⟩,⟨by exact Qiw hl2,by dsimp only;omega,(Ow.ownl ho8 rfl Qx)⟩,by (dsimp only;omega),⟨esn,fun _ h=>Inv.sub h [0,1]⟩⟩
 ·refine VC.exit (Zh (Zh (Zi ?_)))
  have hcut0:=Ow.pre (j:=d0.length) (QH.ow h_l2 rfl) bd
  refine ⟨_,_,Jr (rs:=[]) rfl .nil,fun W_ hI=>JZ (l:=[l2_m]) hI [1] rfl rfl (Qc _) (fun hS_=>?_)⟩
  dsimp only [QE]
  exact ⟨(by first | rfl | (simp [*];done)),(Ow.cg (Ow.up hcut0 (hS_.1 _ (.head _))) (by first | rfl | (obtain ⟨j,rfl⟩:=hl2;simp)))⟩
theorem Qh {P:Prop} (h:P:=by first | exact bd | (have h_:=QnD ho ‹hss[_]? =some _›;have h2_:=QoJ hF;simp only [List.length_append,List.length_map] at*;omega) | (have h_:=Qp5 hF hl4 hw4 ‹l[_]? =some _› ‹was[_]? =some _›;omega)):P:=h
set_option maxHeartbeats 1000000 in
theorem Qf6 (W:World) {m0:Mem} (hm:mle (m0) (wm W)) {v0:Value} {d0:List (List Qe)} (h0:Ow (.sl (.sl Ql)) m0 [v0] d0) (e0:d0.length≤1000) (e1:∀ x∈d0,x.length≤3518437200000) (e2:d0.flatten.length≤1000) (e3:∀ x∈d0,∀ c∈x,c.2.2.length≤3518437208800∧∀ o∈c.2.2,o.2.1.length≤140737488400000):Qi Tryz.prog 11 [v0] W (m0) (fun v m'=>v= .bool true):=by
 obtain ⟨A0,c0,e0_,l0,k0⟩:=h0.slc
 subst e0_
 refine Qi.ofB (n:=89) hm Tryz.func11 rfl rfl rfl ?_
 obtain ⟨hss,ml,mo,hSp,hL,hF,hO⟩:=Ow.peelLL (e:=TOp) h0
 have hlh:=hF.len
 refine VC.inv _ (fun _ h=>h.parts (i:=1) rfl hSp [1,2]) ?_
 refine VC.rs (VO.as (VO.k2 0 2 (VC.rs (VO.mv (VO.z (.lenS rfl Qc3) ?_)))))
 refine VO.mks (e:=(.sl Ql)) (a:=((d0.length:Nat):Int)) (k:=d0.length) 101 rfl rfl rfl rfl Qc3 tz41 (y:=[]) (Ow.nil _ Qx) (by simp only [maxLen];(exact Qh)) Qh (by decide) (fun v1 m1 hk1=>?_)
 obtain ⟨A1,c1,rfl,l1,k1⟩:=hk1.slc
 have ln1:(List.replicate d0.length ([]:List Qe)).length=d0.length:=List.length_replicate
 refine VO.as (VO.k3 0 2 3 (VC.rs (VO.as (VO.p4 101 1 2 0 (VO.k4 0 2 3 4 (VC.seq (VC.rs (VO.as (VO.k5 0 2 3 4 5 (VC.block ?_))))))))))
 refine VC.inv ((102,Qx)::_) (fun _ h=>h.nilc 102) ?_
 refine VC.loop (G:=Nat × (List (List Qe)) × Mem × (List Hd) × (Option Addr) × Nat × Mem) (fun g=>[(3,.slice A1 ((List.replicate d0.length ([]:List Qe)).length) (c1)),(4,.slice (g.2.2.2.2.1) ((g.2.2.2.1).length) ((g.2.2.2.2.2.1))),(5,.int .i64 ((((g.1):Nat):Int))),(0,.slice A0 (d0.length) (c0)),(2,.bool false)]) (fun g=>[(102,(g.2.2.2.2.2.2)),(101,(g.2.2.1)),(1,ml),(2,mo),(0,J4 (wm W) (m0))]) (fun g=>((g.1)≤d0.length)∧((g.2.1)=d0.take (g.1)++List.replicate (d0.length - (g.1)) [])∧((g.2.2.2.1)=(hss.take (g.1)).flatten.map hdO)∧(Ow (.sl (.sl Ql)) (g.2.2.1) [.slice A1 ((List.replicate d0.length ([]:List Qe)).length) (c1)] (g.2.1))∧(QH .hdr (g.2.2.2.2.2.2) Qx (.slice (g.2.2.2.2.1) (g.2.2.2.1).length (g.2.2.2.2.2.1)) (g.2.2.2.1))) (fun g=>d0.length - (g.1)) (0,List.replicate d0.length ([]:List Qe),m1,[],none,0,Qx) (⟨by omega,by simp,by rfl,hk1,(QH.nil .hdr Qx Qx)⟩) ⟨esn,fun _ h=>h.sub [102,101,1,2,0]⟩ ?_
 rintro ⟨i,was,was_m,ops,ops_A,ops_c,ops_m⟩ ⟨hi,hw,ho,h_was,h_ops⟩
 replace hi:i≤d0.length:=hi
 replace hw:was=d0.take i++List.replicate (d0.length - i) []:=hw
 replace ho:ops=(hss.take i).flatten.map hdO:=ho
 replace h_was:Ow (.sl (.sl Ql)) was_m [.slice A1 ((List.replicate d0.length ([]:List Qe)).length) (c1)] was:=h_was
 replace h_ops:QH .hdr ops_m Qx (.slice ops_A ops.length ops_c) ops:=h_ops
 show VC _ _ _ _ _ [(3,.slice A1 ((List.replicate d0.length ([]:List Qe)).length) (c1)),(4,.slice ops_A (ops.length) (ops_c)),(5,.int .i64 (((i:Nat):Int))),(0,.slice A0 (d0.length) (c0)),(2,.bool false)] [(102,ops_m),(101,was_m),(1,ml),(2,mo),(0,J4 (wm W) (m0))]
 have ll_was:=JA h_was
 have l_ops:ops.length≤ops_c:=by obtain ⟨_,_,he,hl,_⟩:=h_ops.slice;simp only [Value.slice.injEq] at he;omega
 have k_ops:ops_c≤9223372036854775807:=by obtain ⟨_,_,he,_,hl⟩:=h_ops.slice;simp only [Value.slice.injEq,maxLen] at he hl;omega
 refine VC.seq (VC.rs (VO.mv (VO.mv (VO.z (.lenS rfl Qc3) (VO.z (.lss rfl rfl) (VO.k6 0 2 3 4 5 15 ?_))))))
 refine VC.cond rfl (fun hc3=>?_) (fun hc3=>?_)
 · refine VC.skip (Qm (VC.seq (VC.block (VC.rs (VO.mv (VO.mv (VO.mv (VO.mv ?_))))))))
   obtain ⟨x4,hx4⟩:∃ z_,(hss)[i]? =some z_:=⟨_,List.getElem?_eq_getElem Qh⟩
   obtain ⟨gg4,oo4,ec4,ea4,hce4,hre4⟩:=(Ow.rd hL (Qc _)).elem hx4
   cases ea4
   have hr4:=hre4
   obtain ⟨A4_,c4_,rfl,_⟩:=hre4
   have rr4:=Rd.room hr4
   refine VO.z (.ixI i rfl rfl Qc3 rfl Qh) ?_
   refine VO.z (.ld1 1 rfl Qbr rfl hce4) ?_
   obtain ⟨y4,hy4,hp4⟩:=hF.get (hx4)
   have hn4:=hp4.len
   have hm4:=e1 _ (List.mem_of_getElem? hy4)
   refine VO.callN 105 rfl fnOk54 rfl (fun W hW=>Qgj W (Qo7 (e:=TOp) (Rd.mono hr4 (hW.t 1)) (hp4.mono fun _ _ h=>Pc.mono h (hW.t 2))) Qh (by exact fun c hc=>(e3 _ (List.mem_of_getElem? ‹d0[i]? =some _›) c hc).1)) (fun v5 m5 hv5=>?_)
   obtain ⟨s5_0,rfl,f5_0⟩:=hv5
   obtain ⟨A5_0,c5_0,eq5_0,l5_0,k5_0⟩:=f5_0.slc
   subst eq5_0
   obtain ⟨x6,hx6⟩:∃ z_,(was)[i]? =some z_:=⟨_,List.getElem?_eq_getElem Qh⟩
   obtain ⟨gg6,oo6,ec6,ea6,hce6,hre6⟩:=(Ow.rd h_was (Qc _)).elem hx6
   cases ea6
   have hr6:=hre6
   obtain ⟨A6_,c6_,rfl,_⟩:=hre6
   have rr6:=Rd.room hr6
   refine VO.z (.ixI i rfl rfl Qc3 rfl Qh) ?_
   refine VO.setE (e:=(.sl Ql)) (k:=1) (i:=i) 101 105 rfl rfl (.inr ⟨Qbr,rfl⟩) rfl rfl rfl rfl h_was rfl hx6 (x':=y4) (Ow.up f5_0 ((QA.one (Qc _)).1 _ (.head _))) (fun mu7 hu7=>?_)
   have hl7:=JA hu7
   refine VO.p5 102 101 1 2 0 (VO.k6 0 2 3 4 5 15 ?_)
   refine VC.reg ?_
   refine VO.mv (VO.mv (VO.mv ?_))
   refine VO.z (.ixI i rfl rfl Qc3 rfl Qh) ?_
   refine VO.z (.ld1 1 rfl Qbr rfl hce4) ?_
   refine VO.callN 109 rfl fnOk55 rfl (fun W hW=>QoY W (Rd.mono hr4 (hW.t 1)) Qh) (fun v9 m9 hv9=>?_)
   obtain ⟨s9_0,rfl,f9_0⟩:=hv9
   obtain ⟨A9_0,c9_0,eq9_0,l9_0,k9_0⟩:=f9_0.slc
   subst eq9_0
   obtain ⟨mo10,cs10,hM10,hA10,hC10⟩:=h_ops
   obtain ⟨all10,hS10,hR10⟩:=Rd.srcI (P:=Tryz.prog) ((Ow.rd f9_0 (Qc _))) Tryz.underlying77
   refine VO.app 102 rfl rfl rfl QcN tz35 rfl rfl hM10 hA10 (hS10 _ 109 rfl) hR10.nice (by simp only [maxLen];(exact Qh)) Qh (by decide) (fun v10 m10 hN10=>?_)
   have ho10:QH .hdr m10 Qx v10 (ops++(x4.map hdO)):=QH.more hC10 hN10 (Je.mono hR10 fun _ _ h=>Rd.flat rfl h _)
   obtain ⟨A10,c10,rfl,l10,k10⟩:=ho10.slc
   refine VO.as (VO.k6 0 2 3 4 5 15 (JL (Qm ?_)))
   refine VC.reg ?_
   refine VO.mv ?_
   refine VO.z (.add (c:=((i+1:Nat):Int)) rfl rfl Qn ⟨by exact Qh,by exact Qh⟩) ?_
   refine VO.as (VO.k6 0 2 3 4 5 15 ?_)
   exact Qm ⟨⟨i+1,(was).set i y4,mu7,ops++(x4.map hdO),A10,c10,m10⟩,⟨by omega,by exact QfV hw ‹d0[i]? =some _›,by exact Qi2 ho ‹hss[i]? =some _›,hu7,ho10⟩,by exact Qh,⟨esn,fun _ h=>Inv.sub h [102,101,1,2,0]⟩⟩
 refine VC.exit (Zh (Zh (Zi (Qm (VC.seq (VC.rs (VO.as (VO.p5 102 101 1 2 0 (VO.k7 0 2 3 4 5 6 15 (VC.block ?_))))))))))
 refine VC.loop (G:=Nat × (List (List DHC)) × Mem) (fun g=>[(0,.slice A0 (d0.length) (c0)),(6,.int .i64 ((((g.1):Nat):Int))),(3,.slice A1 ((List.replicate d0.length ([]:List Qe)).length) (c1)),(4,.slice ops_A (ops.length) (ops_c)),(5,.int .i64 (((i:Nat):Int))),(15,.bool (decide (((i:Nat):Int) < ((d0.length:Nat):Int))))]) (fun g=>[(102,ops_m),(101,was_m),(1,(g.2.2)),(2,mo),(0,J4 (wm W) (m0))]) (fun g=>(was=d0)∧((g.1)≤d0.length)∧((g.2.1)=(hss.take (g.1)).map (List.map QdD)++hss.drop (g.1))∧(Ow (.sl (.sl THC)) (g.2.2) [.slice A0 (d0.length) (c0)] (g.2.1))) (fun g=>d0.length - (g.1)) (0,hss,ml) (⟨by exact QhJ hw Qn,by omega,by simp,hL⟩) ⟨esn,fun _ h=>h.sub [102,101,1,2,0]⟩ ?_
 rintro ⟨j,l,l_m⟩ ⟨hw2,hj,hl,h_l⟩
 replace hw2:was=d0:=hw2
 replace hj:j≤d0.length:=hj
 replace hl:l=(hss.take j).map (List.map QdD)++hss.drop j:=hl
 replace h_l:Ow (.sl (.sl THC)) l_m [.slice A0 (d0.length) (c0)] l:=h_l
 show VC _ _ _ _ _ [(0,.slice A0 (d0.length) (c0)),(6,.int .i64 (((j:Nat):Int))),(3,.slice A1 ((List.replicate d0.length ([]:List Qe)).length) (c1)),(4,.slice ops_A (ops.length) (ops_c)),(5,.int .i64 (((i:Nat):Int))),(15,.bool (decide (((i:Nat):Int) < ((d0.length:Nat):Int))))] [(102,ops_m),(101,was_m),(1,l_m),(2,mo),(0,J4 (wm W) (m0))]
 have ll_l:=JA h_l
 refine VC.seq (VC.rs (VO.mv (VO.mv (VO.z (.lenS rfl Qc3) (VO.z (.lss rfl rfl) (VO.k7 0 3 4 5 6 15 36 ?_))))))
 refine VC.cond rfl (fun hc11=>?_) (fun hc11=>?_)
 refine VC.skip (Qm (VC.seq (VC.block (VC.seq (VC.seq ?_)))))
 refine VC.regD _ 8 [(0,true),(1,true),(2,true),(3,true),(4,true),(5,true),(6,true),(7,true)] follows (by kernel_rfl) (fun _ h=>h.sub [102,101,1,2,0]) ?_
 refine VD.z rfl (.mv rfl) (VD.z rfl (.mv rfl) ?_)
 obtain ⟨x12,hx12⟩:∃ z_,(l)[j]? =some z_:=⟨_,List.getElem?_eq_getElem Qh⟩
 obtain ⟨gg12,oo12,ec12,ea12,hce12,hre12⟩:=(Ow.rd h_l (Qc _)).elem hx12
 cases ea12
 have hr12:=hre12
 obtain ⟨A12_,c12_,rfl,_⟩:=hre12
 have rr12:=Rd.room hr12
 refine VD.z rfl (.ixI j rfl rfl Qc3 rfl Qh) ?_
 refine VD.z rfl (.ld1 1 rfl Qbr rfl hce12) ?_
 obtain ⟨y12,hy12,hp12⟩:=hF.get ((X8 hl hx12).1)
 have hn12:=hp12.len
 have hm12:=e1 _ (List.mem_of_getElem? hy12)
 refine VD.z rfl (.mv rfl) (VD.z rfl (.mv rfl) ?_)
 obtain ⟨x13,hx13⟩:∃ z_,(was)[j]? =some z_:=⟨_,List.getElem?_eq_getElem Qh⟩
 obtain ⟨gg13,oo13,ec13,ea13,hce13,hre13⟩:=(Ow.rd h_was (Qc _)).elem hx13
 cases ea13
 have hr13:=hre13
 obtain ⟨A13_,c13_,rfl,_⟩:=hre13
 have rr13:=Rd.room hr13
 refine VD.z rfl (.ixI j rfl rfl Qc3 rfl Qh) ?_
 refine VD.z rfl (.ld1 101 rfl Qbr rfl hce13) ?_
 refine VD.nil rfl ?_ rfl
 refine VO.callN 114 rfl Qnu rfl (fun W hW=>Qbo W (Qo7 (e:=TOp) (Rd.mono hr12 (hW.t 1)) (hp12.mono fun _ _ h=>Pc.mono h (hW.t 2))) (Rd.mono hr13 (hW.t 101))) (fun v14 m14 hv14=>?_)
 subst hv14
 refine VO.z (.notD rfl) (VO.k8 0 3 4 5 6 15 36 48 (Qm ?_))
 refine VC.cond rfl (fun hc15=>?_) (fun hc15=>?_)
 exact absurd (by have h_:=‹was[j]? =some _›;rw [hw2] at h_;exact Option.some.inj (‹d0[j]? =some _›.symm.trans h_)) hc15
 refine VC.skip (Qm ?_)
 refine VC.reg ?_
 refine VO.mv (VO.mv ?_)
 refine VO.z (.ixI j rfl rfl Qc3 rfl Qh) ?_
 refine VO.z (.ld1 1 rfl Qbr rfl hce12) ?_
 obtain ⟨mr17,me17,hH17,hE17,hB17⟩:=Ow.hole h_l hx12 hce12
 refine VO.parts 1 [1,118] rfl hH17 ?_
 refine VO.call 118 rfl fnOk56 rfl rfl (fun W hW=>Qgc W (hW.t 118) hE17) (fun v17 m17 hv17=>?_)
 obtain ⟨rfl,w17_0⟩:=hv17
 have wl17_0:=JA w17_0
 refine VO.gather (l:=[mr17,m17]) 1 [1,118] rfl (fun hg17=>?_)
 have hL17:=QA.back hg17 (fun hd_=>hB17 _ _ hd_ w17_0)
 have hl17:=JA hL17
 refine VO.p5 1 102 101 2 0 (VO.k8 0 3 4 5 6 15 36 48 (JL (Qm ?_)))
 refine VC.reg ?_
 refine VO.mv ?_
 refine VO.z (.add (c:=((j+1:Nat):Int)) rfl rfl Qn ⟨by exact Qh,by exact Qh⟩) ?_
 refine VO.as (VO.k8 0 3 4 5 6 15 36 48 ?_)
 exact Qm ⟨⟨j+1,(l).set j (x12.map QdD),Zc [mr17,m17]⟩,⟨by exact hw2,by omega,by exact (X8 hl ‹l[j]? =some _›).2,hL17⟩,by exact Qh,⟨esn,fun _ h=>Inv.sub h [102,101,1,2,0]⟩⟩
 refine VC.exit (Zh (Zh (Zi (Qm (VC.seq (VC.rs (VO.as (VO.k8 0 3 4 5 6 7 15 36 (VC.block ?_)))))))))
 refine VC.loop (G:=Nat) (fun p=>[(7,.int .i64 (((p:Nat):Int))),(0,.slice A0 (d0.length) (c0)),(3,.slice A1 ((List.replicate d0.length ([]:List Qe)).length) (c1)),(4,.slice ops_A (ops.length) (ops_c)),(5,.int .i64 (((i:Nat):Int))),(6,.int .i64 (((j:Nat):Int))),(15,.bool (decide (((i:Nat):Int) < ((d0.length:Nat):Int)))),(36,.bool (decide (((j:Nat):Int) < ((d0.length:Nat):Int))))]) (fun p=>[(102,ops_m),(101,was_m),(1,l_m),(2,mo),(0,J4 (wm W) (m0))]) (fun p=>(was=d0)∧(p≤d0.length)∧(l=hss.map (List.map QdD))) (fun p=>d0.length - p) 0 (⟨by exact hw2,by omega,by exact QkM hl Qn⟩) ⟨esn,fun _ h=>h.sub [102,101,1,2,0]⟩ ?_
 rintro p ⟨hw4,hp,hl4⟩
 refine VC.seq (VC.rs (VO.mv (VO.mv (VO.z (.lenS rfl Qc3) (VO.z (.lss rfl rfl) (VO.p5 102 101 1 2 0 (VO.k9 0 3 4 5 6 7 15 36 57 ?_)))))))
 refine VC.cond rfl (fun hc19=>?_) (fun hc19=>?_)
 refine VC.skip (Qm (VC.seq (VC.block (VC.rs (VO.as (VO.k10 0 3 4 5 6 7 8 15 36 57 (VC.block ?_)))))))
 refine VC.loop (G:=Nat) (fun k=>[(8,.int .i64 (((k:Nat):Int))),(0,.slice A0 (d0.length) (c0)),(3,.slice A1 ((List.replicate d0.length ([]:List Qe)).length) (c1)),(4,.slice ops_A (ops.length) (ops_c)),(5,.int .i64 (((i:Nat):Int))),(6,.int .i64 (((j:Nat):Int))),(7,.int .i64 (((p:Nat):Int))),(15,.bool (decide (((i:Nat):Int) < ((d0.length:Nat):Int)))),(36,.bool (decide (((j:Nat):Int) < ((d0.length:Nat):Int)))),(57,.bool (decide (((p:Nat):Int) < ((d0.length:Nat):Int))))]) (fun k=>[(102,ops_m),(101,was_m),(1,l_m),(2,mo),(0,J4 (wm W) (m0))]) (fun k=>(k≤9223372036854775807)) (fun k=>9223372036854775807 - k) 0 Qn ⟨esn,fun _ h=>h.sub [102,101,1,2,0]⟩ ?_
 rintro k hk
 refine VC.seq (VC.rs (VO.mv (VO.mv (VO.mv ?_))))
 obtain ⟨x20,hx20⟩:∃ z_,(l)[p]? =some z_:=⟨_,List.getElem?_eq_getElem Qh⟩
 obtain ⟨gg20,oo20,ec20,ea20,hce20,hre20⟩:=(Ow.rd h_l (Qc _)).elem hx20
 cases ea20
 have hr20:=hre20
 obtain ⟨A20_,c20_,rfl,_⟩:=hre20
 have rr20:=Rd.room hr20
 refine VO.z (.ixI p rfl rfl Qc3 rfl Qh) ?_
 refine VO.z (.ld1 1 rfl Qbr rfl hce20) ?_
 refine VO.z (.lenS rfl Jx) (VO.z (.lss rfl rfl) (VO.k11 0 3 4 5 6 7 8 15 36 57 66 ?_))
 refine VC.cond rfl (fun hc21=>?_) (fun hc21=>?_)
 refine VC.skip (Qm (VC.seq (VC.block (VC.seq ?_))))
 refine VC.regD _ 17 [(0,true),(1,true),(2,true),(3,true),(4,true),(5,true),(6,true),(7,true),(8,true),(9,true),(10,true),(11,true),(12,true),(13,true),(14,true),(15,true),(16,true)] follows (by kernel_rfl) (fun _ h=>h.sub [102,101,1,2,0]) ?_
 refine VD.z rfl (.mv rfl) (VD.z rfl (.mv rfl) ?_)
 refine VD.z rfl (.ixI p rfl rfl Qc3 rfl Qh) ?_
 refine VD.z rfl (.ld1 1 rfl Qbr rfl hce20) ?_
 refine VD.z rfl (.mv rfl) ?_
 obtain ⟨x23,hx23⟩:∃ z_,(x20)[k]? =some z_:=⟨_,List.getElem?_eq_getElem Qh⟩
 obtain ⟨gg23,oo23,ec23,ea23,hce23,hre23⟩:=hr20.elem hx23
 cases ea23
 obtain ⟨rfl,q23_0,q23_1⟩:=Qho (x0:=x23.1) (x1:=x23.2.1) (x2:=x23.2.2) hre23
 simp only [inK] at q23_0 q23_1
 refine VD.z rfl (.ixI k rfl rfl Jx rfl Qh) ?_
 refine VD.z rfl (.fa rfl Jq rfl) ?_
 refine VD.z rfl (.ld1 1 rfl tk3 rfl (hce23.at1 (j:=0) rfl)) ?_
 refine VD.z rfl (.mv rfl) (VD.z rfl (.mv rfl) ?_)
 obtain ⟨x24,hx24⟩:∃ z_,(was)[p]? =some z_:=⟨_,List.getElem?_eq_getElem Qh⟩
 obtain ⟨gg24,oo24,ec24,ea24,hce24,hre24⟩:=(Ow.rd h_was (Qc _)).elem hx24
 cases ea24
 have hr24:=hre24
 obtain ⟨A24_,c24_,rfl,_⟩:=hre24
 have rr24:=Rd.room hr24
 refine VD.z rfl (.ixI p rfl rfl Qc3 rfl Qh) ?_
 refine VD.z rfl (.ld1 101 rfl Qbr rfl hce24) ?_
 refine VD.z rfl (.mv rfl) ?_
 obtain ⟨x25,hx25⟩:∃ z_,(x24)[k]? =some z_:=⟨_,List.getElem?_eq_getElem Qh⟩
 obtain ⟨gg25,oo25,ec25,ea25,hce25,hre25⟩:=hr24.elem hx25
 cases ea25
 obtain ⟨q25_A2,q25_c2,rfl,q25_0,q25_1,q25_2⟩:=Q4 (x0:=x25.1) (x1:=x25.2.1) (x2:=x25.2.2) hre25
 simp only [inK] at q25_0 q25_1
 have q25_r2:=Rd.room q25_2
 refine VD.z rfl (.ixI k rfl rfl Jx rfl Qh) ?_
 refine VD.z rfl (.fa rfl Jq rfl) ?_
 refine VD.z rfl (.ld1 101 rfl tk3 rfl (hce25.at1 (j:=0) rfl)) ?_
 refine VD.z rfl (.cpl rfl ⟨by exact Qh,by exact Qh⟩) ?_
 refine VD.nil rfl ?_ rfl
 refine VO.z (.neq rfl rfl) (VO.p5 102 101 1 2 0 (VO.k12 0 3 4 5 6 7 8 15 36 57 66 86 (Qm ?_)))
 refine VC.cond rfl (fun hc26=>?_) (fun hc26=>?_)
 exact absurd (hdr_at hF hl4 hw4 ‹l[p]? =some _› ‹was[p]? =some _› Qo Qo) hc26
 refine VC.skip (JL (Qm ?_))
 refine VC.reg ?_
 refine VO.mv ?_
 refine VO.z (.add (c:=((k+1:Nat):Int)) rfl rfl Qn ⟨by exact Qh,by exact Qh⟩) ?_
 refine VO.as (VO.k12 0 3 4 5 6 7 8 15 36 57 66 86 ?_)
 exact Qm ⟨k+1,by omega,by exact Qh,⟨esn,fun _ h=>Inv.sub h [102,101,1,2,0]⟩⟩
 refine VC.exit (Zh (Zh (Zi (JL (Qm ?_)))))
 refine VC.reg ?_
 refine VO.mv ?_
 refine VO.z (.add (c:=((p+1:Nat):Int)) rfl rfl Qn ⟨by exact Qh,by exact Qh⟩) ?_
 refine VO.as (VO.p5 102 101 1 2 0 (VO.k11 0 3 4 5 6 7 8 15 36 57 66 ?_))
 exact Qm ⟨p+1,⟨by exact hw4,by omega,by exact hl4⟩,by exact Qh,⟨esn,fun _ h=>Inv.sub h [102,101,1,2,0]⟩⟩
 · refine VC.exit (Zh (Zh (Zi (Qm (VC.rs (VO.mv ?_))))))
   refine VO.gather (l:=[ops_m,mo]) 128 [102,2] rfl (fun hg27=>?_)
   have hops:Ow (.sl (.sl TOp)) (Zc [ops_m,mo]) [Value.slice ops_A (ops.length) (ops_c)] (d0.flatten.map fun x=>x.2.2):=Ow.mkOps hg27 (QH.ow h_ops rfl) (by have e_:ops=hss.flatten.map hdO:=(by rw [ho,List.take_of_length_le Qn]);rw [e_,List.map_map];exact hO)
   refine VO.call 128 rfl fnOk57 rfl rfl (fun W hW=>Qkl W (hW.t 128) hops (by rw [List.length_map];exact e2) (by exact Qor e3)) (fun v29 m29 hv29=>?_)
   subst hv29
   refine VO.as (VO.k10 0 2 3 4 5 6 7 15 36 57 (VC.ret ?_))
   exact Xl 2 rfl (by first | rfl | (simp [*];done))
abbrev Zd : Ty := .pair (.ptr QN) (.pair .bool (.pair (.sl Ql) (.sl (.int .i64))))
abbrev Qb3 := (Nat × QO) × Bool × (List Qe) × (List Int)
theorem Qiz {m:Mem} {cs:List Value} {x0:Nat × QO} {x1:Bool} {x2:List Qe} {x3:List Int} (h:Ow Zd m cs (x0,x1,x2,x3)):∃ (A2:Option Addr),∃ (c2:Nat),∃ (A3:Option Addr),∃ (c3:Nat),∃ (n0:Mem),∃ (n2:Mem),∃ (n3:Mem),cs=[(.pointer (some ⟨x0.1,0,none⟩):Value),.bool x1,.slice A2 x2.length c2,.slice A3 x3.length c3]∧QA m [n0,n2,n3]∧Ow (.ptr QN) n0 [.pointer (some ⟨x0.1,0,none⟩)] x0∧Ow (.sl Ql) n2 [.slice A2 x2.length c2] x2∧Ow (.sl (.int .i64)) n3 [.slice A3 x3.length c3] x3:=by
 obtain ⟨p1,q1,ma1,mb1,rfl,dj1,la1,lb1,u1,w1⟩:=Ow.pair h
 have z2:=u1
 obtain ⟨rfl,_⟩:=u1
 obtain ⟨p3,q3,ma3,mb3,rfl,dj3,la3,lb3,u3,w3⟩:=Ow.pair w1
 obtain rfl:=(show _=_ from u3)
 obtain ⟨p5,q5,ma5,mb5,rfl,dj5,la5,lb5,u5,w5⟩:=Ow.pair w3
 have z6:=u5
 obtain ⟨A6,c6,rfl,_⟩:=Ow.slice1 u5
 have z7:=w5
 obtain ⟨A7,c7,rfl,_⟩:=Ow.slice1 w5
 exact ⟨A6,c6,A7,c7,_,_,_,rfl,(QA.app dj1 la1 lb1 (QA.one (Qc _)) (QA.app dj3 la3 lb3 (QA.nil _) (QA.app dj5 la5 lb5 (QA.one (Qc _)) (QA.one (Qc _))))),z2,z6,z7⟩
theorem QlT {m:Mem} {n0 n2 n3:Mem} (x0:Nat × QO) (x1:Bool) (x2:List Qe) (x3:List Int) (hS:QA m [n0,n2,n3]) {v0:Value} (h0:Ow (.ptr QN) n0 [v0] x0) {v2:Value} (h2:Ow (.sl Ql) n2 [v2] x2) {v3:Value} (h3:Ow (.sl (.int .i64)) n3 [v3] x3):Ow Zd m [v0,.bool x1,v2,v3] (x0,x1,x2,x3):=by
 obtain ⟨e1,la1,lb1,Sa1,Sb1⟩:=QA.cut (l:=[n0]) (r:=[n2,n3]) hS
 obtain ⟨e2,la2,lb2,Sa2,Sb2⟩:=QA.cut (l:=[]) (r:=[n2,n3]) Sb1
 obtain ⟨e3,la3,lb3,Sa3,Sb3⟩:=QA.cut (l:=[n2]) (r:=[n3]) Sb2
 exact (Ow.mkPair (c1:=[_]) e1 la1 lb1 (h0.up (Sa1.1 _ (.head _))) (Ow.mkPair (c1:=[_]) e2 la2 lb2 (show Ow .bool _ [_] _ from rfl) (Ow.mkPair (c1:=[_]) e3 la3 lb3 (h2.up (Sa3.1 _ (.head _))) (h3.up (Sb3.1 _ (.head _))))))
theorem Jf {m:Mem} {cs:List Value} {g:Nat} {x0:Nat × QO} {x1:Bool} {x2:List Qe} {x3:List Int} (h:Ow (.ptr Zd) m cs (g,(x0,x1,x2,x3))):∃ (E:TypeId),∃ (A2:Option Addr),∃ (c2:Nat),∃ (A3:Option Addr),∃ (c3:Nat),∃ (n0:Mem),∃ (n2:Mem),∃ (n3:Mem),cs=[.pointer (some ⟨g,0,none⟩)]∧QA m [QM g (.cells [(.pointer (some ⟨x0.1,0,none⟩):Value),.bool x1,.slice A2 x2.length c2,.slice A3 x3.length c3].toArray E (0,0)),n0,n2,n3]∧Ow (.ptr QN) n0 [.pointer (some ⟨x0.1,0,none⟩)] x0∧Ow (.sl Ql) n2 [.slice A2 x2.length c2] x2∧Ow (.sl (.int .i64)) n3 [.slice A3 x3.length c3] x3:=by
 obtain ⟨rfl,rc,E,m1,hd,l0,l1,h1⟩:=Ow.opnP h
 obtain ⟨A2,c2,A3,c3,n0,n2,n3,rfl,hS,f0,f2,f3⟩:=Qiz h1
 exact ⟨E,A2,c2,A3,c3,n0,n2,n3,rfl,QA.app hd l0 l1 (QA.one (Qc _)) hS,f0,f2,f3⟩
theorem Js {m:Mem} {g:Nat} {E:TypeId} {n0 n2 n3:Mem}{v0:Value}{v2:Value}{v3:Value} (x0:Nat × QO) (x1:Bool) (x2:List Qe) (x3:List Int) (hS:QA m [QM g (.cells [v0,.bool x1,v2,v3].toArray E (0,0)),n0,n2,n3]) (h0:Ow (.ptr QN) n0 [v0] x0) (h2:Ow (.sl Ql) n2 [v2] x2) (h3:Ow (.sl (.int .i64)) n3 [v3] x3):Ow (.ptr Zd) m [.pointer (some ⟨g,0,none⟩)] (g,(x0,x1,x2,x3)):=
 Ow.clsP hS fun hS=>QlT x0 x1 x2 x3 hS h0 h2 h3
abbrev QbD : Ty := .pair (.int .i64) (.pair (.int .i64) (.pair (.int .i64) Ql))
abbrev QbF := Int × Int × Int × Qe
instance QqA : DecidableEq QbF := (@instDecidableEqProd _ _ inferInstance (@instDecidableEqProd _ _ inferInstance (@instDecidableEqProd _ _ inferInstance (@instDecidableEqProd _ _ inferInstance (@instDecidableEqProd _ _ inferInstance inferInstance)))))
theorem Qay {m:Mem} {cs:List Value} {x0:Int} {x1:Int} {x2:Int} {x3:Int} {x4:Int} {x5:List DOp} (h:Rd QbD m cs (x0,x1,x2,x3,x4,x5)):∃ (A5:Option Addr),∃ (c5:Nat),cs=[(.int .i64 x0:Value),.int .i64 x1,.int .i64 x2,.int .i64 x3,.int .i64 x4,.slice A5 x5.length c5]∧inK .i64 x0∧inK .i64 x1∧inK .i64 x2∧inK .i64 x3∧inK .i64 x4∧Rd (.sl TOp) m [.slice A5 x5.length c5] x5:=by
 obtain ⟨p1,q1,rfl,u1,w1⟩:=Rd.pair h
 obtain ⟨rfl,z2⟩:=(show _=_∧_ from u1)
 obtain ⟨p3,q3,rfl,u3,w3⟩:=Rd.pair w1
 obtain ⟨rfl,z4⟩:=(show _=_∧_ from u3)
 obtain ⟨p5,q5,rfl,u5,w5⟩:=Rd.pair w3
 obtain ⟨rfl,z6⟩:=(show _=_∧_ from u5)
 obtain ⟨p7,q7,rfl,u7,w7⟩:=Rd.pair w5
 obtain ⟨rfl,z8⟩:=(show _=_∧_ from u7)
 obtain ⟨p9,q9,rfl,u9,w9⟩:=Rd.pair w7
 obtain ⟨rfl,z10⟩:=(show _=_∧_ from u9)
 have z11:=w9
 obtain ⟨A11,c11,rfl,_⟩:=Rd.slice1 w9
 exact ⟨A11,c11,rfl,z2,z4,z6,z8,z10,z11⟩
end Go.Proofs.YtdoamgdanlnlfaaGreat
