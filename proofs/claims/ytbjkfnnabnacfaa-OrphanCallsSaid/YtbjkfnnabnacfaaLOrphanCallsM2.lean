/- Part 2 of the proof of LOrphanCalls: what it needs of the library, the walks and the plain laws. Conditions: those named in each theorem. -/
import Derived.Test.YtbjkfnnabnacfaaLOrphanCallsM1
namespace Go.Proofs.Ytbjkfnnabnacfaa
section
set_option linter.unusedVariables false
abbrev TOp : Ty := .pair .bool (.pair .str .str)
abbrev DOp := Bool × (List UInt8) × (List UInt8)
instance decOp : DecidableEq DOp := (@instDecidableEqProd _ _ inferInstance (@instDecidableEqProd _ _ inferInstance inferInstance))
theorem open_Op {m : Mem} {cs : List Value} {x0 : Bool} {x1 : List UInt8} {x2 : List UInt8} (h : Rd TOp m cs (x0, x1, x2)) : cs = [(.bool x0 : Value), str x1, str x2] ∧ x1.length ≤ maxLen ∧ x2.length ≤ maxLen := by
  obtain ⟨p1, q1, rfl, u1, w1⟩ := Rd.pair h
  obtain rfl := (show _ = _ from u1)
  obtain ⟨p3, q3, rfl, u3, w3⟩ := Rd.pair w1
  obtain ⟨rfl, z4⟩ := (show _ = _ ∧ _ from u3)
  obtain ⟨rfl, z5⟩ := (show _ = _ ∧ _ from w3)
  exact ⟨rfl, z4, z5⟩
theorem mk_Op {m : Mem} (x0 : Bool) (x1 : List UInt8) (x2 : List UInt8) (h1 : x1.length ≤ maxLen) (h2 : x2.length ≤ maxLen) : Rd TOp m [.bool x0, str x1, str x2] (x0, x1, x2) := (Rd.mkPair (c1 := [_]) (show Rd .bool m [_] _ from rfl) (Rd.mkPair (c1 := [_]) (show Rd .str m [_] _ from ⟨rfl, h1⟩) (show Rd .str m [_] _ from ⟨rfl, h2⟩)))
abbrev TCommit : Ty := .pair (.int .i64) (.pair (.int .i64) (.sl TOp))
abbrev DCommit := Int × Int × (List DOp)
instance decCommit : DecidableEq DCommit := (@instDecidableEqProd _ _ inferInstance (@instDecidableEqProd _ _ inferInstance inferInstance))
theorem open_Commit {m : Mem} {cs : List Value} {x0 : Int} {x1 : Int} {x2 : List DOp} (h : Rd TCommit m cs (x0, x1, x2)) : ∃ (A2 : Option Addr), ∃ (c2 : Nat), cs = [(.int .i64 x0 : Value), .int .i64 x1, .slice A2 x2.length c2] ∧ inK .i64 x0 ∧ inK .i64 x1 ∧ Rd (.sl TOp) m [.slice A2 x2.length c2] x2 := by
  obtain ⟨p1, q1, rfl, u1, w1⟩ := Rd.pair h
  obtain ⟨rfl, z2⟩ := (show _ = _ ∧ _ from u1)
  obtain ⟨p3, q3, rfl, u3, w3⟩ := Rd.pair w1
  obtain ⟨rfl, z4⟩ := (show _ = _ ∧ _ from u3)
  have z5 := w3
  obtain ⟨A5, c5, rfl, _⟩ := Rd.slice1 w3
  exact ⟨A5, c5, rfl, z2, z4, z5⟩
theorem mk_Commit {m : Mem} (x0 : Int) (x1 : Int) (x2 : List DOp) (h0 : inK .i64 x0) (h1 : inK .i64 x1) {v2 : Value} (h2 : Rd (.sl TOp) m [v2] x2) : Rd TCommit m [.int .i64 x0, .int .i64 x1, v2] (x0, x1, x2) := (Rd.mkPair (c1 := [_]) (show Rd (.int .i64) m [_] _ from ⟨rfl, h0⟩) (Rd.mkPair (c1 := [_]) (show Rd (.int .i64) m [_] _ from ⟨rfl, h1⟩) h2))
theorem openO_Commit {m : Mem} {cs : List Value} {x0 : Int} {x1 : Int} {x2 : List DOp} (h : Ow TCommit m cs (x0, x1, x2)) : ∃ (A2 : Option Addr), ∃ (c2 : Nat), ∃ (n2 : Mem), cs = [(.int .i64 x0 : Value), .int .i64 x1, .slice A2 x2.length c2] ∧ Seps m [n2] ∧ inK .i64 x0 ∧ inK .i64 x1 ∧ Ow (.sl TOp) n2 [.slice A2 x2.length c2] x2 := by
  obtain ⟨p1, q1, ma1, mb1, rfl, dj1, la1, lb1, u1, w1⟩ := Ow.pair h
  obtain ⟨rfl, z2⟩ := (show _ = _ ∧ _ from u1)
  obtain ⟨p3, q3, ma3, mb3, rfl, dj3, la3, lb3, u3, w3⟩ := Ow.pair w1
  obtain ⟨rfl, z4⟩ := (show _ = _ ∧ _ from u3)
  have z5 := w3
  obtain ⟨A5, c5, rfl, _⟩ := Ow.slice1 w3
  exact ⟨A5, c5, _, rfl, (Seps.app dj1 la1 lb1 (Seps.nil _) (Seps.app dj3 la3 lb3 (Seps.nil _) (Seps.one (mle_refl _)))), z2, z4, z5⟩
theorem mkO_Commit {m : Mem} {n2 : Mem} (x0 : Int) (x1 : Int) (x2 : List DOp) (hS : Seps m [n2]) (h0 : inK .i64 x0) (h1 : inK .i64 x1) {v2 : Value} (h2 : Ow (.sl TOp) n2 [v2] x2) : Ow TCommit m [.int .i64 x0, .int .i64 x1, v2] (x0, x1, x2) := by
  obtain ⟨e1, la1, lb1, Sa1, Sb1⟩ := Seps.cut (l := []) (r := [n2]) hS
  obtain ⟨e2, la2, lb2, Sa2, Sb2⟩ := Seps.cut (l := []) (r := [n2]) Sb1
  exact (Ow.mkPair (c1 := [_]) e1 la1 lb1 (show Ow (.int .i64) _ [_] _ from ⟨rfl, h0⟩) (Ow.mkPair (c1 := [_]) e2 la2 lb2 (show Ow (.int .i64) _ [_] _ from ⟨rfl, h1⟩) (h2.up (Sb2.1 _ (.head _)))))
abbrev TFault : Ty := .pair (.int .i64) (.int .i64)
abbrev DFault := Int × Int
instance decFault : DecidableEq DFault := (@instDecidableEqProd _ _ inferInstance inferInstance)
theorem open_Fault {m : Mem} {cs : List Value} {x0 : Int} {x1 : Int} (h : Rd TFault m cs (x0, x1)) : cs = [(.int .i64 x0 : Value), .int .i64 x1] ∧ inK .i64 x0 ∧ inK .i64 x1 := by
  obtain ⟨p1, q1, rfl, u1, w1⟩ := Rd.pair h
  obtain ⟨rfl, z2⟩ := (show _ = _ ∧ _ from u1)
  obtain ⟨rfl, z3⟩ := (show _ = _ ∧ _ from w1)
  exact ⟨rfl, z2, z3⟩
theorem mk_Fault {m : Mem} (x0 : Int) (x1 : Int) (h0 : inK .i64 x0) (h1 : inK .i64 x1) : Rd TFault m [.int .i64 x0, .int .i64 x1] (x0, x1) := (Rd.mkPair (c1 := [_]) (show Rd (.int .i64) m [_] _ from ⟨rfl, h0⟩) (show Rd (.int .i64) m [_] _ from ⟨rfl, h1⟩))
abbrev DStart := Int × Int
instance decStart : DecidableEq DStart := (@instDecidableEqProd _ _ inferInstance inferInstance)
abbrev DMessage := Int × Int × Int × Int × (List DStart) × Int × Int × (List DCommit)
instance decMessage : DecidableEq DMessage := (@instDecidableEqProd _ _ inferInstance (@instDecidableEqProd _ _ inferInstance (@instDecidableEqProd _ _ inferInstance (@instDecidableEqProd _ _ inferInstance (@instDecidableEqProd _ _ inferInstance (@instDecidableEqProd _ _ inferInstance (@instDecidableEqProd _ _ inferInstance inferInstance)))))))
abbrev Dbatchreader := (List UInt8) × Int × Bool
instance decbatchreader : DecidableEq Dbatchreader := (@instDecidableEqProd _ _ inferInstance (@instDecidableEqProd _ _ inferInstance inferInstance))
abbrev Dletterreader := (List UInt8) × Bool
instance decletterreader : DecidableEq Dletterreader := (@instDecidableEqProd _ _ inferInstance inferInstance)
abbrev Dref01Reader := (List UInt8) × Int × Bool
instance decref01Reader : DecidableEq Dref01Reader := (@instDecidableEqProd _ _ inferInstance (@instDecidableEqProd _ _ inferInstance inferInstance))
end
section
set_option linter.unusedVariables false
set_option linter.unusedSimpArgs false
abbrev Bytes := List UInt8
theorem len_ne {α : Type} {a b : List α} (h : ¬ (a.length : Int) = b.length) : ¬ a = b := fun e => h (by rw [e])
theorem take_all {α : Type} {a b : List α} {k : Nat} (h : a.take k = b.take k) (ha : ¬ (k : Int) < a.length) (hl : (a.length : Int) = b.length) : a = b := by
  rwa [List.take_of_length_le (by omega), List.take_of_length_le (by omega)] at h
theorem take_next {α : Type} {a b : List α} {k : Nat} {x y : α} (h : a.take k = b.take k) (hx : a[k]? = some x) (hy : b[k]? = some y) (hxy : x = y) : a.take (k + 1) = b.take (k + 1) := by
  rw [List.take_add_one, List.take_add_one, h, hx, hy, hxy]
theorem get_ne {α : Type} {a b : List α} {k : Nat} {x y : α} (hx : a[k]? = some x) (hy : b[k]? = some y) (h : ¬ x = y) : ¬ a = b := fun e => by
  subst e; rw [hx] at hy; exact h (Option.some.inj hy)
theorem byte_eq {x y : UInt8} (h : (x.toNat : Int) = y.toNat) : x = y := UInt8.toNat_inj.1 (by omega)
theorem byte_ne {x y : UInt8} (h : ¬ (x.toNat : Int) = y.toNat) : ¬ x = y := fun e => h (by rw [e])
def opOk (o : DOp) : Prop := 1 ≤ o.2.1.length ∧ o.2.1.length ≤ 16 ∧ o.2.2.length ≤ 32 ∧ (o.1 = true ∨ o.2.2 = [])
instance (o : DOp) : Decidable (opOk o) := by unfold opOk; infer_instance
def opCheck (o : DOp) : Int := if opOk o then 0 else 2
theorem opCheck_bad {o : DOp} (h : ¬ opOk o) : opCheck o = 2 := if_neg h
theorem opCheck_good {o : DOp} (h : opOk o) : opCheck o = 0 := if_pos h
theorem opOk_of {o : DOp} (h : opCheck o = 0) : opOk o := by
  unfold opCheck at h
  split at h
  · assumption
  · cases h
def venc (x : Nat) : Bytes := if h : x < 128 then [UInt8.ofNat x] else UInt8.ofNat (x % 128 + 128) :: venc (x / 128)
  termination_by x
def vgo : Nat → Nat → Bytes → Option (Nat × Nat)
  | _, _, [] => none
  | i, x, c :: r => if i = 9 ∧ c.toNat > 1 then none else if c.toNat ≥ 128 then vgo (i + 1) (x + c.toNat % 128 * 2 ^ (7 * i)) r
    else if c.toNat = 0 ∧ i > 0 then none else some (x + c.toNat % 128 * 2 ^ (7 * i), i + 1)
def vread (b : Bytes) : Option (Nat × Nat) := vgo 0 0 b
def vsmall (b : Bytes) (most : Int) : Option (Nat × Nat) := match vread b with
  | some (x, n) => if (x : Int) ≤ most then some (x, n) else none
  | none => none
theorem venc_last {x : Nat} (h : x < 128) : venc x = [UInt8.ofNat (x % 256)] := by
  rw [venc, dif_pos h, Nat.mod_eq_of_lt (by omega)]
theorem venc_step {x : Nat} (h : ¬ x < 128) (out : Bytes) : out ++ venc x = (out ++ [UInt8.ofNat (x % 256 % 128 + 128)]) ++ venc (x / 128) := by
  rw [venc, dif_neg h]
  have : x % 256 % 128 = x % 128 := by omega
  rw [this]; simp
theorem venc_step2 {x : Nat} (h : ¬ x < 128) (out : Bytes) : out ++ venc x = (out ++ [UInt8.ofNat (x % 128 % 256 + 128)]) ++ venc (x / 128) := by
  rw [venc, dif_neg h]
  have : x % 128 % 256 = x % 128 := by omega
  rw [this]; simp
theorem venc_len_le : ∀ (k x : Nat), x < 128 ^ (k + 1) → (venc x).length ≤ k + 1
  | 0, x, h => by rw [venc, dif_pos (by omega)]; simp
  | k + 1, x, h => by
    rw [venc]
    split
    · simp
    · have := venc_len_le k (x / 128) (by rw [Nat.pow_succ] at h; omega)
      simp; omega
theorem venc_len {x : Nat} (h : x < 18446744073709551616) : (venc x).length ≤ 10 := venc_len_le 9 x (by omega)
theorem venc_pos (x : Nat) : 1 ≤ (venc x).length := by
  rw [venc]; split <;> simp
theorem venc_room {x y : Nat} {out b : Bytes} (hx : x < 18446744073709551616) (hy : y < 18446744073709551616) (h : out ++ venc x = b ++ venc y) : out.length ≤ b.length + 9 := by
  have h1 := congrArg List.length h
  have h2 := venc_len hy
  have h3 := venc_pos x
  simp at h1; omega
def spareB : Bytes := [201, 202, 203]
def spareO : List DOp := [(true, [98, 101, 104, 105, 110, 100], []), (true, [98, 101, 104, 105, 110, 100], []), (true, [98, 101, 104, 105, 110, 100], [])]
theorem spareB_next {out d : Bytes} {k : Nat} (h : out = d ++ spareB.take k) (hk : k < 3) : out ++ [UInt8.ofNat (201 + k % 256)] = d ++ spareB.take (k + 1) := by
  subst h
  match k, hk with
  | 0, _ => simp [spareB]
  | 1, _ => simp [spareB]
  | 2, _ => simp [spareB]
theorem spareO_next {out d : List DOp} {k : Nat} (h : out = d ++ spareO.take k) (hk : k < 3) : out ++ [(true, [98, 101, 104, 105, 110, 100], [])] = d ++ spareO.take (k + 1) := by
  subst h
  match k, hk with
  | 0, _ => simp [spareO]
  | 1, _ => simp [spareO]
  | 2, _ => simp [spareO]
theorem op_eq {x y : DOp} (h : x.1 = y.1 ∧ x.2.1 = y.2.1 ∧ x.2.2 = y.2.2) : x = y := Prod.ext h.1 (Prod.ext h.2.1 h.2.2)
theorem op_ne {x y : DOp} (h : ¬ (x.1 = y.1 ∧ x.2.1 = y.2.1 ∧ x.2.2 = y.2.2)) : ¬ x = y := fun e => h (by rw [e]; exact ⟨rfl, rfl, rfl⟩)
def shared : Bytes → Bytes → Nat
  | a :: r, b :: s => if a = b then shared r s + 1 else 0
  | _, _ => 0
def batchCheck (l : List DOp) : Int := if l.length = 0 then 2 else if 8 < l.length then 3 else if ∀ o ∈ l, opOk o then 0 else 2
def encOp (last : Bytes) (o : DOp) : Bytes :=
  (if o.1 then 1 else 0) :: (venc (shared last o.2.1) ++ (venc (o.2.1.length - shared last o.2.1) ++ (o.2.1.drop (shared last o.2.1) ++ (if o.1 then venc o.2.2.length ++ o.2.2 else []))))
def encOps : Bytes → List DOp → Bytes
  | _, [] => []
  | last, o :: r => encOp last o ++ encOps o.2.1 r
def batchEnc (l : List DOp) : Bytes := venc l.length ++ encOps [] l
end
section
set_option linter.unusedVariables false
set_option linter.unusedSimpArgs false
set_option maxRecDepth 4000
theorem fnOk100 : fnOk Try.prog 100 = true := by kernel_rfl
theorem fnOk102 : fnOk Try.prog 102 = true := by kernel_rfl
theorem fnOk15 : fnOk Try.prog 15 = true := by kernel_rfl
theorem fnOk21 : fnOk Try.prog 21 = true := by kernel_rfl
theorem fnOk53 : fnOk Try.prog 53 = true := by kernel_rfl
theorem fnOk87 : fnOk Try.prog 87 = true := by kernel_rfl
theorem teq78 (a0 : Bool) (a1 : List UInt8) (a2 : List UInt8) : plainS Try.prog 78 [.bool a0, str a1, str a2] = true := by kernel_rfl
theorem tk4 : tk Try.prog 4 = some none := by kernel_rfl
theorem tk5 : tk Try.prog 5 = some none := by kernel_rfl
theorem tk78 : tk Try.prog 78 = some (some 3) := by kernel_rfl
theorem tk9 : tk Try.prog 9 = some none := by kernel_rfl
theorem tsl25 : tsl Try.prog 25 = some (5, 1, 1) := by kernel_rfl
theorem tsl30 : tsl Try.prog 30 = some (78, 3, 40) := by kernel_rfl
theorem tst78 : tst Try.prog 78 = some [(0, 1), (1, 1), (2, 1)] := by kernel_rfl
theorem tz5 : tz Try.prog 5 = some [.int .u8 0] := by kernel_rfl
theorem tz78 : tz Try.prog 78 = some [.bool false, .string ⟨#[]⟩, .string ⟨#[]⟩] := by kernel_rfl
theorem follows : Try.prog.follows .mixedOrders = true := by kernel_rfl
theorem SameBytes_ok (W : World) {v0 : Value} {d0 : List UInt8} (h0 : Rd (.sl .byte) (wm W) [v0] d0) {v1 : Value} {d1 : List UInt8} (h1 : Rd (.sl .byte) (wm W) [v1] d1) : CallR Try.prog 21 [v0, v1] W (mnil) (fun v m' => v = .bool (decide (d0 = d1))) := by
  obtain ⟨A0, c0, rfl, l0, k0⟩ := h0.slice
  simp only [maxLen] at k0
  obtain ⟨A1, c1, rfl, l1, k1⟩ := h1.slice
  simp only [maxLen] at k1
  refine CallR.ofA (n := 26) Try.func21 rfl rfl rfl ?_
  refine VC.rs ?_
  refine VO.as ?_
  refine VO.k3 0 1 4 ?_
  refine VC.seq ?_
  refine VC.rs ?_
  refine VO.mv ?_
  refine VO.y rfl (.lenS rfl tsl25) ?_
  refine VO.mv ?_
  refine VO.y rfl (.lenS rfl tsl25) ?_
  refine VO.y rfl (.neq rfl rfl) ?_
  refine VO.k4 0 1 4 10 ?_
  refine VC.cond rfl (fun hc1 => ?_) (fun hc1 => ?_)
  · -- T
    refine VC.rs ?_
    refine VO.as ?_
    refine VO.kp [0] [(0, wm W)] ?_
    refine VO.k4 0 1 4 10 ?_
    refine VC.ret ?_
    refine outR ?_
    refine ⟨_, _, res_run (rs := [.tmp 4]) rfl (.tmp rfl .nil), fun W_ hI => out_of (l := []) hI [] rfl rfl (mle_refl _) (fun hS_ => ?_)⟩
    dsimp only [packV]
    all_goals (first | rfl | (simp [len_ne hc1]))
  · -- F
    refine VC.skip ?_
    refine outN ?_
    refine VC.seq ?_
    refine VC.rs ?_
    refine VO.as ?_
    refine VO.kp [0] [(0, wm W)] ?_
    refine VO.k5 0 1 4 5 10 ?_
    refine VC.block ?_
    refine VC.loop (G := Nat) (fun k => [(5, Value.int .i64 (((k : Nat) : Int))), (0, Value.slice A0 (d0.length) (c0)), (1, Value.slice A1 (d1.length) (c1)), (10, Value.bool (decide (¬ ((d0.length : Nat) : Int) = ((d1.length : Nat) : Int))))]) (fun k => [(0, wm W)]) (fun k => (k ≤ d0.length) ∧ (d0.take k = d1.take k)) (fun k => d0.length - k) 0 (⟨by omega, by rfl⟩) ⟨⟨rfl, rfl, rfl, rfl, trivial⟩, fun _ h => h.sub [0]⟩ ?_
    rintro k ⟨hk, ht⟩
    refine VC.seq ?_
    refine VC.rs ?_
    refine VO.mv ?_
    refine VO.mv ?_
    refine VO.y rfl (.lenS rfl tsl25) ?_
    refine VO.y rfl (.lss rfl rfl) ?_
    refine VO.k5 0 1 5 10 14 ?_
    refine VC.cond rfl (fun hc2 => ?_) (fun hc2 => ?_)
    · -- FT
      refine VC.skip ?_
      refine outN ?_
      refine VC.seq ?_
      refine VC.block ?_
      refine VC.seq ?_
      refine VC.regD _ 8 [(0, true), (1, true), (2, true), (3, true), (4, true), (5, true), (6, true), (7, true)] follows (by kernel_rfl) (fun _ h => h.sub [0]) ?_
      refine VD.y rfl rfl (.inl rfl) (.mv rfl) ?_
      refine VD.y rfl rfl (.inl rfl) (.mv rfl) ?_
      obtain ⟨x3, hx3⟩ : ∃ z_, (d0)[k]? = some z_ := ⟨_, List.getElem?_eq_getElem bd⟩
      obtain ⟨gg3, oo3, ec3, ea3, hce3, hre3⟩ := h0.elem hx3
      cases ea3
      obtain rfl := (show _ = _ from hre3)
      have xb3 := x3.toNat_lt
      refine VD.y rfl rfl (.inl rfl) (.ixI k rfl rfl tsl25 rfl bd) ?_
      refine VD.y rfl rfl (.inl rfl) (.ld1 0 rfl tk5 rfl hce3) ?_
      refine VD.y rfl rfl (.inl rfl) (.mv rfl) ?_
      refine VD.y rfl rfl (.inl rfl) (.mv rfl) ?_
      obtain ⟨x4, hx4⟩ : ∃ z_, (d1)[k]? = some z_ := ⟨_, List.getElem?_eq_getElem bd⟩
      obtain ⟨gg4, oo4, ec4, ea4, hce4, hre4⟩ := h1.elem hx4
      cases ea4
      obtain rfl := (show _ = _ from hre4)
      have xb4 := x4.toNat_lt
      refine VD.y rfl rfl (.inl rfl) (.ixI k rfl rfl tsl25 rfl bd) ?_
      refine VD.y rfl rfl (.inl rfl) (.ld1 0 rfl tk5 rfl hce4) ?_
      refine VD.nil rfl ?_ rfl
      refine VO.y rfl (.neq rfl rfl) ?_
      refine VO.k6 0 1 5 10 14 25 ?_
      refine outN ?_
      refine VC.cond rfl (fun hc5 => ?_) (fun hc5 => ?_)
      · -- FTT
        refine VC.rs ?_
        refine VO.as ?_
        refine VO.kp [0] [(0, wm W)] ?_
        refine VO.k7 0 1 4 5 10 14 25 ?_
        refine VC.ret ?_
        refine outBR ?_
        refine outR ?_
        refine outR ?_
        refine outBR ?_
        refine outR ?_
        refine ⟨_, _, res_run (rs := [.tmp 4]) rfl (.tmp rfl .nil), fun W_ hI => out_of (l := []) hI [] rfl rfl (mle_refl _) (fun hS_ => ?_)⟩
        dsimp only [packV]
        all_goals (first | rfl | (simp [get_ne ‹d0[k]? = some _› ‹d1[k]? = some _› (byte_ne ‹_›)]))
      · -- FTF
        refine VC.skip ?_
        refine outBN ?_
        refine outN ?_
        refine VC.reg ?_
        refine VO.mv ?_
        refine VO.y rfl (.add (c := ((k + 1 : Nat) : Int)) rfl rfl (by omega) ⟨bd, bd⟩) ?_
        refine VO.as ?_
        refine VO.kp [0] [(0, wm W)] ?_
        refine VO.k6 0 1 5 10 14 25 ?_
        exact outN ⟨k + 1, ⟨by omega, by exact take_next ht ‹d0[k]? = some _› ‹d1[k]? = some _› (byte_eq (by omega))⟩, bd, ⟨⟨rfl, rfl, rfl, rfl, trivial⟩, fun _ h => Inv.sub h [0]⟩⟩
    · -- FF
      refine VC.exit ?_
      refine outE ?_
      refine outE ?_
      refine outBB ?_
      refine outN ?_
      refine VC.rs ?_
      refine VO.as ?_
      refine VO.k6 0 1 4 5 10 14 ?_
      refine VC.ret ?_
      refine ⟨_, _, res_run (rs := [.tmp 4]) rfl (.tmp rfl .nil), fun W_ hI => out_of (l := []) hI [] rfl rfl (mle_refl _) (fun hS_ => ?_)⟩
      dsimp only [packV]
      all_goals (first | rfl | (simp [take_all ht (by omega) (by omega)]))
theorem SameOps_ok (W : World) {v0 : Value} {d0 : List DOp} (h0 : Rd (.sl TOp) (wm W) [v0] d0) {v1 : Value} {d1 : List DOp} (h1 : Rd (.sl TOp) (wm W) [v1] d1) : CallR Try.prog 100 [v0, v1] W (mnil) (fun v m' => v = .bool (decide (d0 = d1))) := by
  obtain ⟨A0, c0, rfl, l0, k0⟩ := h0.slice
  simp only [maxLen] at k0
  obtain ⟨A1, c1, rfl, l1, k1⟩ := h1.slice
  simp only [maxLen] at k1
  refine CallR.ofA (n := 26) Try.func100 rfl rfl rfl ?_
  refine VC.rs ?_
  refine VO.as ?_
  refine VO.k3 0 1 4 ?_
  refine VC.seq ?_
  refine VC.rs ?_
  refine VO.mv ?_
  refine VO.y rfl (.lenS rfl tsl30) ?_
  refine VO.mv ?_
  refine VO.y rfl (.lenS rfl tsl30) ?_
  refine VO.y rfl (.neq rfl rfl) ?_
  refine VO.k4 0 1 4 10 ?_
  refine VC.cond rfl (fun hc1 => ?_) (fun hc1 => ?_)
  · -- T
    refine VC.rs ?_
    refine VO.as ?_
    refine VO.kp [0] [(0, wm W)] ?_
    refine VO.k4 0 1 4 10 ?_
    refine VC.ret ?_
    refine outR ?_
    refine ⟨_, _, res_run (rs := [.tmp 4]) rfl (.tmp rfl .nil), fun W_ hI => out_of (l := []) hI [] rfl rfl (mle_refl _) (fun hS_ => ?_)⟩
    dsimp only [packV]
    all_goals (first | rfl | (simp [len_ne hc1]))
  · -- F
    refine VC.skip ?_
    refine outN ?_
    refine VC.seq ?_
    refine VC.rs ?_
    refine VO.as ?_
    refine VO.kp [0] [(0, wm W)] ?_
    refine VO.k5 0 1 4 5 10 ?_
    refine VC.block ?_
    refine VC.loop (G := Nat) (fun k => [(5, Value.int .i64 (((k : Nat) : Int))), (0, Value.slice A0 (d0.length) (c0)), (1, Value.slice A1 (d1.length) (c1)), (10, Value.bool (decide (¬ ((d0.length : Nat) : Int) = ((d1.length : Nat) : Int))))]) (fun k => [(0, wm W)]) (fun k => (k ≤ d0.length) ∧ (d0.take k = d1.take k)) (fun k => d0.length - k) 0 (⟨by omega, by rfl⟩) ⟨⟨rfl, rfl, rfl, rfl, trivial⟩, fun _ h => h.sub [0]⟩ ?_
    rintro k ⟨hk, ht⟩
    refine VC.seq ?_
    refine VC.rs ?_
    refine VO.mv ?_
    refine VO.mv ?_
    refine VO.y rfl (.lenS rfl tsl30) ?_
    refine VO.y rfl (.lss rfl rfl) ?_
    refine VO.k5 0 1 5 10 14 ?_
    refine VC.cond rfl (fun hc2 => ?_) (fun hc2 => ?_)
    · -- FT
      refine VC.skip ?_
      refine outN ?_
      refine VC.seq ?_
      refine VC.block ?_
      refine VC.seq ?_
      refine VC.regD _ 8 [(0, true), (1, true), (2, true), (3, true), (4, true), (5, true), (6, true), (7, true)] follows (by kernel_rfl) (fun _ h => h.sub [0]) ?_
      refine VD.y rfl rfl (.inl rfl) (.mv rfl) ?_
      refine VD.y rfl rfl (.inl rfl) (.mv rfl) ?_
      obtain ⟨x3, hx3⟩ : ∃ z_, (d0)[k]? = some z_ := ⟨_, List.getElem?_eq_getElem bd⟩
      obtain ⟨gg3, oo3, ec3, ea3, hce3, hre3⟩ := h0.elem hx3
      cases ea3
      obtain ⟨rfl, q3_1, q3_2⟩ := open_Op (x0 := x3.1) (x1 := x3.2.1) (x2 := x3.2.2) hre3
      simp only [maxLen] at q3_1
      simp only [maxLen] at q3_2
      refine VD.y rfl rfl (.inl rfl) (.ixI k rfl rfl tsl30 rfl bd) ?_
      refine VD.y rfl rfl (.inl rfl) (.ldA 0 rfl tk78 rfl hce3) ?_
      refine VD.y rfl rfl (.inl rfl) (.mv rfl) ?_
      refine VD.y rfl rfl (.inl rfl) (.mv rfl) ?_
      obtain ⟨x4, hx4⟩ : ∃ z_, (d1)[k]? = some z_ := ⟨_, List.getElem?_eq_getElem bd⟩
      obtain ⟨gg4, oo4, ec4, ea4, hce4, hre4⟩ := h1.elem hx4
      cases ea4
      obtain ⟨rfl, q4_1, q4_2⟩ := open_Op (x0 := x4.1) (x1 := x4.2.1) (x2 := x4.2.2) hre4
      simp only [maxLen] at q4_1
      simp only [maxLen] at q4_2
      refine VD.y rfl rfl (.inl rfl) (.ixI k rfl rfl tsl30 rfl bd) ?_
      refine VD.y rfl rfl (.inl rfl) (.ldA 0 rfl tk78 rfl hce4) ?_
      refine VD.nil rfl ?_ rfl
      refine VO.y rfl (.stneq (p := x3.1 = x4.1 ∧ x3.2.1 = x4.2.1 ∧ x3.2.2 = x4.2.2) rfl rfl (teq78 x3.1 x3.2.1 x3.2.2) (teq78 x4.1 x4.2.1 x4.2.2) (by simp [ceq, ba_toList])) ?_
      refine VO.k6 0 1 5 10 14 25 ?_
      refine outN ?_
      refine VC.cond rfl (fun hc5 => ?_) (fun hc5 => ?_)
      · -- FTT
        refine VC.rs ?_
        refine VO.as ?_
        refine VO.kp [0] [(0, wm W)] ?_
        refine VO.k7 0 1 4 5 10 14 25 ?_
        refine VC.ret ?_
        refine outBR ?_
        refine outR ?_
        refine outR ?_
        refine outBR ?_
        refine outR ?_
        refine ⟨_, _, res_run (rs := [.tmp 4]) rfl (.tmp rfl .nil), fun W_ hI => out_of (l := []) hI [] rfl rfl (mle_refl _) (fun hS_ => ?_)⟩
        dsimp only [packV]
        all_goals (first | rfl | (simp [get_ne ‹d0[k]? = some _› ‹d1[k]? = some _› (op_ne ‹_›)]))
      · -- FTF
        refine VC.skip ?_
        refine outBN ?_
        refine outN ?_
        refine VC.reg ?_
        refine VO.mv ?_
        refine VO.y rfl (.add (c := ((k + 1 : Nat) : Int)) rfl rfl (by omega) ⟨bd, bd⟩) ?_
        refine VO.as ?_
        refine VO.kp [0] [(0, wm W)] ?_
        refine VO.k6 0 1 5 10 14 25 ?_
        exact outN ⟨k + 1, ⟨by omega, by exact take_next ht ‹d0[k]? = some _› ‹d1[k]? = some _› (op_eq (by simpa using ‹¬ ¬ _›))⟩, bd, ⟨⟨rfl, rfl, rfl, rfl, trivial⟩, fun _ h => Inv.sub h [0]⟩⟩
    · -- FF
      refine VC.exit ?_
      refine outE ?_
      refine outE ?_
      refine outBB ?_
      refine outN ?_
      refine VC.rs ?_
      refine VO.as ?_
      refine VO.k6 0 1 4 5 10 14 ?_
      refine VC.ret ?_
      refine ⟨_, _, res_run (rs := [.tmp 4]) rfl (.tmp rfl .nil), fun W_ hI => out_of (l := []) hI [] rfl rfl (mle_refl _) (fun hS_ => ?_)⟩
      dsimp only [packV]
      all_goals (first | rfl | (simp [take_all ht (by omega) (by omega)]))
theorem CopyBytes_ok (W : World) {v0 : Value} {d0 : List UInt8} (h0 : Rd (.sl .byte) (wm W) [v0] d0) (e0 : d0.length ≤ 140737488355000) : CallR Try.prog 53 [v0] W (mnil) (fun v m' => ∃ (s0 : Value), v = s0 ∧ Ow (.sl .byte) m' [s0] (d0)) := by
  obtain ⟨A0, c0, rfl, l0, k0⟩ := h0.slice
  simp only [maxLen] at k0
  refine CallR.ofA (n := 6) Try.func53 rfl rfl rfl ?_
  refine VC.rs ?_
  refine VO.as ?_
  refine VO.k2 0 2 ?_
  refine VC.rs ?_
  refine VO.bsl (cs := []) 102 rfl rfl tsl25 tz5 rfl rfl (fun g1 => ?_)
  refine VO.mv ?_
  have ho4 : OwnL .byte (mone g1 (.cells [].toArray 5 (0, 0))) mnil (Value.slice (some ⟨g1, 0, none⟩) (0) (0)) [] := OwnL.lit 0 All2c.nil rfl rfl
  obtain ⟨mo3, cs3, hM3, hA3, hC3⟩ := ho4
  obtain ⟨all3, hS3, hR3⟩ := Rd.srcI (P := Try.prog) (h0) Try.underlying25
  refine VO.app 102 rfl rfl rfl tsl25 tz5 rfl rfl hM3 hA3 (hS3 _ 0 rfl) hR3.nice bdm bd (by decide) (fun v3 m3 hN3 => ?_)
  have ho3 : OwnL .byte m3 mnil v3 (d0) := OwnL.more hC3 hN3 (All2c.mono hR3 fun _ _ h => Rd.flat rfl h _)
  obtain ⟨A3, c3, rfl, l3, k3⟩ := ho3.slice
  simp only [maxLen] at k3
  refine VO.as ?_
  refine VO.k2 0 2 ?_
  refine VC.ret ?_
  refine ⟨_, _, res_run (rs := [.tmp 2]) rfl (.tmp rfl .nil), fun W_ hI => out_of (l := [m3]) hI [102] rfl rfl (mle_refl _) (fun hS_ => ?_)⟩
  dsimp only [packV]
  have he0 : (d0 : Ty.Den (.sl .byte)) = d0 := by first | rfl | (simp [*]; done)
  refine ⟨Value.slice A3 ((d0).length) (c3), ?_, ?_⟩
  rotate_left
  · rw [he0]; exact (Ow.up (OwnL.ow ho3 rfl) (hS_.1 _ (.head _)))
  all_goals (first | rfl | (simp [*]; done))
theorem CopyOps_ok (W : World) {v0 : Value} {d0 : List DOp} (h0 : Rd (.sl TOp) (wm W) [v0] d0) (e0 : d0.length ≤ 3518437208800) : CallR Try.prog 102 [v0] W (mnil) (fun v m' => ∃ (s0 : Value), v = s0 ∧ Ow (.sl TOp) m' [s0] (d0)) := by
  obtain ⟨A0, c0, rfl, l0, k0⟩ := h0.slice
  simp only [maxLen] at k0
  refine CallR.ofA (n := 6) Try.func102 rfl rfl rfl ?_
  refine VC.rs ?_
  refine VO.as ?_
  refine VO.k2 0 2 ?_
  refine VC.rs ?_
  refine VO.bsl (cs := []) 102 rfl rfl tsl30 tz78 rfl rfl (fun g1 => ?_)
  refine VO.mv ?_
  have ho4 : OwnL TOp (mone g1 (.cells [].toArray 78 (0, 0))) mnil (Value.slice (some ⟨g1, 0, none⟩) (0) (0)) [] := OwnL.lit 0 All2c.nil rfl rfl
  obtain ⟨mo3, cs3, hM3, hA3, hC3⟩ := ho4
  obtain ⟨all3, hS3, hR3⟩ := Rd.srcI (P := Try.prog) (h0) Try.underlying30
  refine VO.app 102 rfl rfl rfl tsl30 tz78 rfl rfl hM3 hA3 (hS3 _ 0 rfl) hR3.nice bdm bd (by decide) (fun v3 m3 hN3 => ?_)
  have ho3 : OwnL TOp m3 mnil v3 (d0) := OwnL.more hC3 hN3 (All2c.mono hR3 fun _ _ h => Rd.flat rfl h _)
  obtain ⟨A3, c3, rfl, l3, k3⟩ := ho3.slice
  simp only [maxLen] at k3
  refine VO.as ?_
  refine VO.k2 0 2 ?_
  refine VC.ret ?_
  refine ⟨_, _, res_run (rs := [.tmp 2]) rfl (.tmp rfl .nil), fun W_ hI => out_of (l := [m3]) hI [102] rfl rfl (mle_refl _) (fun hS_ => ?_)⟩
  dsimp only [packV]
  have he0 : (d0 : Ty.Den (.sl TOp)) = d0 := by first | rfl | (simp [*]; done)
  refine ⟨Value.slice A3 ((d0).length) (c3), ?_, ?_⟩
  rotate_left
  · rw [he0]; exact (Ow.up (OwnL.ow ho3 rfl) (hS_.1 _ (.head _)))
  all_goals (first | rfl | (simp [*]; done))
theorem LentBytes_ok (W : World) {v0 : Value} {d0 : List UInt8} (h0 : Rd (.sl .byte) (wm W) [v0] d0) (e0 : d0.length ≤ 140737488355000) : CallR Try.prog 15 [v0] W (mnil) (fun v m' => ∃ (s0 : Value), v = s0 ∧ Ow (.sl .byte) m' [s0] (d0 ++ spareB)) := by
  obtain ⟨A0, c0, rfl, l0, k0⟩ := h0.slice
  simp only [maxLen] at k0
  refine CallR.ofA (n := 18) Try.func15 rfl rfl rfl ?_
  refine VC.rs ?_
  refine VO.as ?_
  refine VO.k2 0 2 ?_
  refine VC.rs ?_
  refine VO.mv ?_
  refine VO.callN 101 rfl fnOk53 rfl (fun W hW => CopyBytes_ok W (Rd.mono h0 (hW.at (i := 0) rfl)) bd) (fun v1 m1 hv1 => ?_)
  obtain ⟨s1_0, rfl, f1_0⟩ := hv1
  obtain ⟨A1_0, c1_0, eq1_0, l1_0, k1_0⟩ := f1_0.slice
  subst eq1_0
  simp only [maxLen] at k1_0
  refine VO.as ?_
  refine VO.k3 0 2 3 ?_
  refine VC.seq ?_
  refine VC.rs ?_
  refine VO.as ?_
  refine VO.kp [101, 0] [(101, m1), (0, wm W)] ?_
  refine VO.k4 0 2 3 4 ?_
  refine VC.block ?_
  refine VC.loop (G := Nat × (List UInt8) × (Option Addr) × Nat × Mem) (fun g => [(3, Value.slice (g.2.2.1) ((g.2.1).length) ((g.2.2.2.1))), (4, Value.int .i64 ((((g.1) : Nat) : Int))), (0, Value.slice A0 (d0.length) (c0)), (2, Value.slice none (0) (0))]) (fun g => [(101, (g.2.2.2.2)), (0, wm W)]) (fun g => ((g.1) ≤ 3) ∧ ((g.2.1) = d0 ++ spareB.take (g.1)) ∧ (OwnL .byte (g.2.2.2.2) mnil (.slice (g.2.2.1) (g.2.1).length (g.2.2.2.1)) (g.2.1))) (fun g => 3 - (g.1)) (0, d0, A1_0, c1_0, m1) (⟨by omega, by simp, (Ow.ownl f1_0 rfl mnil)⟩) ⟨⟨rfl, rfl, rfl, rfl, trivial⟩, fun _ h => h.sub [101, 0]⟩ ?_
  rintro ⟨k, out, out_A, out_c, out_m⟩ ⟨hk, ho, h_out⟩
  replace hk : k ≤ 3 := hk
  replace ho : out = d0 ++ spareB.take k := ho
  replace h_out : OwnL .byte out_m mnil (.slice out_A out.length out_c) out := h_out
  show VC _ _ _ _ _ [(3, Value.slice out_A (out.length) (out_c)), (4, Value.int .i64 (((k : Nat) : Int))), (0, Value.slice A0 (d0.length) (c0)), (2, Value.slice none (0) (0))] [(101, out_m), (0, wm W)]
  have l_out : out.length ≤ out_c := by obtain ⟨_, _, he, hl, _⟩ := h_out.slice; simp only [Value.slice.injEq] at he; omega
  have k_out : out_c ≤ 9223372036854775807 := by obtain ⟨_, _, he, _, hl⟩ := h_out.slice; simp only [Value.slice.injEq, maxLen] at he hl; omega
  have hlo : out.length ≤ d0.length + 3 := by rw [ho]; simp [spareB]; omega
  refine VC.seq ?_
  refine VC.rs ?_
  refine VO.mv ?_
  refine VO.y rfl (.lss rfl rfl) ?_
  refine VO.k5 0 2 3 4 8 ?_
  refine VC.cond rfl (fun hc2 => ?_) (fun hc2 => ?_)
  · -- T
    refine VC.skip ?_
    refine outN ?_
    refine VC.seq ?_
    refine VC.block ?_
    refine VC.reg ?_
    refine VO.mv ?_
    refine VO.mv ?_
    refine VO.y rfl (.cvI rfl ⟨_, Try.underlying3⟩ Try.underlying5 (u8_of_nat _)) ?_
    refine VO.y rfl (.addN (c := 201 + (k % 256)) rfl rfl rfl (.inl ⟨rfl, by omega⟩)) ?_
    refine VO.bsl (cs := [Value.int .u8 (((201 + (k % 256) : Nat) : Int))]) 104 rfl rfl tsl25 tz5 rfl rfl (fun g3 => ?_)
    obtain ⟨mo5, cs5, hM5, hA5, hC5⟩ := h_out
    refine VO.app 101 rfl rfl rfl tsl25 tz5 rfl rfl hM5 hA5 (.row 104 _ _ _ 1 1 _ _ Try.underlying25 rfl (cellsAt_one rfl rfl)) (by simp [Value.oneCell']) bdm bd (by decide) (fun v5 m5 hN5 => ?_)
    have ho5 : OwnL .byte m5 mnil v5 (out ++ [UInt8.ofNat (201 + (k % 256))]) := OwnL.one hC5 hN5 (rd_byteN bd)
    obtain ⟨A5, c5, rfl, l5, k5⟩ := ho5.slice
    simp only [maxLen] at k5
    refine VO.as ?_
    refine VO.k5 0 2 3 4 8 ?_
    refine outBN ?_
    refine outN ?_
    refine VC.reg ?_
    refine VO.mv ?_
    refine VO.y rfl (.add (c := ((k + 1 : Nat) : Int)) rfl rfl (by omega) ⟨bd, bd⟩) ?_
    refine VO.as ?_
    refine VO.kp [101, 0] [(101, m5), (0, wm W)] ?_
    refine VO.k5 0 2 3 4 8 ?_
    exact outN ⟨⟨k + 1, out ++ [UInt8.ofNat (201 + (k % 256))], A5, c5, m5⟩, ⟨by omega, by exact spareB_next ho (by omega), ho5⟩, bd, ⟨⟨rfl, rfl, rfl, rfl, trivial⟩, fun _ h => Inv.sub h [101, 0]⟩⟩
  · -- F
    refine VC.exit ?_
    refine outE ?_
    refine outE ?_
    refine outBB ?_
    refine outN ?_
    refine VC.rs ?_
    refine VO.mv ?_
    refine VO.as ?_
    refine VO.k5 0 2 3 4 8 ?_
    refine VC.ret ?_
    refine ⟨_, _, res_run (rs := [.tmp 2]) rfl (.tmp rfl .nil), fun W_ hI => out_of (l := [out_m]) hI [101] rfl rfl (mle_refl _) (fun hS_ => ?_)⟩
    dsimp only [packV]
    have he0 : (d0 ++ spareB : Ty.Den (.sl .byte)) = out := by first | rfl | (have : k = 3 := (by omega); subst this; exact ho.symm)
    refine ⟨Value.slice out_A (out.length) (out_c), ?_, ?_⟩
    rotate_left
    · rw [he0]; exact (Ow.up (OwnL.ow h_out rfl) (hS_.1 _ (.head _)))
    all_goals (first | rfl | (simp [*]; done))
theorem LentOps_ok (W : World) {v0 : Value} {d0 : List DOp} (h0 : Rd (.sl TOp) (wm W) [v0] d0) (e0 : d0.length ≤ 3518437208800) : CallR Try.prog 87 [v0] W (mnil) (fun v m' => ∃ (s0 : Value), v = s0 ∧ Ow (.sl TOp) m' [s0] (d0 ++ spareO)) := by
  obtain ⟨A0, c0, rfl, l0, k0⟩ := h0.slice
  simp only [maxLen] at k0
  refine CallR.ofA (n := 16) Try.func87 rfl rfl rfl ?_
  refine VC.rs ?_
  refine VO.as ?_
  refine VO.k2 0 2 ?_
  refine VC.rs ?_
  refine VO.mv ?_
  refine VO.callN 101 rfl fnOk102 rfl (fun W hW => CopyOps_ok W (Rd.mono h0 (hW.at (i := 0) rfl)) bd) (fun v1 m1 hv1 => ?_)
  obtain ⟨s1_0, rfl, f1_0⟩ := hv1
  obtain ⟨A1_0, c1_0, eq1_0, l1_0, k1_0⟩ := f1_0.slice
  subst eq1_0
  simp only [maxLen] at k1_0
  refine VO.as ?_
  refine VO.k3 0 2 3 ?_
  refine VC.seq ?_
  refine VC.rs ?_
  refine VO.as ?_
  refine VO.kp [101, 0] [(101, m1), (0, wm W)] ?_
  refine VO.k4 0 2 3 4 ?_
  refine VC.block ?_
  refine VC.loop (G := Nat × (List DOp) × (Option Addr) × Nat × Mem) (fun g => [(3, Value.slice (g.2.2.1) ((g.2.1).length) ((g.2.2.2.1))), (4, Value.int .i64 ((((g.1) : Nat) : Int))), (0, Value.slice A0 (d0.length) (c0)), (2, Value.slice none (0) (0))]) (fun g => [(101, (g.2.2.2.2)), (0, wm W)]) (fun g => ((g.1) ≤ 3) ∧ ((g.2.1) = d0 ++ spareO.take (g.1)) ∧ (OwnL TOp (g.2.2.2.2) mnil (.slice (g.2.2.1) (g.2.1).length (g.2.2.2.1)) (g.2.1))) (fun g => 3 - (g.1)) (0, d0, A1_0, c1_0, m1) (⟨by omega, by simp, (Ow.ownl f1_0 rfl mnil)⟩) ⟨⟨rfl, rfl, rfl, rfl, trivial⟩, fun _ h => h.sub [101, 0]⟩ ?_
  rintro ⟨k, out, out_A, out_c, out_m⟩ ⟨hk, ho, h_out⟩
  replace hk : k ≤ 3 := hk
  replace ho : out = d0 ++ spareO.take k := ho
  replace h_out : OwnL TOp out_m mnil (.slice out_A out.length out_c) out := h_out
  show VC _ _ _ _ _ [(3, Value.slice out_A (out.length) (out_c)), (4, Value.int .i64 (((k : Nat) : Int))), (0, Value.slice A0 (d0.length) (c0)), (2, Value.slice none (0) (0))] [(101, out_m), (0, wm W)]
  have l_out : out.length ≤ out_c := by obtain ⟨_, _, he, hl, _⟩ := h_out.slice; simp only [Value.slice.injEq] at he; omega
  have k_out : out_c ≤ 9223372036854775807 := by obtain ⟨_, _, he, _, hl⟩ := h_out.slice; simp only [Value.slice.injEq, maxLen] at he hl; omega
  have hlo : out.length ≤ d0.length + 3 := by rw [ho]; simp [spareO]; omega
  refine VC.seq ?_
  refine VC.rs ?_
  refine VO.mv ?_
  refine VO.y rfl (.lss rfl rfl) ?_
  refine VO.k5 0 2 3 4 8 ?_
  refine VC.cond rfl (fun hc2 => ?_) (fun hc2 => ?_)
  · -- T
    refine VC.skip ?_
    refine outN ?_
    refine VC.seq ?_
    refine VC.block ?_
    refine VC.reg ?_
    refine VO.mv ?_
    refine VO.y rfl (.bst (cs := [Value.bool true, str ([98, 101, 104, 105, 110, 100]), str ([])]) rfl tst78 tz78 rfl) ?_
    refine VO.bsl (cs := [Value.bool true, str ([98, 101, 104, 105, 110, 100]), str ([])]) 104 rfl rfl tsl30 tz78 rfl rfl (fun g3 => ?_)
    obtain ⟨mo5, cs5, hM5, hA5, hC5⟩ := h_out
    refine VO.app 101 rfl rfl rfl tsl30 tz78 rfl rfl hM5 hA5 (.row 104 _ _ _ 1 1 _ _ Try.underlying30 rfl (cellsAt_one rfl rfl)) (by simp [Value.oneCell']) bdm bd (by decide) (fun v5 m5 hN5 => ?_)
    have ho5 : OwnL TOp m5 mnil v5 (out ++ [(true, [98, 101, 104, 105, 110, 100], [])]) := OwnL.one hC5 hN5 (mk_Op (m := _) true ([98, 101, 104, 105, 110, 100]) [] bdm bdm)
    obtain ⟨A5, c5, rfl, l5, k5⟩ := ho5.slice
    simp only [maxLen] at k5
    refine VO.as ?_
    refine VO.k5 0 2 3 4 8 ?_
    refine outBN ?_
    refine outN ?_
    refine VC.reg ?_
    refine VO.mv ?_
    refine VO.y rfl (.add (c := ((k + 1 : Nat) : Int)) rfl rfl (by omega) ⟨bd, bd⟩) ?_
    refine VO.as ?_
    refine VO.kp [101, 0] [(101, m5), (0, wm W)] ?_
    refine VO.k5 0 2 3 4 8 ?_
    exact outN ⟨⟨k + 1, out ++ [(true, [98, 101, 104, 105, 110, 100], [])], A5, c5, m5⟩, ⟨by omega, by exact spareO_next ho (by omega), ho5⟩, bd, ⟨⟨rfl, rfl, rfl, rfl, trivial⟩, fun _ h => Inv.sub h [101, 0]⟩⟩
  · -- F
    refine VC.exit ?_
    refine outE ?_
    refine outE ?_
    refine outBB ?_
    refine outN ?_
    refine VC.rs ?_
    refine VO.mv ?_
    refine VO.as ?_
    refine VO.k5 0 2 3 4 8 ?_
    refine VC.ret ?_
    refine ⟨_, _, res_run (rs := [.tmp 2]) rfl (.tmp rfl .nil), fun W_ hI => out_of (l := [out_m]) hI [101] rfl rfl (mle_refl _) (fun hS_ => ?_)⟩
    dsimp only [packV]
    have he0 : (d0 ++ spareO : Ty.Den (.sl TOp)) = out := by first | rfl | (have : k = 3 := (by omega); subst this; exact ho.symm)
    refine ⟨Value.slice out_A (out.length) (out_c), ?_, ?_⟩
    rotate_left
    · rw [he0]; exact (Ow.up (OwnL.ow h_out rfl) (hS_.1 _ (.head _)))
    all_goals (first | rfl | (simp [*]; done))
theorem KeptBytes_ok (W : World) {v0 : Value} {d0 : List UInt8} (h0 : Rd (.sl .byte) (wm W) [v0] d0) {v1 : Value} {d1 : List UInt8} (h1 : Rd (.sl .byte) (wm W) [v1] d1) (e0 : d1.length ≤ 140737488355000) : CallR Try.prog 25 [v0, v1] W (mnil) (fun v m' => v = .bool (decide (d0 = d1 ++ spareB))) := by
  obtain ⟨A0, c0, rfl, l0, k0⟩ := h0.slice
  simp only [maxLen] at k0
  obtain ⟨A1, c1, rfl, l1, k1⟩ := h1.slice
  simp only [maxLen] at k1
  refine CallR.ofA (n := 9) Try.func25 rfl rfl rfl ?_
  refine VC.rs ?_
  refine VO.as ?_
  refine VO.k3 0 1 4 ?_
  refine VC.rs ?_
  refine VO.mv ?_
  refine VO.mv ?_
  refine VO.callN 101 rfl fnOk15 rfl (fun W hW => LentBytes_ok W (Rd.mono h1 (hW.at (i := 0) rfl)) bd) (fun v1 m1 hv1 => ?_)
  obtain ⟨s1_0, rfl, f1_0⟩ := hv1
  obtain ⟨A1_0, c1_0, eq1_0, l1_0, k1_0⟩ := f1_0.slice
  subst eq1_0
  simp only [maxLen] at k1_0
  refine VO.callN 102 rfl fnOk21 rfl (fun W hW => SameBytes_ok W (Rd.mono h0 (hW.at (i := 0) rfl)) (OwnL.rd (Ow.ownl f1_0 rfl mnil) (hW.at (i := 101) rfl) (mle_nil _))) (fun v2 m2 hv2 => ?_)
  subst hv2
  refine VO.as ?_
  refine VO.k3 0 1 4 ?_
  refine VC.ret ?_
  refine ⟨_, _, res_run (rs := [.tmp 4]) rfl (.tmp rfl .nil), fun W_ hI => out_of (l := []) hI [] rfl rfl (mle_refl _) (fun hS_ => ?_)⟩
  dsimp only [packV]
  all_goals (first | rfl | (rfl))
theorem KeptOps_ok (W : World) {v0 : Value} {d0 : List DOp} (h0 : Rd (.sl TOp) (wm W) [v0] d0) {v1 : Value} {d1 : List DOp} (h1 : Rd (.sl TOp) (wm W) [v1] d1) (e0 : d1.length ≤ 3518437208800) : CallR Try.prog 99 [v0, v1] W (mnil) (fun v m' => v = .bool (decide (d0 = d1 ++ spareO))) := by
  obtain ⟨A0, c0, rfl, l0, k0⟩ := h0.slice
  simp only [maxLen] at k0
  obtain ⟨A1, c1, rfl, l1, k1⟩ := h1.slice
  simp only [maxLen] at k1
  refine CallR.ofA (n := 9) Try.func99 rfl rfl rfl ?_
  refine VC.rs ?_
  refine VO.as ?_
  refine VO.k3 0 1 4 ?_
  refine VC.rs ?_
  refine VO.mv ?_
  refine VO.mv ?_
  refine VO.callN 101 rfl fnOk87 rfl (fun W hW => LentOps_ok W (Rd.mono h1 (hW.at (i := 0) rfl)) bd) (fun v1 m1 hv1 => ?_)
  obtain ⟨s1_0, rfl, f1_0⟩ := hv1
  obtain ⟨A1_0, c1_0, eq1_0, l1_0, k1_0⟩ := f1_0.slice
  subst eq1_0
  simp only [maxLen] at k1_0
  refine VO.callN 102 rfl fnOk100 rfl (fun W hW => SameOps_ok W (Rd.mono h0 (hW.at (i := 0) rfl)) (OwnL.rd (Ow.ownl f1_0 rfl mnil) (hW.at (i := 101) rfl) (mle_nil _))) (fun v2 m2 hv2 => ?_)
  subst hv2
  refine VO.as ?_
  refine VO.k3 0 1 4 ?_
  refine VC.ret ?_
  refine ⟨_, _, res_run (rs := [.tmp 4]) rfl (.tmp rfl .nil), fun W_ hI => out_of (l := []) hI [] rfl rfl (mle_refl _) (fun hS_ => ?_)⟩
  dsimp only [packV]
  all_goals (first | rfl | (rfl))
theorem fin0_opCheck_ok {P : Prop} (h : P := by congr 1; first | exact (opCheck_bad (fun h => by have := h.1; have := h.2.1; have := h.2.2.1; omega)).symm | exact (opCheck_bad (fun h => by rcases h.2.2.2 with e | e <;> first | exact absurd e ‹¬ _ = _› | simp [e] at *)).symm | exact (opCheck_good ⟨by omega, by omega, by omega, by first | exact .inl ‹d0.1 = true› | exact .inr (by simpa using ‹¬ ¬ _›)⟩).symm) : P := h
theorem opCheck_ok (W : World) {v0 : List Value} {d0 : DOp} (h0 : Rd TOp (wm W) v0 d0) : CallR Try.prog 117 [.agg v0.toArray] W (mnil) (fun v m' => v = .int .i64 (opCheck d0)) := by
  obtain ⟨rfl, p0_1, p0_2⟩ := open_Op (x0 := d0.1) (x1 := d0.2.1) (x2 := d0.2.2) h0
  simp only [maxLen] at p0_1
  simp only [maxLen] at p0_2
  refine CallR.ofA (n := 29) Try.func117 rfl rfl rfl ?_
  refine VC.rs ?_
  refine VO.box (cs := [Value.bool d0.1, str (d0.2.1), str (d0.2.2)]) 102 rfl rfl rfl (fun g1 => ?_)
  refine VO.as ?_
  refine VO.k3 0 1 2 ?_
  refine VC.seq ?_
  refine VC.rs ?_
  refine VO.y rfl (.fa rfl tst78 rfl) ?_
  refine VO.y rfl (.ld1 102 rfl tk9 rfl (cellsAt_one rfl rfl)) ?_
  refine VO.y rfl (.lenT rfl Try.underlying9) ?_
  refine VO.y rfl (.lss rfl rfl) ?_
  refine VO.mv ?_
  refine VO.dec (t := 7) rfl (fun hc3 => ?_) (fun hc3 => ?_)
  · -- T
    refine VO.gN ?_
    refine VO.gN ?_
    refine VO.gN ?_
    refine VO.gN ?_
    refine VO.y rfl (.pT rfl rfl) ?_
    refine VO.mv ?_
    refine VO.gN ?_
    refine VO.gN ?_
    refine VO.gN ?_
    refine VO.gN ?_
    refine VO.y rfl (.pT rfl rfl) ?_
    refine VO.mv ?_
    refine VO.gN ?_
    refine VO.gN ?_
    refine VO.gN ?_
    refine VO.gN ?_
    refine VO.gn rfl (.inr ⟨_, rfl, rfl⟩) ?_
    refine VO.gn rfl (.inr ⟨_, rfl, rfl⟩) ?_
    refine VO.gn rfl (.inr ⟨_, rfl, rfl⟩) ?_
    refine VO.gN ?_
    refine VO.y rfl (.pT rfl rfl) ?_
    refine VO.k4 0 1 2 28 ?_
    refine VC.condT rfl ?_
    refine VC.rs ?_
    refine VO.as ?_
    refine VO.kp [102, 0] [(102, mone g1 (.cells [Value.bool d0.1, str (d0.2.1), str (d0.2.2)].toArray 78 (0, 0))), (0, wm W)] ?_
    refine VO.k4 0 1 2 28 ?_
    refine VC.ret ?_
    refine outR ?_
    refine ⟨_, _, res_run (rs := [.tmp 2]) rfl (.tmp rfl .nil), fun W_ hI => out_of (l := []) hI [] rfl rfl (mle_refl _) (fun hS_ => ?_)⟩
    dsimp only [packV]
    all_goals (first | rfl | (exact fin0_opCheck_ok))
  · -- F
    refine VO.gy rfl ⟨_, rfl, rfl⟩ (.fa rfl tst78 rfl) ?_
    refine VO.gy rfl ⟨_, rfl, rfl⟩ (.ld1 102 rfl tk9 rfl (cellsAt_one rfl rfl)) ?_
    refine VO.gy rfl ⟨_, rfl, rfl⟩ (.lenT rfl Try.underlying9) ?_
    refine VO.gy rfl ⟨_, rfl, rfl⟩ (.gtr rfl rfl) ?_
    refine VO.y rfl (.pF rfl rfl) ?_
    refine VO.mv ?_
    refine VO.dec (t := 13) rfl (fun hc4 => ?_) (fun hc4 => ?_)
    · -- FT
      refine VO.gN ?_
      refine VO.gN ?_
      refine VO.gN ?_
      refine VO.gN ?_
      refine VO.y rfl (.pT rfl rfl) ?_
      refine VO.mv ?_
      refine VO.gN ?_
      refine VO.gN ?_
      refine VO.gN ?_
      refine VO.gN ?_
      refine VO.gn rfl (.inr ⟨_, rfl, rfl⟩) ?_
      refine VO.gn rfl (.inr ⟨_, rfl, rfl⟩) ?_
      refine VO.gn rfl (.inr ⟨_, rfl, rfl⟩) ?_
      refine VO.gN ?_
      refine VO.y rfl (.pT rfl rfl) ?_
      refine VO.k4 0 1 2 28 ?_
      refine VC.condT rfl ?_
      refine VC.rs ?_
      refine VO.as ?_
      refine VO.kp [102, 0] [(102, mone g1 (.cells [Value.bool d0.1, str (d0.2.1), str (d0.2.2)].toArray 78 (0, 0))), (0, wm W)] ?_
      refine VO.k4 0 1 2 28 ?_
      refine VC.ret ?_
      refine outR ?_
      refine ⟨_, _, res_run (rs := [.tmp 2]) rfl (.tmp rfl .nil), fun W_ hI => out_of (l := []) hI [] rfl rfl (mle_refl _) (fun hS_ => ?_)⟩
      dsimp only [packV]
      all_goals (first | rfl | (exact fin0_opCheck_ok))
    · -- FF
      refine VO.gy rfl ⟨_, rfl, rfl⟩ (.fa rfl tst78 rfl) ?_
      refine VO.gy rfl ⟨_, rfl, rfl⟩ (.ld1 102 rfl tk9 rfl (cellsAt_one rfl rfl)) ?_
      refine VO.gy rfl ⟨_, rfl, rfl⟩ (.lenT rfl Try.underlying9) ?_
      refine VO.gy rfl ⟨_, rfl, rfl⟩ (.gtr rfl rfl) ?_
      refine VO.y rfl (.pF rfl rfl) ?_
      refine VO.mv ?_
      refine VO.dec (t := 19) rfl (fun hc5 => ?_) (fun hc5 => ?_)
      · -- FFT
        refine VO.gN ?_
        refine VO.gN ?_
        refine VO.gN ?_
        refine VO.gN ?_
        refine VO.gn rfl (.inr ⟨_, rfl, rfl⟩) ?_
        refine VO.gn rfl (.inr ⟨_, rfl, rfl⟩) ?_
        refine VO.gn rfl (.inr ⟨_, rfl, rfl⟩) ?_
        refine VO.gN ?_
        refine VO.y rfl (.pT rfl rfl) ?_
        refine VO.k4 0 1 2 28 ?_
        refine VC.condT rfl ?_
        refine VC.rs ?_
        refine VO.as ?_
        refine VO.kp [102, 0] [(102, mone g1 (.cells [Value.bool d0.1, str (d0.2.1), str (d0.2.2)].toArray 78 (0, 0))), (0, wm W)] ?_
        refine VO.k4 0 1 2 28 ?_
        refine VC.ret ?_
        refine outR ?_
        refine ⟨_, _, res_run (rs := [.tmp 2]) rfl (.tmp rfl .nil), fun W_ hI => out_of (l := []) hI [] rfl rfl (mle_refl _) (fun hS_ => ?_)⟩
        dsimp only [packV]
        all_goals (first | rfl | (exact fin0_opCheck_ok))
      · -- FFF
        refine VO.gy rfl ⟨_, rfl, rfl⟩ (.fa rfl tst78 rfl) ?_
        refine VO.gy rfl ⟨_, rfl, rfl⟩ (.ld1 102 rfl tk4 rfl (cellsAt_one rfl rfl)) ?_
        refine VO.gy rfl ⟨_, rfl, rfl⟩ (.not rfl) ?_
        refine VO.gy rfl ⟨_, rfl, rfl⟩ (.mv rfl) ?_
        refine VO.decBN (t := 23) rfl (fun hc6 => ?_) (fun hc6 => ?_)
        · -- FFFT
          refine VO.gy rfl ⟨_, rfl, rfl⟩ (.fa rfl tst78 rfl) ?_
          refine VO.gy rfl ⟨_, rfl, rfl⟩ (.ld1 102 rfl tk9 rfl (cellsAt_one rfl rfl)) ?_
          refine VO.gy rfl ⟨_, rfl, rfl⟩ (.sneq rfl rfl) ?_
          refine VO.gy rfl ⟨_, rfl, rfl⟩ (.pT rfl rfl) ?_
          refine VO.y rfl (.pF rfl rfl) ?_
          refine VO.k4 0 1 2 28 ?_
          refine VC.cond rfl (fun hc7 => ?_) (fun hc7 => ?_)
          · -- FFFTT
            refine VC.rs ?_
            refine VO.as ?_
            refine VO.kp [102, 0] [(102, mone g1 (.cells [Value.bool d0.1, str (d0.2.1), str (d0.2.2)].toArray 78 (0, 0))), (0, wm W)] ?_
            refine VO.k4 0 1 2 28 ?_
            refine VC.ret ?_
            refine outR ?_
            refine ⟨_, _, res_run (rs := [.tmp 2]) rfl (.tmp rfl .nil), fun W_ hI => out_of (l := []) hI [] rfl rfl (mle_refl _) (fun hS_ => ?_)⟩
            dsimp only [packV]
            all_goals (first | rfl | (exact fin0_opCheck_ok))
          · -- FFFTF
            refine VC.skip ?_
            refine outN ?_
            refine VC.rs ?_
            refine VO.as ?_
            refine VO.kp [102, 0] [(102, mone g1 (.cells [Value.bool d0.1, str (d0.2.1), str (d0.2.2)].toArray 78 (0, 0))), (0, wm W)] ?_
            refine VO.k4 0 1 2 28 ?_
            refine VC.ret ?_
            refine ⟨_, _, res_run (rs := [.tmp 2]) rfl (.tmp rfl .nil), fun W_ hI => out_of (l := []) hI [] rfl rfl (mle_refl _) (fun hS_ => ?_)⟩
            dsimp only [packV]
            all_goals (first | rfl | (exact fin0_opCheck_ok))
        · -- FFFF
          refine VO.gN ?_
          refine VO.gN ?_
          refine VO.gN ?_
          refine VO.gy rfl ⟨_, rfl, rfl⟩ (.pF rfl rfl) ?_
          refine VO.y rfl (.pF rfl rfl) ?_
          refine VO.k4 0 1 2 28 ?_
          refine VC.condF rfl ?_
          refine VC.skip ?_
          refine outN ?_
          refine VC.rs ?_
          refine VO.as ?_
          refine VO.kp [102, 0] [(102, mone g1 (.cells [Value.bool d0.1, str (d0.2.1), str (d0.2.2)].toArray 78 (0, 0))), (0, wm W)] ?_
          refine VO.k4 0 1 2 28 ?_
          refine VC.ret ?_
          refine ⟨_, _, res_run (rs := [.tmp 2]) rfl (.tmp rfl .nil), fun W_ hI => out_of (l := []) hI [] rfl rfl (mle_refl _) (fun hS_ => ?_)⟩
          dsimp only [packV]
          all_goals (first | rfl | (exact fin0_opCheck_ok))
theorem fin0_refOpCheck_ok {P : Prop} (h : P := by congr 1; first | exact (opCheck_bad (fun h => by have := h.1; have := h.2.1; have := h.2.2.1; omega)).symm | exact (opCheck_bad (fun h => by rcases h.2.2.2 with e | e <;> first | exact absurd e ‹¬ _ = _› | simp [e] at *)).symm | exact (opCheck_good ⟨by omega, by omega, by omega, by first | exact .inl ‹d0.1 = true› | exact .inr (by simpa using ‹¬ ¬ _›)⟩).symm) : P := h
theorem refOpCheck_ok (W : World) {v0 : List Value} {d0 : DOp} (h0 : Rd TOp (wm W) v0 d0) : CallR Try.prog 123 [.agg v0.toArray] W (mnil) (fun v m' => v = .int .i64 (opCheck d0)) := by
  obtain ⟨rfl, p0_1, p0_2⟩ := open_Op (x0 := d0.1) (x1 := d0.2.1) (x2 := d0.2.2) h0
  simp only [maxLen] at p0_1
  simp only [maxLen] at p0_2
  refine CallR.ofA (n := 29) Try.func123 rfl rfl rfl ?_
  refine VC.rs ?_
  refine VO.box (cs := [Value.bool d0.1, str (d0.2.1), str (d0.2.2)]) 102 rfl rfl rfl (fun g1 => ?_)
  refine VO.as ?_
  refine VO.k3 0 1 2 ?_
  refine VC.seq ?_
  refine VC.rs ?_
  refine VO.y rfl (.fa rfl tst78 rfl) ?_
  refine VO.y rfl (.ld1 102 rfl tk9 rfl (cellsAt_one rfl rfl)) ?_
  refine VO.y rfl (.lenT rfl Try.underlying9) ?_
  refine VO.y rfl (.lss rfl rfl) ?_
  refine VO.mv ?_
  refine VO.dec (t := 7) rfl (fun hc3 => ?_) (fun hc3 => ?_)
  · -- T
    refine VO.gN ?_
    refine VO.gN ?_
    refine VO.gN ?_
    refine VO.gN ?_
    refine VO.y rfl (.pT rfl rfl) ?_
    refine VO.mv ?_
    refine VO.gN ?_
    refine VO.gN ?_
    refine VO.gN ?_
    refine VO.gN ?_
    refine VO.y rfl (.pT rfl rfl) ?_
    refine VO.mv ?_
    refine VO.gN ?_
    refine VO.gN ?_
    refine VO.gN ?_
    refine VO.gN ?_
    refine VO.gn rfl (.inr ⟨_, rfl, rfl⟩) ?_
    refine VO.gn rfl (.inr ⟨_, rfl, rfl⟩) ?_
    refine VO.gn rfl (.inr ⟨_, rfl, rfl⟩) ?_
    refine VO.gN ?_
    refine VO.y rfl (.pT rfl rfl) ?_
    refine VO.k4 0 1 2 28 ?_
    refine VC.condT rfl ?_
    refine VC.rs ?_
    refine VO.as ?_
    refine VO.kp [102, 0] [(102, mone g1 (.cells [Value.bool d0.1, str (d0.2.1), str (d0.2.2)].toArray 78 (0, 0))), (0, wm W)] ?_
    refine VO.k4 0 1 2 28 ?_
    refine VC.ret ?_
    refine outR ?_
    refine ⟨_, _, res_run (rs := [.tmp 2]) rfl (.tmp rfl .nil), fun W_ hI => out_of (l := []) hI [] rfl rfl (mle_refl _) (fun hS_ => ?_)⟩
    dsimp only [packV]
    all_goals (first | rfl | (exact fin0_refOpCheck_ok))
  · -- F
    refine VO.gy rfl ⟨_, rfl, rfl⟩ (.fa rfl tst78 rfl) ?_
    refine VO.gy rfl ⟨_, rfl, rfl⟩ (.ld1 102 rfl tk9 rfl (cellsAt_one rfl rfl)) ?_
    refine VO.gy rfl ⟨_, rfl, rfl⟩ (.lenT rfl Try.underlying9) ?_
    refine VO.gy rfl ⟨_, rfl, rfl⟩ (.gtr rfl rfl) ?_
    refine VO.y rfl (.pF rfl rfl) ?_
    refine VO.mv ?_
    refine VO.dec (t := 13) rfl (fun hc4 => ?_) (fun hc4 => ?_)
    · -- FT
      refine VO.gN ?_
      refine VO.gN ?_
      refine VO.gN ?_
      refine VO.gN ?_
      refine VO.y rfl (.pT rfl rfl) ?_
      refine VO.mv ?_
      refine VO.gN ?_
      refine VO.gN ?_
      refine VO.gN ?_
      refine VO.gN ?_
      refine VO.gn rfl (.inr ⟨_, rfl, rfl⟩) ?_
      refine VO.gn rfl (.inr ⟨_, rfl, rfl⟩) ?_
      refine VO.gn rfl (.inr ⟨_, rfl, rfl⟩) ?_
      refine VO.gN ?_
      refine VO.y rfl (.pT rfl rfl) ?_
      refine VO.k4 0 1 2 28 ?_
      refine VC.condT rfl ?_
      refine VC.rs ?_
      refine VO.as ?_
      refine VO.kp [102, 0] [(102, mone g1 (.cells [Value.bool d0.1, str (d0.2.1), str (d0.2.2)].toArray 78 (0, 0))), (0, wm W)] ?_
      refine VO.k4 0 1 2 28 ?_
      refine VC.ret ?_
      refine outR ?_
      refine ⟨_, _, res_run (rs := [.tmp 2]) rfl (.tmp rfl .nil), fun W_ hI => out_of (l := []) hI [] rfl rfl (mle_refl _) (fun hS_ => ?_)⟩
      dsimp only [packV]
      all_goals (first | rfl | (exact fin0_refOpCheck_ok))
    · -- FF
      refine VO.gy rfl ⟨_, rfl, rfl⟩ (.fa rfl tst78 rfl) ?_
      refine VO.gy rfl ⟨_, rfl, rfl⟩ (.ld1 102 rfl tk9 rfl (cellsAt_one rfl rfl)) ?_
      refine VO.gy rfl ⟨_, rfl, rfl⟩ (.lenT rfl Try.underlying9) ?_
      refine VO.gy rfl ⟨_, rfl, rfl⟩ (.gtr rfl rfl) ?_
      refine VO.y rfl (.pF rfl rfl) ?_
      refine VO.mv ?_
      refine VO.dec (t := 19) rfl (fun hc5 => ?_) (fun hc5 => ?_)
      · -- FFT
        refine VO.gN ?_
        refine VO.gN ?_
        refine VO.gN ?_
        refine VO.gN ?_
        refine VO.gn rfl (.inr ⟨_, rfl, rfl⟩) ?_
        refine VO.gn rfl (.inr ⟨_, rfl, rfl⟩) ?_
        refine VO.gn rfl (.inr ⟨_, rfl, rfl⟩) ?_
        refine VO.gN ?_
        refine VO.y rfl (.pT rfl rfl) ?_
        refine VO.k4 0 1 2 28 ?_
        refine VC.condT rfl ?_
        refine VC.rs ?_
        refine VO.as ?_
        refine VO.kp [102, 0] [(102, mone g1 (.cells [Value.bool d0.1, str (d0.2.1), str (d0.2.2)].toArray 78 (0, 0))), (0, wm W)] ?_
        refine VO.k4 0 1 2 28 ?_
        refine VC.ret ?_
        refine outR ?_
        refine ⟨_, _, res_run (rs := [.tmp 2]) rfl (.tmp rfl .nil), fun W_ hI => out_of (l := []) hI [] rfl rfl (mle_refl _) (fun hS_ => ?_)⟩
        dsimp only [packV]
        all_goals (first | rfl | (exact fin0_refOpCheck_ok))
      · -- FFF
        refine VO.gy rfl ⟨_, rfl, rfl⟩ (.fa rfl tst78 rfl) ?_
        refine VO.gy rfl ⟨_, rfl, rfl⟩ (.ld1 102 rfl tk4 rfl (cellsAt_one rfl rfl)) ?_
        refine VO.gy rfl ⟨_, rfl, rfl⟩ (.not rfl) ?_
        refine VO.gy rfl ⟨_, rfl, rfl⟩ (.mv rfl) ?_
        refine VO.decBN (t := 23) rfl (fun hc6 => ?_) (fun hc6 => ?_)
        · -- FFFT
          refine VO.gy rfl ⟨_, rfl, rfl⟩ (.fa rfl tst78 rfl) ?_
          refine VO.gy rfl ⟨_, rfl, rfl⟩ (.ld1 102 rfl tk9 rfl (cellsAt_one rfl rfl)) ?_
          refine VO.gy rfl ⟨_, rfl, rfl⟩ (.sneq rfl rfl) ?_
          refine VO.gy rfl ⟨_, rfl, rfl⟩ (.pT rfl rfl) ?_
          refine VO.y rfl (.pF rfl rfl) ?_
          refine VO.k4 0 1 2 28 ?_
          refine VC.cond rfl (fun hc7 => ?_) (fun hc7 => ?_)
          · -- FFFTT
            refine VC.rs ?_
            refine VO.as ?_
            refine VO.kp [102, 0] [(102, mone g1 (.cells [Value.bool d0.1, str (d0.2.1), str (d0.2.2)].toArray 78 (0, 0))), (0, wm W)] ?_
            refine VO.k4 0 1 2 28 ?_
            refine VC.ret ?_
            refine outR ?_
            refine ⟨_, _, res_run (rs := [.tmp 2]) rfl (.tmp rfl .nil), fun W_ hI => out_of (l := []) hI [] rfl rfl (mle_refl _) (fun hS_ => ?_)⟩
            dsimp only [packV]
            all_goals (first | rfl | (exact fin0_refOpCheck_ok))
          · -- FFFTF
            refine VC.skip ?_
            refine outN ?_
            refine VC.rs ?_
            refine VO.as ?_
            refine VO.kp [102, 0] [(102, mone g1 (.cells [Value.bool d0.1, str (d0.2.1), str (d0.2.2)].toArray 78 (0, 0))), (0, wm W)] ?_
            refine VO.k4 0 1 2 28 ?_
            refine VC.ret ?_
            refine ⟨_, _, res_run (rs := [.tmp 2]) rfl (.tmp rfl .nil), fun W_ hI => out_of (l := []) hI [] rfl rfl (mle_refl _) (fun hS_ => ?_)⟩
            dsimp only [packV]
            all_goals (first | rfl | (exact fin0_refOpCheck_ok))
        · -- FFFF
          refine VO.gN ?_
          refine VO.gN ?_
          refine VO.gN ?_
          refine VO.gy rfl ⟨_, rfl, rfl⟩ (.pF rfl rfl) ?_
          refine VO.y rfl (.pF rfl rfl) ?_
          refine VO.k4 0 1 2 28 ?_
          refine VC.condF rfl ?_
          refine VC.skip ?_
          refine outN ?_
          refine VC.rs ?_
          refine VO.as ?_
          refine VO.kp [102, 0] [(102, mone g1 (.cells [Value.bool d0.1, str (d0.2.1), str (d0.2.2)].toArray 78 (0, 0))), (0, wm W)] ?_
          refine VO.k4 0 1 2 28 ?_
          refine VC.ret ?_
          refine ⟨_, _, res_run (rs := [.tmp 2]) rfl (.tmp rfl .nil), fun W_ hI => out_of (l := []) hI [] rfl rfl (mle_refl _) (fun hS_ => ?_)⟩
          dsimp only [packV]
          all_goals (first | rfl | (exact fin0_refOpCheck_ok))
theorem within_ok (W : World) (d0 : Int) (h0 : inK .i64 d0) : CallR Try.prog 105 [.int .i64 d0] W (mnil) (fun v m' => v = .bool (decide (1 ≤ d0 ∧ d0 ≤ 1048576))) := by
  have h0' := h0; simp only [inK] at h0'
  refine CallR.ofA (n := 9) Try.func105 rfl rfl rfl ?_
  refine VC.rs ?_
  refine VO.as ?_
  refine VO.k2 0 2 ?_
  refine VC.rs ?_
  refine VO.mv ?_
  refine VO.y rfl (.geq rfl rfl) ?_
  refine VO.mv ?_
  refine VO.dec (t := 5) rfl (fun hc1 => ?_) (fun hc1 => ?_)
  · -- T
    refine VO.gy rfl ⟨_, rfl, rfl⟩ (.mv rfl) ?_
    refine VO.gy rfl ⟨_, rfl, rfl⟩ (.leq rfl rfl) ?_
    refine VO.y rfl (.pT rfl rfl) ?_
    refine VO.as ?_
    refine VO.k2 0 2 ?_
    refine VC.ret ?_
    refine ⟨_, _, res_run (rs := [.tmp 2]) rfl (.tmp rfl .nil), fun W_ hI => out_of (l := []) hI [] rfl rfl (mle_refl _) (fun hS_ => ?_)⟩
    dsimp only [packV]
    all_goals (first | rfl | (simp [*]))
  · -- F
    refine VO.gN ?_
    refine VO.gN ?_
    refine VO.y rfl (.pF rfl rfl) ?_
    refine VO.as ?_
    refine VO.k2 0 2 ?_
    refine VC.ret ?_
    refine ⟨_, _, res_run (rs := [.tmp 2]) rfl (.tmp rfl .nil), fun W_ hI => out_of (l := []) hI [] rfl rfl (mle_refl _) (fun hS_ => ?_)⟩
    dsimp only [packV]
    all_goals (first | rfl | (simp [*]))
theorem vAppend_ok (W : World) {v0 : Value} {d0 : List UInt8} (h0 : Rd (.sl .byte) (wm W) [v0] d0) (d1 : Nat) (h1 : d1 < 18446744073709551616) (e0 : d0.length ≤ 140737488355000) : CallR Try.prog 54 [v0, .int .u64 (d1 : Int)] W (mnil) (fun v m' => ∃ (s0 : Value), v = s0 ∧ Ow (.sl .byte) m' [s0] (d0 ++ venc d1)) := by
  obtain ⟨A0, c0, rfl, l0, k0⟩ := h0.slice
  simp only [maxLen] at k0
  refine CallR.ofA (n := 23) Try.func54 rfl rfl rfl ?_
  refine VC.rs ?_
  refine VO.as ?_
  refine VO.k3 0 1 4 ?_
  refine VC.rs ?_
  refine VO.mv ?_
  refine VO.inv _ (fun _ h => h.nilc 102) ?_
  obtain ⟨mo1, cs1, hM1, hA1, hC1⟩ := (OwnL.nil .byte mnil mnil)
  obtain ⟨all1, hS1, hR1⟩ := Rd.srcI (P := Try.prog) (h0) Try.underlying25
  refine VO.app 102 rfl rfl rfl tsl25 tz5 rfl rfl hM1 hA1 (hS1 _ 0 rfl) hR1.nice bdm bd (by decide) (fun v1 m1 hN1 => ?_)
  have ho1 : OwnL .byte m1 mnil v1 (d0) := OwnL.more hC1 hN1 (All2c.mono hR1 fun _ _ h => Rd.flat rfl h _)
  obtain ⟨A1, c1, rfl, l1, k1⟩ := ho1.slice
  simp only [maxLen] at k1
  refine VO.as ?_
  refine VO.k4 0 1 4 5 ?_
  refine VC.seq ?_
  refine VC.block ?_
  refine VC.loop (G := Nat × (List UInt8) × (Option Addr) × Nat × Mem) (fun g => [(1, Value.int .u64 ((((g.1) : Nat) : Int))), (5, Value.slice (g.2.2.1) ((g.2.1).length) ((g.2.2.2.1))), (0, Value.slice A0 (d0.length) (c0)), (4, Value.slice none (0) (0))]) (fun g => [(102, (g.2.2.2.2)), (0, wm W)]) (fun g => ((g.1) < 18446744073709551616) ∧ ((g.2.1) ++ venc (g.1) = d0 ++ venc d1) ∧ (OwnL .byte (g.2.2.2.2) mnil (.slice (g.2.2.1) (g.2.1).length (g.2.2.2.1)) (g.2.1))) (fun g => (g.1)) (d1, d0, A1, c1, m1) (⟨by omega, by rfl, ho1⟩) ⟨⟨rfl, rfl, rfl, rfl, trivial⟩, fun _ h => h.sub [102, 0]⟩ ?_
  rintro ⟨x, out, out_A, out_c, out_m⟩ ⟨hx, ho, h_out⟩
  replace hx : x < 18446744073709551616 := hx
  replace ho : out ++ venc x = d0 ++ venc d1 := ho
  replace h_out : OwnL .byte out_m mnil (.slice out_A out.length out_c) out := h_out
  show VC _ _ _ _ _ [(1, Value.int .u64 (((x : Nat) : Int))), (5, Value.slice out_A (out.length) (out_c)), (0, Value.slice A0 (d0.length) (c0)), (4, Value.slice none (0) (0))] [(102, out_m), (0, wm W)]
  have l_out : out.length ≤ out_c := by obtain ⟨_, _, he, hl, _⟩ := h_out.slice; simp only [Value.slice.injEq] at he; omega
  have k_out : out_c ≤ 9223372036854775807 := by obtain ⟨_, _, he, _, hl⟩ := h_out.slice; simp only [Value.slice.injEq, maxLen] at he hl; omega
  have hlo := venc_room hx h1 ho
  refine VC.block ?_
  refine VC.seq ?_
  refine VC.rs ?_
  refine VO.mv ?_
  refine VO.y rfl (.lss rfl rfl) ?_
  refine VO.kp [102, 0] [(102, out_m), (0, wm W)] ?_
  refine VO.k5 0 1 4 5 9 ?_
  refine VC.cond rfl (fun hc3 => ?_) (fun hc3 => ?_)
  · -- T
    refine VC.exit ?_
    refine outE ?_
    refine outBE rfl ?_
    refine outE ?_
    refine outBB ?_
    refine outN ?_
    refine VC.rs ?_
    refine VO.mv ?_
    refine VO.mv ?_
    refine VO.y rfl (.cvI rfl ⟨_, Try.underlying82⟩ Try.underlying5 (u8_of_nat _)) ?_
    refine VO.bsl (cs := [Value.int .u8 (((x % 256 : Nat) : Int))]) 105 rfl rfl tsl25 tz5 rfl rfl (fun g4 => ?_)
    obtain ⟨mo6, cs6, hM6, hA6, hC6⟩ := h_out
    refine VO.app 102 rfl rfl rfl tsl25 tz5 rfl rfl hM6 hA6 (.row 105 _ _ _ 1 1 _ _ Try.underlying25 rfl (cellsAt_one rfl rfl)) (by simp [Value.oneCell']) bdm bd (by decide) (fun v6 m6 hN6 => ?_)
    have ho6 : OwnL .byte m6 mnil v6 (out ++ [UInt8.ofNat (x % 256)]) := OwnL.one hC6 hN6 (rd_byteN bd)
    obtain ⟨A6, c6, rfl, l6, k6⟩ := ho6.slice
    simp only [maxLen] at k6
    refine VO.as ?_
    refine VO.k5 0 1 4 5 9 ?_
    refine VC.ret ?_
    refine ⟨_, _, res_run (rs := [.tmp 4]) rfl (.tmp rfl .nil), fun W_ hI => out_of (l := [m6]) hI [102] rfl rfl (mle_refl _) (fun hS_ => ?_)⟩
    dsimp only [packV]
    have he0 : (d0 ++ venc d1 : Ty.Den (.sl .byte)) = out ++ [UInt8.ofNat (x % 256)] := by first | rfl | (rw [← ho, venc_last (by omega)])
    refine ⟨Value.slice A6 ((out ++ [UInt8.ofNat (x % 256)]).length) (c6), ?_, ?_⟩
    rotate_left
    · rw [he0]; exact (Ow.up (OwnL.ow ho6 rfl) (hS_.1 _ (.head _)))
    all_goals (first | rfl | (simp [*]; done))
  · -- F
    refine VC.skip ?_
    refine outN ?_
    refine VC.rs ?_
    refine VO.mv ?_
    refine VO.mv ?_
    refine VO.y rfl (.cvI rfl ⟨_, Try.underlying82⟩ Try.underlying5 (u8_of_nat _)) ?_
    refine VO.y rfl (.bit (.inr (.inl rfl)) rfl rfl (or128 _ (by omega))) ?_
    refine VO.bsl (cs := [Value.int .u8 ((((x % 256) % 128 + 128 : Nat) : Int))]) 108 rfl rfl tsl25 tz5 rfl rfl (fun g7 => ?_)
    obtain ⟨mo9, cs9, hM9, hA9, hC9⟩ := h_out
    refine VO.app 102 rfl rfl rfl tsl25 tz5 rfl rfl hM9 hA9 (.row 108 _ _ _ 1 1 _ _ Try.underlying25 rfl (cellsAt_one rfl rfl)) (by simp [Value.oneCell']) bdm bd (by decide) (fun v9 m9 hN9 => ?_)
    have ho9 : OwnL .byte m9 mnil v9 (out ++ [UInt8.ofNat ((x % 256) % 128 + 128)]) := OwnL.one hC9 hN9 (rd_byteN bd)
    obtain ⟨A9, c9, rfl, l9, k9⟩ := ho9.slice
    simp only [maxLen] at k9
    refine VO.as ?_
    refine VO.k5 0 1 4 5 9 ?_
    refine VC.reg ?_
    refine VO.mv ?_
    refine VO.y rfl (.shf (.inr rfl) rfl rfl (shr7 _)) ?_
    refine VO.as ?_
    refine VO.k5 0 1 4 5 9 ?_
    refine outBN ?_
    exact outN ⟨⟨x / 128, out ++ [UInt8.ofNat ((x % 256) % 128 + 128)], A9, c9, m9⟩, ⟨by omega, by rw [← ho]; exact (venc_step (by omega) _).symm, ho9⟩, bd, ⟨⟨rfl, rfl, rfl, rfl, trivial⟩, fun _ h => Inv.sub h [102, 0]⟩⟩
theorem rAppend_ok (W : World) {v0 : Value} {d0 : List UInt8} (h0 : Rd (.sl .byte) (wm W) [v0] d0) (d1 : Nat) (h1 : d1 < 18446744073709551616) (e0 : d0.length ≤ 140737488355000) : CallR Try.prog 89 [v0, .int .u64 (d1 : Int)] W (mnil) (fun v m' => ∃ (s0 : Value), v = s0 ∧ Ow (.sl .byte) m' [s0] (d0 ++ venc d1)) := by
  obtain ⟨A0, c0, rfl, l0, k0⟩ := h0.slice
  simp only [maxLen] at k0
  refine CallR.ofA (n := 25) Try.func89 rfl rfl rfl ?_
  refine VC.rs ?_
  refine VO.as ?_
  refine VO.k3 0 1 4 ?_
  refine VC.rs ?_
  refine VO.as ?_
  refine VO.k4 0 1 4 5 ?_
  refine VC.rs ?_
  refine VO.mv ?_
  refine VO.mv ?_
  refine VO.inv _ (fun _ h => h.nilc 102) ?_
  obtain ⟨mo1, cs1, hM1, hA1, hC1⟩ := (OwnL.nil .byte mnil mnil)
  obtain ⟨all1, hS1, hR1⟩ := Rd.srcI (P := Try.prog) (h0) Try.underlying25
  refine VO.app 102 rfl rfl rfl tsl25 tz5 rfl rfl hM1 hA1 (hS1 _ 0 rfl) hR1.nice bdm bd (by decide) (fun v1 m1 hN1 => ?_)
  have ho1 : OwnL .byte m1 mnil v1 (d0) := OwnL.more hC1 hN1 (All2c.mono hR1 fun _ _ h => Rd.flat rfl h _)
  obtain ⟨A1, c1, rfl, l1, k1⟩ := ho1.slice
  simp only [maxLen] at k1
  refine VO.as ?_
  refine VO.kp [102, 0] [(102, m1), (0, wm W)] ?_
  refine VO.k4 0 1 4 5 ?_
  refine VC.seq ?_
  refine VC.block ?_
  refine VC.loop (G := Nat × (List UInt8) × (Option Addr) × Nat × Mem) (fun g => [(1, Value.int .u64 ((((g.1) : Nat) : Int))), (5, Value.slice (g.2.2.1) ((g.2.1).length) ((g.2.2.2.1))), (0, Value.slice A0 (d0.length) (c0)), (4, Value.slice none (0) (0))]) (fun g => [(102, (g.2.2.2.2)), (0, wm W)]) (fun g => ((g.1) < 18446744073709551616) ∧ ((g.2.1) ++ venc (g.1) = d0 ++ venc d1) ∧ (OwnL .byte (g.2.2.2.2) mnil (.slice (g.2.2.1) (g.2.1).length (g.2.2.2.1)) (g.2.1))) (fun g => (g.1)) (d1, d0, A1, c1, m1) (⟨by omega, by rfl, ho1⟩) ⟨⟨rfl, rfl, rfl, rfl, trivial⟩, fun _ h => h.sub [102, 0]⟩ ?_
  rintro ⟨x, out, out_A, out_c, out_m⟩ ⟨hx, ho, h_out⟩
  replace hx : x < 18446744073709551616 := hx
  replace ho : out ++ venc x = d0 ++ venc d1 := ho
  replace h_out : OwnL .byte out_m mnil (.slice out_A out.length out_c) out := h_out
  show VC _ _ _ _ _ [(1, Value.int .u64 (((x : Nat) : Int))), (5, Value.slice out_A (out.length) (out_c)), (0, Value.slice A0 (d0.length) (c0)), (4, Value.slice none (0) (0))] [(102, out_m), (0, wm W)]
  have l_out : out.length ≤ out_c := by obtain ⟨_, _, he, hl, _⟩ := h_out.slice; simp only [Value.slice.injEq] at he; omega
  have k_out : out_c ≤ 9223372036854775807 := by obtain ⟨_, _, he, _, hl⟩ := h_out.slice; simp only [Value.slice.injEq, maxLen] at he hl; omega
  have hlo := venc_room hx h1 ho
  refine VC.seq ?_
  refine VC.rs ?_
  refine VO.mv ?_
  refine VO.y rfl (.geq rfl rfl) ?_
  refine VO.k5 0 1 4 5 10 ?_
  refine VC.cond rfl (fun hc3 => ?_) (fun hc3 => ?_)
  · -- T
    refine VC.skip ?_
    refine outN ?_
    refine VC.block ?_
    refine VC.rs ?_
    refine VO.mv ?_
    refine VO.mv ?_
    refine VO.y rfl (.quo (.inr rfl) rfl rfl (rem_nat _ _ _ (by decide))) ?_
    refine VO.y rfl (.cvI rfl ⟨_, Try.underlying82⟩ Try.underlying5 (u8_of_nat _)) ?_
    refine VO.y rfl (.addN (c := ((x % 128) % 256) + 128) rfl rfl rfl (.inl ⟨rfl, by omega⟩)) ?_
    refine VO.bsl (cs := [Value.int .u8 (((((x % 128) % 256) + 128 : Nat) : Int))]) 105 rfl rfl tsl25 tz5 rfl rfl (fun g4 => ?_)
    obtain ⟨mo6, cs6, hM6, hA6, hC6⟩ := h_out
    refine VO.app 102 rfl rfl rfl tsl25 tz5 rfl rfl hM6 hA6 (.row 105 _ _ _ 1 1 _ _ Try.underlying25 rfl (cellsAt_one rfl rfl)) (by simp [Value.oneCell']) bdm bd (by decide) (fun v6 m6 hN6 => ?_)
    have ho6 : OwnL .byte m6 mnil v6 (out ++ [UInt8.ofNat (((x % 128) % 256) + 128)]) := OwnL.one hC6 hN6 (rd_byteN bd)
    obtain ⟨A6, c6, rfl, l6, k6⟩ := ho6.slice
    simp only [maxLen] at k6
    refine VO.as ?_
    refine VO.k5 0 1 4 5 10 ?_
    refine VC.reg ?_
    refine VO.mv ?_
    refine VO.y rfl (.quo (.inl rfl) rfl rfl (quo_nat_u64 _ _ (by omega) (by decide))) ?_
    refine VO.as ?_
    refine VO.kp [102, 0] [(102, m6), (0, wm W)] ?_
    refine VO.k5 0 1 4 5 10 ?_
    refine outBN ?_
    exact outN ⟨⟨x / 128, out ++ [UInt8.ofNat (((x % 128) % 256) + 128)], A6, c6, m6⟩, ⟨by omega, by rw [← ho]; exact (venc_step2 (by omega) _).symm, ho6⟩, bd, ⟨⟨rfl, rfl, rfl, rfl, trivial⟩, fun _ h => Inv.sub h [102, 0]⟩⟩
  · -- F
    refine VC.exit ?_
    refine outE ?_
    refine outE ?_
    refine outBB ?_
    refine outN ?_
    refine VC.rs ?_
    refine VO.mv ?_
    refine VO.mv ?_
    refine VO.y rfl (.cvI rfl ⟨_, Try.underlying82⟩ Try.underlying5 (u8_of_nat _)) ?_
    refine VO.bsl (cs := [Value.int .u8 (((x % 256 : Nat) : Int))]) 108 rfl rfl tsl25 tz5 rfl rfl (fun g7 => ?_)
    obtain ⟨mo9, cs9, hM9, hA9, hC9⟩ := h_out
    refine VO.app 102 rfl rfl rfl tsl25 tz5 rfl rfl hM9 hA9 (.row 108 _ _ _ 1 1 _ _ Try.underlying25 rfl (cellsAt_one rfl rfl)) (by simp [Value.oneCell']) bdm bd (by decide) (fun v9 m9 hN9 => ?_)
    have ho9 : OwnL .byte m9 mnil v9 (out ++ [UInt8.ofNat (x % 256)]) := OwnL.one hC9 hN9 (rd_byteN bd)
    obtain ⟨A9, c9, rfl, l9, k9⟩ := ho9.slice
    simp only [maxLen] at k9
    refine VO.as ?_
    refine VO.k5 0 1 4 5 10 ?_
    refine VC.ret ?_
    refine ⟨_, _, res_run (rs := [.tmp 4]) rfl (.tmp rfl .nil), fun W_ hI => out_of (l := [m9]) hI [102] rfl rfl (mle_refl _) (fun hS_ => ?_)⟩
    dsimp only [packV]
    have he0 : (d0 ++ venc d1 : Ty.Den (.sl .byte)) = out ++ [UInt8.ofNat (x % 256)] := by first | rfl | (rw [← ho, venc_last (by omega)])
    refine ⟨Value.slice A9 ((out ++ [UInt8.ofNat (x % 256)]).length) (c9), ?_, ?_⟩
    rotate_left
    · rw [he0]; exact (Ow.up (OwnL.ow ho9 rfl) (hS_.1 _ (.head _)))
    all_goals (first | rfl | (simp [*]; done))
end
section
set_option linter.unusedVariables false
def cCheck (c : DCommit) : Int := if 1 ≤ c.1 ∧ c.1 ≤ 1048576 then if 1 ≤ c.2.1 ∧ c.2.1 ≤ 1048576 then batchCheck c.2.2 else 2 else 2
def cFollowsAt : Int → Int → Int → List DCommit → DFault
  | _, _, _, [] => (0, 0)
  | e, n, i, c :: r => if cCheck c ≠ 0 then (cCheck c, i) else if c.2.1 - 1 ≠ n ∨ c.1 < e then (15, i) else cFollowsAt c.1 c.2.1 (i + 1) r
def cFollows (e n : Int) (l : List DCommit) : DFault := cFollowsAt e n 0 l
theorem drop_next {α : Type} {l : List α} {k : Nat} {x : α} (h : l[k]? = some x) : l.drop k = x :: l.drop (k + 1) := by
  obtain ⟨h1, h2⟩ := List.getElem?_eq_some_iff.1 h
  rw [List.drop_eq_getElem_cons h1, h2]
theorem batchCheck_ok {l : List DOp} (h : batchCheck l = 0) : l.length ≤ 8 := by
  unfold batchCheck at h
  split at h
  · omega
  · split at h
    · cases h
    · omega
theorem batchCheck_range (l : List DOp) : 0 ≤ batchCheck l ∧ batchCheck l ≤ 3 := by
  unfold batchCheck
  split
  · omega
  · split
    · omega
    · split <;> omega
theorem cCheck_range (c : DCommit) : 0 ≤ cCheck c ∧ cCheck c ≤ 3 := by
  unfold cCheck
  split
  · split
    · exact batchCheck_range _
    · omega
  · omega
theorem cCheck_ok {c : DCommit} (h : cCheck c = 0) : 1 ≤ c.1 ∧ c.1 ≤ 1048576 ∧ 1 ≤ c.2.1 ∧ c.2.1 ≤ 1048576 ∧ batchCheck c.2.2 = 0 := by
  unfold cCheck at h
  split at h
  · split at h
    · exact ⟨by omega, by omega, by omega, by omega, h⟩
    · cases h
  · cases h
theorem cFollowsAt_ok : ∀ {l : List DCommit} {e n i : Int}, (cFollowsAt e n i l).1 = 0 → ∀ c ∈ l, cCheck c = 0
  | c :: r, e, n, i, h, x, hx => by
    unfold cFollowsAt at h
    split at h
    · exact absurd h (by assumption)
    · rename_i h1
      split at h
      · cases h
      · rcases List.mem_cons.1 hx with rfl | hx
        · exact Decidable.not_not.1 h1
        · exact cFollowsAt_ok h x hx
theorem follows_step {e n i : Int} {l : List DCommit} {k : Nat} {x : DCommit} (h : l[k]? = some x) (h1 : cCheck x = 0) (h2 : ¬ ¬ x.2.1 - 1 = n) (h3 : ¬ x.1 < e) : cFollowsAt e n i (l.drop k) = cFollowsAt x.1 x.2.1 (i + 1) (l.drop (k + 1)) := by
  rw [drop_next h]
  show (if cCheck x ≠ 0 then _ else _) = _
  rw [if_neg (by simpa using h1), if_neg (by simp only [not_or]; exact ⟨h2, h3⟩)]
theorem follows_bad {e n i : Int} {l : List DCommit} {k : Nat} {x : DCommit} (h : l[k]? = some x) (h1 : ¬ cCheck x = 0) : cFollowsAt e n i (l.drop k) = (cCheck x, i) := by
  rw [drop_next h]
  show (if cCheck x ≠ 0 then _ else _) = _
  rw [if_pos h1]
theorem follows_order {e n i : Int} {l : List DCommit} {k : Nat} {x : DCommit} (h : l[k]? = some x) (h1 : cCheck x = 0) (h2 : ¬ x.2.1 - 1 = n ∨ x.1 < e) : cFollowsAt e n i (l.drop k) = (15, i) := by
  rw [drop_next h]
  show (if cCheck x ≠ 0 then _ else _) = _
  rw [if_neg (by simpa using h1), if_pos h2]
theorem all_next {α : Type} {l : List α} {k : Nat} {x : α} {p : α → Prop} (h : ∀ o ∈ l.take k, p o) (hx : l[k]? = some x) (hp : p x) : ∀ o ∈ l.take (k + 1), p o := fun o ho => by
  rw [List.take_add_one, hx] at ho
  rcases List.mem_append.1 ho with h1 | h1
  · exact h o h1
  · simp at h1; rw [h1]; exact hp
theorem bcheck_empty {l : List DOp} (h : (l.length : Int) = 0) : batchCheck l = 2 := if_pos (by omega)
theorem bcheck_long {l : List DOp} (h : (8 : Int) < l.length) : batchCheck l = 3 := by unfold batchCheck; rw [if_neg (by omega), if_pos (by omega)]
theorem bcheck_bad {l : List DOp} {k : Nat} {x : DOp} (h0 : ¬ (l.length : Int) = 0) (h1 : ¬ (8 : Int) < l.length) (hx : l[k]? = some x) (h : ¬ opCheck x = 0) : batchCheck l = opCheck x := by
  have hb : ¬ opOk x := fun e => h (opCheck_good e)
  unfold batchCheck
  rw [if_neg (by omega), if_neg (by omega), if_neg, opCheck_bad hb]
  exact fun e => hb (e x (List.mem_of_getElem? hx))
theorem bcheck_good {l : List DOp} {k : Nat} (h0 : ¬ (l.length : Int) = 0) (h1 : ¬ (8 : Int) < l.length) (h : ∀ o ∈ l.take k, opOk o) (hk : ¬ (k : Int) < l.length) : batchCheck l = 0 := by
  rw [List.take_of_length_le (by omega)] at h
  unfold batchCheck
  rw [if_neg (by omega), if_neg (by omega), if_pos h]
def exC : List DCommit := [(1, 1, [(false, [107], [])]), (1, 2, [(false, [107], [])]), (1, 3, [(false, [107], [])]), (1, 4, [(false, [107], [])]), (1, 5, [(false, [107], [])]), (3, 6, [(false, [107], [])])]
section
variable {e : Int} {l : List DCommit} {k : Nat} {x : DCommit}
theorem cFollowsAt_range : ∀ (l : List DCommit) (e n i : Int), 0 ≤ (cFollowsAt e n i l).1 ∧ (cFollowsAt e n i l).1 ≤ 15
  | [], _, _, _ => by simp [cFollowsAt]
  | c :: r, e, n, i => by
    unfold cFollowsAt
    split
    · have := cCheck_range c; simp only; omega
    · split
      · simp
      · exact cFollowsAt_range r _ _ _
end
theorem commit_ext {x y : DCommit} (h1 : x.1 = y.1) (h2 : x.2.1 = y.2.1) (h3 : x.2.2 = y.2.2) : x = y := Prod.ext h1 (Prod.ext h2 h3)
theorem take_one {α : Type} {l : List α} {k : Nat} {x : α} (h : l[k]? = some x) : l.take (k + 1) = l.take k ++ [x] := by rw [List.take_add_one, h]; rfl
end
section
set_option linter.unusedVariables false
set_option linter.unusedSimpArgs false
set_option maxRecDepth 4000
theorem fnOk105 : fnOk Try.prog 105 = true := by kernel_rfl
theorem fnOk106 : fnOk Try.prog 106 = true := by kernel_rfl
theorem fnOk117 : fnOk Try.prog 117 = true := by kernel_rfl
theorem fnOk86 : fnOk Try.prog 86 = true := by kernel_rfl
theorem teq75 (a0 : Int) (a1 : Int) : plainS Try.prog 75 [.int .i64 a0, .int .i64 a1] = true := by kernel_rfl
theorem tk28 : tk Try.prog 28 = some none := by kernel_rfl
theorem tk3 : tk Try.prog 3 = some none := by kernel_rfl
theorem tk30 : tk Try.prog 30 = some none := by kernel_rfl
theorem tk32 : tk Try.prog 32 = some (some 3) := by kernel_rfl
theorem tk75 : tk Try.prog 75 = some (some 2) := by kernel_rfl
theorem tsl22 : tsl Try.prog 22 = some (32, 3, 40) := by kernel_rfl
theorem tst32 : tst Try.prog 32 = some [(0, 1), (1, 1), (2, 1)] := by kernel_rfl
theorem tst75 : tst Try.prog 75 = some [(0, 1), (1, 1)] := by kernel_rfl
theorem tz32 : tz Try.prog 32 = some [.int .i64 0, .int .i64 0, .slice none 0 0] := by kernel_rfl
theorem tz75 : tz Try.prog 75 = some [.int .i64 0, .int .i64 0] := by kernel_rfl
theorem bCheck_ok (W : World) {v0 : Value} {d0 : List DOp} (h0 : Rd (.sl TOp) (wm W) [v0] d0) : CallR Try.prog 106 [v0] W (mnil) (fun v m' => v = .int .i64 (batchCheck d0)) := by
  obtain ⟨A0, c0, rfl, l0, k0⟩ := h0.slice
  simp only [maxLen] at k0
  refine CallR.ofA (n := 26) Try.func106 rfl rfl rfl ?_
  refine VC.rs ?_
  refine VO.as ?_
  refine VO.k2 0 2 ?_
  refine VC.seq ?_
  refine VC.block ?_
  refine VC.rs ?_
  refine VO.mv ?_
  refine VO.y rfl (.lenS rfl tsl30) ?_
  refine VO.y rfl (.eql rfl rfl) ?_
  refine VO.as ?_
  refine VO.k3 0 2 6 ?_
  refine VC.cond rfl (fun hc1 => ?_) (fun hc1 => ?_)
  · -- T
    refine VC.rs ?_
    refine VO.as ?_
    refine VO.kp [0] [(0, wm W)] ?_
    refine VO.k3 0 2 6 ?_
    refine VC.ret ?_
    refine outBR ?_
    refine outR ?_
    refine ⟨_, _, res_run (rs := [.tmp 2]) rfl (.tmp rfl .nil), fun W_ hI => out_of (l := []) hI [] rfl rfl (mle_refl _) (fun hS_ => ?_)⟩
    dsimp only [packV]
    all_goals (first | rfl | (congr 1; first | exact (bcheck_empty ‹_›).symm | exact (bcheck_long ‹_›).symm | exact (bcheck_bad ‹_› ‹_› ‹d0[k]? = some _› ‹_›).symm | exact (bcheck_good ‹¬ (d0.length : Int) = 0› ‹¬ (8 : Int) < d0.length› ha ‹_›).symm))
  · -- F
    refine VC.rs ?_
    refine VO.mv ?_
    refine VO.y rfl (.lenS rfl tsl30) ?_
    refine VO.y rfl (.gtr rfl rfl) ?_
    refine VO.as ?_
    refine VO.kp [0] [(0, wm W)] ?_
    refine VO.k4 0 2 6 10 ?_
    refine VC.cond rfl (fun hc2 => ?_) (fun hc2 => ?_)
    · -- FT
      refine VC.rs ?_
      refine VO.as ?_
      refine VO.k4 0 2 6 10 ?_
      refine VC.ret ?_
      refine outBR ?_
      refine outR ?_
      refine ⟨_, _, res_run (rs := [.tmp 2]) rfl (.tmp rfl .nil), fun W_ hI => out_of (l := []) hI [] rfl rfl (mle_refl _) (fun hS_ => ?_)⟩
      dsimp only [packV]
      all_goals (first | rfl | (congr 1; first | exact (bcheck_empty ‹_›).symm | exact (bcheck_long ‹_›).symm | exact (bcheck_bad ‹_› ‹_› ‹d0[k]? = some _› ‹_›).symm | exact (bcheck_good ‹¬ (d0.length : Int) = 0› ‹¬ (8 : Int) < d0.length› ha ‹_›).symm))
    · -- FF
      refine VC.skip ?_
      refine outBN ?_
      refine outN ?_
      refine VC.seq ?_
      refine VC.rs ?_
      refine VO.mv ?_
      refine VO.y rfl (.lenS rfl tsl30) ?_
      refine VO.mv ?_
      refine VO.k7 0 2 6 10 14 15 16 ?_
      refine VC.block ?_
      refine VC.loop (G := Nat) (fun k => [(16, Value.int .i64 (((k : Nat) : Int))), (0, Value.slice A0 (d0.length) (c0)), (6, Value.bool (decide (((d0.length : Nat) : Int) = 0))), (10, Value.bool (decide (8 < ((d0.length : Nat) : Int)))), (14, Value.slice A0 (d0.length) (c0)), (15, Value.int .i64 (((d0.length : Nat) : Int)))]) (fun k => [(0, wm W)]) (fun k => (k ≤ d0.length) ∧ (∀ o ∈ d0.take k, opOk o)) (fun k => d0.length - k) 0 (⟨by omega, by simp⟩) ⟨⟨rfl, rfl, rfl, rfl, rfl, rfl, trivial⟩, fun _ h => h.sub [0]⟩ ?_
      rintro k ⟨hk, ha⟩
      refine VC.rs ?_
      refine VO.y rfl (.lss rfl rfl) ?_
      refine VO.k7 0 6 10 14 15 16 17 ?_
      refine VC.seq ?_
      refine VC.cond rfl (fun hc3 => ?_) (fun hc3 => ?_)
      · -- FFT
        refine VC.skip ?_
        refine outN ?_
        refine VC.seq ?_
        refine VC.block ?_
        refine VC.rs ?_
        obtain ⟨x4, hx4⟩ : ∃ z_, (d0)[k]? = some z_ := ⟨_, List.getElem?_eq_getElem bd⟩
        obtain ⟨gg4, oo4, ec4, ea4, hce4, hre4⟩ := h0.elem hx4
        cases ea4
        obtain ⟨rfl, q4_1, q4_2⟩ := open_Op (x0 := x4.1) (x1 := x4.2.1) (x2 := x4.2.2) hre4
        simp only [maxLen] at q4_1
        simp only [maxLen] at q4_2
        refine VO.y rfl (.ixI k rfl rfl tsl30 rfl bd) ?_
        refine VO.y rfl (.ldA 0 rfl tk78 rfl hce4) ?_
        refine VO.alloc 106 rfl tz78 (fun g5 => ?_)
        refine VO.store (k := 3) (c' := [Value.bool x4.1, str (x4.2.1), str (x4.2.2)]) 106 rfl rfl (.inl tk78) rfl rfl rfl rfl rfl ?_
        refine VO.kp [106, 0] [(106, mone g5 (.cells [Value.bool x4.1, str (x4.2.1), str (x4.2.2)].toArray 78 (0, 0))), (0, wm W)] ?_
        refine VO.k8 0 4 6 10 14 15 16 17 ?_
        refine VC.rs ?_
        refine VO.y rfl (.ldA 106 rfl tk78 rfl (cellsAt_one rfl rfl)) ?_
        refine VO.callN 107 rfl fnOk117 rfl (fun W hW => opCheck_ok W (Rd.mono hre4 (hW.at (i := 0) rfl))) (fun v7 m7 hv7 => ?_)
        subst hv7
        refine VO.as ?_
        refine VO.k9 0 4 5 6 10 14 15 16 17 ?_
        refine VC.rs ?_
        refine VO.mv ?_
        refine VO.y rfl (.neq rfl rfl) ?_
        refine VO.k10 0 4 5 6 10 14 15 16 17 23 ?_
        refine VC.cond rfl (fun hc8 => ?_) (fun hc8 => ?_)
        · -- FFTT
          refine VC.rs ?_
          refine VO.mv ?_
          refine VO.as ?_
          refine VO.kp [106, 0] [(106, mone g5 (.cells [Value.bool x4.1, str (x4.2.1), str (x4.2.2)].toArray 78 (0, 0))), (0, wm W)] ?_
          refine VO.k11 0 2 4 5 6 10 14 15 16 17 23 ?_
          refine VC.ret ?_
          refine outBR ?_
          refine outR ?_
          refine outR ?_
          refine outBR ?_
          refine outR ?_
          refine ⟨_, _, res_run (rs := [.tmp 2]) rfl (.tmp rfl .nil), fun W_ hI => out_of (l := []) hI [] rfl rfl (mle_refl _) (fun hS_ => ?_)⟩
          dsimp only [packV]
          all_goals (first | rfl | (congr 1; first | exact (bcheck_empty ‹_›).symm | exact (bcheck_long ‹_›).symm | exact (bcheck_bad ‹_› ‹_› ‹d0[k]? = some _› ‹_›).symm | exact (bcheck_good ‹¬ (d0.length : Int) = 0› ‹¬ (8 : Int) < d0.length› ha ‹_›).symm))
        · -- FFTF
          refine VC.skip ?_
          refine outBN ?_
          refine outN ?_
          refine VC.reg ?_
          refine VO.y rfl (.add (c := ((k + 1 : Nat) : Int)) rfl rfl (by omega) ⟨bd, bd⟩) ?_
          refine VO.mv ?_
          refine VO.kp [106, 0] [(106, mone g5 (.cells [Value.bool x4.1, str (x4.2.1), str (x4.2.2)].toArray 78 (0, 0))), (0, wm W)] ?_
          refine VO.k10 0 4 5 6 10 14 15 16 17 23 ?_
          exact outN ⟨k + 1, ⟨by omega, by exact all_next ha ‹d0[k]? = some _› (opOk_of (Decidable.not_not.1 ‹¬ ¬ _›))⟩, bd, ⟨⟨rfl, rfl, rfl, rfl, rfl, rfl, trivial⟩, fun _ h => Inv.sub h [0]⟩⟩
      · -- FFF
        refine VC.exit ?_
        refine outE ?_
        refine outE ?_
        refine outBB ?_
        refine outN ?_
        refine VC.rs ?_
        refine VO.as ?_
        refine VO.kp [0] [(0, wm W)] ?_
        refine VO.k8 0 2 6 10 14 15 16 17 ?_
        refine VC.ret ?_
        refine ⟨_, _, res_run (rs := [.tmp 2]) rfl (.tmp rfl .nil), fun W_ hI => out_of (l := []) hI [] rfl rfl (mle_refl _) (fun hS_ => ?_)⟩
        dsimp only [packV]
        all_goals (first | rfl | (congr 1; first | exact (bcheck_empty ‹_›).symm | exact (bcheck_long ‹_›).symm | exact (bcheck_bad ‹_› ‹_› ‹d0[k]? = some _› ‹_›).symm | exact (bcheck_good ‹¬ (d0.length : Int) = 0› ‹¬ (8 : Int) < d0.length› ha ‹_›).symm))
theorem cCheck_ok_ (W : World) {v0 : List Value} {d0 : DCommit} (h0 : Rd TCommit (wm W) v0 d0) : CallR Try.prog 86 [.agg v0.toArray] W (mnil) (fun v m' => v = .int .i64 (cCheck d0)) := by
  obtain ⟨p0_A2, p0_c2, rfl, p0_0, p0_1, p0_2⟩ := open_Commit (x0 := d0.1) (x1 := d0.2.1) (x2 := d0.2.2) h0
  simp only [inK] at p0_0
  simp only [inK] at p0_1
  have p0_r2 := Rd.room p0_2
  refine CallR.ofA (n := 16) Try.func86 rfl rfl rfl ?_
  refine VC.rs ?_
  refine VO.box (cs := [Value.int .i64 (d0.1), Value.int .i64 (d0.2.1), Value.slice p0_A2 (d0.2.2.length) (p0_c2)]) 102 rfl rfl rfl (fun g1 => ?_)
  refine VO.as ?_
  refine VO.k3 0 1 2 ?_
  refine VC.seq ?_
  refine VC.rs ?_
  refine VO.y rfl (.fa rfl tst32 rfl) ?_
  refine VO.y rfl (.ld1 102 rfl tk3 rfl (cellsAt_one rfl rfl)) ?_
  refine VO.callN 103 rfl fnOk105 rfl (fun W hW => within_ok W d0.1 bdk) (fun v3 m3 hv3 => ?_)
  subst hv3
  refine VO.y rfl (.notD rfl) ?_
  refine VO.mv ?_
  refine VO.dec (t := 7) rfl (fun hc4 => ?_) (fun hc4 => ?_)
  · -- T
    refine VO.gN ?_
    refine VO.gN ?_
    refine VO.gN ?_
    refine VO.gN ?_
    refine VO.y rfl (.pT rfl rfl) ?_
    refine VO.k4 0 1 2 12 ?_
    refine VC.condT rfl ?_
    refine VC.rs ?_
    refine VO.as ?_
    refine VO.kp [102, 0] [(102, mone g1 (.cells [Value.int .i64 (d0.1), Value.int .i64 (d0.2.1), Value.slice p0_A2 (d0.2.2.length) (p0_c2)].toArray 32 (0, 0))), (0, wm W)] ?_
    refine VO.k4 0 1 2 12 ?_
    refine VC.ret ?_
    refine outR ?_
    refine ⟨_, _, res_run (rs := [.tmp 2]) rfl (.tmp rfl .nil), fun W_ hI => out_of (l := []) hI [] rfl rfl (mle_refl _) (fun hS_ => ?_)⟩
    dsimp only [packV]
    all_goals (first | rfl | (unfold cCheck; congr 1; split <;> (try split) <;> first | rfl | omega))
  · -- F
    refine VO.gy rfl ⟨_, rfl, rfl⟩ (.fa rfl tst32 rfl) ?_
    refine VO.gy rfl ⟨_, rfl, rfl⟩ (.ld1 102 rfl tk3 rfl (cellsAt_one rfl rfl)) ?_
    refine VO.gcallN 105 rfl ⟨_, rfl, rfl⟩ fnOk105 rfl (fun W hW => within_ok W d0.2.1 bdk) (fun v5 m5 hv5 => ?_)
    subst hv5
    refine VO.gy rfl ⟨_, rfl, rfl⟩ (.notD rfl) ?_
    refine VO.y rfl (.pF rfl rfl) ?_
    refine VO.k4 0 1 2 12 ?_
    refine VC.cond rfl (fun hc6 => ?_) (fun hc6 => ?_)
    · -- FT
      refine VC.rs ?_
      refine VO.as ?_
      refine VO.kp [102, 0] [(102, mone g1 (.cells [Value.int .i64 (d0.1), Value.int .i64 (d0.2.1), Value.slice p0_A2 (d0.2.2.length) (p0_c2)].toArray 32 (0, 0))), (0, wm W)] ?_
      refine VO.k4 0 1 2 12 ?_
      refine VC.ret ?_
      refine outR ?_
      refine ⟨_, _, res_run (rs := [.tmp 2]) rfl (.tmp rfl .nil), fun W_ hI => out_of (l := []) hI [] rfl rfl (mle_refl _) (fun hS_ => ?_)⟩
      dsimp only [packV]
      all_goals (first | rfl | (unfold cCheck; congr 1; split <;> (try split) <;> first | rfl | omega))
    · -- FF
      refine VC.skip ?_
      refine outN ?_
      refine VC.rs ?_
      refine VO.y rfl (.fa rfl tst32 rfl) ?_
      refine VO.y rfl (.ld1 102 rfl tk30 rfl (cellsAt_one rfl rfl)) ?_
      refine VO.callN 107 rfl fnOk106 rfl (fun W hW => bCheck_ok W (Rd.mono p0_2 (hW.at (i := 0) rfl))) (fun v7 m7 hv7 => ?_)
      subst hv7
      have hfa8 := batchCheck_range d0.2.2
      refine VO.as ?_
      refine VO.kp [102, 0] [(102, mone g1 (.cells [Value.int .i64 (d0.1), Value.int .i64 (d0.2.1), Value.slice p0_A2 (d0.2.2.length) (p0_c2)].toArray 32 (0, 0))), (0, wm W)] ?_
      refine VO.k4 0 1 2 12 ?_
      refine VC.ret ?_
      refine ⟨_, _, res_run (rs := [.tmp 2]) rfl (.tmp rfl .nil), fun W_ hI => out_of (l := []) hI [] rfl rfl (mle_refl _) (fun hS_ => ?_)⟩
      dsimp only [packV]
      all_goals (first | rfl | (unfold cCheck; congr 1; split <;> (try split) <;> first | rfl | omega))
theorem fin1_follows_ok {P : Prop} (h : P := by first | omega | (simp only [List.length_append, List.length_nil, List.length_cons, List.length_take, List.length_drop] at *; omega) | (have := cCheck_ok ‹cCheck _ = 0›; omega)) : P := h
theorem follows_ok (W : World) (d0 : Int) (h0 : inK .i64 d0) (d1 : Int) (h1 : inK .i64 d1) {v2 : Value} {d2 : List DCommit} (h2 : Rd (.sl TCommit) (wm W) [v2] d2) : CallR Try.prog 51 [.int .i64 d0, .int .i64 d1, v2] W (mnil) (fun v m' => ∃ (s0 : List Value), v = .agg s0.toArray ∧ Ow TFault m' s0 (cFollows d0 d1 d2)) := by
  have h0' := h0; simp only [inK] at h0'
  have h1' := h1; simp only [inK] at h1'
  obtain ⟨A2, c2, rfl, l2, k2⟩ := h2.slice
  simp only [maxLen] at k2
  refine CallR.ofA (n := 49) Try.func51 rfl rfl rfl ?_
  refine VC.rs ?_
  refine VO.alloc 102 rfl tz75 (fun g1 => ?_)
  refine VO.k4 0 1 2 6 ?_
  refine VC.seq ?_
  refine VC.rs ?_
  refine VO.mv ?_
  refine VO.y rfl (.lenS rfl tsl22) ?_
  refine VO.mv ?_
  refine VO.k7 0 1 2 6 10 11 12 ?_
  refine VC.block ?_
  refine VC.loop (G := Nat × Int × Int) (fun g => [(0, Value.int .i64 ((g.2.1))), (1, Value.int .i64 ((g.2.2))), (12, Value.int .i64 ((((g.1) : Nat) : Int))), (2, Value.slice A2 (d2.length) (c2)), (6, Value.pointer (some ⟨g1, 0, none⟩)), (10, Value.slice A2 (d2.length) (c2)), (11, Value.int .i64 (((d2.length : Nat) : Int)))]) (fun g => [(102, mone g1 (.cells [Value.int .i64 (0), Value.int .i64 (0)].toArray 75 (0, 0))), (0, wm W)]) (fun g => ((g.1) ≤ d2.length) ∧ (cFollows d0 d1 d2 = cFollowsAt (g.2.1) (g.2.2) (g.1) (d2.drop (g.1)))) (fun g => d2.length - (g.1)) (0, d0, d1) (⟨by omega, by rfl⟩) ⟨⟨rfl, rfl, rfl, rfl, rfl, rfl, rfl, trivial⟩, fun _ h => h.sub [102, 0]⟩ ?_
  rintro ⟨k, e, nn⟩ ⟨hk, hf⟩
  replace hk : k ≤ d2.length := hk
  replace hf : cFollows d0 d1 d2 = cFollowsAt e nn k (d2.drop k) := hf
  show VC _ _ _ _ _ [(0, Value.int .i64 (e)), (1, Value.int .i64 (nn)), (12, Value.int .i64 (((k : Nat) : Int))), (2, Value.slice A2 (d2.length) (c2)), (6, Value.pointer (some ⟨g1, 0, none⟩)), (10, Value.slice A2 (d2.length) (c2)), (11, Value.int .i64 (((d2.length : Nat) : Int)))] [(102, mone g1 (.cells [Value.int .i64 (0), Value.int .i64 (0)].toArray 75 (0, 0))), (0, wm W)]
  refine VC.rs ?_
  refine VO.y rfl (.lss rfl rfl) ?_
  refine VO.kp [102, 0] [(102, mone g1 (.cells [Value.int .i64 (0), Value.int .i64 (0)].toArray 75 (0, 0))), (0, wm W)] ?_
  refine VO.k8 0 1 2 6 10 11 12 13 ?_
  refine VC.seq ?_
  refine VC.cond rfl (fun hc3 => ?_) (fun hc3 => ?_)
  · -- T
    refine VC.skip ?_
    refine outN ?_
    refine VC.seq ?_
    refine VC.block ?_
    refine VC.rs ?_
    refine VO.mv ?_
    obtain ⟨x4, hx4⟩ : ∃ z_, (d2)[k]? = some z_ := ⟨_, List.getElem?_eq_getElem (by exact fin1_follows_ok)⟩
    obtain ⟨gg4, oo4, ec4, ea4, hce4, hre4⟩ := h2.elem hx4
    cases ea4
    obtain ⟨q4_A2, q4_c2, rfl, q4_0, q4_1, q4_2⟩ := open_Commit (x0 := x4.1) (x1 := x4.2.1) (x2 := x4.2.2) hre4
    simp only [inK] at q4_0
    simp only [inK] at q4_1
    have q4_r2 := Rd.room q4_2
    refine VO.y rfl (.ixI k rfl rfl tsl22 rfl (by exact fin1_follows_ok)) ?_
    refine VO.y rfl (.ldA 0 rfl tk32 rfl hce4) ?_
    refine VO.alloc 106 rfl tz32 (fun g5 => ?_)
    refine VO.as ?_
    refine VO.store (k := 3) (c' := [Value.int .i64 (x4.1), Value.int .i64 (x4.2.1), Value.slice q4_A2 (x4.2.2.length) (q4_c2)]) 106 rfl rfl (.inl tk32) rfl rfl rfl rfl rfl ?_
    refine VO.k10 0 1 2 6 7 8 10 11 12 13 ?_
    refine VC.rs ?_
    refine VO.y rfl (.ldA 106 rfl tk32 rfl (cellsAt_one rfl rfl)) ?_
    refine VO.callN 107 rfl fnOk86 rfl (fun W hW => cCheck_ok_ W (Rd.mono hre4 (hW.at (i := 0) rfl))) (fun v7 m7 hv7 => ?_)
    subst hv7
    have hfa8 := cCheck_range x4
    refine VO.mv ?_
    refine VO.y rfl (.bst (cs := [Value.int .i64 (cCheck x4), Value.int .i64 (((k : Nat) : Int))]) rfl tst75 tz75 rfl) ?_
    refine VO.alloc 110 rfl tz75 (fun g9 => ?_)
    refine VO.store (k := 2) (c' := [Value.int .i64 (cCheck x4), Value.int .i64 (((k : Nat) : Int))]) 110 rfl rfl (.inl tk75) rfl rfl rfl rfl rfl ?_
    refine VO.k11 0 1 2 6 7 8 9 10 11 12 13 ?_
    refine VC.seq ?_
    refine VC.rs ?_
    refine VO.y rfl (.fa rfl tst75 rfl) ?_
    refine VO.y rfl (.ld1 110 rfl tk28 rfl (cellsAt_one rfl rfl)) ?_
    refine VO.y rfl (.eql rfl rfl) ?_
    refine VO.mv ?_
    refine VO.dec (t := 24) rfl (fun hc11 => ?_) (fun hc11 => ?_)
    · -- TT
      refine VO.gy rfl ⟨_, rfl, rfl⟩ (.fa rfl tst32 rfl) ?_
      refine VO.gy rfl ⟨_, rfl, rfl⟩ (.ld1 106 rfl tk3 rfl (cellsAt_one rfl rfl)) ?_
      refine VO.gy rfl ⟨_, rfl, rfl⟩ (.sub rfl rfl rfl ⟨by exact fin1_follows_ok, by exact fin1_follows_ok⟩) ?_
      refine VO.gy rfl ⟨_, rfl, rfl⟩ (.mv rfl) ?_
      refine VO.gy rfl ⟨_, rfl, rfl⟩ (.neq rfl rfl) ?_
      refine VO.gy rfl ⟨_, rfl, rfl⟩ (.mv rfl) ?_
      refine VO.dec (t := 30) rfl (fun hc12 => ?_) (fun hc12 => ?_)
      · -- TTT
        refine VO.gN ?_
        refine VO.gN ?_
        refine VO.gN ?_
        refine VO.gN ?_
        refine VO.gy rfl ⟨_, rfl, rfl⟩ (.pT rfl rfl) ?_
        refine VO.y rfl (.pT rfl rfl) ?_
        refine VO.kp [110, 106, 102, 0] [(110, mone g9 (.cells [Value.int .i64 (cCheck x4), Value.int .i64 (((k : Nat) : Int))].toArray 75 (0, 0))), (106, mone g5 (.cells [Value.int .i64 (x4.1), Value.int .i64 (x4.2.1), Value.slice q4_A2 (x4.2.2.length) (q4_c2)].toArray 32 (0, 0))), (102, mone g1 (.cells [Value.int .i64 (0), Value.int .i64 (0)].toArray 75 (0, 0))), (0, wm W)] ?_
        refine VO.k12 0 1 2 6 7 8 9 10 11 12 13 36 ?_
        refine VC.condT rfl ?_
        refine VC.reg ?_
        refine VO.y rfl (.fa rfl tst75 rfl) ?_
        refine VO.store (k := 1) (c' := [Value.int .i64 (15), Value.int .i64 (((k : Nat) : Int))]) 110 rfl rfl (.inr ⟨tk28, rfl⟩) rfl rfl rfl rfl rfl ?_
        refine VO.k12 0 1 2 6 7 8 9 10 11 12 13 36 ?_
        refine outN ?_
        refine VC.seq ?_
        refine VC.rs ?_
        refine VO.y rfl (.ldA 110 rfl tk75 rfl (cellsAt_one rfl rfl)) ?_
        refine VO.mv ?_
        refine VO.y rfl (.bst (cs := [Value.int .i64 (0), Value.int .i64 (((k : Nat) : Int))]) rfl tst75 tz75 rfl) ?_
        refine VO.y rfl (.stneq (p := 15 = 0 ∧ ((k : Nat) : Int) = ((k : Nat) : Int)) rfl rfl (teq75 15 ((k : Nat) : Int)) (teq75 0 ((k : Nat) : Int)) (by simp [ceq, ba_toList])) ?_
        refine VO.k13 0 1 2 6 7 8 9 10 11 12 13 36 41 ?_
        refine VC.cond rfl (fun hc13 => ?_) (fun hc13 => ?_)
        · -- TTTT
          refine VC.rs ?_
          refine VO.y rfl (.ldA 110 rfl tk75 rfl (cellsAt_one rfl rfl)) ?_
          refine VO.store (k := 2) (c' := [Value.int .i64 (15), Value.int .i64 (((k : Nat) : Int))]) 102 rfl rfl (.inl tk75) rfl rfl rfl rfl rfl ?_
          refine VO.kp [110, 106, 102, 0] [(110, mone g9 (.cells [Value.int .i64 (15), Value.int .i64 (((k : Nat) : Int))].toArray 75 (0, 0))), (106, mone g5 (.cells [Value.int .i64 (x4.1), Value.int .i64 (x4.2.1), Value.slice q4_A2 (x4.2.2.length) (q4_c2)].toArray 32 (0, 0))), (102, mone g1 (.cells [Value.int .i64 (15), Value.int .i64 (((k : Nat) : Int))].toArray 75 (0, 0))), (0, wm W)] ?_
          refine VO.k13 0 1 2 6 7 8 9 10 11 12 13 36 41 ?_
          refine VC.ret ?_
          refine outR ?_
          refine outBR ?_
          refine outR ?_
          refine outR ?_
          refine outBR ?_
          refine outR ?_
          refine ⟨_, _, res_run (rs := [.cell 6 75]) rfl (.agg 102 rfl tk75 rfl ⟨_, _, _, mone_self _ _, Nat.le_of_ble_eq_true rfl, rfl⟩ .nil), fun W_ hI => out_of (l := []) hI [] rfl rfl (mle_refl _) (fun hS_ => ?_)⟩
          dsimp only [packV]
          have he0 : (cFollows d0 d1 d2 : Ty.Den TFault) = (15, ((k : Nat) : Int)) := by first | rfl | (first | (rw [hf, List.drop_of_length_le (by omega)]; rfl) | (rw [hf, follows_bad ‹d2[k]? = some _› (by first | assumption | omega)]) | (rw [hf, follows_order ‹d2[k]? = some _› (by assumption) (by omega)]) | (exfalso; omega))
          refine ⟨[Value.int .i64 (15), Value.int .i64 (((k : Nat) : Int))], ?_, ?_⟩
          rotate_left
          · rw [he0]; exact (Ow.of (m := mnil) rfl (mk_Fault (m := _) 15 ((k : Nat) : Int) (by simp only [inK]; (exact fin1_follows_ok)) (by simp only [inK]; (exact fin1_follows_ok))))
          all_goals (first | rfl | (rfl))
        · -- TTTF
          refine VC.skip ?_
          refine outN ?_
          refine VC.regD _ 5 [(0, true), (1, true), (2, true), (3, true), (4, true)] follows (by kernel_rfl) (fun _ h => h.sub [110, 106, 102, 0]) ?_
          refine VD.y rfl rfl (.inl rfl) (.fa rfl tst32 rfl) ?_
          refine VD.y rfl rfl (.inl rfl) (.ld1 106 rfl tk3 rfl (cellsAt_one rfl rfl)) ?_
          refine VD.y rfl rfl (.inl rfl) (.fa rfl tst32 rfl) ?_
          refine VD.y rfl rfl (.inl rfl) (.ld1 106 rfl tk3 rfl (cellsAt_one rfl rfl)) ?_
          refine VD.y rfl rfl (.inl rfl) (.as rfl) ?_
          refine VD.nil rfl ?_ rfl
          refine VO.as ?_
          refine VO.kp [110, 106, 102, 0] [(110, mone g9 (.cells [Value.int .i64 (15), Value.int .i64 (((k : Nat) : Int))].toArray 75 (0, 0))), (106, mone g5 (.cells [Value.int .i64 (x4.1), Value.int .i64 (x4.2.1), Value.slice q4_A2 (x4.2.2.length) (q4_c2)].toArray 32 (0, 0))), (102, mone g1 (.cells [Value.int .i64 (0), Value.int .i64 (0)].toArray 75 (0, 0))), (0, wm W)] ?_
          refine VO.k13 0 1 2 6 7 8 9 10 11 12 13 36 41 ?_
          refine outBN ?_
          refine outN ?_
          refine VC.reg ?_
          refine VO.y rfl (.add (c := ((k + 1 : Nat) : Int)) rfl rfl (by omega) ⟨by exact fin1_follows_ok, by exact fin1_follows_ok⟩) ?_
          refine VO.mv ?_
          refine VO.k13 0 1 2 6 7 8 9 10 11 12 13 36 41 ?_
          exact outN ⟨⟨k + 1, x4.1, x4.2.1⟩, ⟨by omega, by first | (exfalso; omega) | (rw [hf, follows_step ‹d2[k]? = some _› (by first | assumption | omega) (by omega) (by omega)]; rfl)⟩, by exact fin1_follows_ok, ⟨⟨rfl, rfl, rfl, rfl, rfl, rfl, rfl, trivial⟩, fun _ h => Inv.sub h [102, 0]⟩⟩
      · -- TTF
        refine VO.gy rfl ⟨_, rfl, rfl⟩ (.fa rfl tst32 rfl) ?_
        refine VO.gy rfl ⟨_, rfl, rfl⟩ (.ld1 106 rfl tk3 rfl (cellsAt_one rfl rfl)) ?_
        refine VO.gy rfl ⟨_, rfl, rfl⟩ (.mv rfl) ?_
        refine VO.gy rfl ⟨_, rfl, rfl⟩ (.lss rfl rfl) ?_
        refine VO.gy rfl ⟨_, rfl, rfl⟩ (.pF rfl rfl) ?_
        refine VO.y rfl (.pT rfl rfl) ?_
        refine VO.kp [110, 106, 102, 0] [(110, mone g9 (.cells [Value.int .i64 (cCheck x4), Value.int .i64 (((k : Nat) : Int))].toArray 75 (0, 0))), (106, mone g5 (.cells [Value.int .i64 (x4.1), Value.int .i64 (x4.2.1), Value.slice q4_A2 (x4.2.2.length) (q4_c2)].toArray 32 (0, 0))), (102, mone g1 (.cells [Value.int .i64 (0), Value.int .i64 (0)].toArray 75 (0, 0))), (0, wm W)] ?_
        refine VO.k12 0 1 2 6 7 8 9 10 11 12 13 36 ?_
        refine VC.cond rfl (fun hc14 => ?_) (fun hc14 => ?_)
        · -- TTFT
          refine VC.reg ?_
          refine VO.y rfl (.fa rfl tst75 rfl) ?_
          refine VO.store (k := 1) (c' := [Value.int .i64 (15), Value.int .i64 (((k : Nat) : Int))]) 110 rfl rfl (.inr ⟨tk28, rfl⟩) rfl rfl rfl rfl rfl ?_
          refine VO.k12 0 1 2 6 7 8 9 10 11 12 13 36 ?_
          refine outN ?_
          refine VC.seq ?_
          refine VC.rs ?_
          refine VO.y rfl (.ldA 110 rfl tk75 rfl (cellsAt_one rfl rfl)) ?_
          refine VO.mv ?_
          refine VO.y rfl (.bst (cs := [Value.int .i64 (0), Value.int .i64 (((k : Nat) : Int))]) rfl tst75 tz75 rfl) ?_
          refine VO.y rfl (.stneq (p := 15 = 0 ∧ ((k : Nat) : Int) = ((k : Nat) : Int)) rfl rfl (teq75 15 ((k : Nat) : Int)) (teq75 0 ((k : Nat) : Int)) (by simp [ceq, ba_toList])) ?_
          refine VO.k13 0 1 2 6 7 8 9 10 11 12 13 36 41 ?_
          refine VC.cond rfl (fun hc15 => ?_) (fun hc15 => ?_)
          · -- TTFTT
            refine VC.rs ?_
            refine VO.y rfl (.ldA 110 rfl tk75 rfl (cellsAt_one rfl rfl)) ?_
            refine VO.store (k := 2) (c' := [Value.int .i64 (15), Value.int .i64 (((k : Nat) : Int))]) 102 rfl rfl (.inl tk75) rfl rfl rfl rfl rfl ?_
            refine VO.kp [110, 106, 102, 0] [(110, mone g9 (.cells [Value.int .i64 (15), Value.int .i64 (((k : Nat) : Int))].toArray 75 (0, 0))), (106, mone g5 (.cells [Value.int .i64 (x4.1), Value.int .i64 (x4.2.1), Value.slice q4_A2 (x4.2.2.length) (q4_c2)].toArray 32 (0, 0))), (102, mone g1 (.cells [Value.int .i64 (15), Value.int .i64 (((k : Nat) : Int))].toArray 75 (0, 0))), (0, wm W)] ?_
            refine VO.k13 0 1 2 6 7 8 9 10 11 12 13 36 41 ?_
            refine VC.ret ?_
            refine outR ?_
            refine outBR ?_
            refine outR ?_
            refine outR ?_
            refine outBR ?_
            refine outR ?_
            refine ⟨_, _, res_run (rs := [.cell 6 75]) rfl (.agg 102 rfl tk75 rfl ⟨_, _, _, mone_self _ _, Nat.le_of_ble_eq_true rfl, rfl⟩ .nil), fun W_ hI => out_of (l := []) hI [] rfl rfl (mle_refl _) (fun hS_ => ?_)⟩
            dsimp only [packV]
            have he0 : (cFollows d0 d1 d2 : Ty.Den TFault) = (15, ((k : Nat) : Int)) := by first | rfl | (first | (rw [hf, List.drop_of_length_le (by omega)]; rfl) | (rw [hf, follows_bad ‹d2[k]? = some _› (by first | assumption | omega)]) | (rw [hf, follows_order ‹d2[k]? = some _› (by assumption) (by omega)]) | (exfalso; omega))
            refine ⟨[Value.int .i64 (15), Value.int .i64 (((k : Nat) : Int))], ?_, ?_⟩
            rotate_left
            · rw [he0]; exact (Ow.of (m := mnil) rfl (mk_Fault (m := _) 15 ((k : Nat) : Int) (by simp only [inK]; (exact fin1_follows_ok)) (by simp only [inK]; (exact fin1_follows_ok))))
            all_goals (first | rfl | (rfl))
          · -- TTFTF
            refine VC.skip ?_
            refine outN ?_
            refine VC.regD _ 5 [(0, true), (1, true), (2, true), (3, true), (4, true)] follows (by kernel_rfl) (fun _ h => h.sub [110, 106, 102, 0]) ?_
            refine VD.y rfl rfl (.inl rfl) (.fa rfl tst32 rfl) ?_
            refine VD.y rfl rfl (.inl rfl) (.ld1 106 rfl tk3 rfl (cellsAt_one rfl rfl)) ?_
            refine VD.y rfl rfl (.inl rfl) (.fa rfl tst32 rfl) ?_
            refine VD.y rfl rfl (.inl rfl) (.ld1 106 rfl tk3 rfl (cellsAt_one rfl rfl)) ?_
            refine VD.y rfl rfl (.inl rfl) (.as rfl) ?_
            refine VD.nil rfl ?_ rfl
            refine VO.as ?_
            refine VO.kp [110, 106, 102, 0] [(110, mone g9 (.cells [Value.int .i64 (15), Value.int .i64 (((k : Nat) : Int))].toArray 75 (0, 0))), (106, mone g5 (.cells [Value.int .i64 (x4.1), Value.int .i64 (x4.2.1), Value.slice q4_A2 (x4.2.2.length) (q4_c2)].toArray 32 (0, 0))), (102, mone g1 (.cells [Value.int .i64 (0), Value.int .i64 (0)].toArray 75 (0, 0))), (0, wm W)] ?_
            refine VO.k13 0 1 2 6 7 8 9 10 11 12 13 36 41 ?_
            refine outBN ?_
            refine outN ?_
            refine VC.reg ?_
            refine VO.y rfl (.add (c := ((k + 1 : Nat) : Int)) rfl rfl (by omega) ⟨by exact fin1_follows_ok, by exact fin1_follows_ok⟩) ?_
            refine VO.mv ?_
            refine VO.k13 0 1 2 6 7 8 9 10 11 12 13 36 41 ?_
            exact outN ⟨⟨k + 1, x4.1, x4.2.1⟩, ⟨by omega, by first | (exfalso; omega) | (rw [hf, follows_step ‹d2[k]? = some _› (by first | assumption | omega) (by omega) (by omega)]; rfl)⟩, by exact fin1_follows_ok, ⟨⟨rfl, rfl, rfl, rfl, rfl, rfl, rfl, trivial⟩, fun _ h => Inv.sub h [102, 0]⟩⟩
        · -- TTFF
          refine VC.skip ?_
          refine outN ?_
          refine VC.seq ?_
          refine VC.rs ?_
          refine VO.y rfl (.ldA 110 rfl tk75 rfl (cellsAt_one rfl rfl)) ?_
          refine VO.mv ?_
          refine VO.y rfl (.bst (cs := [Value.int .i64 (0), Value.int .i64 (((k : Nat) : Int))]) rfl tst75 tz75 rfl) ?_
          refine VO.y rfl (.stneq (p := (cCheck x4) = 0 ∧ ((k : Nat) : Int) = ((k : Nat) : Int)) rfl rfl (teq75 (cCheck x4) ((k : Nat) : Int)) (teq75 0 ((k : Nat) : Int)) (by simp [ceq, ba_toList])) ?_
          refine VO.k13 0 1 2 6 7 8 9 10 11 12 13 36 41 ?_
          refine VC.cond rfl (fun hc16 => ?_) (fun hc16 => ?_)
          · -- TTFFT
            refine VC.rs ?_
            refine VO.y rfl (.ldA 110 rfl tk75 rfl (cellsAt_one rfl rfl)) ?_
            refine VO.store (k := 2) (c' := [Value.int .i64 (cCheck x4), Value.int .i64 (((k : Nat) : Int))]) 102 rfl rfl (.inl tk75) rfl rfl rfl rfl rfl ?_
            refine VO.k13 0 1 2 6 7 8 9 10 11 12 13 36 41 ?_
            refine VC.ret ?_
            refine outR ?_
            refine outBR ?_
            refine outR ?_
            refine outR ?_
            refine outBR ?_
            refine outR ?_
            refine ⟨_, _, res_run (rs := [.cell 6 75]) rfl (.agg 102 rfl tk75 rfl ⟨_, _, _, mone_self _ _, Nat.le_of_ble_eq_true rfl, rfl⟩ .nil), fun W_ hI => out_of (l := []) hI [] rfl rfl (mle_refl _) (fun hS_ => ?_)⟩
            dsimp only [packV]
            have he0 : (cFollows d0 d1 d2 : Ty.Den TFault) = (cCheck x4, ((k : Nat) : Int)) := by first | rfl | (first | (rw [hf, List.drop_of_length_le (by omega)]; rfl) | (rw [hf, follows_bad ‹d2[k]? = some _› (by first | assumption | omega)]) | (rw [hf, follows_order ‹d2[k]? = some _› (by assumption) (by omega)]) | (exfalso; omega))
            refine ⟨[Value.int .i64 (cCheck x4), Value.int .i64 (((k : Nat) : Int))], ?_, ?_⟩
            rotate_left
            · rw [he0]; exact (Ow.of (m := mnil) rfl (mk_Fault (m := _) (cCheck x4) ((k : Nat) : Int) (by simp only [inK]; (exact fin1_follows_ok)) (by simp only [inK]; (exact fin1_follows_ok))))
            all_goals (first | rfl | (rfl))
          · -- TTFFF
            refine VC.skip ?_
            refine outN ?_
            refine VC.regD _ 5 [(0, true), (1, true), (2, true), (3, true), (4, true)] follows (by kernel_rfl) (fun _ h => h.sub [110, 106, 102, 0]) ?_
            refine VD.y rfl rfl (.inl rfl) (.fa rfl tst32 rfl) ?_
            refine VD.y rfl rfl (.inl rfl) (.ld1 106 rfl tk3 rfl (cellsAt_one rfl rfl)) ?_
            refine VD.y rfl rfl (.inl rfl) (.fa rfl tst32 rfl) ?_
            refine VD.y rfl rfl (.inl rfl) (.ld1 106 rfl tk3 rfl (cellsAt_one rfl rfl)) ?_
            refine VD.y rfl rfl (.inl rfl) (.as rfl) ?_
            refine VD.nil rfl ?_ rfl
            refine VO.as ?_
            refine VO.k13 0 1 2 6 7 8 9 10 11 12 13 36 41 ?_
            refine outBN ?_
            refine outN ?_
            refine VC.reg ?_
            refine VO.y rfl (.add (c := ((k + 1 : Nat) : Int)) rfl rfl (by omega) ⟨by exact fin1_follows_ok, by exact fin1_follows_ok⟩) ?_
            refine VO.mv ?_
            refine VO.kp [110, 106, 102, 0] [(110, mone g9 (.cells [Value.int .i64 (cCheck x4), Value.int .i64 (((k : Nat) : Int))].toArray 75 (0, 0))), (106, mone g5 (.cells [Value.int .i64 (x4.1), Value.int .i64 (x4.2.1), Value.slice q4_A2 (x4.2.2.length) (q4_c2)].toArray 32 (0, 0))), (102, mone g1 (.cells [Value.int .i64 (0), Value.int .i64 (0)].toArray 75 (0, 0))), (0, wm W)] ?_
            refine VO.k13 0 1 2 6 7 8 9 10 11 12 13 36 41 ?_
            exact outN ⟨⟨k + 1, x4.1, x4.2.1⟩, ⟨by omega, by first | (exfalso; omega) | (rw [hf, follows_step ‹d2[k]? = some _› (by first | assumption | omega) (by omega) (by omega)]; rfl)⟩, by exact fin1_follows_ok, ⟨⟨rfl, rfl, rfl, rfl, rfl, rfl, rfl, trivial⟩, fun _ h => Inv.sub h [102, 0]⟩⟩
    · -- TF
      refine VO.gN ?_
      refine VO.gN ?_
      refine VO.gN ?_
      refine VO.gN ?_
      refine VO.gN ?_
      refine VO.gN ?_
      refine VO.gn rfl (.inr ⟨_, rfl, rfl⟩) ?_
      refine VO.gn rfl (.inr ⟨_, rfl, rfl⟩) ?_
      refine VO.gn rfl (.inr ⟨_, rfl, rfl⟩) ?_
      refine VO.gn rfl (.inr ⟨_, rfl, rfl⟩) ?_
      refine VO.gN ?_
      refine VO.y rfl (.pF rfl rfl) ?_
      refine VO.kp [110, 106, 102, 0] [(110, mone g9 (.cells [Value.int .i64 (cCheck x4), Value.int .i64 (((k : Nat) : Int))].toArray 75 (0, 0))), (106, mone g5 (.cells [Value.int .i64 (x4.1), Value.int .i64 (x4.2.1), Value.slice q4_A2 (x4.2.2.length) (q4_c2)].toArray 32 (0, 0))), (102, mone g1 (.cells [Value.int .i64 (0), Value.int .i64 (0)].toArray 75 (0, 0))), (0, wm W)] ?_
      refine VO.k12 0 1 2 6 7 8 9 10 11 12 13 36 ?_
      refine VC.condF rfl ?_
      refine VC.skip ?_
      refine outN ?_
      refine VC.seq ?_
      refine VC.rs ?_
      refine VO.y rfl (.ldA 110 rfl tk75 rfl (cellsAt_one rfl rfl)) ?_
      refine VO.mv ?_
      refine VO.y rfl (.bst (cs := [Value.int .i64 (0), Value.int .i64 (((k : Nat) : Int))]) rfl tst75 tz75 rfl) ?_
      refine VO.y rfl (.stneq (p := (cCheck x4) = 0 ∧ ((k : Nat) : Int) = ((k : Nat) : Int)) rfl rfl (teq75 (cCheck x4) ((k : Nat) : Int)) (teq75 0 ((k : Nat) : Int)) (by simp [ceq, ba_toList])) ?_
      refine VO.k13 0 1 2 6 7 8 9 10 11 12 13 36 41 ?_
      refine VC.cond rfl (fun hc17 => ?_) (fun hc17 => ?_)
      · -- TFT
        refine VC.rs ?_
        refine VO.y rfl (.ldA 110 rfl tk75 rfl (cellsAt_one rfl rfl)) ?_
        refine VO.store (k := 2) (c' := [Value.int .i64 (cCheck x4), Value.int .i64 (((k : Nat) : Int))]) 102 rfl rfl (.inl tk75) rfl rfl rfl rfl rfl ?_
        refine VO.k13 0 1 2 6 7 8 9 10 11 12 13 36 41 ?_
        refine VC.ret ?_
        refine outR ?_
        refine outBR ?_
        refine outR ?_
        refine outR ?_
        refine outBR ?_
        refine outR ?_
        refine ⟨_, _, res_run (rs := [.cell 6 75]) rfl (.agg 102 rfl tk75 rfl ⟨_, _, _, mone_self _ _, Nat.le_of_ble_eq_true rfl, rfl⟩ .nil), fun W_ hI => out_of (l := []) hI [] rfl rfl (mle_refl _) (fun hS_ => ?_)⟩
        dsimp only [packV]
        have he0 : (cFollows d0 d1 d2 : Ty.Den TFault) = (cCheck x4, ((k : Nat) : Int)) := by first | rfl | (first | (rw [hf, List.drop_of_length_le (by omega)]; rfl) | (rw [hf, follows_bad ‹d2[k]? = some _› (by first | assumption | omega)]) | (rw [hf, follows_order ‹d2[k]? = some _› (by assumption) (by omega)]) | (exfalso; omega))
        refine ⟨[Value.int .i64 (cCheck x4), Value.int .i64 (((k : Nat) : Int))], ?_, ?_⟩
        rotate_left
        · rw [he0]; exact (Ow.of (m := mnil) rfl (mk_Fault (m := _) (cCheck x4) ((k : Nat) : Int) (by simp only [inK]; (exact fin1_follows_ok)) (by simp only [inK]; (exact fin1_follows_ok))))
        all_goals (first | rfl | (rfl))
      · -- TFF
        refine VC.skip ?_
        refine outN ?_
        refine VC.regD _ 5 [(0, true), (1, true), (2, true), (3, true), (4, true)] follows (by kernel_rfl) (fun _ h => h.sub [110, 106, 102, 0]) ?_
        refine VD.y rfl rfl (.inl rfl) (.fa rfl tst32 rfl) ?_
        refine VD.y rfl rfl (.inl rfl) (.ld1 106 rfl tk3 rfl (cellsAt_one rfl rfl)) ?_
        refine VD.y rfl rfl (.inl rfl) (.fa rfl tst32 rfl) ?_
        refine VD.y rfl rfl (.inl rfl) (.ld1 106 rfl tk3 rfl (cellsAt_one rfl rfl)) ?_
        refine VD.y rfl rfl (.inl rfl) (.as rfl) ?_
        refine VD.nil rfl ?_ rfl
        refine VO.as ?_
        refine VO.k13 0 1 2 6 7 8 9 10 11 12 13 36 41 ?_
        refine outBN ?_
        refine outN ?_
        refine VC.reg ?_
        refine VO.y rfl (.add (c := ((k + 1 : Nat) : Int)) rfl rfl (by omega) ⟨by exact fin1_follows_ok, by exact fin1_follows_ok⟩) ?_
        refine VO.mv ?_
        refine VO.kp [110, 106, 102, 0] [(110, mone g9 (.cells [Value.int .i64 (cCheck x4), Value.int .i64 (((k : Nat) : Int))].toArray 75 (0, 0))), (106, mone g5 (.cells [Value.int .i64 (x4.1), Value.int .i64 (x4.2.1), Value.slice q4_A2 (x4.2.2.length) (q4_c2)].toArray 32 (0, 0))), (102, mone g1 (.cells [Value.int .i64 (0), Value.int .i64 (0)].toArray 75 (0, 0))), (0, wm W)] ?_
        refine VO.k13 0 1 2 6 7 8 9 10 11 12 13 36 41 ?_
        exact outN ⟨⟨k + 1, x4.1, x4.2.1⟩, ⟨by omega, by first | (exfalso; omega) | (rw [hf, follows_step ‹d2[k]? = some _› (by first | assumption | omega) (by omega) (by omega)]; rfl)⟩, by exact fin1_follows_ok, ⟨⟨rfl, rfl, rfl, rfl, rfl, rfl, rfl, trivial⟩, fun _ h => Inv.sub h [102, 0]⟩⟩
  · -- F
    refine VC.exit ?_
    refine outE ?_
    refine outE ?_
    refine outBB ?_
    refine outN ?_
    refine VC.rs ?_
    refine VO.y rfl (.bst (cs := [Value.int .i64 (0), Value.int .i64 (0)]) rfl tst75 tz75 rfl) ?_
    refine VO.store (k := 2) (c' := [Value.int .i64 (0), Value.int .i64 (0)]) 102 rfl rfl (.inl tk75) rfl rfl rfl rfl rfl ?_
    refine VO.k8 0 1 2 6 10 11 12 13 ?_
    refine VC.ret ?_
    refine ⟨_, _, res_run (rs := [.cell 6 75]) rfl (.agg 102 rfl tk75 rfl ⟨_, _, _, mone_self _ _, Nat.le_of_ble_eq_true rfl, rfl⟩ .nil), fun W_ hI => out_of (l := []) hI [] rfl rfl (mle_refl _) (fun hS_ => ?_)⟩
    dsimp only [packV]
    have he0 : (cFollows d0 d1 d2 : Ty.Den TFault) = (0, 0) := by first | rfl | (first | (rw [hf, List.drop_of_length_le (by omega)]; rfl) | (rw [hf, follows_bad ‹d2[k]? = some _› (by first | assumption | omega)]) | (rw [hf, follows_order ‹d2[k]? = some _› (by assumption) (by omega)]) | (exfalso; omega))
    refine ⟨[Value.int .i64 (0), Value.int .i64 (0)], ?_, ?_⟩
    rotate_left
    · rw [he0]; exact (Ow.of (m := mnil) rfl (mk_Fault (m := _) 0 0 (by simp only [inK]; (exact fin1_follows_ok)) (by simp only [inK]; (exact fin1_follows_ok))))
    all_goals (first | rfl | (rfl))
end
section
set_option linter.unusedVariables false
def vX (b : Bytes) : Nat := match vread b with
  | some (x, _) => x
  | none => 0
def vN (b : Bytes) : Nat := match vread b with
  | some (_, n) => n
  | none => 0
def vE (b : Bytes) : Int := match vread b with
  | some _ => 0
  | none => 5
def sX (b : Bytes) (m : Int) : Nat := match vsmall b m with
  | some (x, _) => x
  | none => 0
def sN (b : Bytes) (m : Int) : Nat := match vsmall b m with
  | some (_, n) => n
  | none => 0
def sE (b : Bytes) (m : Int) : Int := match vsmall b m with
  | some _ => 0
  | none => 5
theorem bits_add {x a k : Nat} (h : x < 2 ^ k) : x ||| a * 2 ^ k = x + a * 2 ^ k := by
  rw [Nat.or_comm, Nat.mul_comm, ← Nat.two_pow_add_eq_or_of_lt h, Nat.add_comm]
theorem pow7 {k : Nat} (h : k ≤ 9) : 2 ^ (7 * k) ≤ 9223372036854775808 := by
  have : 2 ^ (7 * k) ≤ 2 ^ 63 := Nat.pow_le_pow_right (by decide) (by omega)
  simpa using this
theorem low64 {x k : Nat} (h : x < 2 ^ (7 * k)) (hk : k ≤ 9) : x < 18446744073709551616 := by have := pow7 hk; omega
theorem pow_next (k : Nat) : 2 ^ (7 * (k + 1)) = 128 * 2 ^ (7 * k) := by rw [Nat.mul_add, Nat.pow_add]; omega
theorem nine (c : Nat) (h : c ≤ 1) : c * 9223372036854775808 + 9223372036854775808 ≤ 18446744073709551616 := by omega
/-- a digit is put on top: below the tenth, or the tenth if it is 0 or 1. -/
theorem top_add {x k c : Nat} (h : x < 2 ^ (7 * k)) (hk : k ≤ 9) (hc : ¬ (k = 9 ∧ c > 1)) : x ||| c % 128 * 2 ^ (7 * k) % 18446744073709551616 = x + c % 128 * 2 ^ (7 * k) ∧ x + c % 128 * 2 ^ (7 * k) < 18446744073709551616 ∧ (k < 9 → x + c % 128 * 2 ^ (7 * k) < 2 ^ (7 * (k + 1))) := by
  have hp := pow7 hk
  have hm : c % 128 * 2 ^ (7 * k) + 2 ^ (7 * k) ≤ 128 * 2 ^ (7 * k) := by
    have : (c % 128 + 1) * 2 ^ (7 * k) ≤ 128 * 2 ^ (7 * k) := Nat.mul_le_mul_right _ (by omega)
    rwa [Nat.add_mul, Nat.one_mul] at this
  have hlt : c % 128 * 2 ^ (7 * k) + 2 ^ (7 * k) ≤ 18446744073709551616 := by
    by_cases h9 : k = 9
    · have hc1 : c ≤ 1 := by omega
      have e : c % 128 = c := by omega
      rw [e, h9]
      exact nine c hc1
    · have : 2 ^ (7 * (k + 1)) ≤ 2 ^ 63 := Nat.pow_le_pow_right (by decide) (by omega)
      rw [pow_next] at this
      have e : (2 : Nat) ^ 63 = 9223372036854775808 := by decide
      omega
  rw [Nat.mod_eq_of_lt (by omega), bits_add h]
  exact ⟨rfl, by omega, fun _ => by rw [pow_next]; omega⟩
section
variable {b : Bytes} {k x : Nat} {c : UInt8}
theorem drop_cons {α : Type} {l : List α} {k : Nat} {x : α} (h : l[k]? = some x) : l.drop k = x :: l.drop (k + 1) := by
  obtain ⟨h1, h2⟩ := List.getElem?_eq_some_iff.1 h
  rw [List.drop_eq_getElem_cons h1, h2]
theorem vgo_end (h : b.length ≤ k) : vgo k x (b.drop k) = none := by rw [List.drop_of_length_le h]; rfl
theorem vgo_big (hc : b[k]? = some c) (h : k = 9 ∧ c.toNat > 1) : vgo k x (b.drop k) = none := by rw [drop_cons hc]; exact if_pos h
theorem vgo_zero (hc : b[k]? = some c) (h1 : ¬ c.toNat ≥ 128) (h : c.toNat = 0 ∧ k > 0) : vgo k x (b.drop k) = none := by
  rw [drop_cons hc]; unfold vgo; rw [if_neg (by omega), if_neg h1, if_pos h]
theorem vgo_more (hx : x < 2 ^ (7 * k)) (hk : k ≤ 9) (hc : b[k]? = some c) (h0 : ¬ (k = 9 ∧ c.toNat > 1)) (h1 : c.toNat ≥ 128) : k < 9 ∧ vgo k x (b.drop k) = vgo (k + 1) (x ||| c.toNat % 128 * 2 ^ (7 * k) % 18446744073709551616) (b.drop (k + 1)) ∧ x ||| c.toNat % 128 * 2 ^ (7 * k) % 18446744073709551616 < 2 ^ (7 * (k + 1)) := by
  obtain ⟨t1, t2, t3⟩ := top_add hx hk h0
  rw [t1]
  refine ⟨by omega, ?_, t3 (by omega)⟩
  rw [drop_cons hc]
  show (if _ then _ else _) = _
  rw [if_neg h0, if_pos h1]
theorem vgo_done (hx : x < 2 ^ (7 * k)) (hk : k ≤ 9) (hc : b[k]? = some c) (h0 : ¬ (k = 9 ∧ c.toNat > 1)) (h1 : ¬ c.toNat ≥ 128) (h2 : ¬ (c.toNat = 0 ∧ k > 0)) : vgo k x (b.drop k) = some (x ||| c.toNat % 128 * 2 ^ (7 * k) % 18446744073709551616, k + 1) ∧ x ||| c.toNat % 128 * 2 ^ (7 * k) % 18446744073709551616 < 18446744073709551616 := by
  obtain ⟨t1, t2, t3⟩ := top_add hx hk h0
  rw [t1]
  refine ⟨?_, t2⟩
  rw [drop_cons hc]
  show (if _ then _ else _) = _
  rw [if_neg h0, if_neg h1, if_neg h2]
end
theorem vgo_bounds : ∀ {b : Bytes} {i x y n : Nat}, x < 2 ^ (7 * i) → i ≤ 9 → vgo i x b = some (y, n) → y < 18446744073709551616 ∧ i < n ∧ n ≤ i + b.length ∧ n ≤ 10
  | [], _, _, _, _, _, _, h => by cases h
  | c :: r, i, x, y, n, hx, hi, h => by
    unfold vgo at h
    split at h
    · cases h
    · rename_i h0
      obtain ⟨t1, t2, t3⟩ := top_add hx hi h0
      split at h
      · have := vgo_bounds (t3 (by omega)) (by omega) h
        simp only [List.length_cons]; omega
      · split at h
        · cases h
        · simp only [Option.some.injEq, Prod.mk.injEq] at h
          simp only [List.length_cons]; omega
theorem vread_bounds {b : Bytes} {x n : Nat} (h : vread b = some (x, n)) : x < 18446744073709551616 ∧ 1 ≤ n ∧ n ≤ b.length ∧ n ≤ 10 := by
  have := vgo_bounds (by decide) (by decide) h
  omega
theorem vX_bounds (b : Bytes) : vX b < 18446744073709551616 ∧ vN b ≤ b.length ∧ vN b ≤ 10 ∧ (vE b = 0 ∨ vE b = 5) := by
  unfold vX vN vE
  cases h : vread b with
  | none => simp
  | some p =>
    obtain ⟨x, n⟩ := p
    have := vread_bounds h
    exact ⟨this.1, this.2.2.1, this.2.2.2, .inl rfl⟩
theorem v_none {b : Bytes} (h : vread b = none) : vX b = 0 ∧ vN b = 0 ∧ vE b = 5 := by unfold vX vN vE; rw [h]; simp
theorem v_some {b : Bytes} {x n : Nat} (h : vread b = some (x, n)) : vX b = x ∧ vN b = n ∧ vE b = 0 := by unfold vX vN vE; rw [h]; simp
theorem s_bounds (b : Bytes) (m : Int) (hm : m ≤ 9223372036854775807) : sX b m < 9223372036854775808 ∧ (0 ≤ m → (sX b m : Int) ≤ m) ∧ sN b m ≤ b.length ∧ sN b m ≤ 10 ∧ (sE b m = 0 ∨ sE b m = 5) := by
  unfold sX sN sE vsmall
  cases h : vread b with
  | none => exact ⟨Nat.succ_pos _, fun h => h, Nat.zero_le _, Nat.zero_le _, .inr rfl⟩
  | some p =>
    obtain ⟨x, n⟩ := p
    have := vread_bounds h
    dsimp only
    by_cases hx : (x : Int) ≤ m
    · rw [if_pos hx]
      exact ⟨by dsimp only; omega, fun _ => hx, this.2.2.1, this.2.2.2, .inl rfl⟩
    · rw [if_neg hx]
      exact ⟨Nat.succ_pos _, fun h => h, Nat.zero_le _, Nat.zero_le _, .inr rfl⟩
theorem s_bad {b : Bytes} {m : Int} (h : ¬ vE b = 0 ∨ m < 0 ∨ m < (vX b : Int)) : sX b m = 0 ∧ sN b m = 0 ∧ sE b m = 5 := by
  have : vsmall b m = none := by
    unfold vE vX at h
    unfold vsmall
    cases hv : vread b with
    | none => rfl
    | some p =>
      obtain ⟨x, n⟩ := p
      rw [hv] at h
      dsimp only at h ⊢
      rw [if_neg (by omega)]
  unfold sX sN sE; rw [this]; simp
theorem s_good {b : Bytes} {m : Int} (h : vE b = 0) (h1 : ¬ m < (vX b : Int)) : sX b m = vX b ∧ sN b m = vN b ∧ sE b m = 0 := by
  unfold vE at h
  unfold vX at h1
  unfold sX sN sE vX vN vsmall
  cases hv : vread b with
  | none => rw [hv] at h; cases h
  | some p =>
    obtain ⟨x, n⟩ := p
    rw [hv] at h1
    dsimp only at h1 ⊢
    rw [if_pos (by omega)]; exact ⟨rfl, rfl, rfl⟩
theorem or64 {x : Nat} (h : x < 18446744073709551616) (y : Nat) : x ||| y % 18446744073709551616 < 18446744073709551616 := by
  have := Nat.or_lt_two_pow (n := 64) (x := x) (y := y % 18446744073709551616) (by simpa using h) (by simpa using Nat.mod_lt y (by decide : 0 < 18446744073709551616))
  simpa using this
theorem venc_top : ∀ {k x c : Nat}, x < 2 ^ (7 * k) → 1 ≤ c → c < 128 → (venc (x + c * 2 ^ (7 * k))).length = k + 1 ∧ (venc (x + c * 2 ^ (7 * k)))[k]? = some (UInt8.ofNat c)
  | 0, x, c, hx, h1, h2 => by
    have : x = 0 := by simpa using hx
    subst this
    rw [Nat.mul_zero, Nat.pow_zero, Nat.mul_one, Nat.zero_add, venc, dif_pos h2]
    exact ⟨rfl, rfl⟩
  | k + 1, x, c, hx, h1, h2 => by
    rw [pow_next] at hx ⊢
    have hp : 1 ≤ 2 ^ (7 * k) := Nat.one_le_two_pow
    have hge : 2 ^ (7 * k) ≤ c * 2 ^ (7 * k) := Nat.le_mul_of_pos_left _ h1
    have e : c * (128 * 2 ^ (7 * k)) = 128 * (c * 2 ^ (7 * k)) := by rw [Nat.mul_left_comm]
    rw [e]
    generalize hq : c * 2 ^ (7 * k) = q at *
    have hdiv : (x + 128 * q) / 128 = x / 128 + c * 2 ^ (7 * k) := by rw [hq]; omega
    have ih := venc_top (k := k) (x := x / 128) (c := c) (by omega) h1 h2
    rw [venc, dif_neg (by omega), hdiv]
    simp only [List.length_cons, List.getElem?_cons_succ]
    exact ⟨by rw [ih.1], ih.2⟩
theorem venc_low {k x : Nat} (hk : 0 < k) (h : x < 2 ^ (7 * k)) : (venc x).length ≤ k := by
  have := venc_len_le (k - 1) x (by rw [show k - 1 + 1 = k by omega]; rwa [show (128 : Nat) = 2 ^ 7 from rfl, ← Nat.pow_mul])
  omega
section
variable {b : Bytes} {k x : Nat} {c : UInt8}
/-- the number's own bytes are not these. -/
theorem own_bad (hx : x < 2 ^ (7 * k)) (hk : k ≤ 9) (hc : b[k]? = some c) (h1 : c.toNat < 128)
    (h : ¬ (venc (x ||| c.toNat % 128 * 2 ^ (7 * k) % 18446744073709551616)).length = k + 1 ∨ ∃ y, (venc (x ||| c.toNat % 128 * 2 ^ (7 * k) % 18446744073709551616))[k]? = some y ∧ ¬ y = c) : vgo k x (b.drop k) = none := by
  by_cases h9 : k = 9 ∧ c.toNat > 1
  · exact vgo_big hc h9
  · by_cases h0 : c.toNat = 0 ∧ k > 0
    · exact vgo_zero hc (by omega) h0
    · exfalso
      obtain ⟨t1, t2, t3⟩ := top_add hx hk h9
      rw [t1, Nat.mod_eq_of_lt h1] at h
      by_cases hc0 : c.toNat = 0
      · have hk0 : k = 0 := by omega
        subst hk0
        have : x = 0 := by simpa using hx
        subst this
        rw [hc0] at h
        have e : venc (0 + 0 * 2 ^ (7 * 0)) = [0] := by rw [Nat.zero_mul, venc, dif_pos (by omega)]; rfl
        rw [e] at h
        rcases h with h | ⟨y, hy, hn⟩
        · simp at h
        · simp at hy
          apply hn
          apply UInt8.toNat_inj.1
          rw [hc0, ← hy]; rfl
      · obtain ⟨v1, v2⟩ := venc_top hx (by omega) h1
        rcases h with h | ⟨y, hy, hn⟩
        · exact h v1
        · rw [v2] at hy
          simp only [Option.some.injEq] at hy
          apply hn
          rw [← hy]
          simp
/-- they are. -/
theorem own_good (hx : x < 2 ^ (7 * k)) (hk : k ≤ 9) (hc : b[k]? = some c) (h1 : c.toNat < 128)
    (hl : (venc (x ||| c.toNat % 128 * 2 ^ (7 * k) % 18446744073709551616)).length = k + 1) (hy : (venc (x ||| c.toNat % 128 * 2 ^ (7 * k) % 18446744073709551616))[k]? = some c) : vgo k x (b.drop k) = some (x ||| c.toNat % 128 * 2 ^ (7 * k) % 18446744073709551616, k + 1) := by
  have hc7 : c.toNat % 128 = c.toNat := Nat.mod_eq_of_lt h1
  have h9 : ¬ (k = 9 ∧ c.toNat > 1) := by
    rintro ⟨rfl, h⟩
    rw [hc7] at hl hy
    have hx' : x < 9223372036854775808 := by simpa using hx
    have e2 : c.toNat * 2 ^ (7 * 9) % 18446744073709551616 = c.toNat % 2 * 2 ^ (7 * 9) := by
      have : (2 : Nat) ^ (7 * 9) = 9223372036854775808 := by decide
      rw [this]; omega
    rw [e2, bits_add hx] at hl hy
    rcases Nat.mod_two_eq_zero_or_one c.toNat with h0 | h0
    · rw [h0, Nat.zero_mul, Nat.add_zero] at hl
      have := venc_low (k := 9) (by omega) hx
      omega
    · rw [h0] at hy
      have := (venc_top hx (Nat.le_refl 1) (by omega)).2
      rw [this] at hy
      simp only [Option.some.injEq] at hy
      rw [← hy] at h
      exact absurd h (by decide)
  have h0 : ¬ (c.toNat = 0 ∧ k > 0) := by
    rintro ⟨h, hk0⟩
    rw [h, Nat.zero_mod, Nat.zero_mul, Nat.zero_mod, Nat.or_zero] at hl
    have := venc_low hk0 hx
    omega
  exact (vgo_done hx hk hc h9 (by omega) h0).1
end
end
section
set_option linter.unusedVariables false
abbrev RS := Int × Bool
def rOk (B : Bytes) (s : RS) : Prop := 0 ≤ s.1 ∧ s.1 ≤ B.length
def rNum (B : Bytes) (m : Int) (s : RS) : Int × RS := if s.2 = true then (0, s) else if sE (B.drop s.1.toNat) m = 0 then ((sX (B.drop s.1.toNat) m : Int), (s.1 + (sN (B.drop s.1.toNat) m : Int), false)) else (0, (s.1, true))
def rBytes (B : Bytes) (n : Int) (s : RS) : Bytes × RS := if s.2 = true ∨ (B.length : Int) - s.1 < n then ([], (s.1, true)) else ((B.drop s.1.toNat).take n.toNat, (s.1 + n, false))
def rText (B : Bytes) (m : Int) (s : RS) : Bytes × RS := rBytes B (rNum B m s).1 (rNum B m s).2
section
variable {B : Bytes} {m n : Int} {s : RS}
theorem rNum_bad (h : s.2 = true) : rNum B m s = (0, s) := if_pos h
theorem rNum_none (h : s.2 = false) (h1 : ¬ sE (B.drop s.1.toNat) m = 0) : rNum B m s = (0, (s.1, true)) := by unfold rNum; rw [if_neg (by rw [h]; simp), if_neg h1]
theorem rNum_some (h : s.2 = false) (h1 : sE (B.drop s.1.toNat) m = 0) : rNum B m s = ((sX (B.drop s.1.toNat) m : Int), (s.1 + (sN (B.drop s.1.toNat) m : Int), false)) := by unfold rNum; rw [if_neg (by rw [h]; simp), if_pos h1]
theorem rNum_ok (h : rOk B s) (hm : m ≤ 9223372036854775807) : rOk B (rNum B m s).2 ∧ 0 ≤ (rNum B m s).1 ∧ (rNum B m s).1 < 9223372036854775808 ∧ (0 ≤ m → (rNum B m s).1 ≤ m) ∧ s.1 ≤ (rNum B m s).2.1 := by
  unfold rNum
  obtain ⟨h1, h2⟩ := h
  split
  · exact ⟨⟨h1, h2⟩, by simp, by simp, fun h => h, Int.le_refl _⟩
  · split
    · have := s_bounds (B.drop s.1.toNat) m hm
      have hl : (B.drop s.1.toNat).length = B.length - s.1.toNat := by simp
      refine ⟨⟨by simp only; omega, by simp only; omega⟩, by simp only; omega, by simp only; omega, fun h => this.2.1 h, by simp only; omega⟩
    · exact ⟨⟨h1, h2⟩, by simp, by simp, fun h => h, Int.le_refl _⟩
theorem rBytes_ok (h : rOk B s) (hn : 0 ≤ n) : rOk B (rBytes B n s).2 ∧ ((rBytes B n s).1.length : Int) ≤ n := by
  unfold rBytes
  obtain ⟨h1, h2⟩ := h
  split
  · exact ⟨⟨h1, h2⟩, by simpa using hn⟩
  · exact ⟨⟨by simp only; omega, by simp only; omega⟩, by simp; omega⟩
theorem rBytes_bad (h : s.2 = true ∨ (B.length : Int) - s.1 < n) : rBytes B n s = ([], (s.1, true)) := if_pos h
theorem rBytes_good (h : s.2 = false) (h1 : ¬ (B.length : Int) - s.1 < n) : rBytes B n s = ((B.drop s.1.toNat).take n.toNat, (s.1 + n, false)) := if_neg (by rw [h]; simpa using h1)
theorem rText_ok (h : rOk B s) (hm : 0 ≤ m) (hm2 : m ≤ 9223372036854775807) : rOk B (rText B m s).2 ∧ ((rText B m s).1.length : Int) ≤ m := by
  have h1 := rNum_ok (m := m) h hm2
  have h2 := rBytes_ok (n := (rNum B m s).1) h1.1 h1.2.1
  have := h1.2.2.2.1 hm
  exact ⟨h2.1, by unfold rText; omega⟩
end
theorem cut_mid {B : Bytes} {a n : Int} (h : 0 ≤ a) (hn : 0 ≤ n) : (B.take (a + n).toNat).drop a.toNat = (B.drop a.toNat).take n.toNat := by
  rw [List.drop_take]; congr 1; omega
def rOp (B last : Bytes) (s : RS) : DOp × RS :=
  let a := rNum B 1 s
  let b := rNum B last.length a.2
  let t := rText B 16 b.2
  let key := last.take b.1.toNat ++ t.1
  let bad := t.2.2 || decide (¬ (shared last key : Int) = b.1)
  if a.1 = 1 then ((true, key, (rText B 32 (t.2.1, bad)).1), (rText B 32 (t.2.1, bad)).2) else ((false, key, []), (t.2.1, bad))
def pOps (B : Bytes) : Nat → Bytes → RS → List DOp × RS
  | 0, _, s => ([], s)
  | n + 1, last, s => if s.2 = true then ([], s) else ((rOp B last s).1 :: (pOps B n (rOp B last s).1.2.1 (rOp B last s).2).1, (pOps B n (rOp B last s).1.2.1 (rOp B last s).2).2)
def bRead (B : Bytes) : List DOp × Int × Int :=
  let k := rNum B 8 (0, false)
  let r := pOps B k.1.toNat [] k.2
  if r.2.2 = true ∨ ¬ batchCheck r.1 = 0 then ([], 0, 5) else (r.1, r.2.1, 0)
theorem rOp_ok {B last : Bytes} {s : RS} (h : rOk B s) (hl : last.length ≤ 9223372036854775000) : rOk B (rOp B last s).2 ∧ (rOp B last s).1.2.1.length ≤ last.length + 16 ∧ (rOp B last s).1.2.2.length ≤ 32 := by
  have h1 := rNum_ok (m := 1) h (by omega)
  have h2 := rNum_ok (m := (last.length : Int)) h1.1 (by omega)
  have h3 := rText_ok (m := 16) h2.1 (by omega) (by omega)
  have hk : (last.take (rNum B last.length (rNum B 1 s).2).1.toNat ++ (rText B 16 (rNum B last.length (rNum B 1 s).2).2).1).length ≤ last.length + 16 := by simp; omega
  unfold rOp
  dsimp only
  split
  · have h4 := rText_ok (m := 32) (s := ((rText B 16 (rNum B last.length (rNum B 1 s).2).2).2.1, (rText B 16 (rNum B last.length (rNum B 1 s).2).2).2.2 || decide (¬ (shared last (last.take (rNum B last.length (rNum B 1 s).2).1.toNat ++ (rText B 16 (rNum B last.length (rNum B 1 s).2).2).1) : Int) = (rNum B last.length (rNum B 1 s).2).1))) h3.1 (by omega) (by omega)
    exact ⟨h4.1, hk, by have := h4.2; simp only; omega⟩
  · exact ⟨h3.1, hk, by simp⟩
theorem pOps_zero {B last : Bytes} {s : RS} {k : Int} (h : k ≤ 0 ∨ s.2 = true) : pOps B k.toNat last s = ([], s) := by
  rcases h with h | h
  · rw [show k.toNat = 0 by omega]; rfl
  · cases k.toNat with
    | zero => rfl
    | succ n => exact if_pos h
theorem pOps_step {B last : Bytes} {s : RS} {k : Int} (h : 0 < k) (hs : s.2 = false) : pOps B k.toNat last s = ((rOp B last s).1 :: (pOps B (k - 1).toNat (rOp B last s).1.2.1 (rOp B last s).2).1, (pOps B (k - 1).toNat (rOp B last s).1.2.1 (rOp B last s).2).2) := by
  rw [show k.toNat = (k - 1).toNat + 1 by omega]
  exact if_neg (by rw [hs]; simp)
/-- The document's. -/
def rOp2 (B last : Bytes) (s : RS) : DOp × RS :=
  let a := rNum B 1 s
  let b := rNum B last.length a.2
  let t := rText B 16 b.2
  let key := last.take b.1.toNat ++ t.1
  let v := if a.1 = 1 then rText B 32 t.2 else ([], t.2)
  ((decide (a.1 = 1), key, v.1), if ¬ (shared last key : Int) = b.1 then (v.2.1, true) else v.2)
def pOps2 (B : Bytes) : Nat → Bytes → RS → List DOp × RS
  | 0, _, s => ([], s)
  | n + 1, last, s => if s.2 = true then ([], s) else ((rOp2 B last s).1 :: (pOps2 B n (rOp2 B last s).1.2.1 (rOp2 B last s).2).1, (pOps2 B n (rOp2 B last s).1.2.1 (rOp2 B last s).2).2)
theorem pOps2_zero {B last : Bytes} {s : RS} {k : Int} (h : k ≤ 0 ∨ s.2 = true) : pOps2 B k.toNat last s = ([], s) := by
  rcases h with h | h
  · rw [show k.toNat = 0 by omega]; rfl
  · cases k.toNat with
    | zero => rfl
    | succ n => exact if_pos h
theorem pOps2_step {B last : Bytes} {s : RS} {k : Int} (h : 0 < k) (hs : s.2 = false) : pOps2 B k.toNat last s = ((rOp2 B last s).1 :: (pOps2 B (k - 1).toNat (rOp2 B last s).1.2.1 (rOp2 B last s).2).1, (pOps2 B (k - 1).toNat (rOp2 B last s).1.2.1 (rOp2 B last s).2).2) := by
  rw [show k.toNat = (k - 1).toNat + 1 by omega]
  exact if_neg (by rw [hs]; simp)
theorem rBytes_stuck {B : Bytes} {n : Int} {s : RS} (h : s.2 = true) : (rBytes B n s).2.2 = true := by rw [rBytes_bad (.inl h)]
theorem rText_stuck {B : Bytes} {m : Int} {s : RS} (h : s.2 = true) : (rText B m s).2.2 = true := by
  unfold rText; rw [rNum_bad h]; exact rBytes_stuck h
theorem rOp_same {B last : Bytes} {s : RS} : (rOp B last s).2.2 = (rOp2 B last s).2.2 ∧ ((rOp B last s).2.2 = false → rOp B last s = rOp2 B last s) := by
  unfold rOp rOp2
  dsimp only
  generalize (rNum B 1 s) = a
  generalize (rNum B (last.length : Int) a.2) = b
  generalize (rText B 16 b.2) = t
  generalize hk : last.take b.1.toNat ++ t.1 = key
  by_cases ha : a.1 = 1
  · rw [if_pos ha, if_pos ha]
    by_cases hs : (shared last key : Int) = b.1
    · have e : (t.2.2 || decide (¬ (shared last key : Int) = b.1)) = t.2.2 := by simp [hs]
      rw [e, if_neg (by simpa using hs)]
      exact ⟨rfl, fun _ => by simp [ha]⟩
    · have e : (t.2.2 || decide (¬ (shared last key : Int) = b.1)) = true := by simp [hs]
      rw [e, if_pos hs]
      have := rText_stuck (B := B) (m := 32) (s := (t.2.1, true)) rfl
      exact ⟨this, fun h => by rw [this] at h; cases h⟩
  · rw [if_neg ha, if_neg ha]
    by_cases hs : (shared last key : Int) = b.1
    · have e : (t.2.2 || decide (¬ (shared last key : Int) = b.1)) = t.2.2 := by simp [hs]
      rw [e, if_neg (by simpa using hs)]
      exact ⟨rfl, fun _ => by simp [ha]⟩
    · have e : (t.2.2 || decide (¬ (shared last key : Int) = b.1)) = true := by simp [hs]
      rw [e, if_pos hs]
      exact ⟨rfl, fun h => by cases h⟩
theorem pOps_same {B : Bytes} : ∀ (n : Nat) (last : Bytes) (s : RS), (pOps B n last s).2.2 = (pOps2 B n last s).2.2 ∧ ((pOps B n last s).2.2 = false → pOps B n last s = pOps2 B n last s)
  | 0, _, _ => ⟨rfl, fun _ => rfl⟩
  | n + 1, last, s => by
    unfold pOps pOps2
    by_cases hs : s.2 = true
    · rw [if_pos hs, if_pos hs]; exact ⟨rfl, fun _ => rfl⟩
    · rw [if_neg hs, if_neg hs]
      obtain ⟨h1, h2⟩ := rOp_same (B := B) (last := last) (s := s)
      cases hb : (rOp B last s).2.2 with
      | false =>
        have := h2 hb
        rw [this]
        obtain ⟨k1, k2⟩ := pOps_same (B := B) n (rOp2 B last s).1.2.1 (rOp2 B last s).2
        exact ⟨k1, fun h => by rw [k2 h]⟩
      | true =>
        have hb2 : (rOp2 B last s).2.2 = true := by rw [← h1]; exact hb
        have e1 : pOps B n (rOp B last s).1.2.1 (rOp B last s).2 = ([], (rOp B last s).2) := by
          cases n with
          | zero => rfl
          | succ n => exact if_pos hb
        have e2 : pOps2 B n (rOp2 B last s).1.2.1 (rOp2 B last s).2 = ([], (rOp2 B last s).2) := by
          cases n with
          | zero => rfl
          | succ n => exact if_pos hb2
        rw [e1, e2]
        exact ⟨by simp only; rw [hb, hb2], fun h => by simp only at h; rw [hb] at h; cases h⟩
/-- what the document's reader leaves of a batch: the list (nothing, if it is bad), and its state. -/
def nextRef (B : Bytes) (s : RS) : List DOp × RS :=
  let k := rNum B 8 s
  let r := pOps2 B k.1.toNat [] k.2
  if r.2.2 = true ∨ ¬ batchCheck r.1 = 0 then ([], (r.2.1, true)) else r
end
section
set_option linter.unusedVariables false
set_option linter.unusedSimpArgs false
set_option maxRecDepth 4000
theorem fnOk119 : fnOk Try.prog 119 = true := by kernel_rfl
theorem fnOk122 : fnOk Try.prog 122 = true := by kernel_rfl
theorem fnOk89 : fnOk Try.prog 89 = true := by kernel_rfl
theorem fin0_vRead_ok {P : Prop} (h : P := by first | (have e := v_none (hv.trans (vgo_end (by omega))); rw [e.1, e.2.1, e.2.2] <;> rfl) | (have e := v_none (hv.trans (vgo_big ‹d0[k]? = some _› ⟨by omega, by omega⟩)); rw [e.1, e.2.1, e.2.2] <;> rfl) | (have e := v_none (hv.trans (vgo_zero ‹d0[k]? = some _› (by omega) ⟨by omega, by omega⟩)); rw [e.1, e.2.1, e.2.2] <;> rfl) | (have e := v_some (hv.trans (vgo_done hx h9 ‹d0[k]? = some _› (by omega) (by omega) (by omega)).1); rw [e.1, e.2.1, e.2.2] <;> rfl)) : P := h
theorem vRead_ok (W : World) {v0 : Value} {d0 : List UInt8} (h0 : Rd (.sl .byte) (wm W) [v0] d0) : CallR Try.prog 119 [v0] W (mnil) (fun v m' => v = .tuple #[.int .u64 ((vX d0 : Nat) : Int), .int .i64 ((vN d0 : Nat) : Int), .int .i64 (vE d0)]) := by
  obtain ⟨A0, c0, rfl, l0, k0⟩ := h0.slice
  simp only [maxLen] at k0
  refine CallR.ofA (n := 40) Try.func119 rfl rfl rfl ?_
  refine VC.rs ?_
  refine VO.as ?_
  refine VO.as ?_
  refine VO.as ?_
  refine VO.k4 0 2 3 4 ?_
  refine VC.seq ?_
  refine VC.rs ?_
  refine VO.mv ?_
  refine VO.y rfl (.lenS rfl tsl25) ?_
  refine VO.mv ?_
  refine VO.k7 0 2 3 4 7 8 9 ?_
  refine VC.block ?_
  refine VC.loop (G := Nat × Nat) (fun g => [(2, Value.int .u64 ((((g.2) : Nat) : Int))), (9, Value.int .i64 ((((g.1) : Nat) : Int))), (0, Value.slice A0 (d0.length) (c0)), (7, Value.slice A0 (d0.length) (c0)), (8, Value.int .i64 (((d0.length : Nat) : Int)))]) (fun g => [(0, wm W)]) (fun g => ((g.1) ≤ d0.length) ∧ ((g.1) ≤ 9) ∧ ((g.2) < 2 ^ (7 * (g.1))) ∧ (vread d0 = vgo (g.1) (g.2) (d0.drop (g.1)))) (fun g => d0.length - (g.1)) (0, 0) (⟨by omega, by omega, by decide, by rfl⟩) ⟨⟨rfl, rfl, rfl, rfl, rfl, trivial⟩, fun _ h => h.sub [0]⟩ ?_
  rintro ⟨k, x⟩ ⟨hk, h9, hx, hv⟩
  replace hk : k ≤ d0.length := hk
  replace h9 : k ≤ 9 := h9
  replace hx : x < 2 ^ (7 * k) := hx
  replace hv : vread d0 = vgo k x (d0.drop k) := hv
  show VC _ _ _ _ _ [(2, Value.int .u64 (((x : Nat) : Int))), (9, Value.int .i64 (((k : Nat) : Int))), (0, Value.slice A0 (d0.length) (c0)), (7, Value.slice A0 (d0.length) (c0)), (8, Value.int .i64 (((d0.length : Nat) : Int)))] [(0, wm W)]
  have hx64 := low64 hx h9
  refine VC.rs ?_
  refine VO.y rfl (.lss rfl rfl) ?_
  refine VO.kp [0] [(0, wm W)] ?_
  refine VO.k6 0 2 7 8 9 10 ?_
  refine VC.seq ?_
  refine VC.cond rfl (fun hc1 => ?_) (fun hc1 => ?_)
  · -- T
    refine VC.skip ?_
    refine outN ?_
    refine VC.seq ?_
    refine VC.block ?_
    refine VC.rs ?_
    refine VO.mv ?_
    obtain ⟨x2, hx2⟩ : ∃ z_, (d0)[k]? = some z_ := ⟨_, List.getElem?_eq_getElem bd⟩
    obtain ⟨gg2, oo2, ec2, ea2, hce2, hre2⟩ := h0.elem hx2
    cases ea2
    obtain rfl := (show _ = _ from hre2)
    have xb2 := x2.toNat_lt
    refine VO.y rfl (.ixI k rfl rfl tsl25 rfl bd) ?_
    refine VO.y rfl (.ld1 0 rfl tk5 rfl hce2) ?_
    refine VO.as ?_
    refine VO.as ?_
    refine VO.k8 0 2 5 6 7 8 9 10 ?_
    refine VC.seq ?_
    refine VC.rs ?_
    refine VO.mv ?_
    refine VO.y rfl (.eql rfl rfl) ?_
    refine VO.mv ?_
    refine VO.dec (t := 16) rfl (fun hc3 => ?_) (fun hc3 => ?_)
    · -- TT
      refine VO.gy rfl ⟨_, rfl, rfl⟩ (.mv rfl) ?_
      refine VO.gy rfl ⟨_, rfl, rfl⟩ (.gtr rfl rfl) ?_
      refine VO.y rfl (.pT rfl rfl) ?_
      refine VO.k9 0 2 5 6 7 8 9 10 19 ?_
      refine VC.cond rfl (fun hc4 => ?_) (fun hc4 => ?_)
      · -- TTT
        refine VC.exit ?_
        refine outE ?_
        refine outBE rfl ?_
        refine outE ?_
        refine outE ?_
        refine outBB ?_
        refine outN ?_
        refine VC.rs ?_
        refine VO.as ?_
        refine VO.as ?_
        refine VO.as ?_
        refine VO.kp [0] [(0, wm W)] ?_
        refine VO.k11 0 2 3 4 5 6 7 8 9 10 19 ?_
        refine VC.ret ?_
        refine ⟨_, _, res_run (rs := [.tmp 2, .tmp 3, .tmp 4]) rfl (.tmp rfl (.tmp rfl (.tmp rfl .nil))), fun W_ hI => out_of (l := []) hI [] rfl rfl (mle_refl _) (fun hS_ => ?_)⟩
        dsimp only [packV]
        all_goals (first | rfl | (exact fin0_vRead_ok))
      · -- TTF
        refine VC.skip ?_
        refine outN ?_
        refine VC.rs ?_
        refine VO.mv ?_
        refine VO.mv ?_
        refine VO.y rfl (.bit (.inl rfl) rfl rfl (and127 _ (by omega))) ?_
        refine VO.y rfl (.cvI rfl ⟨_, Try.underlying5⟩ Try.underlying82 (IntWalk.u64_in _ bd)) ?_
        refine VO.mv ?_
        refine VO.y rfl (.mul (c := ((7 * k : Nat) : Int)) rfl rfl (by omega) ⟨bd, bd⟩) ?_
        refine VO.y rfl (.shf (.inl rfl) rfl rfl (shlU _ _ bd)) ?_
        refine VO.y rfl (.bit (.inr (.inl rfl)) rfl rfl (orU _ _ bd (by omega))) ?_
        refine VO.as ?_
        refine VO.kp [0] [(0, wm W)] ?_
        refine VO.k9 0 2 5 6 7 8 9 10 19 ?_
        refine VC.seq ?_
        refine VC.rs ?_
        refine VO.mv ?_
        refine VO.y rfl (.geq rfl rfl) ?_
        refine VO.k10 0 2 5 6 7 8 9 10 19 29 ?_
        refine VC.cond rfl (fun hc5 => ?_) (fun hc5 => ?_)
        · -- TTFT
          refine VC.exit ?_
          refine outE ?_
          refine outBB ?_
          refine outN ?_
          refine VC.reg ?_
          refine VO.y rfl (.add (c := ((k + 1 : Nat) : Int)) rfl rfl (by omega) ⟨bd, bd⟩) ?_
          refine VO.mv ?_
          refine VO.k10 0 2 5 6 7 8 9 10 19 29 ?_
          exact outN ⟨⟨k + 1, x ||| ((x2.toNat % 128) * 2 ^ (7 * k) % 18446744073709551616)⟩, ⟨by omega, by have := (vgo_more hx h9 ‹d0[k]? = some _› (by omega) (by omega)).1; omega, by exact (vgo_more hx h9 ‹d0[k]? = some _› (by omega) (by omega)).2.2, by exact hv.trans (vgo_more hx h9 ‹d0[k]? = some _› (by omega) (by omega)).2.1⟩, bd, ⟨⟨rfl, rfl, rfl, rfl, rfl, trivial⟩, fun _ h => Inv.sub h [0]⟩⟩
        · -- TTFF
          refine VC.skip ?_
          refine outN ?_
          refine VC.seq ?_
          refine VC.rs ?_
          refine VO.mv ?_
          refine VO.y rfl (.eql rfl rfl) ?_
          refine VO.mv ?_
          refine VO.dec (t := 32) rfl (fun hc6 => ?_) (fun hc6 => ?_)
          · -- TTFFT
            refine VO.gy rfl ⟨_, rfl, rfl⟩ (.mv rfl) ?_
            refine VO.gy rfl ⟨_, rfl, rfl⟩ (.gtr rfl rfl) ?_
            refine VO.y rfl (.pT rfl rfl) ?_
            refine VO.k11 0 2 5 6 7 8 9 10 19 29 35 ?_
            refine VC.cond rfl (fun hc7 => ?_) (fun hc7 => ?_)
            · -- TTFFTT
              refine VC.exit ?_
              refine outE ?_
              refine outBE rfl ?_
              refine outE ?_
              refine outE ?_
              refine outBB ?_
              refine outN ?_
              refine VC.rs ?_
              refine VO.as ?_
              refine VO.as ?_
              refine VO.as ?_
              refine VO.kp [0] [(0, wm W)] ?_
              refine VO.k13 0 2 3 4 5 6 7 8 9 10 19 29 35 ?_
              refine VC.ret ?_
              refine ⟨_, _, res_run (rs := [.tmp 2, .tmp 3, .tmp 4]) rfl (.tmp rfl (.tmp rfl (.tmp rfl .nil))), fun W_ hI => out_of (l := []) hI [] rfl rfl (mle_refl _) (fun hS_ => ?_)⟩
              dsimp only [packV]
              all_goals (first | rfl | (exact fin0_vRead_ok))
            · -- TTFFTF
              refine VC.skip ?_
              refine outN ?_
              refine VC.rs ?_
              refine VO.mv ?_
              refine VO.mv ?_
              refine VO.y rfl (.add (c := ((k + 1 : Nat) : Int)) rfl rfl (by omega) ⟨bd, bd⟩) ?_
              refine VO.as ?_
              refine VO.as ?_
              refine VO.as ?_
              refine VO.kp [0] [(0, wm W)] ?_
              refine VO.k13 0 2 3 4 5 6 7 8 9 10 19 29 35 ?_
              refine VC.ret ?_
              refine outBR ?_
              refine outR ?_
              refine outR ?_
              refine outBR ?_
              refine outR ?_
              refine ⟨_, _, res_run (rs := [.tmp 2, .tmp 3, .tmp 4]) rfl (.tmp rfl (.tmp rfl (.tmp rfl .nil))), fun W_ hI => out_of (l := []) hI [] rfl rfl (mle_refl _) (fun hS_ => ?_)⟩
              dsimp only [packV]
              all_goals (first | rfl | (exact fin0_vRead_ok))
          · -- TTFFF
            refine VO.gN ?_
            refine VO.gN ?_
            refine VO.y rfl (.pF rfl rfl) ?_
            refine VO.k11 0 2 5 6 7 8 9 10 19 29 35 ?_
            refine VC.condF rfl ?_
            refine VC.skip ?_
            refine outN ?_
            refine VC.rs ?_
            refine VO.mv ?_
            refine VO.mv ?_
            refine VO.y rfl (.add (c := ((k + 1 : Nat) : Int)) rfl rfl (by omega) ⟨bd, bd⟩) ?_
            refine VO.as ?_
            refine VO.as ?_
            refine VO.as ?_
            refine VO.kp [0] [(0, wm W)] ?_
            refine VO.k13 0 2 3 4 5 6 7 8 9 10 19 29 35 ?_
            refine VC.ret ?_
            refine outBR ?_
            refine outR ?_
            refine outR ?_
            refine outBR ?_
            refine outR ?_
            refine ⟨_, _, res_run (rs := [.tmp 2, .tmp 3, .tmp 4]) rfl (.tmp rfl (.tmp rfl (.tmp rfl .nil))), fun W_ hI => out_of (l := []) hI [] rfl rfl (mle_refl _) (fun hS_ => ?_)⟩
            dsimp only [packV]
            all_goals (first | rfl | (exact fin0_vRead_ok))
    · -- TF
      refine VO.gN ?_
      refine VO.gN ?_
      refine VO.y rfl (.pF rfl rfl) ?_
      refine VO.k9 0 2 5 6 7 8 9 10 19 ?_
      refine VC.condF rfl ?_
      refine VC.skip ?_
      refine outN ?_
      refine VC.rs ?_
      refine VO.mv ?_
      refine VO.mv ?_
      refine VO.y rfl (.bit (.inl rfl) rfl rfl (and127 _ (by omega))) ?_
      refine VO.y rfl (.cvI rfl ⟨_, Try.underlying5⟩ Try.underlying82 (IntWalk.u64_in _ bd)) ?_
      refine VO.mv ?_
      refine VO.y rfl (.mul (c := ((7 * k : Nat) : Int)) rfl rfl (by omega) ⟨bd, bd⟩) ?_
      refine VO.y rfl (.shf (.inl rfl) rfl rfl (shlU _ _ bd)) ?_
      refine VO.y rfl (.bit (.inr (.inl rfl)) rfl rfl (orU _ _ bd (by omega))) ?_
      refine VO.as ?_
      refine VO.kp [0] [(0, wm W)] ?_
      refine VO.k9 0 2 5 6 7 8 9 10 19 ?_
      refine VC.seq ?_
      refine VC.rs ?_
      refine VO.mv ?_
      refine VO.y rfl (.geq rfl rfl) ?_
      refine VO.k10 0 2 5 6 7 8 9 10 19 29 ?_
      refine VC.cond rfl (fun hc8 => ?_) (fun hc8 => ?_)
      · -- TFT
        refine VC.exit ?_
        refine outE ?_
        refine outBB ?_
        refine outN ?_
        refine VC.reg ?_
        refine VO.y rfl (.add (c := ((k + 1 : Nat) : Int)) rfl rfl (by omega) ⟨bd, bd⟩) ?_
        refine VO.mv ?_
        refine VO.k10 0 2 5 6 7 8 9 10 19 29 ?_
        exact outN ⟨⟨k + 1, x ||| ((x2.toNat % 128) * 2 ^ (7 * k) % 18446744073709551616)⟩, ⟨by omega, by have := (vgo_more hx h9 ‹d0[k]? = some _› (by omega) (by omega)).1; omega, by exact (vgo_more hx h9 ‹d0[k]? = some _› (by omega) (by omega)).2.2, by exact hv.trans (vgo_more hx h9 ‹d0[k]? = some _› (by omega) (by omega)).2.1⟩, bd, ⟨⟨rfl, rfl, rfl, rfl, rfl, trivial⟩, fun _ h => Inv.sub h [0]⟩⟩
      · -- TFF
        refine VC.skip ?_
        refine outN ?_
        refine VC.seq ?_
        refine VC.rs ?_
        refine VO.mv ?_
        refine VO.y rfl (.eql rfl rfl) ?_
        refine VO.mv ?_
        refine VO.dec (t := 32) rfl (fun hc9 => ?_) (fun hc9 => ?_)
        · -- TFFT
          refine VO.gy rfl ⟨_, rfl, rfl⟩ (.mv rfl) ?_
          refine VO.gy rfl ⟨_, rfl, rfl⟩ (.gtr rfl rfl) ?_
          refine VO.y rfl (.pT rfl rfl) ?_
          refine VO.k11 0 2 5 6 7 8 9 10 19 29 35 ?_
          refine VC.cond rfl (fun hc10 => ?_) (fun hc10 => ?_)
          · -- TFFTT
            refine VC.exit ?_
            refine outE ?_
            refine outBE rfl ?_
            refine outE ?_
            refine outE ?_
            refine outBB ?_
            refine outN ?_
            refine VC.rs ?_
            refine VO.as ?_
            refine VO.as ?_
            refine VO.as ?_
            refine VO.kp [0] [(0, wm W)] ?_
            refine VO.k13 0 2 3 4 5 6 7 8 9 10 19 29 35 ?_
            refine VC.ret ?_
            refine ⟨_, _, res_run (rs := [.tmp 2, .tmp 3, .tmp 4]) rfl (.tmp rfl (.tmp rfl (.tmp rfl .nil))), fun W_ hI => out_of (l := []) hI [] rfl rfl (mle_refl _) (fun hS_ => ?_)⟩
            dsimp only [packV]
            all_goals (first | rfl | (exact fin0_vRead_ok))
          · -- TFFTF
            refine VC.skip ?_
            refine outN ?_
            refine VC.rs ?_
            refine VO.mv ?_
            refine VO.mv ?_
            refine VO.y rfl (.add (c := ((k + 1 : Nat) : Int)) rfl rfl (by omega) ⟨bd, bd⟩) ?_
            refine VO.as ?_
            refine VO.as ?_
            refine VO.as ?_
            refine VO.kp [0] [(0, wm W)] ?_
            refine VO.k13 0 2 3 4 5 6 7 8 9 10 19 29 35 ?_
            refine VC.ret ?_
            refine outBR ?_
            refine outR ?_
            refine outR ?_
            refine outBR ?_
            refine outR ?_
            refine ⟨_, _, res_run (rs := [.tmp 2, .tmp 3, .tmp 4]) rfl (.tmp rfl (.tmp rfl (.tmp rfl .nil))), fun W_ hI => out_of (l := []) hI [] rfl rfl (mle_refl _) (fun hS_ => ?_)⟩
            dsimp only [packV]
            all_goals (first | rfl | (exact fin0_vRead_ok))
        · -- TFFF
          refine VO.gN ?_
          refine VO.gN ?_
          refine VO.y rfl (.pF rfl rfl) ?_
          refine VO.k11 0 2 5 6 7 8 9 10 19 29 35 ?_
          refine VC.condF rfl ?_
          refine VC.skip ?_
          refine outN ?_
          refine VC.rs ?_
          refine VO.mv ?_
          refine VO.mv ?_
          refine VO.y rfl (.add (c := ((k + 1 : Nat) : Int)) rfl rfl (by omega) ⟨bd, bd⟩) ?_
          refine VO.as ?_
          refine VO.as ?_
          refine VO.as ?_
          refine VO.kp [0] [(0, wm W)] ?_
          refine VO.k13 0 2 3 4 5 6 7 8 9 10 19 29 35 ?_
          refine VC.ret ?_
          refine outBR ?_
          refine outR ?_
          refine outR ?_
          refine outBR ?_
          refine outR ?_
          refine ⟨_, _, res_run (rs := [.tmp 2, .tmp 3, .tmp 4]) rfl (.tmp rfl (.tmp rfl (.tmp rfl .nil))), fun W_ hI => out_of (l := []) hI [] rfl rfl (mle_refl _) (fun hS_ => ?_)⟩
          dsimp only [packV]
          all_goals (first | rfl | (exact fin0_vRead_ok))
  · -- F
    refine VC.exit ?_
    refine outE ?_
    refine outE ?_
    refine outBB ?_
    refine outN ?_
    refine VC.rs ?_
    refine VO.as ?_
    refine VO.as ?_
    refine VO.as ?_
    refine VO.k8 0 2 3 4 7 8 9 10 ?_
    refine VC.ret ?_
    refine ⟨_, _, res_run (rs := [.tmp 2, .tmp 3, .tmp 4]) rfl (.tmp rfl (.tmp rfl (.tmp rfl .nil))), fun W_ hI => out_of (l := []) hI [] rfl rfl (mle_refl _) (fun hS_ => ?_)⟩
    dsimp only [packV]
    all_goals (first | rfl | (exact fin0_vRead_ok))
theorem fin0_refRead_ok {P : Prop} (h : P := by first | (have e := v_none (if h : k = 10 then hn h else (hv (by omega)).trans (vgo_end (by omega))); rw [e.1, e.2.1, e.2.2] <;> rfl) | (have e := v_none ((hv (by omega)).trans (own_bad (hx (by omega)) (by omega) ‹d0[k]? = some _› (by omega) (by first | exact .inl (by omega) | exact .inr ⟨_, ‹(venc _)[k]? = some _›, fun h => by subst h; omega⟩))); rw [e.1, e.2.1, e.2.2] <;> rfl) | (have e := v_some ((hv (by omega)).trans (own_good (hx (by omega)) (by omega) ‹d0[k]? = some _› (by omega) (by omega) (by rw [‹(venc _)[k]? = some _›]; congr 1; exact byte_eq (by omega)))); rw [e.1, e.2.1, e.2.2] <;> rfl)) : P := h
theorem fin1_refRead_ok {P : Prop} (h : P := by first | omega | (simp only [List.length_append, List.length_nil, List.length_cons, List.length_take, List.length_drop] at *; omega) | (have := or64 h64 _; omega) | exact or64 h64 _) : P := h
theorem refRead_ok (W : World) {v0 : Value} {d0 : List UInt8} (h0 : Rd (.sl .byte) (wm W) [v0] d0) : CallR Try.prog 122 [v0] W (mnil) (fun v m' => v = .tuple #[.int .u64 ((vX d0 : Nat) : Int), .int .i64 ((vN d0 : Nat) : Int), .int .i64 (vE d0)]) := by
  obtain ⟨A0, c0, rfl, l0, k0⟩ := h0.slice
  simp only [maxLen] at k0
  refine CallR.ofA (n := 51) Try.func122 rfl rfl rfl ?_
  refine VC.rs ?_
  refine VO.as ?_
  refine VO.as ?_
  refine VO.as ?_
  refine VO.k4 0 2 3 4 ?_
  refine VC.rs ?_
  refine VO.as ?_
  refine VO.as ?_
  refine VO.k6 0 2 3 4 5 6 ?_
  refine VC.seq ?_
  refine VC.block ?_
  refine VC.loop (G := Nat × Nat) (fun g => [(5, Value.int .u64 ((((g.2) : Nat) : Int))), (6, Value.int .i64 ((((g.1) : Nat) : Int))), (0, Value.slice A0 (d0.length) (c0))]) (fun g => [(0, wm W)]) (fun g => ((g.1) ≤ d0.length) ∧ ((g.1) ≤ 10) ∧ ((g.1) ≤ 9 → (g.2) < 2 ^ (7 * (g.1))) ∧ ((g.2) < 18446744073709551616) ∧ ((g.1) ≤ 9 → vread d0 = vgo (g.1) (g.2) (d0.drop (g.1))) ∧ ((g.1) = 10 → vread d0 = none)) (fun g => d0.length - (g.1)) (0, 0) (⟨by omega, by omega, by decide, by decide, by (intro _; rfl), by omega⟩) ⟨⟨rfl, rfl, rfl, trivial⟩, fun _ h => h.sub [0]⟩ ?_
  rintro ⟨k, x⟩ ⟨hk, h10, hx, h64, hv, hn⟩
  replace hk : k ≤ d0.length := hk
  replace h10 : k ≤ 10 := h10
  replace hx : k ≤ 9 → x < 2 ^ (7 * k) := hx
  replace h64 : x < 18446744073709551616 := h64
  replace hv : k ≤ 9 → vread d0 = vgo k x (d0.drop k) := hv
  replace hn : k = 10 → vread d0 = none := hn
  show VC _ _ _ _ _ [(5, Value.int .u64 (((x : Nat) : Int))), (6, Value.int .i64 (((k : Nat) : Int))), (0, Value.slice A0 (d0.length) (c0))] [(0, wm W)]
  refine VC.seq ?_
  refine VC.rs ?_
  refine VO.mv ?_
  refine VO.mv ?_
  refine VO.y rfl (.lenS rfl tsl25) ?_
  refine VO.y rfl (.lss rfl rfl) ?_
  refine VO.mv ?_
  refine VO.dec (t := 13) rfl (fun hc1 => ?_) (fun hc1 => ?_)
  · -- T
    refine VO.gy rfl ⟨_, rfl, rfl⟩ (.mv rfl) ?_
    refine VO.gy rfl ⟨_, rfl, rfl⟩ (.lss rfl rfl) ?_
    refine VO.y rfl (.pT rfl rfl) ?_
    refine VO.kp [0] [(0, wm W)] ?_
    refine VO.k4 0 5 6 16 ?_
    refine VC.cond rfl (fun hc2 => ?_) (fun hc2 => ?_)
    · -- TT
      refine VC.skip ?_
      refine outN ?_
      refine VC.block ?_
      refine VC.rs ?_
      refine VO.mv ?_
      refine VO.mv ?_
      obtain ⟨x3, hx3⟩ : ∃ z_, (d0)[k]? = some z_ := ⟨_, List.getElem?_eq_getElem (by exact fin1_refRead_ok)⟩
      obtain ⟨gg3, oo3, ec3, ea3, hce3, hre3⟩ := h0.elem hx3
      cases ea3
      obtain rfl := (show _ = _ from hre3)
      have xb3 := x3.toNat_lt
      refine VO.y rfl (.ixI k rfl rfl tsl25 rfl (by exact fin1_refRead_ok)) ?_
      refine VO.y rfl (.ld1 0 rfl tk5 rfl hce3) ?_
      refine VO.as ?_
      refine VO.k5 0 5 6 7 16 ?_
      refine VC.rs ?_
      refine VO.mv ?_
      refine VO.mv ?_
      refine VO.y rfl (.quo (.inr rfl) rfl rfl (rem_nat _ _ _ (by decide))) ?_
      refine VO.y rfl (.cvI rfl ⟨_, Try.underlying5⟩ Try.underlying82 (IntWalk.u64_in _ (by exact fin1_refRead_ok))) ?_
      refine VO.mv ?_
      refine VO.y rfl (.cvI rfl ⟨_, Try.underlying3⟩ Try.underlying109 (IntWalk.u64_in _ (by exact fin1_refRead_ok))) ?_
      refine VO.y rfl (.mulN (c := 7 * k) rfl rfl rfl (by exact fin1_refRead_ok)) ?_
      refine VO.y rfl (.shf (.inl rfl) rfl rfl (shlU _ _ (by exact fin1_refRead_ok))) ?_
      refine VO.y rfl (.bit (.inr (.inl rfl)) rfl rfl (orU _ _ (by exact fin1_refRead_ok) (by omega))) ?_
      refine VO.as ?_
      refine VO.k5 0 5 6 7 16 ?_
      refine VC.rs ?_
      refine VO.mv ?_
      refine VO.y rfl (.add (c := ((k + 1 : Nat) : Int)) rfl rfl (by omega) ⟨by exact fin1_refRead_ok, by exact fin1_refRead_ok⟩) ?_
      refine VO.as ?_
      refine VO.kp [0] [(0, wm W)] ?_
      refine VO.k5 0 5 6 7 16 ?_
      refine VC.rs ?_
      refine VO.mv ?_
      refine VO.y rfl (.lss rfl rfl) ?_
      refine VO.k6 0 5 6 7 16 33 ?_
      refine VC.cond rfl (fun hc4 => ?_) (fun hc4 => ?_)
      · -- TTT
        refine VC.rs ?_
        refine VO.mv ?_
        refine VO.callN 105 rfl fnOk89 rfl (fun W hW => rAppend_ok W (Rd.nil _ _ none 0 (Nat.zero_le _)) (x ||| ((x3.toNat % 128) * 2 ^ (7 * k) % 18446744073709551616)) (by exact fin1_refRead_ok) (by exact fin1_refRead_ok)) (fun v5 m5 hv5 => ?_)
        obtain ⟨s5_0, rfl, f5_0⟩ := hv5
        have hfa6 := venc_len (x := (x ||| ((x3.toNat % 128) * 2 ^ (7 * k) % 18446744073709551616))) (by first | omega | exact or64 (by assumption) _)
        simp only [List.nil_append] at f5_0
        obtain ⟨A5_0, c5_0, eq5_0, l5_0, k5_0⟩ := f5_0.slice
        subst eq5_0
        simp only [maxLen] at k5_0
        refine VO.as ?_
        refine VO.k7 0 5 6 7 8 16 33 ?_
        refine VC.seq ?_
        refine VC.rs ?_
        refine VO.mv ?_
        refine VO.y rfl (.lenS rfl tsl25) ?_
        refine VO.mv ?_
        refine VO.y rfl (.neq rfl rfl) ?_
        refine VO.mv ?_
        refine VO.dec (t := 40) rfl (fun hc7 => ?_) (fun hc7 => ?_)
        · -- TTTT
          refine VO.gN ?_
          refine VO.gN ?_
          refine VO.gN ?_
          refine VO.gN ?_
          refine VO.gN ?_
          refine VO.gN ?_
          refine VO.gN ?_
          refine VO.y rfl (.pT rfl rfl) ?_
          refine VO.kp [105, 0] [(105, m5), (0, wm W)] ?_
          refine VO.k8 0 5 6 7 8 16 33 48 ?_
          refine VC.condT rfl ?_
          refine VC.rs ?_
          refine VO.as ?_
          refine VO.as ?_
          refine VO.as ?_
          refine VO.k11 0 2 3 4 5 6 7 8 16 33 48 ?_
          refine VC.ret ?_
          refine outR ?_
          refine outBR ?_
          refine outR ?_
          refine outBR ?_
          refine outR ?_
          refine ⟨_, _, res_run (rs := [.tmp 2, .tmp 3, .tmp 4]) rfl (.tmp rfl (.tmp rfl (.tmp rfl .nil))), fun W_ hI => out_of (l := []) hI [] rfl rfl (mle_refl _) (fun hS_ => ?_)⟩
          dsimp only [packV]
          all_goals (first | rfl | (exact fin0_refRead_ok))
        · -- TTTF
          refine VO.gy rfl ⟨_, rfl, rfl⟩ (.mv rfl) ?_
          refine VO.gy rfl ⟨_, rfl, rfl⟩ (.mv rfl) ?_
          refine VO.gy rfl ⟨_, rfl, rfl⟩ (.sub (c := ((k : Nat) : Int)) rfl rfl (by omega) ⟨by exact fin1_refRead_ok, by exact fin1_refRead_ok⟩) ?_
          obtain ⟨x8, hx8⟩ : ∃ z_, (venc (x ||| ((x3.toNat % 128) * 2 ^ (7 * k) % 18446744073709551616)))[k]? = some z_ := ⟨_, List.getElem?_eq_getElem (by exact fin1_refRead_ok)⟩
          obtain ⟨gg8, oo8, ec8, ea8, hce8, hre8⟩ := (Ow.ownl f5_0 rfl mnil).elem hx8
          cases ea8
          obtain rfl := (show _ = _ from hre8)
          have xb8 := x8.toNat_lt
          refine VO.gy rfl ⟨_, rfl, rfl⟩ (.ixI k rfl rfl tsl25 rfl (by exact fin1_refRead_ok)) ?_
          refine VO.gy rfl ⟨_, rfl, rfl⟩ (.ld1 105 rfl tk5 rfl hce8) ?_
          refine VO.gy rfl ⟨_, rfl, rfl⟩ (.mv rfl) ?_
          refine VO.gy rfl ⟨_, rfl, rfl⟩ (.neq rfl rfl) ?_
          refine VO.y rfl (.pF rfl rfl) ?_
          refine VO.kp [105, 0] [(105, m5), (0, wm W)] ?_
          refine VO.k8 0 5 6 7 8 16 33 48 ?_
          refine VC.cond rfl (fun hc9 => ?_) (fun hc9 => ?_)
          · -- TTTFT
            refine VC.rs ?_
            refine VO.as ?_
            refine VO.as ?_
            refine VO.as ?_
            refine VO.k11 0 2 3 4 5 6 7 8 16 33 48 ?_
            refine VC.ret ?_
            refine outR ?_
            refine outBR ?_
            refine outR ?_
            refine outBR ?_
            refine outR ?_
            refine ⟨_, _, res_run (rs := [.tmp 2, .tmp 3, .tmp 4]) rfl (.tmp rfl (.tmp rfl (.tmp rfl .nil))), fun W_ hI => out_of (l := []) hI [] rfl rfl (mle_refl _) (fun hS_ => ?_)⟩
            dsimp only [packV]
            all_goals (first | rfl | (exact fin0_refRead_ok))
          · -- TTTFF
            refine VC.skip ?_
            refine outN ?_
            refine VC.rs ?_
            refine VO.mv ?_
            refine VO.mv ?_
            refine VO.as ?_
            refine VO.as ?_
            refine VO.as ?_
            refine VO.k11 0 2 3 4 5 6 7 8 16 33 48 ?_
            refine VC.ret ?_
            refine outBR ?_
            refine outR ?_
            refine outBR ?_
            refine outR ?_
            refine ⟨_, _, res_run (rs := [.tmp 2, .tmp 3, .tmp 4]) rfl (.tmp rfl (.tmp rfl (.tmp rfl .nil))), fun W_ hI => out_of (l := []) hI [] rfl rfl (mle_refl _) (fun hS_ => ?_)⟩
            dsimp only [packV]
            all_goals (first | rfl | (exact fin0_refRead_ok))
      · -- TTF
        refine VC.skip ?_
        refine outBN ?_
        exact outN ⟨⟨k + 1, x ||| ((x3.toNat % 128) * 2 ^ (7 * k) % 18446744073709551616)⟩, ⟨by omega, by omega, by intro h; exact (vgo_more (hx (by omega)) (by omega) ‹d0[k]? = some _› (by omega) (by omega)).2.2, by exact or64 h64 _, by intro h; exact (hv (by omega)).trans (vgo_more (hx (by omega)) (by omega) ‹d0[k]? = some _› (by omega) (by omega)).2.1, by intro h; exact (hv (by omega)).trans (vgo_big ‹d0[k]? = some _› ⟨by omega, by omega⟩)⟩, by exact fin1_refRead_ok, ⟨⟨rfl, rfl, rfl, trivial⟩, fun _ h => Inv.sub h [0]⟩⟩
    · -- TF
      refine VC.exit ?_
      refine outE ?_
      refine outE ?_
      refine outBB ?_
      refine outN ?_
      refine VC.rs ?_
      refine VO.as ?_
      refine VO.as ?_
      refine VO.as ?_
      refine VO.k7 0 2 3 4 5 6 16 ?_
      refine VC.ret ?_
      refine ⟨_, _, res_run (rs := [.tmp 2, .tmp 3, .tmp 4]) rfl (.tmp rfl (.tmp rfl (.tmp rfl .nil))), fun W_ hI => out_of (l := []) hI [] rfl rfl (mle_refl _) (fun hS_ => ?_)⟩
      dsimp only [packV]
      all_goals (first | rfl | (exact fin0_refRead_ok))
  · -- F
    refine VO.gN ?_
    refine VO.gN ?_
    refine VO.y rfl (.pF rfl rfl) ?_
    refine VO.kp [0] [(0, wm W)] ?_
    refine VO.k4 0 5 6 16 ?_
    refine VC.condF rfl ?_
    refine VC.exit ?_
    refine outE ?_
    refine outE ?_
    refine outBB ?_
    refine outN ?_
    refine VC.rs ?_
    refine VO.as ?_
    refine VO.as ?_
    refine VO.as ?_
    refine VO.k7 0 2 3 4 5 6 16 ?_
    refine VC.ret ?_
    refine ⟨_, _, res_run (rs := [.tmp 2, .tmp 3, .tmp 4]) rfl (.tmp rfl (.tmp rfl (.tmp rfl .nil))), fun W_ hI => out_of (l := []) hI [] rfl rfl (mle_refl _) (fun hS_ => ?_)⟩
    dsimp only [packV]
    all_goals (first | rfl | (exact fin0_refRead_ok))
theorem vSmall_ok (W : World) {v0 : Value} {d0 : List UInt8} (h0 : Rd (.sl .byte) (wm W) [v0] d0) (d1 : Int) (h1 : inK .i64 d1) : CallR Try.prog 111 [v0, .int .i64 d1] W (mnil) (fun v m' => v = .tuple #[.int .i64 ((sX d0 d1 : Nat) : Int), .int .i64 ((sN d0 d1 : Nat) : Int), .int .i64 (sE d0 d1)]) := by
  obtain ⟨A0, c0, rfl, l0, k0⟩ := h0.slice
  simp only [maxLen] at k0
  have h1' := h1; simp only [inK] at h1'
  refine CallR.ofA (n := 29) Try.func111 rfl rfl rfl ?_
  refine VC.rs ?_
  refine VO.as ?_
  refine VO.as ?_
  refine VO.as ?_
  refine VO.k5 0 1 4 5 6 ?_
  refine VC.rs ?_
  refine VO.mv ?_
  refine VO.callN 101 rfl fnOk119 rfl (fun W hW => vRead_ok W (Rd.mono h0 (hW.at (i := 0) rfl))) (fun v1 m1 hv1 => ?_)
  subst hv1
  have hfa2 := vX_bounds d0
  refine VO.mv ?_
  refine VO.y rfl (.ext rfl rfl) ?_
  refine VO.y rfl (.ext rfl rfl) ?_
  refine VO.y rfl (.ext rfl rfl) ?_
  refine VO.as ?_
  refine VO.as ?_
  refine VO.as ?_
  refine VO.k6 0 1 4 5 6 7 ?_
  refine VC.seq ?_
  refine VC.rs ?_
  refine VO.mv ?_
  refine VO.y rfl (.neq rfl rfl) ?_
  refine VO.mv ?_
  refine VO.dec (t := 16) rfl (fun hc3 => ?_) (fun hc3 => ?_)
  · -- T
    refine VO.gN ?_
    refine VO.gN ?_
    refine VO.y rfl (.pT rfl rfl) ?_
    refine VO.mv ?_
    refine VO.gN ?_
    refine VO.gN ?_
    refine VO.gN ?_
    refine VO.gN ?_
    refine VO.y rfl (.pT rfl rfl) ?_
    refine VO.kp [0] [(0, wm W)] ?_
    refine VO.k7 0 1 4 5 6 7 25 ?_
    refine VC.condT rfl ?_
    refine VC.rs ?_
    refine VO.as ?_
    refine VO.as ?_
    refine VO.as ?_
    refine VO.k7 0 1 4 5 6 7 25 ?_
    refine VC.ret ?_
    refine outR ?_
    refine ⟨_, _, res_run (rs := [.tmp 4, .tmp 5, .tmp 6]) rfl (.tmp rfl (.tmp rfl (.tmp rfl .nil))), fun W_ hI => out_of (l := []) hI [] rfl rfl (mle_refl _) (fun hS_ => ?_)⟩
    dsimp only [packV]
    all_goals (first | rfl | (first | (have e := s_bad (b := d0) (m := d1) (by omega); rw [e.1, e.2.1, e.2.2] <;> rfl) | (have e := s_good (b := d0) (m := d1) (by omega) (by omega); rw [e.1, e.2.1, e.2.2] <;> rfl)))
  · -- F
    refine VO.gy rfl ⟨_, rfl, rfl⟩ (.mv rfl) ?_
    refine VO.gy rfl ⟨_, rfl, rfl⟩ (.lss rfl rfl) ?_
    refine VO.y rfl (.pF rfl rfl) ?_
    refine VO.mv ?_
    refine VO.dec (t := 20) rfl (fun hc4 => ?_) (fun hc4 => ?_)
    · -- FT
      refine VO.gN ?_
      refine VO.gN ?_
      refine VO.gN ?_
      refine VO.gN ?_
      refine VO.y rfl (.pT rfl rfl) ?_
      refine VO.kp [0] [(0, wm W)] ?_
      refine VO.k7 0 1 4 5 6 7 25 ?_
      refine VC.condT rfl ?_
      refine VC.rs ?_
      refine VO.as ?_
      refine VO.as ?_
      refine VO.as ?_
      refine VO.k7 0 1 4 5 6 7 25 ?_
      refine VC.ret ?_
      refine outR ?_
      refine ⟨_, _, res_run (rs := [.tmp 4, .tmp 5, .tmp 6]) rfl (.tmp rfl (.tmp rfl (.tmp rfl .nil))), fun W_ hI => out_of (l := []) hI [] rfl rfl (mle_refl _) (fun hS_ => ?_)⟩
      dsimp only [packV]
      all_goals (first | rfl | (first | (have e := s_bad (b := d0) (m := d1) (by omega); rw [e.1, e.2.1, e.2.2] <;> rfl) | (have e := s_good (b := d0) (m := d1) (by omega) (by omega); rw [e.1, e.2.1, e.2.2] <;> rfl)))
    · -- FF
      refine VO.gy rfl ⟨_, rfl, rfl⟩ (.mv rfl) ?_
      refine VO.gy rfl ⟨_, rfl, rfl⟩ (.mv rfl) ?_
      refine VO.gy rfl ⟨_, rfl, rfl⟩ (.cvI (c := ((d1).toNat : Int)) rfl ⟨_, Try.underlying3⟩ Try.underlying82 (by rw [IntWalk.u64_in _ bd]; first | omega | (first | omega | (simp only [List.length_append, List.length_nil, List.length_cons, List.length_take, List.length_drop] at *; omega)))) ?_
      refine VO.gy rfl ⟨_, rfl, rfl⟩ (.gtr rfl rfl) ?_
      refine VO.y rfl (.pF rfl rfl) ?_
      refine VO.kp [0] [(0, wm W)] ?_
      refine VO.k7 0 1 4 5 6 7 25 ?_
      refine VC.cond rfl (fun hc5 => ?_) (fun hc5 => ?_)
      · -- FFT
        refine VC.rs ?_
        refine VO.as ?_
        refine VO.as ?_
        refine VO.as ?_
        refine VO.k7 0 1 4 5 6 7 25 ?_
        refine VC.ret ?_
        refine outR ?_
        refine ⟨_, _, res_run (rs := [.tmp 4, .tmp 5, .tmp 6]) rfl (.tmp rfl (.tmp rfl (.tmp rfl .nil))), fun W_ hI => out_of (l := []) hI [] rfl rfl (mle_refl _) (fun hS_ => ?_)⟩
        dsimp only [packV]
        all_goals (first | rfl | (first | (have e := s_bad (b := d0) (m := d1) (by omega); rw [e.1, e.2.1, e.2.2] <;> rfl) | (have e := s_good (b := d0) (m := d1) (by omega) (by omega); rw [e.1, e.2.1, e.2.2] <;> rfl)))
      · -- FFF
        refine VC.skip ?_
        refine outN ?_
        refine VC.rs ?_
        refine VO.mv ?_
        refine VO.y rfl (.cvI rfl ⟨_, Try.underlying82⟩ Try.underlying3 (IntWalk.i64_in _ bd)) ?_
        refine VO.mv ?_
        refine VO.as ?_
        refine VO.as ?_
        refine VO.as ?_
        refine VO.k7 0 1 4 5 6 7 25 ?_
        refine VC.ret ?_
        refine ⟨_, _, res_run (rs := [.tmp 4, .tmp 5, .tmp 6]) rfl (.tmp rfl (.tmp rfl (.tmp rfl .nil))), fun W_ hI => out_of (l := []) hI [] rfl rfl (mle_refl _) (fun hS_ => ?_)⟩
        dsimp only [packV]
        all_goals (first | rfl | (first | (have e := s_bad (b := d0) (m := d1) (by omega); rw [e.1, e.2.1, e.2.2] <;> rfl) | (have e := s_good (b := d0) (m := d1) (by omega) (by omega); rw [e.1, e.2.1, e.2.2] <;> rfl)))
theorem refSmall_ok (W : World) {v0 : Value} {d0 : List UInt8} (h0 : Rd (.sl .byte) (wm W) [v0] d0) (d1 : Int) (h1 : inK .i64 d1) : CallR Try.prog 114 [v0, .int .i64 d1] W (mnil) (fun v m' => v = .tuple #[.int .i64 ((sX d0 d1 : Nat) : Int), .int .i64 ((sN d0 d1 : Nat) : Int), .int .i64 (sE d0 d1)]) := by
  obtain ⟨A0, c0, rfl, l0, k0⟩ := h0.slice
  simp only [maxLen] at k0
  have h1' := h1; simp only [inK] at h1'
  refine CallR.ofA (n := 31) Try.func114 rfl rfl rfl ?_
  refine VC.rs ?_
  refine VO.as ?_
  refine VO.as ?_
  refine VO.as ?_
  refine VO.k5 0 1 4 5 6 ?_
  refine VC.rs ?_
  refine VO.mv ?_
  refine VO.callN 101 rfl fnOk122 rfl (fun W hW => refRead_ok W (Rd.mono h0 (hW.at (i := 0) rfl))) (fun v1 m1 hv1 => ?_)
  subst hv1
  have hfa2 := vX_bounds d0
  refine VO.mv ?_
  refine VO.y rfl (.ext rfl rfl) ?_
  refine VO.y rfl (.ext rfl rfl) ?_
  refine VO.y rfl (.ext rfl rfl) ?_
  refine VO.as ?_
  refine VO.as ?_
  refine VO.as ?_
  refine VO.k8 0 1 4 5 6 7 8 9 ?_
  refine VC.seq ?_
  refine VC.rs ?_
  refine VO.mv ?_
  refine VO.y rfl (.neq rfl rfl) ?_
  refine VO.mv ?_
  refine VO.dec (t := 18) rfl (fun hc3 => ?_) (fun hc3 => ?_)
  · -- T
    refine VO.gN ?_
    refine VO.gN ?_
    refine VO.y rfl (.pT rfl rfl) ?_
    refine VO.mv ?_
    refine VO.gN ?_
    refine VO.gN ?_
    refine VO.gN ?_
    refine VO.gN ?_
    refine VO.y rfl (.pT rfl rfl) ?_
    refine VO.kp [0] [(0, wm W)] ?_
    refine VO.k9 0 1 4 5 6 7 8 9 27 ?_
    refine VC.condT rfl ?_
    refine VC.rs ?_
    refine VO.as ?_
    refine VO.as ?_
    refine VO.as ?_
    refine VO.k9 0 1 4 5 6 7 8 9 27 ?_
    refine VC.ret ?_
    refine outR ?_
    refine ⟨_, _, res_run (rs := [.tmp 4, .tmp 5, .tmp 6]) rfl (.tmp rfl (.tmp rfl (.tmp rfl .nil))), fun W_ hI => out_of (l := []) hI [] rfl rfl (mle_refl _) (fun hS_ => ?_)⟩
    dsimp only [packV]
    all_goals (first | rfl | (first | (have e := s_bad (b := d0) (m := d1) (by omega); rw [e.1, e.2.1, e.2.2] <;> rfl) | (have e := s_good (b := d0) (m := d1) (by omega) (by omega); rw [e.1, e.2.1, e.2.2] <;> rfl)))
  · -- F
    refine VO.gy rfl ⟨_, rfl, rfl⟩ (.mv rfl) ?_
    refine VO.gy rfl ⟨_, rfl, rfl⟩ (.lss rfl rfl) ?_
    refine VO.y rfl (.pF rfl rfl) ?_
    refine VO.mv ?_
    refine VO.dec (t := 22) rfl (fun hc4 => ?_) (fun hc4 => ?_)
    · -- FT
      refine VO.gN ?_
      refine VO.gN ?_
      refine VO.gN ?_
      refine VO.gN ?_
      refine VO.y rfl (.pT rfl rfl) ?_
      refine VO.kp [0] [(0, wm W)] ?_
      refine VO.k9 0 1 4 5 6 7 8 9 27 ?_
      refine VC.condT rfl ?_
      refine VC.rs ?_
      refine VO.as ?_
      refine VO.as ?_
      refine VO.as ?_
      refine VO.k9 0 1 4 5 6 7 8 9 27 ?_
      refine VC.ret ?_
      refine outR ?_
      refine ⟨_, _, res_run (rs := [.tmp 4, .tmp 5, .tmp 6]) rfl (.tmp rfl (.tmp rfl (.tmp rfl .nil))), fun W_ hI => out_of (l := []) hI [] rfl rfl (mle_refl _) (fun hS_ => ?_)⟩
      dsimp only [packV]
      all_goals (first | rfl | (first | (have e := s_bad (b := d0) (m := d1) (by omega); rw [e.1, e.2.1, e.2.2] <;> rfl) | (have e := s_good (b := d0) (m := d1) (by omega) (by omega); rw [e.1, e.2.1, e.2.2] <;> rfl)))
    · -- FF
      refine VO.gy rfl ⟨_, rfl, rfl⟩ (.mv rfl) ?_
      refine VO.gy rfl ⟨_, rfl, rfl⟩ (.mv rfl) ?_
      refine VO.gy rfl ⟨_, rfl, rfl⟩ (.cvI (c := ((d1).toNat : Int)) rfl ⟨_, Try.underlying3⟩ Try.underlying82 (by rw [IntWalk.u64_in _ bd]; first | omega | (first | omega | (simp only [List.length_append, List.length_nil, List.length_cons, List.length_take, List.length_drop] at *; omega)))) ?_
      refine VO.gy rfl ⟨_, rfl, rfl⟩ (.gtr rfl rfl) ?_
      refine VO.y rfl (.pF rfl rfl) ?_
      refine VO.kp [0] [(0, wm W)] ?_
      refine VO.k9 0 1 4 5 6 7 8 9 27 ?_
      refine VC.cond rfl (fun hc5 => ?_) (fun hc5 => ?_)
      · -- FFT
        refine VC.rs ?_
        refine VO.as ?_
        refine VO.as ?_
        refine VO.as ?_
        refine VO.k9 0 1 4 5 6 7 8 9 27 ?_
        refine VC.ret ?_
        refine outR ?_
        refine ⟨_, _, res_run (rs := [.tmp 4, .tmp 5, .tmp 6]) rfl (.tmp rfl (.tmp rfl (.tmp rfl .nil))), fun W_ hI => out_of (l := []) hI [] rfl rfl (mle_refl _) (fun hS_ => ?_)⟩
        dsimp only [packV]
        all_goals (first | rfl | (first | (have e := s_bad (b := d0) (m := d1) (by omega); rw [e.1, e.2.1, e.2.2] <;> rfl) | (have e := s_good (b := d0) (m := d1) (by omega) (by omega); rw [e.1, e.2.1, e.2.2] <;> rfl)))
      · -- FFF
        refine VC.skip ?_
        refine outN ?_
        refine VC.rs ?_
        refine VO.mv ?_
        refine VO.y rfl (.cvI rfl ⟨_, Try.underlying82⟩ Try.underlying3 (IntWalk.i64_in _ bd)) ?_
        refine VO.mv ?_
        refine VO.as ?_
        refine VO.as ?_
        refine VO.as ?_
        refine VO.k9 0 1 4 5 6 7 8 9 27 ?_
        refine VC.ret ?_
        refine ⟨_, _, res_run (rs := [.tmp 4, .tmp 5, .tmp 6]) rfl (.tmp rfl (.tmp rfl (.tmp rfl .nil))), fun W_ hI => out_of (l := []) hI [] rfl rfl (mle_refl _) (fun hS_ => ?_)⟩
        dsimp only [packV]
        all_goals (first | rfl | (first | (have e := s_bad (b := d0) (m := d1) (by omega); rw [e.1, e.2.1, e.2.2] <;> rfl) | (have e := s_good (b := d0) (m := d1) (by omega) (by omega); rw [e.1, e.2.1, e.2.2] <;> rfl)))
end
section
set_option linter.unusedVariables false
theorem shared_drop : ∀ {a b : Bytes} {k : Nat}, a.take k = b.take k → k ≤ a.length → k ≤ b.length → shared a b = k + shared (a.drop k) (b.drop k)
  | _, _, 0, _, _, _ => by simp
  | x :: a, y :: b, k + 1, h, ha, hb => by
    simp only [List.take_succ_cons, List.cons.injEq] at h
    have := shared_drop (a := a) (b := b) (k := k) h.2 (by simpa using ha) (by simpa using hb)
    simp only [List.drop_succ_cons]
    show (if x = y then _ else _) = _
    rw [if_pos h.1, this]; omega
theorem shared_nil_left (b : Bytes) : shared [] b = 0 := by cases b <;> rfl
theorem shared_nil_right (a : Bytes) : shared a [] = 0 := by cases a <;> rfl
section
variable {a b : Bytes} {k : Nat} {x y : UInt8}
theorem shared_ne (h : a.take k = b.take k) (hx : a[k]? = some x) (hy : b[k]? = some y) (hn : ¬ (x.toNat : Int) = y.toNat) : shared a b = k := by
  have h1 := (List.getElem?_eq_some_iff.1 hx).1
  have h2 := (List.getElem?_eq_some_iff.1 hy).1
  rw [shared_drop h (by omega) (by omega), drop_cons hx, drop_cons hy]
  show k + (if x = y then _ else _) = _
  rw [if_neg (byte_ne hn)]; rfl
theorem shared_end (h : a.take k = b.take k) (ha : k ≤ a.length) (hb : k ≤ b.length) (he : a.length ≤ k ∨ b.length ≤ k) : shared a b = k := by
  rw [shared_drop h ha hb]
  rcases he with he | he
  · rw [List.drop_of_length_le he, shared_nil_left]; rfl
  · rw [List.drop_of_length_le he, shared_nil_right]; rfl
theorem shared_le : ∀ (a b : Bytes), shared a b ≤ a.length ∧ shared a b ≤ b.length
  | [], b => by rw [shared_nil_left]; simp
  | a, [] => by rw [shared_nil_right]; simp
  | x :: a, y :: b => by
    have := shared_le a b
    unfold shared
    split
    · simp only [List.length_cons]; omega
    · simp
end
def bAppend (b : Bytes) (l : List DOp) : Bytes × Int := if batchCheck l = 0 then (b ++ batchEnc l, 0) else ([], batchCheck l)
theorem bAppend_bad {b : Bytes} {l : List DOp} (h : ¬ batchCheck l = 0) : bAppend b l = ([], batchCheck l) := if_neg h
theorem bAppend_good {b : Bytes} {l : List DOp} (h : batchCheck l = 0) : bAppend b l = (b ++ batchEnc l, 0) := if_pos h
theorem batchCheck_mem {l : List DOp} (h : batchCheck l = 0) {o : DOp} (ho : o ∈ l) : opOk o := by
  unfold batchCheck at h
  split at h
  · cases h
  · split at h
    · cases h
    · split at h
      · rename_i h2; exact h2 o ho
      · cases h
theorem batch_len {l : List DOp} (h : batchCheck l = 0) : 1 ≤ l.length ∧ l.length ≤ 8 := by
  unfold batchCheck at h
  split at h
  · cases h
  · split at h
    · cases h
    · omega
theorem encOp_len {last : Bytes} {o : DOp} (h : opOk o) : (encOp last o).length ≤ 79 := by
  obtain ⟨h1, h2, h3, h4⟩ := h
  have v1 := venc_len (x := shared last o.2.1) (by have := (shared_le last o.2.1).2; omega)
  have v2 := venc_len (x := o.2.1.length - shared last o.2.1) (by omega)
  have v3 := venc_len (x := o.2.2.length) (by omega)
  unfold encOp
  split <;> simp only [List.length_cons, List.length_append, List.length_drop, List.length_nil] <;> omega
theorem enc_step2 {out out' all last : Bytes} {l : List DOp} {k : Nat} {o : DOp} (h : out ++ encOps last (l.drop k) = all) (ho : l[k]? = some o) (ha : out' = out ++ encOp last o) : out' ++ encOps o.2.1 (l.drop (k + 1)) = all := by
  rw [ha, ← h, drop_cons ho, List.append_assoc]; rfl
theorem enc_len2 {out out' last : Bytes} {l : List DOp} {k n : Nat} {o : DOp} (h : out.length ≤ n + 10 + 80 * k) (hc : batchCheck l = 0) (ho : l[k]? = some o) (ha : out' = out ++ encOp last o) : out'.length ≤ n + 10 + 80 * (k + 1) := by
  have := encOp_len (last := last) (batchCheck_mem hc (List.mem_of_getElem? ho))
  rw [ha, List.length_append]; omega
theorem enc_put {last : Bytes} {o : DOp} (h : o.1 = true) : encOp last o = 1 :: (venc (shared last o.2.1) ++ (venc (o.2.1.length - shared last o.2.1) ++ (o.2.1.drop (shared last o.2.1) ++ (venc o.2.2.length ++ o.2.2)))) := by unfold encOp; rw [if_pos h, if_pos h]
theorem enc_del {last : Bytes} {o : DOp} (h : o.1 = false) : encOp last o = 0 :: (venc (shared last o.2.1) ++ (venc (o.2.1.length - shared last o.2.1) ++ (o.2.1.drop (shared last o.2.1)))) := by
  unfold encOp; rw [if_neg (by rw [h]; simp), if_neg (by rw [h]; simp), List.append_nil]
section
variable {B last : Bytes} {s s0 : RS} {k : Int} {l L : List DOp} {e : RS}
theorem ops_step (h : (L, e) = (l ++ (pOps B k.toNat last s).1, (pOps B k.toNat last s).2)) (hk : 0 < k) (hs : s.2 = false) : (L, e) = ((l ++ [(rOp B last s).1]) ++ (pOps B (k - 1).toNat (rOp B last s).1.2.1 (rOp B last s).2).1, (pOps B (k - 1).toNat (rOp B last s).1.2.1 (rOp B last s).2).2) := by
  rw [h, pOps_step hk hs]; simp
theorem ops_end (h : (L, e) = (l ++ (pOps B k.toNat last s).1, (pOps B k.toNat last s).2)) (hk : k ≤ 0 ∨ s.2 = true) : L = l ∧ e = s := by
  rw [pOps_zero hk] at h; simpa using h
theorem ops2_step (h : (L, e) = (l ++ (pOps2 B k.toNat last s).1, (pOps2 B k.toNat last s).2)) (hk : 0 < k) (hs : s.2 = false) : (L, e) = ((l ++ [(rOp2 B last s).1]) ++ (pOps2 B (k - 1).toNat (rOp2 B last s).1.2.1 (rOp2 B last s).2).1, (pOps2 B (k - 1).toNat (rOp2 B last s).1.2.1 (rOp2 B last s).2).2) := by
  rw [h, pOps2_step hk hs]; simp
theorem ops2_end (h : (L, e) = (l ++ (pOps2 B k.toNat last s).1, (pOps2 B k.toNat last s).2)) (hk : k ≤ 0 ∨ s.2 = true) : L = l ∧ e = s := by
  rw [pOps2_zero hk] at h; simpa using h
end
theorem bRead_bad {B : Bytes} {l : List DOp} {e : RS} (h : (pOps B (rNum B 8 (0, false)).1.toNat [] (rNum B 8 (0, false)).2) = (l, e)) (hb : e.2 = true ∨ ¬ batchCheck l = 0) : bRead B = ([], 0, 5) := by
  unfold bRead; dsimp only; rw [h]; exact if_pos hb
theorem bRead_good {B : Bytes} {l : List DOp} {e : RS} (h : (pOps B (rNum B 8 (0, false)).1.toNat [] (rNum B 8 (0, false)).2) = (l, e)) (hb : e.2 = false) (hc : batchCheck l = 0) : bRead B = (l, e.1, 0) := by
  unfold bRead; dsimp only; rw [h]; exact if_neg (by rw [hb, hc]; simp)
theorem nextRef_bad {B : Bytes} {l : List DOp} {s e : RS} (h : (pOps2 B (rNum B 8 s).1.toNat [] (rNum B 8 s).2) = (l, e)) (hb : e.2 = true ∨ ¬ batchCheck l = 0) : nextRef B s = ([], (e.1, true)) := by
  unfold nextRef; dsimp only; rw [h]; exact if_pos hb
theorem nextRef_good {B : Bytes} {l : List DOp} {s e : RS} (h : (pOps2 B (rNum B 8 s).1.toNat [] (rNum B 8 s).2) = (l, e)) (hb : e.2 = false) (hc : batchCheck l = 0) : nextRef B s = (l, e) := by
  unfold nextRef; dsimp only; rw [h]; exact if_neg (by rw [hb, hc]; simp)
theorem rOp2_ok {B last : Bytes} {s : RS} (h : rOk B s) (hl : last.length ≤ 9223372036854775000) : rOk B (rOp2 B last s).2 ∧ (rOp2 B last s).1.2.1.length ≤ last.length + 16 ∧ (rOp2 B last s).1.2.2.length ≤ 32 := by
  have h1 := rNum_ok (m := 1) h (by omega)
  have h2 := rNum_ok (m := (last.length : Int)) h1.1 (by omega)
  have h3 := rText_ok (m := 16) h2.1 (by omega) (by omega)
  have h4 := rText_ok (m := 32) h3.1 (by omega) (by omega)
  have hk : (last.take (rNum B last.length (rNum B 1 s).2).1.toNat ++ (rText B 16 (rNum B last.length (rNum B 1 s).2).2).1).length ≤ last.length + 16 := by simp; omega
  unfold rOp2
  dsimp only
  refine ⟨?_, hk, ?_⟩
  · split <;> split <;> first | exact h4.1 | exact h3.1 | exact ⟨h4.1.1, h4.1.2⟩ | exact ⟨h3.1.1, h3.1.2⟩
  · split
    · have := h4.2; omega
    · simp
theorem pOps2_ok {B : Bytes} : ∀ (n : Nat) (last : Bytes) (s : RS), rOk B s → last.length + 16 * n ≤ 1000000 → rOk B (pOps2 B n last s).2 ∧ (pOps2 B n last s).1.length ≤ n
  | 0, _, _, h, _ => ⟨h, Nat.le_refl _⟩
  | n + 1, last, s, h, hl => by
    unfold pOps2
    split
    · exact ⟨h, Nat.zero_le _⟩
    · obtain ⟨a, b, c⟩ := rOp2_ok (last := last) h (by omega)
      obtain ⟨x, y⟩ := pOps2_ok n (rOp2 B last s).1.2.1 (rOp2 B last s).2 a (by omega)
      exact ⟨x, by simpa using y⟩
theorem nextRef_ok {B : Bytes} {s : RS} (h : rOk B s) : rOk B (nextRef B s).2 := by
  have h1 := rNum_ok (m := 8) h (by omega)
  have h2 := pOps2_ok (B := B) (rNum B 8 s).1.toNat [] (rNum B 8 s).2 h1.1 (by have := h1.2.2.2.1 (by omega); simp; omega)
  unfold nextRef
  dsimp only
  split
  · exact ⟨h2.1.1, h2.1.2⟩
  · exact h2.1
end
section
set_option linter.unusedVariables false
set_option linter.unusedSimpArgs false
set_option maxRecDepth 4000
theorem fnOk107 : fnOk Try.prog 107 = true := by kernel_rfl
theorem fnOk111 : fnOk Try.prog 111 = true := by kernel_rfl
theorem fnOk114 : fnOk Try.prog 114 = true := by kernel_rfl
theorem fnOk120 : fnOk Try.prog 120 = true := by kernel_rfl
theorem fnOk124 : fnOk Try.prog 124 = true := by kernel_rfl
theorem tk25 : tk Try.prog 25 = some none := by kernel_rfl
theorem tst117 : tst Try.prog 117 = some [(0, 1), (1, 1), (2, 1)] := by kernel_rfl
theorem tst135 : tst Try.prog 135 = some [(0, 1), (1, 1), (2, 1)] := by kernel_rfl
theorem bNum_ok (W : World) {g0 : Nat} {E0 : TypeId} {d0 : Dbatchreader} {b0_0 : Value} (hm : mle (mone g0 (.cells [(b0_0 : Value), .int .i64 d0.2.1, .bool d0.2.2].toArray E0 (0, 0))) (wm W)) (h0_0 : Rd (.sl .byte) (mout (wm W) (mone g0 (.cells [(b0_0 : Value), .int .i64 d0.2.1, .bool d0.2.2].toArray E0 (0, 0)))) [b0_0] d0.1) (h0_1 : inK .i64 d0.2.1) (d1 : Int) (h1 : inK .i64 d1) (e0 : rOk d0.1 d0.2) : CallR Try.prog 120 [.pointer (some ⟨g0, 0, none⟩), .int .i64 d1] W (mone g0 (.cells [(b0_0 : Value), .int .i64 d0.2.1, .bool d0.2.2].toArray E0 (0, 0))) (fun v m' => v = .int .i64 ((rNum d0.1 d1 d0.2).1) ∧ m' = mone g0 (.cells [(b0_0 : Value), .int .i64 ((rNum d0.1 d1 d0.2).2.1), .bool ((rNum d0.1 d1 d0.2).2.2)].toArray E0 (0, 0)) ∧ inK .i64 ((rNum d0.1 d1 d0.2).2.1)) := by
  have e0_ := e0; obtain ⟨e0a, e0b⟩ := e0_
  obtain ⟨A0_0, c0_0, rfl, l0_0, k0_0⟩ := h0_0.slice
  simp only [maxLen] at k0_0
  have h0_1' := h0_1; simp only [inK] at h0_1'
  have h1' := h1; simp only [inK] at h1'
  refine CallR.ofB (n := 41) hm Try.func120 rfl rfl rfl ?_
  refine VC.rs ?_
  refine VO.as ?_
  refine VO.k3 0 1 4 ?_
  refine VC.seq ?_
  refine VC.rs ?_
  refine VO.mv ?_
  refine VO.y rfl (.nilp rfl) ?_
  refine VO.y rfl (.fa rfl tst135 rfl) ?_
  refine VO.y rfl (.ld1 1 rfl tk4 rfl (cellsAt_one rfl rfl)) ?_
  refine VO.k4 0 1 4 11 ?_
  refine VC.condB rfl (fun hc1 => ?_) (fun hc1 => ?_)
  · -- T
    refine VC.rs ?_
    refine VO.as ?_
    refine VO.kp [0, 1] [(0, mout (wm W) (mone g0 (.cells [Value.slice A0_0 (d0.1.length) (c0_0), Value.int .i64 (d0.2.1), Value.bool d0.2.2].toArray E0 (0, 0)))), (1, mone g0 (.cells [Value.slice A0_0 (d0.1.length) (c0_0), Value.int .i64 (d0.2.1), Value.bool d0.2.2].toArray E0 (0, 0)))] ?_
    refine VO.k4 0 1 4 11 ?_
    refine VC.ret ?_
    refine outR ?_
    refine ⟨_, _, res_run (rs := [.tmp 4]) rfl (.tmp rfl .nil), fun W_ hI => out_of (l := [mone g0 (.cells [Value.slice A0_0 (d0.1.length) (c0_0), Value.int .i64 (d0.2.1), Value.bool d0.2.2].toArray E0 (0, 0))]) hI [1] rfl rfl (mle_refl _) (fun hS_ => ?_)⟩
    dsimp only [packV]
    have hm0_1 : ((rNum d0.1 d1 d0.2).2.1 : Int) = d0.2.1 := by first | rfl | (first | (rw [rNum_bad ‹_›] <;> rfl) | (rw [rNum_none ‹_› ‹_›] <;> rfl) | (rw [rNum_some ‹_› (Decidable.not_not.1 ‹¬ ¬ _›)] <;> first | rfl | (symm; assumption)))
    have hm0_2 : ((rNum d0.1 d1 d0.2).2.2 : Bool) = d0.2.2 := by first | rfl | (first | (rw [rNum_bad ‹_›] <;> rfl) | (rw [rNum_none ‹_› ‹_›] <;> rfl) | (rw [rNum_some ‹_› (Decidable.not_not.1 ‹¬ ¬ _›)] <;> first | rfl | (symm; assumption)))
    refine ⟨?_, ?_, ?_⟩
    rotate_left
    · rw [hm0_1, hm0_2, muns_one]
    · rw [hm0_1]; exact (show inK .i64 _ by simp only [inK]; (first | omega | (simp only [List.length_append, List.length_nil, List.length_cons, List.length_take, List.length_drop] at *; omega)))
    all_goals (first | rfl | (first | (rw [rNum_bad ‹_›] <;> rfl) | (rw [rNum_none ‹_› ‹_›] <;> rfl) | (rw [rNum_some ‹_› (Decidable.not_not.1 ‹¬ ¬ _›)] <;> rfl)))
  · -- F
    refine VC.skip ?_
    refine outN ?_
    refine VC.seq ?_
    refine VC.regD _ 17 [(0, true), (1, true), (2, true), (3, true), (4, true), (5, true), (6, true), (7, true), (8, true), (9, true), (10, false), (11, true), (12, true), (13, true), (14, true), (15, true), (16, true)] follows (by kernel_rfl) (fun _ h => h.sub [0, 1]) ?_
    refine VD.y rfl rfl (.inl rfl) (.mv rfl) ?_
    refine VD.y rfl rfl (.inl rfl) (.nilp rfl) ?_
    refine VD.y rfl rfl (.inl rfl) (.fa rfl tst135 rfl) ?_
    refine VD.y rfl rfl (.inl rfl) (.ld1 1 rfl tk25 rfl (cellsAt_one rfl rfl)) ?_
    refine VD.y rfl rfl (.inl rfl) (.mv rfl) ?_
    refine VD.y rfl rfl (.inl rfl) (.nilp rfl) ?_
    refine VD.y rfl rfl (.inl rfl) (.fa rfl tst135 rfl) ?_
    refine VD.y rfl rfl (.inl rfl) (.ld1 1 rfl tk3 rfl (cellsAt_one rfl rfl)) ?_
    obtain ⟨A2, hA2, hs2⟩ := h0_0.drop 1 ((d0.2.1).toNat) rfl bd
    refine VD.y rfl rfl (.inl rfl) (.slLI ((d0.2.1).toNat) A2 rfl rfl tsl25 bd hA2 bd) ?_
    refine VD.y rfl rfl (.inl rfl) (.mv rfl) ?_
    refine VD.callN 103 rfl rfl (.inl rfl) fnOk111 rfl (fun _ h => h.sub [0, 1]) (fun W hW => vSmall_ok W (Rd.mono hs2 (hW.at (i := 0) rfl)) d1 bdk) (fun v3 m3 hv3 => ?_)
    subst hv3
    have hfa4 := s_bounds (d0.1.drop ((d0.2.1).toNat)) d1 (by omega)
    refine VD.y rfl rfl (.inl rfl) (.mv rfl) ?_
    refine VD.y rfl rfl (.inl rfl) (.ext rfl rfl) ?_
    refine VD.y rfl rfl (.inl rfl) (.ext rfl rfl) ?_
    refine VD.y rfl rfl (.inl rfl) (.ext rfl rfl) ?_
    refine VD.y rfl rfl (.inl rfl) (.as rfl) ?_
    refine VD.y rfl rfl (.inl rfl) (.as rfl) ?_
    refine VD.nil rfl ?_ rfl
    refine VO.as ?_
    refine VO.kp [0, 1] [(0, mout (wm W) (mone g0 (.cells [Value.slice A0_0 (d0.1.length) (c0_0), Value.int .i64 (d0.2.1), Value.bool d0.2.2].toArray E0 (0, 0)))), (1, mone g0 (.cells [Value.slice A0_0 (d0.1.length) (c0_0), Value.int .i64 (d0.2.1), Value.bool d0.2.2].toArray E0 (0, 0)))] ?_
    refine VO.k7 0 1 4 5 6 7 11 ?_
    refine outN ?_
    refine VC.seq ?_
    refine VC.rs ?_
    refine VO.mv ?_
    refine VO.y rfl (.neq rfl rfl) ?_
    refine VO.k8 0 1 4 5 6 7 11 28 ?_
    refine VC.cond rfl (fun hc5 => ?_) (fun hc5 => ?_)
    · -- FT
      refine VC.rs ?_
      refine VO.mv ?_
      refine VO.y rfl (.nilp rfl) ?_
      refine VO.y rfl (.fa rfl tst135 rfl) ?_
      refine VO.store (k := 1) (c' := [Value.slice A0_0 (d0.1.length) (c0_0), Value.int .i64 (d0.2.1), Value.bool true]) 1 rfl rfl (.inr ⟨tk4, rfl⟩) rfl rfl rfl rfl rfl ?_
      refine VO.k8 0 1 4 5 6 7 11 28 ?_
      refine VC.rs ?_
      refine VO.as ?_
      refine VO.kp [0, 1] [(0, mout (wm W) (mone g0 (.cells [Value.slice A0_0 (d0.1.length) (c0_0), Value.int .i64 (d0.2.1), Value.bool d0.2.2].toArray E0 (0, 0)))), (1, mone g0 (.cells [Value.slice A0_0 (d0.1.length) (c0_0), Value.int .i64 (d0.2.1), Value.bool true].toArray E0 (0, 0)))] ?_
      refine VO.k8 0 1 4 5 6 7 11 28 ?_
      refine VC.ret ?_
      refine outR ?_
      refine ⟨_, _, res_run (rs := [.tmp 4]) rfl (.tmp rfl .nil), fun W_ hI => out_of (l := [mone g0 (.cells [Value.slice A0_0 (d0.1.length) (c0_0), Value.int .i64 (d0.2.1), Value.bool true].toArray E0 (0, 0))]) hI [1] rfl rfl (mle_refl _) (fun hS_ => ?_)⟩
      dsimp only [packV]
      have hm0_1 : ((rNum d0.1 d1 d0.2).2.1 : Int) = d0.2.1 := by first | rfl | (first | (rw [rNum_bad ‹_›] <;> rfl) | (rw [rNum_none ‹_› ‹_›] <;> rfl) | (rw [rNum_some ‹_› (Decidable.not_not.1 ‹¬ ¬ _›)] <;> first | rfl | (symm; assumption)))
      have hm0_2 : ((rNum d0.1 d1 d0.2).2.2 : Bool) = true := by first | rfl | (first | (rw [rNum_bad ‹_›] <;> rfl) | (rw [rNum_none ‹_› ‹_›] <;> rfl) | (rw [rNum_some ‹_› (Decidable.not_not.1 ‹¬ ¬ _›)] <;> first | rfl | (symm; assumption)))
      refine ⟨?_, ?_, ?_⟩
      rotate_left
      · rw [hm0_1, hm0_2, muns_one]
      · rw [hm0_1]; exact (show inK .i64 _ by simp only [inK]; (first | omega | (simp only [List.length_append, List.length_nil, List.length_cons, List.length_take, List.length_drop] at *; omega)))
      all_goals (first | rfl | (first | (rw [rNum_bad ‹_›] <;> rfl) | (rw [rNum_none ‹_› ‹_›] <;> rfl) | (rw [rNum_some ‹_› (Decidable.not_not.1 ‹¬ ¬ _›)] <;> rfl)))
    · -- FF
      refine VC.skip ?_
      refine outN ?_
      refine VC.rs ?_
      refine VO.mv ?_
      refine VO.y rfl (.nilp rfl) ?_
      refine VO.y rfl (.fa rfl tst135 rfl) ?_
      refine VO.y rfl (.ld1 1 rfl tk3 rfl (cellsAt_one rfl rfl)) ?_
      refine VO.mv ?_
      refine VO.y rfl (.add rfl rfl rfl ⟨bd, bd⟩) ?_
      refine VO.y rfl (.nilp rfl) ?_
      refine VO.y rfl (.fa rfl tst135 rfl) ?_
      refine VO.store (k := 1) (c' := [Value.slice A0_0 (d0.1.length) (c0_0), Value.int .i64 (d0.2.1 + ((sN (d0.1.drop ((d0.2.1).toNat)) d1 : Nat) : Int)), Value.bool d0.2.2]) 1 rfl rfl (.inr ⟨tk3, rfl⟩) rfl rfl rfl rfl rfl ?_
      refine VO.k8 0 1 4 5 6 7 11 28 ?_
      refine VC.rs ?_
      refine VO.mv ?_
      refine VO.as ?_
      refine VO.kp [0, 1] [(0, mout (wm W) (mone g0 (.cells [Value.slice A0_0 (d0.1.length) (c0_0), Value.int .i64 (d0.2.1), Value.bool d0.2.2].toArray E0 (0, 0)))), (1, mone g0 (.cells [Value.slice A0_0 (d0.1.length) (c0_0), Value.int .i64 (d0.2.1 + ((sN (d0.1.drop ((d0.2.1).toNat)) d1 : Nat) : Int)), Value.bool d0.2.2].toArray E0 (0, 0)))] ?_
      refine VO.k8 0 1 4 5 6 7 11 28 ?_
      refine VC.ret ?_
      refine ⟨_, _, res_run (rs := [.tmp 4]) rfl (.tmp rfl .nil), fun W_ hI => out_of (l := [mone g0 (.cells [Value.slice A0_0 (d0.1.length) (c0_0), Value.int .i64 (d0.2.1 + ((sN (d0.1.drop ((d0.2.1).toNat)) d1 : Nat) : Int)), Value.bool d0.2.2].toArray E0 (0, 0))]) hI [1] rfl rfl (mle_refl _) (fun hS_ => ?_)⟩
      dsimp only [packV]
      have hm0_1 : ((rNum d0.1 d1 d0.2).2.1 : Int) = d0.2.1 + ((sN (d0.1.drop ((d0.2.1).toNat)) d1 : Nat) : Int) := by first | rfl | (first | (rw [rNum_bad ‹_›] <;> rfl) | (rw [rNum_none ‹_› ‹_›] <;> rfl) | (rw [rNum_some ‹_› (Decidable.not_not.1 ‹¬ ¬ _›)] <;> first | rfl | (symm; assumption)))
      have hm0_2 : ((rNum d0.1 d1 d0.2).2.2 : Bool) = d0.2.2 := by first | rfl | (first | (rw [rNum_bad ‹_›] <;> rfl) | (rw [rNum_none ‹_› ‹_›] <;> rfl) | (rw [rNum_some ‹_› (Decidable.not_not.1 ‹¬ ¬ _›)] <;> first | rfl | (symm; assumption)))
      refine ⟨?_, ?_, ?_⟩
      rotate_left
      · rw [hm0_1, hm0_2, muns_one]
      · rw [hm0_1]; exact (show inK .i64 _ by simp only [inK]; (first | omega | (simp only [List.length_append, List.length_nil, List.length_cons, List.length_take, List.length_drop] at *; omega)))
      all_goals (first | rfl | (first | (rw [rNum_bad ‹_›] <;> rfl) | (rw [rNum_none ‹_› ‹_›] <;> rfl) | (rw [rNum_some ‹_› (Decidable.not_not.1 ‹¬ ¬ _›)] <;> rfl)))
theorem rSmall_ok (W : World) {g0 : Nat} {E0 : TypeId} {d0 : Dref01Reader} {b0_0 : Value} (hm : mle (mone g0 (.cells [(b0_0 : Value), .int .i64 d0.2.1, .bool d0.2.2].toArray E0 (0, 0))) (wm W)) (h0_0 : Rd (.sl .byte) (mout (wm W) (mone g0 (.cells [(b0_0 : Value), .int .i64 d0.2.1, .bool d0.2.2].toArray E0 (0, 0)))) [b0_0] d0.1) (h0_1 : inK .i64 d0.2.1) (d1 : Int) (h1 : inK .i64 d1) (e0 : rOk d0.1 d0.2) : CallR Try.prog 95 [.pointer (some ⟨g0, 0, none⟩), .int .i64 d1] W (mone g0 (.cells [(b0_0 : Value), .int .i64 d0.2.1, .bool d0.2.2].toArray E0 (0, 0))) (fun v m' => v = .int .i64 ((rNum d0.1 d1 d0.2).1) ∧ m' = mone g0 (.cells [(b0_0 : Value), .int .i64 ((rNum d0.1 d1 d0.2).2.1), .bool ((rNum d0.1 d1 d0.2).2.2)].toArray E0 (0, 0)) ∧ inK .i64 ((rNum d0.1 d1 d0.2).2.1)) := by
  have e0_ := e0; obtain ⟨e0a, e0b⟩ := e0_
  obtain ⟨A0_0, c0_0, rfl, l0_0, k0_0⟩ := h0_0.slice
  simp only [maxLen] at k0_0
  have h0_1' := h0_1; simp only [inK] at h0_1'
  have h1' := h1; simp only [inK] at h1'
  refine CallR.ofB (n := 42) hm Try.func95 rfl rfl rfl ?_
  refine VC.rs ?_
  refine VO.as ?_
  refine VO.k3 0 1 4 ?_
  refine VC.seq ?_
  refine VC.rs ?_
  refine VO.mv ?_
  refine VO.y rfl (.nilp rfl) ?_
  refine VO.y rfl (.fa rfl tst117 rfl) ?_
  refine VO.y rfl (.ld1 1 rfl tk4 rfl (cellsAt_one rfl rfl)) ?_
  refine VO.k4 0 1 4 11 ?_
  refine VC.condB rfl (fun hc1 => ?_) (fun hc1 => ?_)
  · -- T
    refine VC.rs ?_
    refine VO.as ?_
    refine VO.kp [0, 1] [(0, mout (wm W) (mone g0 (.cells [Value.slice A0_0 (d0.1.length) (c0_0), Value.int .i64 (d0.2.1), Value.bool d0.2.2].toArray E0 (0, 0)))), (1, mone g0 (.cells [Value.slice A0_0 (d0.1.length) (c0_0), Value.int .i64 (d0.2.1), Value.bool d0.2.2].toArray E0 (0, 0)))] ?_
    refine VO.k4 0 1 4 11 ?_
    refine VC.ret ?_
    refine outR ?_
    refine ⟨_, _, res_run (rs := [.tmp 4]) rfl (.tmp rfl .nil), fun W_ hI => out_of (l := [mone g0 (.cells [Value.slice A0_0 (d0.1.length) (c0_0), Value.int .i64 (d0.2.1), Value.bool d0.2.2].toArray E0 (0, 0))]) hI [1] rfl rfl (mle_refl _) (fun hS_ => ?_)⟩
    dsimp only [packV]
    have hm0_1 : ((rNum d0.1 d1 d0.2).2.1 : Int) = d0.2.1 := by first | rfl | (first | (rw [rNum_bad ‹_›] <;> rfl) | (rw [rNum_none ‹_› ‹_›] <;> rfl) | (rw [rNum_some ‹_› (Decidable.not_not.1 ‹¬ ¬ _›)] <;> first | rfl | (symm; assumption)))
    have hm0_2 : ((rNum d0.1 d1 d0.2).2.2 : Bool) = d0.2.2 := by first | rfl | (first | (rw [rNum_bad ‹_›] <;> rfl) | (rw [rNum_none ‹_› ‹_›] <;> rfl) | (rw [rNum_some ‹_› (Decidable.not_not.1 ‹¬ ¬ _›)] <;> first | rfl | (symm; assumption)))
    refine ⟨?_, ?_, ?_⟩
    rotate_left
    · rw [hm0_1, hm0_2, muns_one]
    · rw [hm0_1]; exact (show inK .i64 _ by simp only [inK]; (first | omega | (simp only [List.length_append, List.length_nil, List.length_cons, List.length_take, List.length_drop] at *; omega)))
    all_goals (first | rfl | (first | (rw [rNum_bad ‹_›] <;> rfl) | (rw [rNum_none ‹_› ‹_›] <;> rfl) | (rw [rNum_some ‹_› (Decidable.not_not.1 ‹¬ ¬ _›)] <;> rfl)))
  · -- F
    refine VC.skip ?_
    refine outN ?_
    refine VC.seq ?_
    refine VC.regD _ 17 [(0, true), (1, true), (2, true), (3, true), (4, true), (5, true), (6, true), (7, true), (8, true), (9, true), (10, false), (11, true), (12, true), (13, true), (14, true), (15, true), (16, true)] follows (by kernel_rfl) (fun _ h => h.sub [0, 1]) ?_
    refine VD.y rfl rfl (.inl rfl) (.mv rfl) ?_
    refine VD.y rfl rfl (.inl rfl) (.nilp rfl) ?_
    refine VD.y rfl rfl (.inl rfl) (.fa rfl tst117 rfl) ?_
    refine VD.y rfl rfl (.inl rfl) (.ld1 1 rfl tk25 rfl (cellsAt_one rfl rfl)) ?_
    refine VD.y rfl rfl (.inl rfl) (.mv rfl) ?_
    refine VD.y rfl rfl (.inl rfl) (.nilp rfl) ?_
    refine VD.y rfl rfl (.inl rfl) (.fa rfl tst117 rfl) ?_
    refine VD.y rfl rfl (.inl rfl) (.ld1 1 rfl tk3 rfl (cellsAt_one rfl rfl)) ?_
    obtain ⟨A2, hA2, hs2⟩ := h0_0.drop 1 ((d0.2.1).toNat) rfl bd
    refine VD.y rfl rfl (.inl rfl) (.slLI ((d0.2.1).toNat) A2 rfl rfl tsl25 bd hA2 bd) ?_
    refine VD.y rfl rfl (.inl rfl) (.mv rfl) ?_
    refine VD.callN 103 rfl rfl (.inl rfl) fnOk114 rfl (fun _ h => h.sub [0, 1]) (fun W hW => refSmall_ok W (Rd.mono hs2 (hW.at (i := 0) rfl)) d1 bdk) (fun v3 m3 hv3 => ?_)
    subst hv3
    have hfa4 := s_bounds (d0.1.drop ((d0.2.1).toNat)) d1 (by omega)
    refine VD.y rfl rfl (.inl rfl) (.mv rfl) ?_
    refine VD.y rfl rfl (.inl rfl) (.ext rfl rfl) ?_
    refine VD.y rfl rfl (.inl rfl) (.ext rfl rfl) ?_
    refine VD.y rfl rfl (.inl rfl) (.ext rfl rfl) ?_
    refine VD.y rfl rfl (.inl rfl) (.as rfl) ?_
    refine VD.y rfl rfl (.inl rfl) (.as rfl) ?_
    refine VD.nil rfl ?_ rfl
    refine VO.as ?_
    refine VO.kp [0, 1] [(0, mout (wm W) (mone g0 (.cells [Value.slice A0_0 (d0.1.length) (c0_0), Value.int .i64 (d0.2.1), Value.bool d0.2.2].toArray E0 (0, 0)))), (1, mone g0 (.cells [Value.slice A0_0 (d0.1.length) (c0_0), Value.int .i64 (d0.2.1), Value.bool d0.2.2].toArray E0 (0, 0)))] ?_
    refine VO.k7 0 1 4 5 6 7 11 ?_
    refine outN ?_
    refine VC.seq ?_
    refine VC.rs ?_
    refine VO.mv ?_
    refine VO.y rfl (.neq rfl rfl) ?_
    refine VO.k8 0 1 4 5 6 7 11 28 ?_
    refine VC.cond rfl (fun hc5 => ?_) (fun hc5 => ?_)
    · -- FT
      refine VC.rs ?_
      refine VO.mv ?_
      refine VO.y rfl (.nilp rfl) ?_
      refine VO.y rfl (.fa rfl tst117 rfl) ?_
      refine VO.store (k := 1) (c' := [Value.slice A0_0 (d0.1.length) (c0_0), Value.int .i64 (d0.2.1), Value.bool true]) 1 rfl rfl (.inr ⟨tk4, rfl⟩) rfl rfl rfl rfl rfl ?_
      refine VO.k8 0 1 4 5 6 7 11 28 ?_
      refine VC.rs ?_
      refine VO.as ?_
      refine VO.kp [0, 1] [(0, mout (wm W) (mone g0 (.cells [Value.slice A0_0 (d0.1.length) (c0_0), Value.int .i64 (d0.2.1), Value.bool d0.2.2].toArray E0 (0, 0)))), (1, mone g0 (.cells [Value.slice A0_0 (d0.1.length) (c0_0), Value.int .i64 (d0.2.1), Value.bool true].toArray E0 (0, 0)))] ?_
      refine VO.k8 0 1 4 5 6 7 11 28 ?_
      refine VC.ret ?_
      refine outR ?_
      refine ⟨_, _, res_run (rs := [.tmp 4]) rfl (.tmp rfl .nil), fun W_ hI => out_of (l := [mone g0 (.cells [Value.slice A0_0 (d0.1.length) (c0_0), Value.int .i64 (d0.2.1), Value.bool true].toArray E0 (0, 0))]) hI [1] rfl rfl (mle_refl _) (fun hS_ => ?_)⟩
      dsimp only [packV]
      have hm0_1 : ((rNum d0.1 d1 d0.2).2.1 : Int) = d0.2.1 := by first | rfl | (first | (rw [rNum_bad ‹_›] <;> rfl) | (rw [rNum_none ‹_› ‹_›] <;> rfl) | (rw [rNum_some ‹_› (Decidable.not_not.1 ‹¬ ¬ _›)] <;> first | rfl | (symm; assumption)))
      have hm0_2 : ((rNum d0.1 d1 d0.2).2.2 : Bool) = true := by first | rfl | (first | (rw [rNum_bad ‹_›] <;> rfl) | (rw [rNum_none ‹_› ‹_›] <;> rfl) | (rw [rNum_some ‹_› (Decidable.not_not.1 ‹¬ ¬ _›)] <;> first | rfl | (symm; assumption)))
      refine ⟨?_, ?_, ?_⟩
      rotate_left
      · rw [hm0_1, hm0_2, muns_one]
      · rw [hm0_1]; exact (show inK .i64 _ by simp only [inK]; (first | omega | (simp only [List.length_append, List.length_nil, List.length_cons, List.length_take, List.length_drop] at *; omega)))
      all_goals (first | rfl | (first | (rw [rNum_bad ‹_›] <;> rfl) | (rw [rNum_none ‹_› ‹_›] <;> rfl) | (rw [rNum_some ‹_› (Decidable.not_not.1 ‹¬ ¬ _›)] <;> rfl)))
    · -- FF
      refine VC.skip ?_
      refine outN ?_
      refine VC.rs ?_
      refine VO.mv ?_
      refine VO.mv ?_
      refine VO.y rfl (.nilp rfl) ?_
      refine VO.y rfl (.fa rfl tst117 rfl) ?_
      refine VO.y rfl (.ld1 1 rfl tk3 rfl (cellsAt_one rfl rfl)) ?_
      refine VO.mv ?_
      refine VO.y rfl (.add rfl rfl rfl ⟨bd, bd⟩) ?_
      refine VO.y rfl (.nilp rfl) ?_
      refine VO.y rfl (.fa rfl tst117 rfl) ?_
      refine VO.store (k := 1) (c' := [Value.slice A0_0 (d0.1.length) (c0_0), Value.int .i64 (d0.2.1 + ((sN (d0.1.drop ((d0.2.1).toNat)) d1 : Nat) : Int)), Value.bool d0.2.2]) 1 rfl rfl (.inr ⟨tk3, rfl⟩) rfl rfl rfl rfl rfl ?_
      refine VO.k8 0 1 4 5 6 7 11 28 ?_
      refine VC.rs ?_
      refine VO.mv ?_
      refine VO.as ?_
      refine VO.kp [0, 1] [(0, mout (wm W) (mone g0 (.cells [Value.slice A0_0 (d0.1.length) (c0_0), Value.int .i64 (d0.2.1), Value.bool d0.2.2].toArray E0 (0, 0)))), (1, mone g0 (.cells [Value.slice A0_0 (d0.1.length) (c0_0), Value.int .i64 (d0.2.1 + ((sN (d0.1.drop ((d0.2.1).toNat)) d1 : Nat) : Int)), Value.bool d0.2.2].toArray E0 (0, 0)))] ?_
      refine VO.k8 0 1 4 5 6 7 11 28 ?_
      refine VC.ret ?_
      refine ⟨_, _, res_run (rs := [.tmp 4]) rfl (.tmp rfl .nil), fun W_ hI => out_of (l := [mone g0 (.cells [Value.slice A0_0 (d0.1.length) (c0_0), Value.int .i64 (d0.2.1 + ((sN (d0.1.drop ((d0.2.1).toNat)) d1 : Nat) : Int)), Value.bool d0.2.2].toArray E0 (0, 0))]) hI [1] rfl rfl (mle_refl _) (fun hS_ => ?_)⟩
      dsimp only [packV]
      have hm0_1 : ((rNum d0.1 d1 d0.2).2.1 : Int) = d0.2.1 + ((sN (d0.1.drop ((d0.2.1).toNat)) d1 : Nat) : Int) := by first | rfl | (first | (rw [rNum_bad ‹_›] <;> rfl) | (rw [rNum_none ‹_› ‹_›] <;> rfl) | (rw [rNum_some ‹_› (Decidable.not_not.1 ‹¬ ¬ _›)] <;> first | rfl | (symm; assumption)))
      have hm0_2 : ((rNum d0.1 d1 d0.2).2.2 : Bool) = d0.2.2 := by first | rfl | (first | (rw [rNum_bad ‹_›] <;> rfl) | (rw [rNum_none ‹_› ‹_›] <;> rfl) | (rw [rNum_some ‹_› (Decidable.not_not.1 ‹¬ ¬ _›)] <;> first | rfl | (symm; assumption)))
      refine ⟨?_, ?_, ?_⟩
      rotate_left
      · rw [hm0_1, hm0_2, muns_one]
      · rw [hm0_1]; exact (show inK .i64 _ by simp only [inK]; (first | omega | (simp only [List.length_append, List.length_nil, List.length_cons, List.length_take, List.length_drop] at *; omega)))
      all_goals (first | rfl | (first | (rw [rNum_bad ‹_›] <;> rfl) | (rw [rNum_none ‹_› ‹_›] <;> rfl) | (rw [rNum_some ‹_› (Decidable.not_not.1 ‹¬ ¬ _›)] <;> rfl)))
theorem shared_ok (W : World) (d0 : List UInt8) (h0 : d0.length ≤ maxLen) (d1 : List UInt8) (h1 : d1.length ≤ maxLen) : CallR Try.prog 107 [str d0, str d1] W (mnil) (fun v m' => v = .int .i64 ((shared d0 d1 : Nat) : Int)) := by
  have h0' := h0; simp only [maxLen] at h0'
  have h1' := h1; simp only [maxLen] at h1'
  refine CallR.ofA (n := 26) Try.func107 rfl rfl rfl ?_
  refine VC.rs ?_
  refine VO.as ?_
  refine VO.k3 0 1 4 ?_
  refine VC.rs ?_
  refine VO.mv ?_
  refine VO.y rfl (.lenT rfl Try.underlying9) ?_
  refine VO.mv ?_
  refine VO.y rfl (.lenT rfl Try.underlying9) ?_
  refine VO.y rfl (.minM rfl rfl) ?_
  refine VO.as ?_
  refine VO.k4 0 1 4 5 ?_
  refine VC.seq ?_
  refine VC.rs ?_
  refine VO.mv ?_
  refine VO.mv ?_
  refine VO.kp [0] [(0, wm W)] ?_
  refine VO.k6 0 1 4 5 12 13 ?_
  refine VC.block ?_
  refine VC.loop (G := Nat) (fun k => [(13, Value.int .i64 (((k : Nat) : Int))), (0, str (d0)), (1, str (d1)), (5, Value.int .i64 (min ((d0.length : Nat) : Int) ((d1.length : Nat) : Int))), (12, Value.int .i64 (min ((d0.length : Nat) : Int) ((d1.length : Nat) : Int)))]) (fun k => [(0, wm W)]) (fun k => (k ≤ d0.length ∧ k ≤ d1.length) ∧ (d0.take k = d1.take k)) (fun k => d0.length - k) 0 (⟨by omega, by rfl⟩) ⟨⟨rfl, rfl, rfl, rfl, rfl, trivial⟩, fun _ h => h.sub [0]⟩ ?_
  rintro k ⟨hk, ht⟩
  refine VC.rs ?_
  refine VO.y rfl (.lss rfl rfl) ?_
  refine VO.k6 0 1 5 12 13 14 ?_
  refine VC.seq ?_
  refine VC.cond rfl (fun hc1 => ?_) (fun hc1 => ?_)
  · -- T
    refine VC.skip ?_
    refine outN ?_
    refine VC.seq ?_
    refine VC.block ?_
    refine VC.rs ?_
    refine VO.mv ?_
    refine VO.as ?_
    refine VO.k7 0 1 5 6 12 13 14 ?_
    refine VC.seq ?_
    refine VC.regD _ 6 [(0, true), (1, true), (2, true), (3, true), (4, true), (5, true)] follows (by kernel_rfl) (fun _ h => h.sub [0]) ?_
    refine VD.y rfl rfl (.inl rfl) (.mv rfl) ?_
    refine VD.y rfl rfl (.inl rfl) (.mv rfl) ?_
    obtain ⟨b2, hb2⟩ : ∃ z_, (d0)[k]? = some z_ := ⟨_, List.getElem?_eq_getElem bd⟩
    refine VD.y rfl rfl (.inl rfl) (.ixTI k rfl rfl Try.underlying9 rfl hb2) ?_
    refine VD.y rfl rfl (.inl rfl) (.mv rfl) ?_
    refine VD.y rfl rfl (.inl rfl) (.mv rfl) ?_
    obtain ⟨b3, hb3⟩ : ∃ z_, (d1)[k]? = some z_ := ⟨_, List.getElem?_eq_getElem bd⟩
    refine VD.y rfl rfl (.inl rfl) (.ixTI k rfl rfl Try.underlying9 rfl hb3) ?_
    refine VD.nil rfl ?_ rfl
    refine VO.y rfl (.neq rfl rfl) ?_
    refine VO.kp [0] [(0, wm W)] ?_
    refine VO.k8 0 1 5 6 12 13 14 22 ?_
    refine outN ?_
    refine VC.cond rfl (fun hc4 => ?_) (fun hc4 => ?_)
    · -- TT
      refine VC.rs ?_
      refine VO.mv ?_
      refine VO.as ?_
      refine VO.k9 0 1 4 5 6 12 13 14 22 ?_
      refine VC.ret ?_
      refine outBR ?_
      refine outR ?_
      refine outR ?_
      refine outBR ?_
      refine outR ?_
      refine ⟨_, _, res_run (rs := [.tmp 4]) rfl (.tmp rfl .nil), fun W_ hI => out_of (l := []) hI [] rfl rfl (mle_refl _) (fun hS_ => ?_)⟩
      dsimp only [packV]
      all_goals (first | rfl | (congr 1; first | exact congrArg Int.ofNat (shared_ne ht ‹d0[k]? = some _› ‹d1[k]? = some _› ‹_›) | exact congrArg Int.ofNat (shared_end ht hk.1 hk.2 (by omega)) | (have := shared_end ht hk.1 hk.2 (by omega); omega) | (have := shared_ne ht ‹d0[k]? = some _› ‹d1[k]? = some _› ‹_›; omega)))
    · -- TF
      refine VC.skip ?_
      refine outBN ?_
      refine outN ?_
      refine VC.reg ?_
      refine VO.y rfl (.add (c := ((k + 1 : Nat) : Int)) rfl rfl (by omega) ⟨bd, bd⟩) ?_
      refine VO.mv ?_
      refine VO.k8 0 1 5 6 12 13 14 22 ?_
      exact outN ⟨k + 1, ⟨by omega, by exact take_next ht ‹d0[k]? = some _› ‹d1[k]? = some _› (byte_eq (by omega))⟩, bd, ⟨⟨rfl, rfl, rfl, rfl, rfl, trivial⟩, fun _ h => Inv.sub h [0]⟩⟩
  · -- F
    refine VC.exit ?_
    refine outE ?_
    refine outE ?_
    refine outBB ?_
    refine outN ?_
    refine VC.rs ?_
    refine VO.mv ?_
    refine VO.as ?_
    refine VO.k7 0 1 4 5 12 13 14 ?_
    refine VC.ret ?_
    refine ⟨_, _, res_run (rs := [.tmp 4]) rfl (.tmp rfl .nil), fun W_ hI => out_of (l := []) hI [] rfl rfl (mle_refl _) (fun hS_ => ?_)⟩
    dsimp only [packV]
    all_goals (first | rfl | (congr 1; first | exact congrArg Int.ofNat (shared_ne ht ‹d0[k]? = some _› ‹d1[k]? = some _› ‹_›) | exact congrArg Int.ofNat (shared_end ht hk.1 hk.2 (by omega)) | (have := shared_end ht hk.1 hk.2 (by omega); omega) | (have := shared_ne ht ‹d0[k]? = some _› ‹d1[k]? = some _› ‹_›; omega)))
theorem rShared_ok (W : World) (d0 : List UInt8) (h0 : d0.length ≤ maxLen) (d1 : List UInt8) (h1 : d1.length ≤ maxLen) : CallR Try.prog 118 [str d0, str d1] W (mnil) (fun v m' => v = .int .i64 ((shared d0 d1 : Nat) : Int)) := by
  have h0' := h0; simp only [maxLen] at h0'
  have h1' := h1; simp only [maxLen] at h1'
  refine CallR.ofA (n := 28) Try.func118 rfl rfl rfl ?_
  refine VC.rs ?_
  refine VO.as ?_
  refine VO.k3 0 1 4 ?_
  refine VC.rs ?_
  refine VO.as ?_
  refine VO.k4 0 1 4 5 ?_
  refine VC.seq ?_
  refine VC.block ?_
  refine VC.loop (G := Nat) (fun k => [(5, Value.int .i64 (((k : Nat) : Int))), (0, str (d0)), (1, str (d1)), (4, Value.int .i64 (0))]) (fun k => [(0, wm W)]) (fun k => (k ≤ d0.length ∧ k ≤ d1.length) ∧ (d0.take k = d1.take k)) (fun k => d0.length - k) 0 (⟨by omega, by rfl⟩) ⟨⟨rfl, rfl, rfl, rfl, trivial⟩, fun _ h => h.sub [0]⟩ ?_
  rintro k ⟨hk, ht⟩
  refine VC.seq ?_
  refine VC.seq ?_
  refine VC.regD _ 17 [(0, true), (1, true), (2, true), (3, true), (4, true), (5, true), (6, true), (7, true), (8, true), (9, true), (10, true), (11, true), (12, true), (13, true), (14, true), (15, true), (16, true)] follows (by kernel_rfl) (fun _ h => h.sub [0]) ?_
  refine VD.y rfl rfl (.inl rfl) (.mv rfl) ?_
  refine VD.y rfl rfl (.inl rfl) (.mv rfl) ?_
  refine VD.y rfl rfl (.inl rfl) (.lenT rfl Try.underlying9) ?_
  refine VD.y rfl rfl (.inl rfl) (.lss rfl rfl) ?_
  refine VD.y rfl rfl (.inl rfl) (.mv rfl) ?_
  refine VD.dec (s := 10) rfl (fun hc1 => ?_) (fun hc1 => ?_)
  · -- T
    refine VD.y rfl rfl (.inr ⟨_, _, rfl, _, rfl, rfl⟩) (.mv rfl) ?_
    refine VD.y rfl rfl (.inr ⟨_, _, rfl, _, rfl, rfl⟩) (.mv rfl) ?_
    refine VD.y rfl rfl (.inr ⟨_, _, rfl, _, rfl, rfl⟩) (.lenT rfl Try.underlying9) ?_
    refine VD.y rfl rfl (.inr ⟨_, _, rfl, _, rfl, rfl⟩) (.lss rfl rfl) ?_
    refine VD.y rfl rfl (.inl rfl) (.pT rfl rfl) ?_
    refine VD.y rfl rfl (.inl rfl) (.mv rfl) ?_
    refine VD.dec (s := 16) rfl (fun hc2 => ?_) (fun hc2 => ?_)
    · -- TT
      refine VD.y rfl rfl (.inr ⟨_, _, rfl, _, rfl, rfl⟩) (.mv rfl) ?_
      refine VD.y rfl rfl (.inr ⟨_, _, rfl, _, rfl, rfl⟩) (.mv rfl) ?_
      obtain ⟨b3, hb3⟩ : ∃ z_, (d0)[k]? = some z_ := ⟨_, List.getElem?_eq_getElem bd⟩
      refine VD.y rfl rfl (.inr ⟨_, _, rfl, _, rfl, rfl⟩) (.ixTI k rfl rfl Try.underlying9 rfl hb3) ?_
      refine VD.y rfl rfl (.inr ⟨_, _, rfl, _, rfl, rfl⟩) (.mv rfl) ?_
      refine VD.y rfl rfl (.inr ⟨_, _, rfl, _, rfl, rfl⟩) (.mv rfl) ?_
      obtain ⟨b4, hb4⟩ : ∃ z_, (d1)[k]? = some z_ := ⟨_, List.getElem?_eq_getElem bd⟩
      refine VD.y rfl rfl (.inr ⟨_, _, rfl, _, rfl, rfl⟩) (.ixTI k rfl rfl Try.underlying9 rfl hb4) ?_
      refine VD.nil rfl ?_ rfl
      refine VO.gy rfl ⟨_, rfl, rfl⟩ (.eql rfl rfl) ?_
      refine VO.y rfl (.pT rfl rfl) ?_
      refine VO.kp [0] [(0, wm W)] ?_
      refine VO.k5 0 1 4 5 24 ?_
      refine outN ?_
      refine VC.cond rfl (fun hc5 => ?_) (fun hc5 => ?_)
      · -- TTT
        refine VC.skip ?_
        refine outN ?_
        refine VC.block ?_
        refine VC.reg ?_
        refine VO.mv ?_
        refine VO.y rfl (.add (c := ((k + 1 : Nat) : Int)) rfl rfl (by omega) ⟨bd, bd⟩) ?_
        refine VO.as ?_
        refine VO.k5 0 1 4 5 24 ?_
        refine outBN ?_
        exact outN ⟨k + 1, ⟨by omega, by exact take_next ht ‹d0[k]? = some _› ‹d1[k]? = some _› (byte_eq (by omega))⟩, bd, ⟨⟨rfl, rfl, rfl, rfl, trivial⟩, fun _ h => Inv.sub h [0]⟩⟩
      · -- TTF
        refine VC.exit ?_
        refine outE ?_
        refine outE ?_
        refine outBB ?_
        refine outN ?_
        refine VC.rs ?_
        refine VO.mv ?_
        refine VO.as ?_
        refine VO.k5 0 1 4 5 24 ?_
        refine VC.ret ?_
        refine ⟨_, _, res_run (rs := [.tmp 4]) rfl (.tmp rfl .nil), fun W_ hI => out_of (l := []) hI [] rfl rfl (mle_refl _) (fun hS_ => ?_)⟩
        dsimp only [packV]
        all_goals (first | rfl | (congr 1; first | exact congrArg Int.ofNat (shared_ne ht ‹d0[k]? = some _› ‹d1[k]? = some _› ‹_›) | exact congrArg Int.ofNat (shared_end ht hk.1 hk.2 (by omega)) | (have := shared_end ht hk.1 hk.2 (by omega); omega) | (have := shared_ne ht ‹d0[k]? = some _› ‹d1[k]? = some _› ‹_›; omega)))
    · -- TF
      refine VD.gn rfl rfl (.inl ⟨_, rfl, rfl⟩) ?_
      refine VD.gn rfl rfl (.inl ⟨_, rfl, rfl⟩) ?_
      refine VD.gn rfl rfl (.inl ⟨_, rfl, rfl⟩) ?_
      refine VD.gn rfl rfl (.inl ⟨_, rfl, rfl⟩) ?_
      refine VD.gn rfl rfl (.inl ⟨_, rfl, rfl⟩) ?_
      refine VD.gn rfl rfl (.inl ⟨_, rfl, rfl⟩) ?_
      refine VD.nil rfl ?_ rfl
      refine VO.gN ?_
      refine VO.y rfl (.pF rfl rfl) ?_
      refine VO.kp [0] [(0, wm W)] ?_
      refine VO.k5 0 1 4 5 24 ?_
      refine outN ?_
      refine VC.condF rfl ?_
      refine VC.exit ?_
      refine outE ?_
      refine outE ?_
      refine outBB ?_
      refine outN ?_
      refine VC.rs ?_
      refine VO.mv ?_
      refine VO.as ?_
      refine VO.k5 0 1 4 5 24 ?_
      refine VC.ret ?_
      refine ⟨_, _, res_run (rs := [.tmp 4]) rfl (.tmp rfl .nil), fun W_ hI => out_of (l := []) hI [] rfl rfl (mle_refl _) (fun hS_ => ?_)⟩
      dsimp only [packV]
      all_goals (first | rfl | (congr 1; first | exact congrArg Int.ofNat (shared_ne ht ‹d0[k]? = some _› ‹d1[k]? = some _› ‹_›) | exact congrArg Int.ofNat (shared_end ht hk.1 hk.2 (by omega)) | (have := shared_end ht hk.1 hk.2 (by omega); omega) | (have := shared_ne ht ‹d0[k]? = some _› ‹d1[k]? = some _› ‹_›; omega)))
  · -- F
    refine VD.gn rfl rfl (.inl ⟨_, rfl, rfl⟩) ?_
    refine VD.gn rfl rfl (.inl ⟨_, rfl, rfl⟩) ?_
    refine VD.gn rfl rfl (.inl ⟨_, rfl, rfl⟩) ?_
    refine VD.gn rfl rfl (.inl ⟨_, rfl, rfl⟩) ?_
    refine VD.y rfl rfl (.inl rfl) (.pF rfl rfl) ?_
    refine VD.y rfl rfl (.inl rfl) (.mv rfl) ?_
    refine VD.gn rfl rfl (.inl ⟨_, rfl, rfl⟩) ?_
    refine VD.gn rfl rfl (.inl ⟨_, rfl, rfl⟩) ?_
    refine VD.gn rfl rfl (.inl ⟨_, rfl, rfl⟩) ?_
    refine VD.gn rfl rfl (.inl ⟨_, rfl, rfl⟩) ?_
    refine VD.gn rfl rfl (.inl ⟨_, rfl, rfl⟩) ?_
    refine VD.gn rfl rfl (.inl ⟨_, rfl, rfl⟩) ?_
    refine VD.nil rfl ?_ rfl
    refine VO.gN ?_
    refine VO.y rfl (.pF rfl rfl) ?_
    refine VO.kp [0] [(0, wm W)] ?_
    refine VO.k5 0 1 4 5 24 ?_
    refine outN ?_
    refine VC.condF rfl ?_
    refine VC.exit ?_
    refine outE ?_
    refine outE ?_
    refine outBB ?_
    refine outN ?_
    refine VC.rs ?_
    refine VO.mv ?_
    refine VO.as ?_
    refine VO.k5 0 1 4 5 24 ?_
    refine VC.ret ?_
    refine ⟨_, _, res_run (rs := [.tmp 4]) rfl (.tmp rfl .nil), fun W_ hI => out_of (l := []) hI [] rfl rfl (mle_refl _) (fun hS_ => ?_)⟩
    dsimp only [packV]
    all_goals (first | rfl | (congr 1; first | exact congrArg Int.ofNat (shared_ne ht ‹d0[k]? = some _› ‹d1[k]? = some _› ‹_›) | exact congrArg Int.ofNat (shared_end ht hk.1 hk.2 (by omega)) | (have := shared_end ht hk.1 hk.2 (by omega); omega) | (have := shared_ne ht ‹d0[k]? = some _› ‹d1[k]? = some _› ‹_›; omega)))
theorem bText_ok (W : World) {g0 : Nat} {E0 : TypeId} {d0 : Dbatchreader} {b0_0 : Value} (hm : mle (mone g0 (.cells [(b0_0 : Value), .int .i64 d0.2.1, .bool d0.2.2].toArray E0 (0, 0))) (wm W)) (h0_0 : Rd (.sl .byte) (mout (wm W) (mone g0 (.cells [(b0_0 : Value), .int .i64 d0.2.1, .bool d0.2.2].toArray E0 (0, 0)))) [b0_0] d0.1) (h0_1 : inK .i64 d0.2.1) (d1 : Int) (h1 : inK .i64 d1) (e0 : rOk d0.1 d0.2) (e1 : 0 ≤ d1) : CallR Try.prog 124 [.pointer (some ⟨g0, 0, none⟩), .int .i64 d1] W (mone g0 (.cells [(b0_0 : Value), .int .i64 d0.2.1, .bool d0.2.2].toArray E0 (0, 0))) (fun v m' => v = str ((rText d0.1 d1 d0.2).1) ∧ m' = mone g0 (.cells [(b0_0 : Value), .int .i64 ((rText d0.1 d1 d0.2).2.1), .bool ((rText d0.1 d1 d0.2).2.2)].toArray E0 (0, 0)) ∧ inK .i64 ((rText d0.1 d1 d0.2).2.1)) := by
  have e0_ := e0; obtain ⟨e0a, e0b⟩ := e0_
  obtain ⟨A0_0, c0_0, rfl, l0_0, k0_0⟩ := h0_0.slice
  simp only [maxLen] at k0_0
  have h0_1' := h0_1; simp only [inK] at h0_1'
  have h1' := h1; simp only [inK] at h1'
  refine CallR.ofB (n := 54) hm Try.func124 rfl rfl rfl ?_
  refine VC.rs ?_
  refine VO.as ?_
  refine VO.k3 0 1 4 ?_
  refine VC.rs ?_
  refine VO.mv ?_
  refine VO.mv ?_
  refine VO.call 1 rfl fnOk120 rfl rfl (fun W hW => bNum_ok W (d0 := d0) (hW.at (i := 1) rfl) (Rd.mono h0_0 (hW.out (i := 1) (j := 0) rfl rfl)) bdk d1 bdk (by first | assumption | exact ⟨by omega, by omega⟩ | exact ⟨by (simp; done), by (simp; done)⟩)) (fun v1 m1 hv1 => ?_)
  obtain ⟨rfl, rfl, w1_0_1⟩ := hv1
  have hfa2 := (rNum_ok (B := d0.1) (m := d1) (s := d0.2) (by first | assumption | exact ⟨by omega, by omega⟩ | exact ⟨by (simp; done), by (simp; done)⟩) (by omega)).1
  have hfa3 := (rNum_ok (B := d0.1) (m := d1) (s := d0.2) (by first | assumption | exact ⟨by omega, by omega⟩ | exact ⟨by (simp; done), by (simp; done)⟩) (by omega)).1.1
  have hfa4 := (rNum_ok (B := d0.1) (m := d1) (s := d0.2) (by first | assumption | exact ⟨by omega, by omega⟩ | exact ⟨by (simp; done), by (simp; done)⟩) (by omega)).1.2
  have hfa5 := (rNum_ok (B := d0.1) (m := d1) (s := d0.2) (by first | assumption | exact ⟨by omega, by omega⟩ | exact ⟨by (simp; done), by (simp; done)⟩) (by omega)).2
  simp only [inK] at w1_0_1
  refine VO.as ?_
  refine VO.k4 0 1 4 5 ?_
  refine VC.seq ?_
  refine VC.seq ?_
  refine VC.regD _ 16 [(0, true), (1, true), (2, true), (3, true), (4, true), (5, true), (6, true), (7, true), (8, true), (9, true), (10, true), (11, true), (12, true), (13, true), (14, true), (15, true)] follows (by kernel_rfl) (fun _ h => h.sub [1, 0]) ?_
  refine VD.y rfl rfl (.inl rfl) (.mv rfl) ?_
  refine VD.y rfl rfl (.inl rfl) (.nilp rfl) ?_
  refine VD.y rfl rfl (.inl rfl) (.fa rfl tst135 rfl) ?_
  refine VD.y rfl rfl (.inl rfl) (.ld1 1 rfl tk4 rfl (cellsAt_one rfl rfl)) ?_
  refine VD.y rfl rfl (.inl rfl) (.mv rfl) ?_
  refine VD.decB (s := 13) rfl (fun hc6 => ?_) (fun hc6 => ?_)
  · -- T
    refine VD.gn rfl rfl (.inl ⟨_, rfl, rfl⟩) ?_
    refine VD.gn rfl rfl (.inl ⟨_, rfl, rfl⟩) ?_
    refine VD.gn rfl rfl (.inl ⟨_, rfl, rfl⟩) ?_
    refine VD.gn rfl rfl (.inl ⟨_, rfl, rfl⟩) ?_
    refine VD.gn rfl rfl (.inl ⟨_, rfl, rfl⟩) ?_
    refine VD.gn rfl rfl (.inl ⟨_, rfl, rfl⟩) ?_
    refine VD.gn rfl rfl (.inl ⟨_, rfl, rfl⟩) ?_
    refine VD.gn rfl rfl (.inl ⟨_, rfl, rfl⟩) ?_
    refine VD.gn rfl rfl (.inl ⟨_, rfl, rfl⟩) ?_
    refine VD.gn rfl rfl (.inl ⟨_, rfl, rfl⟩) ?_
    refine VD.gn rfl rfl (.inl ⟨_, rfl, rfl⟩) ?_
    refine VD.nil rfl ?_ rfl
    refine VO.gN ?_
    refine VO.y rfl (.pT rfl rfl) ?_
    refine VO.kp [1, 0] [(1, mone g0 (.cells [Value.slice A0_0 (d0.1.length) (c0_0), Value.int .i64 ((rNum d0.1 d1 d0.2).2.1), Value.bool ((rNum d0.1 d1 d0.2).2.2)].toArray E0 (0, 0))), (0, mout (wm W) (mone g0 (.cells [Value.slice A0_0 (d0.1.length) (c0_0), Value.int .i64 (d0.2.1), Value.bool d0.2.2].toArray E0 (0, 0))))] ?_
    refine VO.k5 0 1 4 5 26 ?_
    refine outN ?_
    refine VC.condT rfl ?_
    refine VC.rs ?_
    refine VO.mv ?_
    refine VO.y rfl (.nilp rfl) ?_
    refine VO.y rfl (.fa rfl tst135 rfl) ?_
    refine VO.store (k := 1) (c' := [Value.slice A0_0 (d0.1.length) (c0_0), Value.int .i64 ((rNum d0.1 d1 d0.2).2.1), Value.bool true]) 1 rfl rfl (.inr ⟨tk4, rfl⟩) rfl rfl rfl rfl rfl ?_
    refine VO.k5 0 1 4 5 26 ?_
    refine VC.rs ?_
    refine VO.as ?_
    refine VO.k5 0 1 4 5 26 ?_
    refine VC.ret ?_
    refine outR ?_
    refine ⟨_, _, res_run (rs := [.tmp 4]) rfl (.tmp rfl .nil), fun W_ hI => out_of (l := [mone g0 (.cells [Value.slice A0_0 (d0.1.length) (c0_0), Value.int .i64 ((rNum d0.1 d1 d0.2).2.1), Value.bool true].toArray E0 (0, 0))]) hI [1] rfl rfl (mle_refl _) (fun hS_ => ?_)⟩
    dsimp only [packV]
    have hm0_1 : ((rText d0.1 d1 d0.2).2.1 : Int) = (rNum d0.1 d1 d0.2).2.1 := by first | rfl | (unfold rText; first | (rw [rBytes_bad (by first | exact .inl ‹_› | exact .inr ‹_›)] <;> first | rfl | assumption) | (rw [rBytes_good ‹_› ‹_›] <;> first | rfl | assumption | (symm; assumption)))
    have hm0_2 : ((rText d0.1 d1 d0.2).2.2 : Bool) = true := by first | rfl | (unfold rText; first | (rw [rBytes_bad (by first | exact .inl ‹_› | exact .inr ‹_›)] <;> first | rfl | assumption) | (rw [rBytes_good ‹_› ‹_›] <;> first | rfl | assumption | (symm; assumption)))
    refine ⟨?_, ?_, ?_⟩
    rotate_left
    · rw [hm0_1, hm0_2, muns_one]
    · rw [hm0_1]; exact (show inK .i64 _ by simp only [inK]; (first | omega | (simp only [List.length_append, List.length_nil, List.length_cons, List.length_take, List.length_drop] at *; omega)))
    all_goals (first | rfl | (unfold rText; first | (rw [rBytes_bad (by first | exact .inl ‹_› | exact .inr ‹_›)] <;> rfl) | (rw [rBytes_good ‹_› ‹_›]; dsimp only; congr 2; first | rw [cut_mid (by omega) (by omega)] | (rw [← cut_mid (by omega) (by omega)]; congr 1; omega) | (rw [List.drop_take]; congr 1; omega))))
  · -- F
    refine VD.y rfl rfl (.inr ⟨_, _, rfl, _, rfl, rfl⟩) (.mv rfl) ?_
    refine VD.y rfl rfl (.inr ⟨_, _, rfl, _, rfl, rfl⟩) (.nilp rfl) ?_
    refine VD.y rfl rfl (.inr ⟨_, _, rfl, _, rfl, rfl⟩) (.fa rfl tst135 rfl) ?_
    refine VD.y rfl rfl (.inr ⟨_, _, rfl, _, rfl, rfl⟩) (.ld1 1 rfl tk25 rfl (cellsAt_one rfl rfl)) ?_
    refine VD.y rfl rfl (.inr ⟨_, _, rfl, _, rfl, rfl⟩) (.lenS rfl tsl25) ?_
    refine VD.y rfl rfl (.inr ⟨_, _, rfl, _, rfl, rfl⟩) (.mv rfl) ?_
    refine VD.y rfl rfl (.inr ⟨_, _, rfl, _, rfl, rfl⟩) (.nilp rfl) ?_
    refine VD.y rfl rfl (.inr ⟨_, _, rfl, _, rfl, rfl⟩) (.fa rfl tst135 rfl) ?_
    refine VD.y rfl rfl (.inr ⟨_, _, rfl, _, rfl, rfl⟩) (.ld1 1 rfl tk3 rfl (cellsAt_one rfl rfl)) ?_
    refine VD.y rfl rfl (.inr ⟨_, _, rfl, _, rfl, rfl⟩) (.sub rfl rfl rfl ⟨bd, bd⟩) ?_
    refine VD.y rfl rfl (.inr ⟨_, _, rfl, _, rfl, rfl⟩) (.mv rfl) ?_
    refine VD.nil rfl ?_ rfl
    refine VO.gy rfl ⟨_, rfl, rfl⟩ (.lss rfl rfl) ?_
    refine VO.y rfl (.pF rfl rfl) ?_
    refine VO.kp [1, 0] [(1, mone g0 (.cells [Value.slice A0_0 (d0.1.length) (c0_0), Value.int .i64 ((rNum d0.1 d1 d0.2).2.1), Value.bool ((rNum d0.1 d1 d0.2).2.2)].toArray E0 (0, 0))), (0, mout (wm W) (mone g0 (.cells [Value.slice A0_0 (d0.1.length) (c0_0), Value.int .i64 (d0.2.1), Value.bool d0.2.2].toArray E0 (0, 0))))] ?_
    refine VO.k5 0 1 4 5 26 ?_
    refine outN ?_
    refine VC.cond rfl (fun hc7 => ?_) (fun hc7 => ?_)
    · -- FT
      refine VC.rs ?_
      refine VO.mv ?_
      refine VO.y rfl (.nilp rfl) ?_
      refine VO.y rfl (.fa rfl tst135 rfl) ?_
      refine VO.store (k := 1) (c' := [Value.slice A0_0 (d0.1.length) (c0_0), Value.int .i64 ((rNum d0.1 d1 d0.2).2.1), Value.bool true]) 1 rfl rfl (.inr ⟨tk4, rfl⟩) rfl rfl rfl rfl rfl ?_
      refine VO.k5 0 1 4 5 26 ?_
      refine VC.rs ?_
      refine VO.as ?_
      refine VO.k5 0 1 4 5 26 ?_
      refine VC.ret ?_
      refine outR ?_
      refine ⟨_, _, res_run (rs := [.tmp 4]) rfl (.tmp rfl .nil), fun W_ hI => out_of (l := [mone g0 (.cells [Value.slice A0_0 (d0.1.length) (c0_0), Value.int .i64 ((rNum d0.1 d1 d0.2).2.1), Value.bool true].toArray E0 (0, 0))]) hI [1] rfl rfl (mle_refl _) (fun hS_ => ?_)⟩
      dsimp only [packV]
      have hm0_1 : ((rText d0.1 d1 d0.2).2.1 : Int) = (rNum d0.1 d1 d0.2).2.1 := by first | rfl | (unfold rText; first | (rw [rBytes_bad (by first | exact .inl ‹_› | exact .inr ‹_›)] <;> first | rfl | assumption) | (rw [rBytes_good ‹_› ‹_›] <;> first | rfl | assumption | (symm; assumption)))
      have hm0_2 : ((rText d0.1 d1 d0.2).2.2 : Bool) = true := by first | rfl | (unfold rText; first | (rw [rBytes_bad (by first | exact .inl ‹_› | exact .inr ‹_›)] <;> first | rfl | assumption) | (rw [rBytes_good ‹_› ‹_›] <;> first | rfl | assumption | (symm; assumption)))
      refine ⟨?_, ?_, ?_⟩
      rotate_left
      · rw [hm0_1, hm0_2, muns_one]
      · rw [hm0_1]; exact (show inK .i64 _ by simp only [inK]; (first | omega | (simp only [List.length_append, List.length_nil, List.length_cons, List.length_take, List.length_drop] at *; omega)))
      all_goals (first | rfl | (unfold rText; first | (rw [rBytes_bad (by first | exact .inl ‹_› | exact .inr ‹_›)] <;> rfl) | (rw [rBytes_good ‹_› ‹_›]; dsimp only; congr 2; first | rw [cut_mid (by omega) (by omega)] | (rw [← cut_mid (by omega) (by omega)]; congr 1; omega) | (rw [List.drop_take]; congr 1; omega))))
    · -- FF
      refine VC.skip ?_
      refine outN ?_
      refine VC.rs ?_
      refine VO.mv ?_
      refine VO.y rfl (.nilp rfl) ?_
      refine VO.y rfl (.fa rfl tst135 rfl) ?_
      refine VO.y rfl (.ld1 1 rfl tk3 rfl (cellsAt_one rfl rfl)) ?_
      refine VO.mv ?_
      refine VO.y rfl (.add rfl rfl rfl ⟨bd, bd⟩) ?_
      refine VO.y rfl (.nilp rfl) ?_
      refine VO.y rfl (.fa rfl tst135 rfl) ?_
      refine VO.store (k := 1) (c' := [Value.slice A0_0 (d0.1.length) (c0_0), Value.int .i64 (((rNum d0.1 d1 d0.2).2.1) + ((rNum d0.1 d1 d0.2).1)), Value.bool ((rNum d0.1 d1 d0.2).2.2)]) 1 rfl rfl (.inr ⟨tk3, rfl⟩) rfl rfl rfl rfl rfl ?_
      refine VO.k5 0 1 4 5 26 ?_
      refine VC.seq ?_
      refine VC.regD _ 14 [(0, true), (1, true), (2, true), (3, true), (4, true), (5, true), (6, true), (7, true), (8, true), (9, true), (10, true), (11, true), (12, true), (13, true)] follows (by kernel_rfl) (fun _ h => h.sub [1, 0]) ?_
      refine VD.y rfl rfl (.inl rfl) (.mv rfl) ?_
      refine VD.y rfl rfl (.inl rfl) (.nilp rfl) ?_
      refine VD.y rfl rfl (.inl rfl) (.fa rfl tst135 rfl) ?_
      refine VD.y rfl rfl (.inl rfl) (.ld1 1 rfl tk25 rfl (cellsAt_one rfl rfl)) ?_
      refine VD.y rfl rfl (.inl rfl) (.mv rfl) ?_
      refine VD.y rfl rfl (.inl rfl) (.nilp rfl) ?_
      refine VD.y rfl rfl (.inl rfl) (.fa rfl tst135 rfl) ?_
      refine VD.y rfl rfl (.inl rfl) (.ld1 1 rfl tk3 rfl (cellsAt_one rfl rfl)) ?_
      refine VD.y rfl rfl (.inl rfl) (.mv rfl) ?_
      refine VD.y rfl rfl (.inl rfl) (.sub rfl rfl rfl ⟨bd, bd⟩) ?_
      refine VD.y rfl rfl (.inl rfl) (.mv rfl) ?_
      refine VD.y rfl rfl (.inl rfl) (.nilp rfl) ?_
      refine VD.y rfl rfl (.inl rfl) (.fa rfl tst135 rfl) ?_
      refine VD.y rfl rfl (.inl rfl) (.ld1 1 rfl tk3 rfl (cellsAt_one rfl rfl)) ?_
      refine VD.nil rfl ?_ rfl
      obtain ⟨A8, hA8, hs8⟩ := h0_0.sub' 1 (((((rNum d0.1 d1 d0.2).2.1) + ((rNum d0.1 d1 d0.2).1)) - ((rNum d0.1 d1 d0.2).1)).toNat) ((((rNum d0.1 d1 d0.2).2.1) + ((rNum d0.1 d1 d0.2).1)).toNat) rfl bd bd
      refine VO.y rfl (.slI (((((rNum d0.1 d1 d0.2).2.1) + ((rNum d0.1 d1 d0.2).1)) - ((rNum d0.1 d1 d0.2).1)).toNat) ((((rNum d0.1 d1 d0.2).2.1) + ((rNum d0.1 d1 d0.2).1)).toNat) A8 rfl rfl rfl tsl25 bd bd hA8 bd bd) ?_
      refine VO.y rfl (.b2s 0 rfl Try.underlying25 Try.underlying9 Try.underlying5 rfl hs8) ?_
      refine VO.as ?_
      refine VO.k5 0 1 4 5 26 ?_
      refine outN ?_
      refine VC.ret ?_
      refine ⟨_, _, res_run (rs := [.tmp 4]) rfl (.tmp rfl .nil), fun W_ hI => out_of (l := [mone g0 (.cells [Value.slice A0_0 (d0.1.length) (c0_0), Value.int .i64 (((rNum d0.1 d1 d0.2).2.1) + ((rNum d0.1 d1 d0.2).1)), Value.bool ((rNum d0.1 d1 d0.2).2.2)].toArray E0 (0, 0))]) hI [1] rfl rfl (mle_refl _) (fun hS_ => ?_)⟩
      dsimp only [packV]
      have hm0_1 : ((rText d0.1 d1 d0.2).2.1 : Int) = ((rNum d0.1 d1 d0.2).2.1) + ((rNum d0.1 d1 d0.2).1) := by first | rfl | (unfold rText; first | (rw [rBytes_bad (by first | exact .inl ‹_› | exact .inr ‹_›)] <;> first | rfl | assumption) | (rw [rBytes_good ‹_› ‹_›] <;> first | rfl | assumption | (symm; assumption)))
      have hm0_2 : ((rText d0.1 d1 d0.2).2.2 : Bool) = (rNum d0.1 d1 d0.2).2.2 := by first | rfl | (unfold rText; first | (rw [rBytes_bad (by first | exact .inl ‹_› | exact .inr ‹_›)] <;> first | rfl | assumption) | (rw [rBytes_good ‹_› ‹_›] <;> first | rfl | assumption | (symm; assumption)))
      refine ⟨?_, ?_, ?_⟩
      rotate_left
      · rw [hm0_1, hm0_2, muns_one]
      · rw [hm0_1]; exact (show inK .i64 _ by simp only [inK]; (first | omega | (simp only [List.length_append, List.length_nil, List.length_cons, List.length_take, List.length_drop] at *; omega)))
      all_goals (first | rfl | (unfold rText; first | (rw [rBytes_bad (by first | exact .inl ‹_› | exact .inr ‹_›)] <;> rfl) | (rw [rBytes_good ‹_› ‹_›]; dsimp only; congr 2; first | rw [cut_mid (by omega) (by omega)] | (rw [← cut_mid (by omega) (by omega)]; congr 1; omega) | (rw [List.drop_take]; congr 1; omega))))
theorem fin0_rBytes_ok_ {P : Prop} (h : P := by first | (rw [rBytes_bad (by first | exact .inl ‹_› | exact .inr ‹_›)] <;> first | rfl | assumption) | (rw [rBytes_good ‹_› ‹_›] <;> first | rfl | assumption | (symm; assumption) | (dsimp only; rw [List.drop_take]; congr 1; omega))) : P := h
theorem rBytes_ok_ (W : World) {g0 : Nat} {E0 : TypeId} {d0 : Dref01Reader} {b0_0 : Value} (hm : mle (mone g0 (.cells [(b0_0 : Value), .int .i64 d0.2.1, .bool d0.2.2].toArray E0 (0, 0))) (wm W)) (h0_0 : Rd (.sl .byte) (mout (wm W) (mone g0 (.cells [(b0_0 : Value), .int .i64 d0.2.1, .bool d0.2.2].toArray E0 (0, 0)))) [b0_0] d0.1) (h0_1 : inK .i64 d0.2.1) (d1 : Int) (h1 : inK .i64 d1) (e0 : rOk d0.1 d0.2) (e1 : 0 ≤ d1) (e2 : d1 ≤ 140737488355000) : CallR Try.prog 113 [.pointer (some ⟨g0, 0, none⟩), .int .i64 d1] W (mone g0 (.cells [(b0_0 : Value), .int .i64 d0.2.1, .bool d0.2.2].toArray E0 (0, 0))) (fun v m' => ∃ (s0 : Value), ∃ (p0 : Mem), v = s0 ∧ Seps m' [p0, mone g0 (.cells [(b0_0 : Value), .int .i64 ((rBytes d0.1 d1 d0.2).2.1), .bool ((rBytes d0.1 d1 d0.2).2.2)].toArray E0 (0, 0))] ∧ Ow (.sl .byte) p0 [s0] ((rBytes d0.1 d1 d0.2).1) ∧ inK .i64 ((rBytes d0.1 d1 d0.2).2.1)) := by
  have e0_ := e0; obtain ⟨e0a, e0b⟩ := e0_
  obtain ⟨A0_0, c0_0, rfl, l0_0, k0_0⟩ := h0_0.slice
  simp only [maxLen] at k0_0
  have h0_1' := h0_1; simp only [inK] at h0_1'
  have h1' := h1; simp only [inK] at h1'
  refine CallR.ofB (n := 54) hm Try.func113 rfl rfl rfl ?_
  refine VC.rs ?_
  refine VO.as ?_
  refine VO.k3 0 1 4 ?_
  refine VC.seq ?_
  refine VC.seq ?_
  refine VC.regD _ 16 [(0, true), (1, true), (2, true), (3, true), (4, true), (5, true), (6, true), (7, true), (8, true), (9, true), (10, true), (11, true), (12, true), (13, true), (14, true), (15, true)] follows (by kernel_rfl) (fun _ h => h.sub [0, 1]) ?_
  refine VD.y rfl rfl (.inl rfl) (.mv rfl) ?_
  refine VD.y rfl rfl (.inl rfl) (.nilp rfl) ?_
  refine VD.y rfl rfl (.inl rfl) (.fa rfl tst117 rfl) ?_
  refine VD.y rfl rfl (.inl rfl) (.ld1 1 rfl tk4 rfl (cellsAt_one rfl rfl)) ?_
  refine VD.y rfl rfl (.inl rfl) (.mv rfl) ?_
  refine VD.decB (s := 10) rfl (fun hc1 => ?_) (fun hc1 => ?_)
  · -- T
    refine VD.gn rfl rfl (.inl ⟨_, rfl, rfl⟩) ?_
    refine VD.gn rfl rfl (.inl ⟨_, rfl, rfl⟩) ?_
    refine VD.gn rfl rfl (.inl ⟨_, rfl, rfl⟩) ?_
    refine VD.gn rfl rfl (.inl ⟨_, rfl, rfl⟩) ?_
    refine VD.gn rfl rfl (.inl ⟨_, rfl, rfl⟩) ?_
    refine VD.gn rfl rfl (.inl ⟨_, rfl, rfl⟩) ?_
    refine VD.gn rfl rfl (.inl ⟨_, rfl, rfl⟩) ?_
    refine VD.gn rfl rfl (.inl ⟨_, rfl, rfl⟩) ?_
    refine VD.gn rfl rfl (.inl ⟨_, rfl, rfl⟩) ?_
    refine VD.gn rfl rfl (.inl ⟨_, rfl, rfl⟩) ?_
    refine VD.gn rfl rfl (.inl ⟨_, rfl, rfl⟩) ?_
    refine VD.nil rfl ?_ rfl
    refine VO.gN ?_
    refine VO.y rfl (.pT rfl rfl) ?_
    refine VO.k4 0 1 4 23 ?_
    refine outN ?_
    refine VC.condT rfl ?_
    refine VC.rs ?_
    refine VO.mv ?_
    refine VO.y rfl (.nilp rfl) ?_
    refine VO.y rfl (.fa rfl tst117 rfl) ?_
    refine VO.store (k := 1) (c' := [Value.slice A0_0 (d0.1.length) (c0_0), Value.int .i64 (d0.2.1), Value.bool true]) 1 rfl rfl (.inr ⟨tk4, rfl⟩) rfl rfl rfl rfl rfl ?_
    refine VO.kp [0, 1] [(0, mout (wm W) (mone g0 (.cells [Value.slice A0_0 (d0.1.length) (c0_0), Value.int .i64 (d0.2.1), Value.bool d0.2.2].toArray E0 (0, 0)))), (1, mone g0 (.cells [Value.slice A0_0 (d0.1.length) (c0_0), Value.int .i64 (d0.2.1), Value.bool true].toArray E0 (0, 0)))] ?_
    refine VO.k4 0 1 4 23 ?_
    refine VC.rs ?_
    refine VO.as ?_
    refine VO.k4 0 1 4 23 ?_
    refine VC.ret ?_
    refine outR ?_
    refine ⟨_, _, res_run (rs := [.tmp 4]) rfl (.tmp rfl .nil), fun W_ hI => out_of (l := [mone g0 (.cells [Value.slice A0_0 (d0.1.length) (c0_0), Value.int .i64 (d0.2.1), Value.bool true].toArray E0 (0, 0))]) hI [1] rfl rfl (mle_refl _) (fun hS_ => ?_)⟩
    dsimp only [packV]
    have he0 : ((rBytes d0.1 d1 d0.2).1 : Ty.Den (.sl .byte)) = [] := by first | rfl | (exact fin0_rBytes_ok_)
    have hm0_1 : ((rBytes d0.1 d1 d0.2).2.1 : Int) = d0.2.1 := by first | rfl | (exact fin0_rBytes_ok_)
    have hm0_2 : ((rBytes d0.1 d1 d0.2).2.2 : Bool) = true := by first | rfl | (exact fin0_rBytes_ok_)
    refine ⟨Value.slice none (0) (0), muns [], ?_, ?_, ?_, ?_⟩
    rotate_left
    · (first | exact Seps.grp (ls := [[], [mone g0 (.cells [Value.slice A0_0 (d0.1.length) (c0_0), Value.int .i64 (d0.2.1), Value.bool true].toArray E0 (0, 0))]]) hS_ | (rw [hm0_1, hm0_2]; exact Seps.grpM (ls := [[], [mone g0 (.cells [Value.slice A0_0 (d0.1.length) (c0_0), Value.int .i64 (d0.2.1), Value.bool true].toArray E0 (0, 0))]]) hS_ (by simp only [List.map, muns_one])) | exact Seps.grpM (ls := [[], [mone g0 (.cells [Value.slice A0_0 (d0.1.length) (c0_0), Value.int .i64 (d0.2.1), Value.bool true].toArray E0 (0, 0))]]) hS_ (by simp only [List.map, muns_one]))
    · rw [he0]; exact (Ow.nil _ _)
    · rw [hm0_1]; exact (show inK .i64 _ by simp only [inK]; (first | omega | (simp only [List.length_append, List.length_nil, List.length_cons, List.length_take, List.length_drop] at *; omega)))
    all_goals (first | rfl | (simp [*]; done))
  · -- F
    refine VD.y rfl rfl (.inr ⟨_, _, rfl, _, rfl, rfl⟩) (.mv rfl) ?_
    refine VD.y rfl rfl (.inr ⟨_, _, rfl, _, rfl, rfl⟩) (.mv rfl) ?_
    refine VD.y rfl rfl (.inr ⟨_, _, rfl, _, rfl, rfl⟩) (.nilp rfl) ?_
    refine VD.y rfl rfl (.inr ⟨_, _, rfl, _, rfl, rfl⟩) (.fa rfl tst117 rfl) ?_
    refine VD.y rfl rfl (.inr ⟨_, _, rfl, _, rfl, rfl⟩) (.ld1 1 rfl tk25 rfl (cellsAt_one rfl rfl)) ?_
    refine VD.y rfl rfl (.inr ⟨_, _, rfl, _, rfl, rfl⟩) (.lenS rfl tsl25) ?_
    refine VD.y rfl rfl (.inr ⟨_, _, rfl, _, rfl, rfl⟩) (.mv rfl) ?_
    refine VD.y rfl rfl (.inr ⟨_, _, rfl, _, rfl, rfl⟩) (.nilp rfl) ?_
    refine VD.y rfl rfl (.inr ⟨_, _, rfl, _, rfl, rfl⟩) (.fa rfl tst117 rfl) ?_
    refine VD.y rfl rfl (.inr ⟨_, _, rfl, _, rfl, rfl⟩) (.ld1 1 rfl tk3 rfl (cellsAt_one rfl rfl)) ?_
    refine VD.y rfl rfl (.inr ⟨_, _, rfl, _, rfl, rfl⟩) (.sub rfl rfl rfl ⟨bd, bd⟩) ?_
    refine VD.nil rfl ?_ rfl
    refine VO.gy rfl ⟨_, rfl, rfl⟩ (.gtr rfl rfl) ?_
    refine VO.y rfl (.pF rfl rfl) ?_
    refine VO.k4 0 1 4 23 ?_
    refine outN ?_
    refine VC.cond rfl (fun hc2 => ?_) (fun hc2 => ?_)
    · -- FT
      refine VC.rs ?_
      refine VO.mv ?_
      refine VO.y rfl (.nilp rfl) ?_
      refine VO.y rfl (.fa rfl tst117 rfl) ?_
      refine VO.store (k := 1) (c' := [Value.slice A0_0 (d0.1.length) (c0_0), Value.int .i64 (d0.2.1), Value.bool true]) 1 rfl rfl (.inr ⟨tk4, rfl⟩) rfl rfl rfl rfl rfl ?_
      refine VO.kp [0, 1] [(0, mout (wm W) (mone g0 (.cells [Value.slice A0_0 (d0.1.length) (c0_0), Value.int .i64 (d0.2.1), Value.bool d0.2.2].toArray E0 (0, 0)))), (1, mone g0 (.cells [Value.slice A0_0 (d0.1.length) (c0_0), Value.int .i64 (d0.2.1), Value.bool true].toArray E0 (0, 0)))] ?_
      refine VO.k4 0 1 4 23 ?_
      refine VC.rs ?_
      refine VO.as ?_
      refine VO.k4 0 1 4 23 ?_
      refine VC.ret ?_
      refine outR ?_
      refine ⟨_, _, res_run (rs := [.tmp 4]) rfl (.tmp rfl .nil), fun W_ hI => out_of (l := [mone g0 (.cells [Value.slice A0_0 (d0.1.length) (c0_0), Value.int .i64 (d0.2.1), Value.bool true].toArray E0 (0, 0))]) hI [1] rfl rfl (mle_refl _) (fun hS_ => ?_)⟩
      dsimp only [packV]
      have he0 : ((rBytes d0.1 d1 d0.2).1 : Ty.Den (.sl .byte)) = [] := by first | rfl | (exact fin0_rBytes_ok_)
      have hm0_1 : ((rBytes d0.1 d1 d0.2).2.1 : Int) = d0.2.1 := by first | rfl | (exact fin0_rBytes_ok_)
      have hm0_2 : ((rBytes d0.1 d1 d0.2).2.2 : Bool) = true := by first | rfl | (exact fin0_rBytes_ok_)
      refine ⟨Value.slice none (0) (0), muns [], ?_, ?_, ?_, ?_⟩
      rotate_left
      · (first | exact Seps.grp (ls := [[], [mone g0 (.cells [Value.slice A0_0 (d0.1.length) (c0_0), Value.int .i64 (d0.2.1), Value.bool true].toArray E0 (0, 0))]]) hS_ | (rw [hm0_1, hm0_2]; exact Seps.grpM (ls := [[], [mone g0 (.cells [Value.slice A0_0 (d0.1.length) (c0_0), Value.int .i64 (d0.2.1), Value.bool true].toArray E0 (0, 0))]]) hS_ (by simp only [List.map, muns_one])) | exact Seps.grpM (ls := [[], [mone g0 (.cells [Value.slice A0_0 (d0.1.length) (c0_0), Value.int .i64 (d0.2.1), Value.bool true].toArray E0 (0, 0))]]) hS_ (by simp only [List.map, muns_one]))
      · rw [he0]; exact (Ow.nil _ _)
      · rw [hm0_1]; exact (show inK .i64 _ by simp only [inK]; (first | omega | (simp only [List.length_append, List.length_nil, List.length_cons, List.length_take, List.length_drop] at *; omega)))
      all_goals (first | rfl | (simp [*]; done))
    · -- FF
      refine VC.skip ?_
      refine outN ?_
      refine VC.rs ?_
      refine VO.as ?_
      refine VO.kp [0, 1] [(0, mout (wm W) (mone g0 (.cells [Value.slice A0_0 (d0.1.length) (c0_0), Value.int .i64 (d0.2.1), Value.bool d0.2.2].toArray E0 (0, 0)))), (1, mone g0 (.cells [Value.slice A0_0 (d0.1.length) (c0_0), Value.int .i64 (d0.2.1), Value.bool d0.2.2].toArray E0 (0, 0)))] ?_
      refine VO.k5 0 1 4 5 23 ?_
      refine VC.seq ?_
      refine VC.regD _ 16 [(0, true), (1, true), (2, true), (3, true), (4, true), (5, true), (6, true), (7, true), (8, true), (9, true), (10, true), (11, true), (12, true), (13, true), (14, true), (15, true)] follows (by kernel_rfl) (fun _ h => h.sub [0, 1]) ?_
      refine VD.y rfl rfl (.inl rfl) (.mv rfl) ?_
      refine VD.y rfl rfl (.inl rfl) (.mv rfl) ?_
      refine VD.y rfl rfl (.inl rfl) (.nilp rfl) ?_
      refine VD.y rfl rfl (.inl rfl) (.fa rfl tst117 rfl) ?_
      refine VD.y rfl rfl (.inl rfl) (.ld1 1 rfl tk25 rfl (cellsAt_one rfl rfl)) ?_
      refine VD.y rfl rfl (.inl rfl) (.mv rfl) ?_
      refine VD.y rfl rfl (.inl rfl) (.nilp rfl) ?_
      refine VD.y rfl rfl (.inl rfl) (.fa rfl tst117 rfl) ?_
      refine VD.y rfl rfl (.inl rfl) (.ld1 1 rfl tk3 rfl (cellsAt_one rfl rfl)) ?_
      refine VD.y rfl rfl (.inl rfl) (.mv rfl) ?_
      refine VD.y rfl rfl (.inl rfl) (.nilp rfl) ?_
      refine VD.y rfl rfl (.inl rfl) (.fa rfl tst117 rfl) ?_
      refine VD.y rfl rfl (.inl rfl) (.ld1 1 rfl tk3 rfl (cellsAt_one rfl rfl)) ?_
      refine VD.y rfl rfl (.inl rfl) (.mv rfl) ?_
      refine VD.y rfl rfl (.inl rfl) (.add rfl rfl rfl ⟨bd, bd⟩) ?_
      obtain ⟨A3, hA3, hs3⟩ := h0_0.sub' 1 ((d0.2.1).toNat) ((d0.2.1 + d1).toNat) rfl bd bd
      refine VD.y rfl rfl (.inl rfl) (.slI ((d0.2.1).toNat) ((d0.2.1 + d1).toNat) A3 rfl rfl rfl tsl25 bd bd hA3 bd bd) ?_
      refine VD.nil rfl ?_ rfl
      refine VO.inv _ (fun _ h => h.nilc 105) ?_
      obtain ⟨mo4, cs4, hM4, hA4, hC4⟩ := (OwnL.nil .byte mnil mnil)
      obtain ⟨all4, hS4, hR4⟩ := Rd.srcI (P := Try.prog) (hs3) Try.underlying25
      refine VO.app 105 rfl rfl rfl tsl25 tz5 rfl rfl hM4 hA4 (hS4 _ 0 rfl) hR4.nice bdm bd (by decide) (fun v4 m4 hN4 => ?_)
      have ho4 : OwnL .byte m4 mnil v4 ((d0.1.take ((d0.2.1 + d1).toNat)).drop ((d0.2.1).toNat)) := OwnL.more hC4 hN4 (All2c.mono hR4 fun _ _ h => Rd.flat rfl h _)
      obtain ⟨A4, c4, rfl, l4, k4⟩ := ho4.slice
      simp only [maxLen] at k4
      refine VO.as ?_
      refine VO.k5 0 1 4 5 23 ?_
      refine outN ?_
      refine VC.rs ?_
      refine VO.mv ?_
      refine VO.mv ?_
      refine VO.y rfl (.nilp rfl) ?_
      refine VO.y rfl (.fa rfl tst117 rfl) ?_
      refine VO.y rfl (.ld1 1 rfl tk3 rfl (cellsAt_one rfl rfl)) ?_
      refine VO.mv ?_
      refine VO.y rfl (.add rfl rfl rfl ⟨bd, bd⟩) ?_
      refine VO.y rfl (.nilp rfl) ?_
      refine VO.y rfl (.fa rfl tst117 rfl) ?_
      refine VO.store (k := 1) (c' := [Value.slice A0_0 (d0.1.length) (c0_0), Value.int .i64 (d0.2.1 + d1), Value.bool d0.2.2]) 1 rfl rfl (.inr ⟨tk3, rfl⟩) rfl rfl rfl rfl rfl ?_
      refine VO.k5 0 1 4 5 23 ?_
      refine VC.rs ?_
      refine VO.mv ?_
      refine VO.as ?_
      refine VO.kp [105, 0, 1] [(105, m4), (0, mout (wm W) (mone g0 (.cells [Value.slice A0_0 (d0.1.length) (c0_0), Value.int .i64 (d0.2.1), Value.bool d0.2.2].toArray E0 (0, 0)))), (1, mone g0 (.cells [Value.slice A0_0 (d0.1.length) (c0_0), Value.int .i64 (d0.2.1 + d1), Value.bool d0.2.2].toArray E0 (0, 0)))] ?_
      refine VO.k5 0 1 4 5 23 ?_
      refine VC.ret ?_
      refine ⟨_, _, res_run (rs := [.tmp 4]) rfl (.tmp rfl .nil), fun W_ hI => out_of (l := [m4, mone g0 (.cells [Value.slice A0_0 (d0.1.length) (c0_0), Value.int .i64 (d0.2.1 + d1), Value.bool d0.2.2].toArray E0 (0, 0))]) hI [105, 1] rfl rfl (mle_refl _) (fun hS_ => ?_)⟩
      dsimp only [packV]
      have he0 : ((rBytes d0.1 d1 d0.2).1 : Ty.Den (.sl .byte)) = (d0.1.take ((d0.2.1 + d1).toNat)).drop ((d0.2.1).toNat) := by first | rfl | (exact fin0_rBytes_ok_)
      have hm0_1 : ((rBytes d0.1 d1 d0.2).2.1 : Int) = d0.2.1 + d1 := by first | rfl | (exact fin0_rBytes_ok_)
      have hm0_2 : ((rBytes d0.1 d1 d0.2).2.2 : Bool) = d0.2.2 := by first | rfl | (exact fin0_rBytes_ok_)
      refine ⟨Value.slice A4 (((d0.1.take ((d0.2.1 + d1).toNat)).drop ((d0.2.1).toNat)).length) (c4), muns [m4], ?_, ?_, ?_, ?_⟩
      rotate_left
      · (first | exact Seps.grp (ls := [[m4], [mone g0 (.cells [Value.slice A0_0 (d0.1.length) (c0_0), Value.int .i64 (d0.2.1 + d1), Value.bool d0.2.2].toArray E0 (0, 0))]]) hS_ | (rw [hm0_1, hm0_2]; exact Seps.grpM (ls := [[m4], [mone g0 (.cells [Value.slice A0_0 (d0.1.length) (c0_0), Value.int .i64 (d0.2.1 + d1), Value.bool d0.2.2].toArray E0 (0, 0))]]) hS_ (by simp only [List.map, muns_one])) | exact Seps.grpM (ls := [[m4], [mone g0 (.cells [Value.slice A0_0 (d0.1.length) (c0_0), Value.int .i64 (d0.2.1 + d1), Value.bool d0.2.2].toArray E0 (0, 0))]]) hS_ (by simp only [List.map, muns_one]))
      · rw [he0]; exact (Ow.up (OwnL.ow ho4 rfl) ((Seps.self hS_ (List.Sublist.cons_cons _ (List.Sublist.cons _ List.Sublist.slnil))).1 _ (.head _)))
      · rw [hm0_1]; exact (show inK .i64 _ by simp only [inK]; (first | omega | (simp only [List.length_append, List.length_nil, List.length_cons, List.length_take, List.length_drop] at *; omega)))
      all_goals (first | rfl | (simp [*]; done))
theorem bOp_ok (W : World) {g0 : Nat} {E0 : TypeId} {d0 : Dbatchreader} {b0_0 : Value} (hm : mle (mone g0 (.cells [(b0_0 : Value), .int .i64 d0.2.1, .bool d0.2.2].toArray E0 (0, 0))) (wm W)) (h0_0 : Rd (.sl .byte) (mout (wm W) (mone g0 (.cells [(b0_0 : Value), .int .i64 d0.2.1, .bool d0.2.2].toArray E0 (0, 0)))) [b0_0] d0.1) (h0_1 : inK .i64 d0.2.1) (d1 : List UInt8) (h1 : d1.length ≤ maxLen) (e0 : rOk d0.1 d0.2) (e1 : d1.length ≤ 1000000) : CallR Try.prog 121 [.pointer (some ⟨g0, 0, none⟩), str d1] W (mone g0 (.cells [(b0_0 : Value), .int .i64 d0.2.1, .bool d0.2.2].toArray E0 (0, 0))) (fun v m' => ∃ (s0 : List Value), v = .agg s0.toArray ∧ Ow TOp m' s0 ((rOp d0.1 d1 d0.2).1) ∧ m' = mone g0 (.cells [(b0_0 : Value), .int .i64 ((rOp d0.1 d1 d0.2).2.1), .bool ((rOp d0.1 d1 d0.2).2.2)].toArray E0 (0, 0)) ∧ inK .i64 ((rOp d0.1 d1 d0.2).2.1)) := by
  have e0_ := e0; obtain ⟨e0a, e0b⟩ := e0_
  obtain ⟨A0_0, c0_0, rfl, l0_0, k0_0⟩ := h0_0.slice
  simp only [maxLen] at k0_0
  have h0_1' := h0_1; simp only [inK] at h0_1'
  have h1' := h1; simp only [maxLen] at h1'
  refine CallR.ofB (n := 43) hm Try.func121 rfl rfl rfl ?_
  refine VC.rs ?_
  refine VO.alloc 102 rfl tz78 (fun g1 => ?_)
  refine VO.k3 0 1 4 ?_
  refine VC.rs ?_
  refine VO.mv ?_
  refine VO.call 1 rfl fnOk120 rfl rfl (fun W hW => bNum_ok W (d0 := d0) (hW.at (i := 1) rfl) (Rd.mono h0_0 (hW.out (i := 1) (j := 0) rfl rfl)) bdk 1 bdk (by first | assumption | exact ⟨by omega, by omega⟩ | exact ⟨by (simp; done), by (simp; done)⟩)) (fun v3 m3 hv3 => ?_)
  obtain ⟨rfl, rfl, w3_0_1⟩ := hv3
  have hfa4 := (rNum_ok (B := d0.1) (m := 1) (s := d0.2) (by first | assumption | exact ⟨by omega, by omega⟩ | exact ⟨by (simp; done), by (simp; done)⟩) (by omega)).1
  have hfa5 := (rNum_ok (B := d0.1) (m := 1) (s := d0.2) (by first | assumption | exact ⟨by omega, by omega⟩ | exact ⟨by (simp; done), by (simp; done)⟩) (by omega)).1.1
  have hfa6 := (rNum_ok (B := d0.1) (m := 1) (s := d0.2) (by first | assumption | exact ⟨by omega, by omega⟩ | exact ⟨by (simp; done), by (simp; done)⟩) (by omega)).1.2
  have hfa7 := (rNum_ok (B := d0.1) (m := 1) (s := d0.2) (by first | assumption | exact ⟨by omega, by omega⟩ | exact ⟨by (simp; done), by (simp; done)⟩) (by omega)).2
  simp only [inK] at w3_0_1
  refine VO.y rfl (.eql rfl rfl) ?_
  refine VO.y rfl (.bst (cs := [Value.bool (decide (((rNum d0.1 1 d0.2).1) = 1)), str ([]), str ([])]) rfl tst78 tz78 rfl) ?_
  refine VO.alloc 109 rfl tz78 (fun g8 => ?_)
  refine VO.store (k := 3) (c' := [Value.bool (decide (((rNum d0.1 1 d0.2).1) = 1)), str ([]), str ([])]) 109 rfl rfl (.inl tk78) rfl rfl rfl rfl rfl ?_
  refine VO.k4 0 1 4 5 ?_
  refine VC.rs ?_
  refine VO.mv ?_
  refine VO.mv ?_
  refine VO.y rfl (.lenT rfl Try.underlying9) ?_
  refine VO.call 1 rfl fnOk120 rfl rfl (fun W hW => bNum_ok W (d0 := (d0.1, (rNum d0.1 1 d0.2).2)) (hW.at (i := 1) rfl) (Rd.mono h0_0 (hW.out (i := 1) (j := 0) rfl rfl)) bdk ((d1.length : Nat) : Int) bdk (by first | assumption | exact ⟨by omega, by omega⟩ | exact ⟨by (simp; done), by (simp; done)⟩)) (fun v10 m10 hv10 => ?_)
  try dsimp only at hv10
  obtain ⟨rfl, rfl, w10_0_1⟩ := hv10
  have hfa11 := (rNum_ok (B := d0.1) (m := ((d1.length : Nat) : Int)) (s := ((rNum d0.1 1 d0.2).2)) (by first | assumption | exact ⟨by omega, by omega⟩ | exact ⟨by (simp; done), by (simp; done)⟩) (by omega)).1
  have hfa12 := (rNum_ok (B := d0.1) (m := ((d1.length : Nat) : Int)) (s := ((rNum d0.1 1 d0.2).2)) (by first | assumption | exact ⟨by omega, by omega⟩ | exact ⟨by (simp; done), by (simp; done)⟩) (by omega)).1.1
  have hfa13 := (rNum_ok (B := d0.1) (m := ((d1.length : Nat) : Int)) (s := ((rNum d0.1 1 d0.2).2)) (by first | assumption | exact ⟨by omega, by omega⟩ | exact ⟨by (simp; done), by (simp; done)⟩) (by omega)).1.2
  have hfa14 := (rNum_ok (B := d0.1) (m := ((d1.length : Nat) : Int)) (s := ((rNum d0.1 1 d0.2).2)) (by first | assumption | exact ⟨by omega, by omega⟩ | exact ⟨by (simp; done), by (simp; done)⟩) (by omega)).2
  simp only [inK] at w10_0_1
  refine VO.as ?_
  refine VO.kp [1, 109, 102, 0] [(1, mone g0 (.cells [Value.slice A0_0 (d0.1.length) (c0_0), Value.int .i64 ((rNum d0.1 ((d1.length : Nat) : Int) ((rNum d0.1 1 d0.2).2)).2.1), Value.bool ((rNum d0.1 ((d1.length : Nat) : Int) ((rNum d0.1 1 d0.2).2)).2.2)].toArray E0 (0, 0))), (109, mone g8 (.cells [Value.bool (decide (((rNum d0.1 1 d0.2).1) = 1)), str ([]), str ([])].toArray 78 (0, 0))), (102, mone g1 (.cells [Value.bool false, str ([]), str ([])].toArray 78 (0, 0))), (0, mout (wm W) (mone g0 (.cells [Value.slice A0_0 (d0.1.length) (c0_0), Value.int .i64 (d0.2.1), Value.bool d0.2.2].toArray E0 (0, 0))))] ?_
  refine VO.k5 0 1 4 5 6 ?_
  refine VC.seq ?_
  refine VC.regD _ 5 [(0, true), (1, true), (2, true), (3, true), (4, false)] follows (by kernel_rfl) (fun _ h => h.sub [109, 102, 0]) ?_
  refine VD.y rfl rfl (.inl rfl) (.mv rfl) ?_
  refine VD.y rfl rfl (.inl rfl) (.mv rfl) ?_
  refine VD.y rfl rfl (.inl rfl) (.slTHI (((rNum d0.1 ((d1.length : Nat) : Int) ((rNum d0.1 1 d0.2).2)).1).toNat) rfl rfl Try.underlying9 bd bd) ?_
  refine VD.y rfl rfl (.inl rfl) (.mv rfl) ?_
  refine VD.call 1 rfl rfl (.inl rfl) fnOk124 rfl rfl (fun _ _ h => h.sub [109, 102, 0]) (fun W hW => bText_ok W (d0 := (d0.1, (rNum d0.1 ((d1.length : Nat) : Int) ((rNum d0.1 1 d0.2).2)).2)) (hW.at (i := 1) rfl) (Rd.mono h0_0 (hW.out (i := 1) (j := 0) rfl rfl)) bdk 16 bdk (by first | assumption | exact ⟨by omega, by omega⟩ | exact ⟨by (simp; done), by (simp; done)⟩) bd) (fun v15 m15 hv15 => ?_)
  try dsimp only at hv15
  obtain ⟨rfl, rfl, w15_0_1⟩ := hv15
  have hfa16 := (rText_ok (B := d0.1) (m := 16) (s := ((rNum d0.1 ((d1.length : Nat) : Int) ((rNum d0.1 1 d0.2).2)).2)) (by first | assumption | exact ⟨by omega, by omega⟩ | exact ⟨by (simp; done), by (simp; done)⟩) (by omega) (by omega)).1
  have hfa17 := (rText_ok (B := d0.1) (m := 16) (s := ((rNum d0.1 ((d1.length : Nat) : Int) ((rNum d0.1 1 d0.2).2)).2)) (by first | assumption | exact ⟨by omega, by omega⟩ | exact ⟨by (simp; done), by (simp; done)⟩) (by omega) (by omega)).1.1
  have hfa18 := (rText_ok (B := d0.1) (m := 16) (s := ((rNum d0.1 ((d1.length : Nat) : Int) ((rNum d0.1 1 d0.2).2)).2)) (by first | assumption | exact ⟨by omega, by omega⟩ | exact ⟨by (simp; done), by (simp; done)⟩) (by omega) (by omega)).1.2
  have hfa19 := (rText_ok (B := d0.1) (m := 16) (s := ((rNum d0.1 ((d1.length : Nat) : Int) ((rNum d0.1 1 d0.2).2)).2)) (by first | assumption | exact ⟨by omega, by omega⟩ | exact ⟨by (simp; done), by (simp; done)⟩) (by omega) (by omega)).2
  simp only [inK] at w15_0_1
  refine VD.nil rfl ?_ rfl
  refine VO.y rfl (.scat rfl rfl bd) ?_
  refine VO.y rfl (.fa rfl tst78 rfl) ?_
  refine VO.store (k := 1) (c' := [Value.bool (decide (((rNum d0.1 1 d0.2).1) = 1)), str ((d1.take (((rNum d0.1 ((d1.length : Nat) : Int) ((rNum d0.1 1 d0.2).2)).1).toNat)) ++ ((rText d0.1 16 ((rNum d0.1 ((d1.length : Nat) : Int) ((rNum d0.1 1 d0.2).2)).2)).1)), str ([])]) 109 rfl rfl (.inr ⟨tk9, rfl⟩) rfl rfl rfl rfl rfl ?_
  refine VO.k5 0 1 4 5 6 ?_
  refine outN ?_
  refine VC.rs ?_
  refine VO.mv ?_
  refine VO.mv ?_
  refine VO.y rfl (.nilp rfl) ?_
  refine VO.y rfl (.fa rfl tst135 rfl) ?_
  refine VO.y rfl (.ld1 1 rfl tk4 rfl (cellsAt_one rfl rfl)) ?_
  refine VO.mv ?_
  refine VO.decB (t := 27) rfl (fun hc20 => ?_) (fun hc20 => ?_)
  · -- T
    refine VO.gN ?_
    refine VO.gN ?_
    refine VO.gN ?_
    refine VO.gN ?_
    refine VO.gN ?_
    refine VO.gN ?_
    refine VO.y rfl (.pT rfl rfl) ?_
    refine VO.y rfl (.nilp rfl) ?_
    refine VO.y rfl (.fa rfl tst135 rfl) ?_
    refine VO.store (k := 1) (c' := [Value.slice A0_0 (d0.1.length) (c0_0), Value.int .i64 ((rText d0.1 16 ((rNum d0.1 ((d1.length : Nat) : Int) ((rNum d0.1 1 d0.2).2)).2)).2.1), Value.bool true]) 1 rfl rfl (.inr ⟨tk4, rfl⟩) rfl rfl rfl rfl rfl ?_
    refine VO.k5 0 1 4 5 6 ?_
    refine VC.seq ?_
    refine VC.rs ?_
    refine VO.y rfl (.fa rfl tst78 rfl) ?_
    refine VO.y rfl (.ld1 109 rfl tk4 rfl (cellsAt_one rfl rfl)) ?_
    refine VO.kp [1, 109, 102, 0] [(1, mone g0 (.cells [Value.slice A0_0 (d0.1.length) (c0_0), Value.int .i64 ((rText d0.1 16 ((rNum d0.1 ((d1.length : Nat) : Int) ((rNum d0.1 1 d0.2).2)).2)).2.1), Value.bool true].toArray E0 (0, 0))), (109, mone g8 (.cells [Value.bool (decide (((rNum d0.1 1 d0.2).1) = 1)), str ((d1.take (((rNum d0.1 ((d1.length : Nat) : Int) ((rNum d0.1 1 d0.2).2)).1).toNat)) ++ ((rText d0.1 16 ((rNum d0.1 ((d1.length : Nat) : Int) ((rNum d0.1 1 d0.2).2)).2)).1)), str ([])].toArray 78 (0, 0))), (102, mone g1 (.cells [Value.bool false, str ([]), str ([])].toArray 78 (0, 0))), (0, mout (wm W) (mone g0 (.cells [Value.slice A0_0 (d0.1.length) (c0_0), Value.int .i64 (d0.2.1), Value.bool d0.2.2].toArray E0 (0, 0))))] ?_
    refine VO.k6 0 1 4 5 6 38 ?_
    refine VC.cond rfl (fun hc21 => ?_) (fun hc21 => ?_)
    · -- TT
      refine VC.reg ?_
      refine VO.mv ?_
      refine VO.call 1 rfl fnOk124 rfl rfl (fun W hW => bText_ok W (d0 := (d0.1, (rText d0.1 16 ((rNum d0.1 ((d1.length : Nat) : Int) ((rNum d0.1 1 d0.2).2)).2)).2.1, true)) (hW.at (i := 1) rfl) (Rd.mono h0_0 (hW.out (i := 1) (j := 0) rfl rfl)) bdk 32 bdk (by first | assumption | exact ⟨by omega, by omega⟩ | exact ⟨by (simp; done), by (simp; done)⟩) bd) (fun v22 m22 hv22 => ?_)
      try dsimp only at hv22
      obtain ⟨rfl, rfl, w22_0_1⟩ := hv22
      have hfa23 := (rText_ok (B := d0.1) (m := 32) (s := ((rText d0.1 16 ((rNum d0.1 ((d1.length : Nat) : Int) ((rNum d0.1 1 d0.2).2)).2)).2.1, true)) (by first | assumption | exact ⟨by omega, by omega⟩ | exact ⟨by (simp; done), by (simp; done)⟩) (by omega) (by omega)).1
      have hfa24 := (rText_ok (B := d0.1) (m := 32) (s := ((rText d0.1 16 ((rNum d0.1 ((d1.length : Nat) : Int) ((rNum d0.1 1 d0.2).2)).2)).2.1, true)) (by first | assumption | exact ⟨by omega, by omega⟩ | exact ⟨by (simp; done), by (simp; done)⟩) (by omega) (by omega)).1.1
      have hfa25 := (rText_ok (B := d0.1) (m := 32) (s := ((rText d0.1 16 ((rNum d0.1 ((d1.length : Nat) : Int) ((rNum d0.1 1 d0.2).2)).2)).2.1, true)) (by first | assumption | exact ⟨by omega, by omega⟩ | exact ⟨by (simp; done), by (simp; done)⟩) (by omega) (by omega)).1.2
      have hfa26 := (rText_ok (B := d0.1) (m := 32) (s := ((rText d0.1 16 ((rNum d0.1 ((d1.length : Nat) : Int) ((rNum d0.1 1 d0.2).2)).2)).2.1, true)) (by first | assumption | exact ⟨by omega, by omega⟩ | exact ⟨by (simp; done), by (simp; done)⟩) (by omega) (by omega)).2
      simp only [inK] at w22_0_1
      refine VO.y rfl (.fa rfl tst78 rfl) ?_
      refine VO.store (k := 1) (c' := [Value.bool (decide (((rNum d0.1 1 d0.2).1) = 1)), str ((d1.take (((rNum d0.1 ((d1.length : Nat) : Int) ((rNum d0.1 1 d0.2).2)).1).toNat)) ++ ((rText d0.1 16 ((rNum d0.1 ((d1.length : Nat) : Int) ((rNum d0.1 1 d0.2).2)).2)).1)), str ((rText d0.1 32 ((rText d0.1 16 ((rNum d0.1 ((d1.length : Nat) : Int) ((rNum d0.1 1 d0.2).2)).2)).2.1, true)).1)]) 109 rfl rfl (.inr ⟨tk9, rfl⟩) rfl rfl rfl rfl rfl ?_
      refine VO.k6 0 1 4 5 6 38 ?_
      refine outN ?_
      refine VC.rs ?_
      refine VO.y rfl (.ldA 109 rfl tk78 rfl (cellsAt_one rfl rfl)) ?_
      refine VO.store (k := 3) (c' := [Value.bool (decide (((rNum d0.1 1 d0.2).1) = 1)), str ((d1.take (((rNum d0.1 ((d1.length : Nat) : Int) ((rNum d0.1 1 d0.2).2)).1).toNat)) ++ ((rText d0.1 16 ((rNum d0.1 ((d1.length : Nat) : Int) ((rNum d0.1 1 d0.2).2)).2)).1)), str ((rText d0.1 32 ((rText d0.1 16 ((rNum d0.1 ((d1.length : Nat) : Int) ((rNum d0.1 1 d0.2).2)).2)).2.1, true)).1)]) 102 rfl rfl (.inl tk78) rfl rfl rfl rfl rfl ?_
      refine VO.k6 0 1 4 5 6 38 ?_
      refine VC.ret ?_
      refine ⟨_, _, res_run (rs := [.cell 4 78]) rfl (.agg 102 rfl tk78 rfl ⟨_, _, _, mone_self _ _, Nat.le_of_ble_eq_true rfl, rfl⟩ .nil), fun W_ hI => out_of (l := [mone g0 (.cells [Value.slice A0_0 (d0.1.length) (c0_0), Value.int .i64 ((rText d0.1 32 ((rText d0.1 16 ((rNum d0.1 ((d1.length : Nat) : Int) ((rNum d0.1 1 d0.2).2)).2)).2.1, true)).2.1), Value.bool ((rText d0.1 32 ((rText d0.1 16 ((rNum d0.1 ((d1.length : Nat) : Int) ((rNum d0.1 1 d0.2).2)).2)).2.1, true)).2.2)].toArray E0 (0, 0))]) hI [1] rfl rfl (mle_refl _) (fun hS_ => ?_)⟩
      dsimp only [packV]
      have he0 : ((rOp d0.1 d1 d0.2).1 : Ty.Den TOp) = (decide (((rNum d0.1 1 d0.2).1) = 1), (d1.take (((rNum d0.1 ((d1.length : Nat) : Int) ((rNum d0.1 1 d0.2).2)).1).toNat)) ++ ((rText d0.1 16 ((rNum d0.1 ((d1.length : Nat) : Int) ((rNum d0.1 1 d0.2).2)).2)).1), (rText d0.1 32 ((rText d0.1 16 ((rNum d0.1 ((d1.length : Nat) : Int) ((rNum d0.1 1 d0.2).2)).2)).2.1, true)).1) := by first | rfl | (unfold rOp; simp [*])
      have hm0_1 : ((rOp d0.1 d1 d0.2).2.1 : Int) = (rText d0.1 32 ((rText d0.1 16 ((rNum d0.1 ((d1.length : Nat) : Int) ((rNum d0.1 1 d0.2).2)).2)).2.1, true)).2.1 := by first | rfl | (unfold rOp; simp [*])
      have hm0_2 : ((rOp d0.1 d1 d0.2).2.2 : Bool) = (rText d0.1 32 ((rText d0.1 16 ((rNum d0.1 ((d1.length : Nat) : Int) ((rNum d0.1 1 d0.2).2)).2)).2.1, true)).2.2 := by first | rfl | (unfold rOp; simp [*])
      refine ⟨[Value.bool (decide (((rNum d0.1 1 d0.2).1) = 1)), str ((d1.take (((rNum d0.1 ((d1.length : Nat) : Int) ((rNum d0.1 1 d0.2).2)).1).toNat)) ++ ((rText d0.1 16 ((rNum d0.1 ((d1.length : Nat) : Int) ((rNum d0.1 1 d0.2).2)).2)).1)), str ((rText d0.1 32 ((rText d0.1 16 ((rNum d0.1 ((d1.length : Nat) : Int) ((rNum d0.1 1 d0.2).2)).2)).2.1, true)).1)], ?_, ?_, ?_, ?_⟩
      rotate_left
      · rw [he0]; exact (Ow.of (m := mnil) rfl (mk_Op (m := _) (decide (((rNum d0.1 1 d0.2).1) = 1)) ((d1.take (((rNum d0.1 ((d1.length : Nat) : Int) ((rNum d0.1 1 d0.2).2)).1).toNat)) ++ ((rText d0.1 16 ((rNum d0.1 ((d1.length : Nat) : Int) ((rNum d0.1 1 d0.2).2)).2)).1)) ((rText d0.1 32 ((rText d0.1 16 ((rNum d0.1 ((d1.length : Nat) : Int) ((rNum d0.1 1 d0.2).2)).2)).2.1, true)).1) bdm bdm))
      · rw [hm0_1, hm0_2, muns_one]
      · rw [hm0_1]; exact (show inK .i64 _ by simp only [inK]; (first | omega | (simp only [List.length_append, List.length_nil, List.length_cons, List.length_take, List.length_drop] at *; omega)))
      all_goals (first | rfl | (simp [*]; done))
    · -- TF
      refine VC.skip ?_
      refine outN ?_
      refine VC.rs ?_
      refine VO.y rfl (.ldA 109 rfl tk78 rfl (cellsAt_one rfl rfl)) ?_
      refine VO.store (k := 3) (c' := [Value.bool (decide (((rNum d0.1 1 d0.2).1) = 1)), str ((d1.take (((rNum d0.1 ((d1.length : Nat) : Int) ((rNum d0.1 1 d0.2).2)).1).toNat)) ++ ((rText d0.1 16 ((rNum d0.1 ((d1.length : Nat) : Int) ((rNum d0.1 1 d0.2).2)).2)).1)), str ([])]) 102 rfl rfl (.inl tk78) rfl rfl rfl rfl rfl ?_
      refine VO.k6 0 1 4 5 6 38 ?_
      refine VC.ret ?_
      refine ⟨_, _, res_run (rs := [.cell 4 78]) rfl (.agg 102 rfl tk78 rfl ⟨_, _, _, mone_self _ _, Nat.le_of_ble_eq_true rfl, rfl⟩ .nil), fun W_ hI => out_of (l := [mone g0 (.cells [Value.slice A0_0 (d0.1.length) (c0_0), Value.int .i64 ((rText d0.1 16 ((rNum d0.1 ((d1.length : Nat) : Int) ((rNum d0.1 1 d0.2).2)).2)).2.1), Value.bool true].toArray E0 (0, 0))]) hI [1] rfl rfl (mle_refl _) (fun hS_ => ?_)⟩
      dsimp only [packV]
      have he0 : ((rOp d0.1 d1 d0.2).1 : Ty.Den TOp) = (decide (((rNum d0.1 1 d0.2).1) = 1), (d1.take (((rNum d0.1 ((d1.length : Nat) : Int) ((rNum d0.1 1 d0.2).2)).1).toNat)) ++ ((rText d0.1 16 ((rNum d0.1 ((d1.length : Nat) : Int) ((rNum d0.1 1 d0.2).2)).2)).1), []) := by first | rfl | (unfold rOp; simp [*])
      have hm0_1 : ((rOp d0.1 d1 d0.2).2.1 : Int) = (rText d0.1 16 ((rNum d0.1 ((d1.length : Nat) : Int) ((rNum d0.1 1 d0.2).2)).2)).2.1 := by first | rfl | (unfold rOp; simp [*])
      have hm0_2 : ((rOp d0.1 d1 d0.2).2.2 : Bool) = true := by first | rfl | (unfold rOp; simp [*])
      refine ⟨[Value.bool (decide (((rNum d0.1 1 d0.2).1) = 1)), str ((d1.take (((rNum d0.1 ((d1.length : Nat) : Int) ((rNum d0.1 1 d0.2).2)).1).toNat)) ++ ((rText d0.1 16 ((rNum d0.1 ((d1.length : Nat) : Int) ((rNum d0.1 1 d0.2).2)).2)).1)), str ([])], ?_, ?_, ?_, ?_⟩
      rotate_left
      · rw [he0]; exact (Ow.of (m := mnil) rfl (mk_Op (m := _) (decide (((rNum d0.1 1 d0.2).1) = 1)) ((d1.take (((rNum d0.1 ((d1.length : Nat) : Int) ((rNum d0.1 1 d0.2).2)).1).toNat)) ++ ((rText d0.1 16 ((rNum d0.1 ((d1.length : Nat) : Int) ((rNum d0.1 1 d0.2).2)).2)).1)) [] bdm bdm))
      · rw [hm0_1, hm0_2, muns_one]
      · rw [hm0_1]; exact (show inK .i64 _ by simp only [inK]; (first | omega | (simp only [List.length_append, List.length_nil, List.length_cons, List.length_take, List.length_drop] at *; omega)))
      all_goals (first | rfl | (simp [*]; done))
  · -- F
    refine VO.gy rfl ⟨_, rfl, rfl⟩ (.mv rfl) ?_
    refine VO.gy rfl ⟨_, rfl, rfl⟩ (.fa rfl tst78 rfl) ?_
    refine VO.gy rfl ⟨_, rfl, rfl⟩ (.ld1 109 rfl tk9 rfl (cellsAt_one rfl rfl)) ?_
    refine VO.gcallN 127 rfl ⟨_, rfl, rfl⟩ fnOk107 rfl (fun W hW => shared_ok W d1 bdm ((d1.take (((rNum d0.1 ((d1.length : Nat) : Int) ((rNum d0.1 1 d0.2).2)).1).toNat)) ++ ((rText d0.1 16 ((rNum d0.1 ((d1.length : Nat) : Int) ((rNum d0.1 1 d0.2).2)).2)).1)) bdm) (fun v27 m27 hv27 => ?_)
    subst hv27
    have hfa28 := shared_le d1 ((d1.take (((rNum d0.1 ((d1.length : Nat) : Int) ((rNum d0.1 1 d0.2).2)).1).toNat)) ++ ((rText d0.1 16 ((rNum d0.1 ((d1.length : Nat) : Int) ((rNum d0.1 1 d0.2).2)).2)).1))
    refine VO.gy rfl ⟨_, rfl, rfl⟩ (.mv rfl) ?_
    refine VO.gy rfl ⟨_, rfl, rfl⟩ (.neq rfl rfl) ?_
    refine VO.y rfl (.pF rfl rfl) ?_
    refine VO.y rfl (.nilp rfl) ?_
    refine VO.y rfl (.fa rfl tst135 rfl) ?_
    refine VO.store (k := 1) (c' := [Value.slice A0_0 (d0.1.length) (c0_0), Value.int .i64 ((rText d0.1 16 ((rNum d0.1 ((d1.length : Nat) : Int) ((rNum d0.1 1 d0.2).2)).2)).2.1), Value.bool (decide (¬ ((shared d1 ((d1.take (((rNum d0.1 ((d1.length : Nat) : Int) ((rNum d0.1 1 d0.2).2)).1).toNat)) ++ ((rText d0.1 16 ((rNum d0.1 ((d1.length : Nat) : Int) ((rNum d0.1 1 d0.2).2)).2)).1)) : Nat) : Int) = ((rNum d0.1 ((d1.length : Nat) : Int) ((rNum d0.1 1 d0.2).2)).1)))]) 1 rfl rfl (.inr ⟨tk4, rfl⟩) rfl rfl rfl rfl rfl ?_
    refine VO.k5 0 1 4 5 6 ?_
    refine VC.seq ?_
    refine VC.rs ?_
    refine VO.y rfl (.fa rfl tst78 rfl) ?_
    refine VO.y rfl (.ld1 109 rfl tk4 rfl (cellsAt_one rfl rfl)) ?_
    refine VO.kp [1, 109, 102, 0] [(1, mone g0 (.cells [Value.slice A0_0 (d0.1.length) (c0_0), Value.int .i64 ((rText d0.1 16 ((rNum d0.1 ((d1.length : Nat) : Int) ((rNum d0.1 1 d0.2).2)).2)).2.1), Value.bool (decide (¬ ((shared d1 ((d1.take (((rNum d0.1 ((d1.length : Nat) : Int) ((rNum d0.1 1 d0.2).2)).1).toNat)) ++ ((rText d0.1 16 ((rNum d0.1 ((d1.length : Nat) : Int) ((rNum d0.1 1 d0.2).2)).2)).1)) : Nat) : Int) = ((rNum d0.1 ((d1.length : Nat) : Int) ((rNum d0.1 1 d0.2).2)).1)))].toArray E0 (0, 0))), (109, mone g8 (.cells [Value.bool (decide (((rNum d0.1 1 d0.2).1) = 1)), str ((d1.take (((rNum d0.1 ((d1.length : Nat) : Int) ((rNum d0.1 1 d0.2).2)).1).toNat)) ++ ((rText d0.1 16 ((rNum d0.1 ((d1.length : Nat) : Int) ((rNum d0.1 1 d0.2).2)).2)).1)), str ([])].toArray 78 (0, 0))), (102, mone g1 (.cells [Value.bool false, str ([]), str ([])].toArray 78 (0, 0))), (0, mout (wm W) (mone g0 (.cells [Value.slice A0_0 (d0.1.length) (c0_0), Value.int .i64 (d0.2.1), Value.bool d0.2.2].toArray E0 (0, 0))))] ?_
    refine VO.k6 0 1 4 5 6 38 ?_
    refine VC.cond rfl (fun hc29 => ?_) (fun hc29 => ?_)
    · -- FT
      refine VC.reg ?_
      refine VO.mv ?_
      refine VO.call 1 rfl fnOk124 rfl rfl (fun W hW => bText_ok W (d0 := (d0.1, (rText d0.1 16 ((rNum d0.1 ((d1.length : Nat) : Int) ((rNum d0.1 1 d0.2).2)).2)).2.1, decide (¬ ((shared d1 ((d1.take (((rNum d0.1 ((d1.length : Nat) : Int) ((rNum d0.1 1 d0.2).2)).1).toNat)) ++ ((rText d0.1 16 ((rNum d0.1 ((d1.length : Nat) : Int) ((rNum d0.1 1 d0.2).2)).2)).1)) : Nat) : Int) = ((rNum d0.1 ((d1.length : Nat) : Int) ((rNum d0.1 1 d0.2).2)).1)))) (hW.at (i := 1) rfl) (Rd.mono h0_0 (hW.out (i := 1) (j := 0) rfl rfl)) bdk 32 bdk (by first | assumption | exact ⟨by omega, by omega⟩ | exact ⟨by (simp; done), by (simp; done)⟩) bd) (fun v30 m30 hv30 => ?_)
      try dsimp only at hv30
      obtain ⟨rfl, rfl, w30_0_1⟩ := hv30
      have hfa31 := (rText_ok (B := d0.1) (m := 32) (s := ((rText d0.1 16 ((rNum d0.1 ((d1.length : Nat) : Int) ((rNum d0.1 1 d0.2).2)).2)).2.1, decide (¬ ((shared d1 ((d1.take (((rNum d0.1 ((d1.length : Nat) : Int) ((rNum d0.1 1 d0.2).2)).1).toNat)) ++ ((rText d0.1 16 ((rNum d0.1 ((d1.length : Nat) : Int) ((rNum d0.1 1 d0.2).2)).2)).1)) : Nat) : Int) = ((rNum d0.1 ((d1.length : Nat) : Int) ((rNum d0.1 1 d0.2).2)).1)))) (by first | assumption | exact ⟨by omega, by omega⟩ | exact ⟨by (simp; done), by (simp; done)⟩) (by omega) (by omega)).1
      have hfa32 := (rText_ok (B := d0.1) (m := 32) (s := ((rText d0.1 16 ((rNum d0.1 ((d1.length : Nat) : Int) ((rNum d0.1 1 d0.2).2)).2)).2.1, decide (¬ ((shared d1 ((d1.take (((rNum d0.1 ((d1.length : Nat) : Int) ((rNum d0.1 1 d0.2).2)).1).toNat)) ++ ((rText d0.1 16 ((rNum d0.1 ((d1.length : Nat) : Int) ((rNum d0.1 1 d0.2).2)).2)).1)) : Nat) : Int) = ((rNum d0.1 ((d1.length : Nat) : Int) ((rNum d0.1 1 d0.2).2)).1)))) (by first | assumption | exact ⟨by omega, by omega⟩ | exact ⟨by (simp; done), by (simp; done)⟩) (by omega) (by omega)).1.1
      have hfa33 := (rText_ok (B := d0.1) (m := 32) (s := ((rText d0.1 16 ((rNum d0.1 ((d1.length : Nat) : Int) ((rNum d0.1 1 d0.2).2)).2)).2.1, decide (¬ ((shared d1 ((d1.take (((rNum d0.1 ((d1.length : Nat) : Int) ((rNum d0.1 1 d0.2).2)).1).toNat)) ++ ((rText d0.1 16 ((rNum d0.1 ((d1.length : Nat) : Int) ((rNum d0.1 1 d0.2).2)).2)).1)) : Nat) : Int) = ((rNum d0.1 ((d1.length : Nat) : Int) ((rNum d0.1 1 d0.2).2)).1)))) (by first | assumption | exact ⟨by omega, by omega⟩ | exact ⟨by (simp; done), by (simp; done)⟩) (by omega) (by omega)).1.2
      have hfa34 := (rText_ok (B := d0.1) (m := 32) (s := ((rText d0.1 16 ((rNum d0.1 ((d1.length : Nat) : Int) ((rNum d0.1 1 d0.2).2)).2)).2.1, decide (¬ ((shared d1 ((d1.take (((rNum d0.1 ((d1.length : Nat) : Int) ((rNum d0.1 1 d0.2).2)).1).toNat)) ++ ((rText d0.1 16 ((rNum d0.1 ((d1.length : Nat) : Int) ((rNum d0.1 1 d0.2).2)).2)).1)) : Nat) : Int) = ((rNum d0.1 ((d1.length : Nat) : Int) ((rNum d0.1 1 d0.2).2)).1)))) (by first | assumption | exact ⟨by omega, by omega⟩ | exact ⟨by (simp; done), by (simp; done)⟩) (by omega) (by omega)).2
      simp only [inK] at w30_0_1
      refine VO.y rfl (.fa rfl tst78 rfl) ?_
      refine VO.store (k := 1) (c' := [Value.bool (decide (((rNum d0.1 1 d0.2).1) = 1)), str ((d1.take (((rNum d0.1 ((d1.length : Nat) : Int) ((rNum d0.1 1 d0.2).2)).1).toNat)) ++ ((rText d0.1 16 ((rNum d0.1 ((d1.length : Nat) : Int) ((rNum d0.1 1 d0.2).2)).2)).1)), str ((rText d0.1 32 ((rText d0.1 16 ((rNum d0.1 ((d1.length : Nat) : Int) ((rNum d0.1 1 d0.2).2)).2)).2.1, decide (¬ ((shared d1 ((d1.take (((rNum d0.1 ((d1.length : Nat) : Int) ((rNum d0.1 1 d0.2).2)).1).toNat)) ++ ((rText d0.1 16 ((rNum d0.1 ((d1.length : Nat) : Int) ((rNum d0.1 1 d0.2).2)).2)).1)) : Nat) : Int) = ((rNum d0.1 ((d1.length : Nat) : Int) ((rNum d0.1 1 d0.2).2)).1)))).1)]) 109 rfl rfl (.inr ⟨tk9, rfl⟩) rfl rfl rfl rfl rfl ?_
      refine VO.k6 0 1 4 5 6 38 ?_
      refine outN ?_
      refine VC.rs ?_
      refine VO.y rfl (.ldA 109 rfl tk78 rfl (cellsAt_one rfl rfl)) ?_
      refine VO.store (k := 3) (c' := [Value.bool (decide (((rNum d0.1 1 d0.2).1) = 1)), str ((d1.take (((rNum d0.1 ((d1.length : Nat) : Int) ((rNum d0.1 1 d0.2).2)).1).toNat)) ++ ((rText d0.1 16 ((rNum d0.1 ((d1.length : Nat) : Int) ((rNum d0.1 1 d0.2).2)).2)).1)), str ((rText d0.1 32 ((rText d0.1 16 ((rNum d0.1 ((d1.length : Nat) : Int) ((rNum d0.1 1 d0.2).2)).2)).2.1, decide (¬ ((shared d1 ((d1.take (((rNum d0.1 ((d1.length : Nat) : Int) ((rNum d0.1 1 d0.2).2)).1).toNat)) ++ ((rText d0.1 16 ((rNum d0.1 ((d1.length : Nat) : Int) ((rNum d0.1 1 d0.2).2)).2)).1)) : Nat) : Int) = ((rNum d0.1 ((d1.length : Nat) : Int) ((rNum d0.1 1 d0.2).2)).1)))).1)]) 102 rfl rfl (.inl tk78) rfl rfl rfl rfl rfl ?_
      refine VO.k6 0 1 4 5 6 38 ?_
      refine VC.ret ?_
      refine ⟨_, _, res_run (rs := [.cell 4 78]) rfl (.agg 102 rfl tk78 rfl ⟨_, _, _, mone_self _ _, Nat.le_of_ble_eq_true rfl, rfl⟩ .nil), fun W_ hI => out_of (l := [mone g0 (.cells [Value.slice A0_0 (d0.1.length) (c0_0), Value.int .i64 ((rText d0.1 32 ((rText d0.1 16 ((rNum d0.1 ((d1.length : Nat) : Int) ((rNum d0.1 1 d0.2).2)).2)).2.1, decide (¬ ((shared d1 ((d1.take (((rNum d0.1 ((d1.length : Nat) : Int) ((rNum d0.1 1 d0.2).2)).1).toNat)) ++ ((rText d0.1 16 ((rNum d0.1 ((d1.length : Nat) : Int) ((rNum d0.1 1 d0.2).2)).2)).1)) : Nat) : Int) = ((rNum d0.1 ((d1.length : Nat) : Int) ((rNum d0.1 1 d0.2).2)).1)))).2.1), Value.bool ((rText d0.1 32 ((rText d0.1 16 ((rNum d0.1 ((d1.length : Nat) : Int) ((rNum d0.1 1 d0.2).2)).2)).2.1, decide (¬ ((shared d1 ((d1.take (((rNum d0.1 ((d1.length : Nat) : Int) ((rNum d0.1 1 d0.2).2)).1).toNat)) ++ ((rText d0.1 16 ((rNum d0.1 ((d1.length : Nat) : Int) ((rNum d0.1 1 d0.2).2)).2)).1)) : Nat) : Int) = ((rNum d0.1 ((d1.length : Nat) : Int) ((rNum d0.1 1 d0.2).2)).1)))).2.2)].toArray E0 (0, 0))]) hI [1] rfl rfl (mle_refl _) (fun hS_ => ?_)⟩
      dsimp only [packV]
      have he0 : ((rOp d0.1 d1 d0.2).1 : Ty.Den TOp) = (decide (((rNum d0.1 1 d0.2).1) = 1), (d1.take (((rNum d0.1 ((d1.length : Nat) : Int) ((rNum d0.1 1 d0.2).2)).1).toNat)) ++ ((rText d0.1 16 ((rNum d0.1 ((d1.length : Nat) : Int) ((rNum d0.1 1 d0.2).2)).2)).1), (rText d0.1 32 ((rText d0.1 16 ((rNum d0.1 ((d1.length : Nat) : Int) ((rNum d0.1 1 d0.2).2)).2)).2.1, decide (¬ ((shared d1 ((d1.take (((rNum d0.1 ((d1.length : Nat) : Int) ((rNum d0.1 1 d0.2).2)).1).toNat)) ++ ((rText d0.1 16 ((rNum d0.1 ((d1.length : Nat) : Int) ((rNum d0.1 1 d0.2).2)).2)).1)) : Nat) : Int) = ((rNum d0.1 ((d1.length : Nat) : Int) ((rNum d0.1 1 d0.2).2)).1)))).1) := by first | rfl | (unfold rOp; simp [*])
      have hm0_1 : ((rOp d0.1 d1 d0.2).2.1 : Int) = (rText d0.1 32 ((rText d0.1 16 ((rNum d0.1 ((d1.length : Nat) : Int) ((rNum d0.1 1 d0.2).2)).2)).2.1, decide (¬ ((shared d1 ((d1.take (((rNum d0.1 ((d1.length : Nat) : Int) ((rNum d0.1 1 d0.2).2)).1).toNat)) ++ ((rText d0.1 16 ((rNum d0.1 ((d1.length : Nat) : Int) ((rNum d0.1 1 d0.2).2)).2)).1)) : Nat) : Int) = ((rNum d0.1 ((d1.length : Nat) : Int) ((rNum d0.1 1 d0.2).2)).1)))).2.1 := by first | rfl | (unfold rOp; simp [*])
      have hm0_2 : ((rOp d0.1 d1 d0.2).2.2 : Bool) = (rText d0.1 32 ((rText d0.1 16 ((rNum d0.1 ((d1.length : Nat) : Int) ((rNum d0.1 1 d0.2).2)).2)).2.1, decide (¬ ((shared d1 ((d1.take (((rNum d0.1 ((d1.length : Nat) : Int) ((rNum d0.1 1 d0.2).2)).1).toNat)) ++ ((rText d0.1 16 ((rNum d0.1 ((d1.length : Nat) : Int) ((rNum d0.1 1 d0.2).2)).2)).1)) : Nat) : Int) = ((rNum d0.1 ((d1.length : Nat) : Int) ((rNum d0.1 1 d0.2).2)).1)))).2.2 := by first | rfl | (unfold rOp; simp [*])
      refine ⟨[Value.bool (decide (((rNum d0.1 1 d0.2).1) = 1)), str ((d1.take (((rNum d0.1 ((d1.length : Nat) : Int) ((rNum d0.1 1 d0.2).2)).1).toNat)) ++ ((rText d0.1 16 ((rNum d0.1 ((d1.length : Nat) : Int) ((rNum d0.1 1 d0.2).2)).2)).1)), str ((rText d0.1 32 ((rText d0.1 16 ((rNum d0.1 ((d1.length : Nat) : Int) ((rNum d0.1 1 d0.2).2)).2)).2.1, decide (¬ ((shared d1 ((d1.take (((rNum d0.1 ((d1.length : Nat) : Int) ((rNum d0.1 1 d0.2).2)).1).toNat)) ++ ((rText d0.1 16 ((rNum d0.1 ((d1.length : Nat) : Int) ((rNum d0.1 1 d0.2).2)).2)).1)) : Nat) : Int) = ((rNum d0.1 ((d1.length : Nat) : Int) ((rNum d0.1 1 d0.2).2)).1)))).1)], ?_, ?_, ?_, ?_⟩
      rotate_left
      · rw [he0]; exact (Ow.of (m := mnil) rfl (mk_Op (m := _) (decide (((rNum d0.1 1 d0.2).1) = 1)) ((d1.take (((rNum d0.1 ((d1.length : Nat) : Int) ((rNum d0.1 1 d0.2).2)).1).toNat)) ++ ((rText d0.1 16 ((rNum d0.1 ((d1.length : Nat) : Int) ((rNum d0.1 1 d0.2).2)).2)).1)) ((rText d0.1 32 ((rText d0.1 16 ((rNum d0.1 ((d1.length : Nat) : Int) ((rNum d0.1 1 d0.2).2)).2)).2.1, decide (¬ ((shared d1 ((d1.take (((rNum d0.1 ((d1.length : Nat) : Int) ((rNum d0.1 1 d0.2).2)).1).toNat)) ++ ((rText d0.1 16 ((rNum d0.1 ((d1.length : Nat) : Int) ((rNum d0.1 1 d0.2).2)).2)).1)) : Nat) : Int) = ((rNum d0.1 ((d1.length : Nat) : Int) ((rNum d0.1 1 d0.2).2)).1)))).1) bdm bdm))
      · rw [hm0_1, hm0_2, muns_one]
      · rw [hm0_1]; exact (show inK .i64 _ by simp only [inK]; (first | omega | (simp only [List.length_append, List.length_nil, List.length_cons, List.length_take, List.length_drop] at *; omega)))
      all_goals (first | rfl | (simp [*]; done))
    · -- FF
      refine VC.skip ?_
      refine outN ?_
      refine VC.rs ?_
      refine VO.y rfl (.ldA 109 rfl tk78 rfl (cellsAt_one rfl rfl)) ?_
      refine VO.store (k := 3) (c' := [Value.bool (decide (((rNum d0.1 1 d0.2).1) = 1)), str ((d1.take (((rNum d0.1 ((d1.length : Nat) : Int) ((rNum d0.1 1 d0.2).2)).1).toNat)) ++ ((rText d0.1 16 ((rNum d0.1 ((d1.length : Nat) : Int) ((rNum d0.1 1 d0.2).2)).2)).1)), str ([])]) 102 rfl rfl (.inl tk78) rfl rfl rfl rfl rfl ?_
      refine VO.k6 0 1 4 5 6 38 ?_
      refine VC.ret ?_
      refine ⟨_, _, res_run (rs := [.cell 4 78]) rfl (.agg 102 rfl tk78 rfl ⟨_, _, _, mone_self _ _, Nat.le_of_ble_eq_true rfl, rfl⟩ .nil), fun W_ hI => out_of (l := [mone g0 (.cells [Value.slice A0_0 (d0.1.length) (c0_0), Value.int .i64 ((rText d0.1 16 ((rNum d0.1 ((d1.length : Nat) : Int) ((rNum d0.1 1 d0.2).2)).2)).2.1), Value.bool (decide (¬ ((shared d1 ((d1.take (((rNum d0.1 ((d1.length : Nat) : Int) ((rNum d0.1 1 d0.2).2)).1).toNat)) ++ ((rText d0.1 16 ((rNum d0.1 ((d1.length : Nat) : Int) ((rNum d0.1 1 d0.2).2)).2)).1)) : Nat) : Int) = ((rNum d0.1 ((d1.length : Nat) : Int) ((rNum d0.1 1 d0.2).2)).1)))].toArray E0 (0, 0))]) hI [1] rfl rfl (mle_refl _) (fun hS_ => ?_)⟩
      dsimp only [packV]
      have he0 : ((rOp d0.1 d1 d0.2).1 : Ty.Den TOp) = (decide (((rNum d0.1 1 d0.2).1) = 1), (d1.take (((rNum d0.1 ((d1.length : Nat) : Int) ((rNum d0.1 1 d0.2).2)).1).toNat)) ++ ((rText d0.1 16 ((rNum d0.1 ((d1.length : Nat) : Int) ((rNum d0.1 1 d0.2).2)).2)).1), []) := by first | rfl | (unfold rOp; simp [*])
      have hm0_1 : ((rOp d0.1 d1 d0.2).2.1 : Int) = (rText d0.1 16 ((rNum d0.1 ((d1.length : Nat) : Int) ((rNum d0.1 1 d0.2).2)).2)).2.1 := by first | rfl | (unfold rOp; simp [*])
      have hm0_2 : ((rOp d0.1 d1 d0.2).2.2 : Bool) = decide (¬ ((shared d1 ((d1.take (((rNum d0.1 ((d1.length : Nat) : Int) ((rNum d0.1 1 d0.2).2)).1).toNat)) ++ ((rText d0.1 16 ((rNum d0.1 ((d1.length : Nat) : Int) ((rNum d0.1 1 d0.2).2)).2)).1)) : Nat) : Int) = ((rNum d0.1 ((d1.length : Nat) : Int) ((rNum d0.1 1 d0.2).2)).1)) := by first | rfl | (unfold rOp; simp [*])
      refine ⟨[Value.bool (decide (((rNum d0.1 1 d0.2).1) = 1)), str ((d1.take (((rNum d0.1 ((d1.length : Nat) : Int) ((rNum d0.1 1 d0.2).2)).1).toNat)) ++ ((rText d0.1 16 ((rNum d0.1 ((d1.length : Nat) : Int) ((rNum d0.1 1 d0.2).2)).2)).1)), str ([])], ?_, ?_, ?_, ?_⟩
      rotate_left
      · rw [he0]; exact (Ow.of (m := mnil) rfl (mk_Op (m := _) (decide (((rNum d0.1 1 d0.2).1) = 1)) ((d1.take (((rNum d0.1 ((d1.length : Nat) : Int) ((rNum d0.1 1 d0.2).2)).1).toNat)) ++ ((rText d0.1 16 ((rNum d0.1 ((d1.length : Nat) : Int) ((rNum d0.1 1 d0.2).2)).2)).1)) [] bdm bdm))
      · rw [hm0_1, hm0_2, muns_one]
      · rw [hm0_1]; exact (show inK .i64 _ by simp only [inK]; (first | omega | (simp only [List.length_append, List.length_nil, List.length_cons, List.length_take, List.length_drop] at *; omega)))
      all_goals (first | rfl | (simp [*]; done))
end
section
set_option linter.unusedVariables false
set_option linter.unusedSimpArgs false
set_option maxRecDepth 4000
theorem fnOk65 : fnOk Try.prog 65 = true := by kernel_rfl
theorem SameCommit_ok (W : World) {v0 : List Value} {d0 : DCommit} (h0 : Rd TCommit (wm W) v0 d0) {v1 : List Value} {d1 : DCommit} (h1 : Rd TCommit (wm W) v1 d1) : CallR Try.prog 65 [.agg v0.toArray, .agg v1.toArray] W (mnil) (fun v m' => v = .bool (decide (d0 = d1))) := by
  obtain ⟨p0_A2, p0_c2, rfl, p0_0, p0_1, p0_2⟩ := open_Commit (x0 := d0.1) (x1 := d0.2.1) (x2 := d0.2.2) h0
  simp only [inK] at p0_0
  simp only [inK] at p0_1
  have p0_r2 := Rd.room p0_2
  obtain ⟨p1_A2, p1_c2, rfl, p1_0, p1_1, p1_2⟩ := open_Commit (x0 := d1.1) (x1 := d1.2.1) (x2 := d1.2.2) h1
  simp only [inK] at p1_0
  simp only [inK] at p1_1
  have p1_r2 := Rd.room p1_2
  refine CallR.ofA (n := 24) Try.func65 rfl rfl rfl ?_
  refine VC.rs ?_
  refine VO.box (cs := [Value.int .i64 (d0.1), Value.int .i64 (d0.2.1), Value.slice p0_A2 (d0.2.2.length) (p0_c2)]) 102 rfl rfl rfl (fun g1 => ?_)
  refine VO.box (cs := [Value.int .i64 (d1.1), Value.int .i64 (d1.2.1), Value.slice p1_A2 (d1.2.2.length) (p1_c2)]) 104 rfl rfl rfl (fun g3 => ?_)
  refine VO.as ?_
  refine VO.k5 0 1 2 3 4 ?_
  refine VC.rs ?_
  refine VO.y rfl (.fa rfl tst32 rfl) ?_
  refine VO.y rfl (.ld1 102 rfl tk3 rfl (cellsAt_one rfl rfl)) ?_
  refine VO.y rfl (.fa rfl tst32 rfl) ?_
  refine VO.y rfl (.ld1 104 rfl tk3 rfl (cellsAt_one rfl rfl)) ?_
  refine VO.y rfl (.eql rfl rfl) ?_
  refine VO.mv ?_
  refine VO.dec (t := 10) rfl (fun hc5 => ?_) (fun hc5 => ?_)
  · -- T
    refine VO.gy rfl ⟨_, rfl, rfl⟩ (.fa rfl tst32 rfl) ?_
    refine VO.gy rfl ⟨_, rfl, rfl⟩ (.ld1 102 rfl tk3 rfl (cellsAt_one rfl rfl)) ?_
    refine VO.gy rfl ⟨_, rfl, rfl⟩ (.fa rfl tst32 rfl) ?_
    refine VO.gy rfl ⟨_, rfl, rfl⟩ (.ld1 104 rfl tk3 rfl (cellsAt_one rfl rfl)) ?_
    refine VO.gy rfl ⟨_, rfl, rfl⟩ (.eql rfl rfl) ?_
    refine VO.y rfl (.pT rfl rfl) ?_
    refine VO.mv ?_
    refine VO.dec (t := 17) rfl (fun hc6 => ?_) (fun hc6 => ?_)
    · -- TT
      refine VO.gy rfl ⟨_, rfl, rfl⟩ (.fa rfl tst32 rfl) ?_
      refine VO.gy rfl ⟨_, rfl, rfl⟩ (.ld1 102 rfl tk30 rfl (cellsAt_one rfl rfl)) ?_
      refine VO.gy rfl ⟨_, rfl, rfl⟩ (.fa rfl tst32 rfl) ?_
      refine VO.gy rfl ⟨_, rfl, rfl⟩ (.ld1 104 rfl tk30 rfl (cellsAt_one rfl rfl)) ?_
      refine VO.gcallN 107 rfl ⟨_, rfl, rfl⟩ fnOk100 rfl (fun W hW => SameOps_ok W (Rd.mono p0_2 (hW.at (i := 0) rfl)) (Rd.mono p1_2 (hW.at (i := 0) rfl))) (fun v7 m7 hv7 => ?_)
      subst hv7
      refine VO.y rfl (.pT rfl rfl) ?_
      refine VO.as ?_
      refine VO.k5 0 1 2 3 4 ?_
      refine VC.ret ?_
      refine ⟨_, _, res_run (rs := [.tmp 4]) rfl (.tmp rfl .nil), fun W_ hI => out_of (l := []) hI [] rfl rfl (mle_refl _) (fun hS_ => ?_)⟩
      dsimp only [packV]
      all_goals (first | rfl | (first | exact congrArg Value.bool (decide_eq_false (fun e => by subst e; exact absurd rfl ‹¬ _ = _›)).symm | exact congrArg Value.bool (decide_eq_decide.2 ⟨fun h => commit_ext ‹_› ‹_› h, fun e => by rw [e]⟩)))
    · -- TF
      refine VO.gN ?_
      refine VO.gN ?_
      refine VO.gN ?_
      refine VO.gN ?_
      refine VO.gN ?_
      refine VO.y rfl (.pF rfl rfl) ?_
      refine VO.as ?_
      refine VO.k5 0 1 2 3 4 ?_
      refine VC.ret ?_
      refine ⟨_, _, res_run (rs := [.tmp 4]) rfl (.tmp rfl .nil), fun W_ hI => out_of (l := []) hI [] rfl rfl (mle_refl _) (fun hS_ => ?_)⟩
      dsimp only [packV]
      all_goals (first | rfl | (first | exact congrArg Value.bool (decide_eq_false (fun e => by subst e; exact absurd rfl ‹¬ _ = _›)).symm | exact congrArg Value.bool (decide_eq_decide.2 ⟨fun h => commit_ext ‹_› ‹_› h, fun e => by rw [e]⟩)))
  · -- F
    refine VO.gN ?_
    refine VO.gN ?_
    refine VO.gN ?_
    refine VO.gN ?_
    refine VO.gN ?_
    refine VO.y rfl (.pF rfl rfl) ?_
    refine VO.mv ?_
    refine VO.gN ?_
    refine VO.gN ?_
    refine VO.gN ?_
    refine VO.gN ?_
    refine VO.gN ?_
    refine VO.y rfl (.pF rfl rfl) ?_
    refine VO.as ?_
    refine VO.k5 0 1 2 3 4 ?_
    refine VC.ret ?_
    refine ⟨_, _, res_run (rs := [.tmp 4]) rfl (.tmp rfl .nil), fun W_ hI => out_of (l := []) hI [] rfl rfl (mle_refl _) (fun hS_ => ?_)⟩
    dsimp only [packV]
    all_goals (first | rfl | (first | exact congrArg Value.bool (decide_eq_false (fun e => by subst e; exact absurd rfl ‹¬ _ = _›)).symm | exact congrArg Value.bool (decide_eq_decide.2 ⟨fun h => commit_ext ‹_› ‹_› h, fun e => by rw [e]⟩)))
theorem SameCommits_ok (W : World) {v0 : Value} {d0 : List DCommit} (h0 : Rd (.sl TCommit) (wm W) [v0] d0) {v1 : Value} {d1 : List DCommit} (h1 : Rd (.sl TCommit) (wm W) [v1] d1) : CallR Try.prog 63 [v0, v1] W (mnil) (fun v m' => v = .bool (decide (d0 = d1))) := by
  obtain ⟨A0, c0, rfl, l0, k0⟩ := h0.slice
  simp only [maxLen] at k0
  obtain ⟨A1, c1, rfl, l1, k1⟩ := h1.slice
  simp only [maxLen] at k1
  refine CallR.ofA (n := 27) Try.func63 rfl rfl rfl ?_
  refine VC.rs ?_
  refine VO.as ?_
  refine VO.k3 0 1 4 ?_
  refine VC.seq ?_
  refine VC.rs ?_
  refine VO.mv ?_
  refine VO.y rfl (.lenS rfl tsl22) ?_
  refine VO.mv ?_
  refine VO.y rfl (.lenS rfl tsl22) ?_
  refine VO.y rfl (.neq rfl rfl) ?_
  refine VO.k4 0 1 4 10 ?_
  refine VC.cond rfl (fun hc1 => ?_) (fun hc1 => ?_)
  · -- T
    refine VC.rs ?_
    refine VO.as ?_
    refine VO.kp [0] [(0, wm W)] ?_
    refine VO.k4 0 1 4 10 ?_
    refine VC.ret ?_
    refine outR ?_
    refine ⟨_, _, res_run (rs := [.tmp 4]) rfl (.tmp rfl .nil), fun W_ hI => out_of (l := []) hI [] rfl rfl (mle_refl _) (fun hS_ => ?_)⟩
    dsimp only [packV]
    all_goals (first | rfl | (simp [len_ne hc1]))
  · -- F
    refine VC.skip ?_
    refine outN ?_
    refine VC.seq ?_
    refine VC.rs ?_
    refine VO.as ?_
    refine VO.kp [0] [(0, wm W)] ?_
    refine VO.k5 0 1 4 5 10 ?_
    refine VC.block ?_
    refine VC.loop (G := Nat) (fun k => [(5, Value.int .i64 (((k : Nat) : Int))), (0, Value.slice A0 (d0.length) (c0)), (1, Value.slice A1 (d1.length) (c1)), (10, Value.bool (decide (¬ ((d0.length : Nat) : Int) = ((d1.length : Nat) : Int))))]) (fun k => [(0, wm W)]) (fun k => (k ≤ d0.length) ∧ (d0.take k = d1.take k)) (fun k => d0.length - k) 0 (⟨by omega, by rfl⟩) ⟨⟨rfl, rfl, rfl, rfl, trivial⟩, fun _ h => h.sub [0]⟩ ?_
    rintro k ⟨hk, ht⟩
    refine VC.seq ?_
    refine VC.rs ?_
    refine VO.mv ?_
    refine VO.mv ?_
    refine VO.y rfl (.lenS rfl tsl22) ?_
    refine VO.y rfl (.lss rfl rfl) ?_
    refine VO.k5 0 1 5 10 14 ?_
    refine VC.cond rfl (fun hc2 => ?_) (fun hc2 => ?_)
    · -- FT
      refine VC.skip ?_
      refine outN ?_
      refine VC.seq ?_
      refine VC.block ?_
      refine VC.seq ?_
      refine VC.regD _ 8 [(0, true), (1, true), (2, true), (3, true), (4, true), (5, true), (6, true), (7, true)] follows (by kernel_rfl) (fun _ h => h.sub [0]) ?_
      refine VD.y rfl rfl (.inl rfl) (.mv rfl) ?_
      refine VD.y rfl rfl (.inl rfl) (.mv rfl) ?_
      obtain ⟨x3, hx3⟩ : ∃ z_, (d0)[k]? = some z_ := ⟨_, List.getElem?_eq_getElem bd⟩
      obtain ⟨gg3, oo3, ec3, ea3, hce3, hre3⟩ := h0.elem hx3
      cases ea3
      obtain ⟨q3_A2, q3_c2, rfl, q3_0, q3_1, q3_2⟩ := open_Commit (x0 := x3.1) (x1 := x3.2.1) (x2 := x3.2.2) hre3
      simp only [inK] at q3_0
      simp only [inK] at q3_1
      have q3_r2 := Rd.room q3_2
      refine VD.y rfl rfl (.inl rfl) (.ixI k rfl rfl tsl22 rfl bd) ?_
      refine VD.y rfl rfl (.inl rfl) (.ldA 0 rfl tk32 rfl hce3) ?_
      refine VD.y rfl rfl (.inl rfl) (.mv rfl) ?_
      refine VD.y rfl rfl (.inl rfl) (.mv rfl) ?_
      obtain ⟨x4, hx4⟩ : ∃ z_, (d1)[k]? = some z_ := ⟨_, List.getElem?_eq_getElem bd⟩
      obtain ⟨gg4, oo4, ec4, ea4, hce4, hre4⟩ := h1.elem hx4
      cases ea4
      obtain ⟨q4_A2, q4_c2, rfl, q4_0, q4_1, q4_2⟩ := open_Commit (x0 := x4.1) (x1 := x4.2.1) (x2 := x4.2.2) hre4
      simp only [inK] at q4_0
      simp only [inK] at q4_1
      have q4_r2 := Rd.room q4_2
      refine VD.y rfl rfl (.inl rfl) (.ixI k rfl rfl tsl22 rfl bd) ?_
      refine VD.y rfl rfl (.inl rfl) (.ldA 0 rfl tk32 rfl hce4) ?_
      refine VD.nil rfl ?_ rfl
      refine VO.callN 105 rfl fnOk65 rfl (fun W hW => SameCommit_ok W (Rd.mono hre3 (hW.at (i := 0) rfl)) (Rd.mono hre4 (hW.at (i := 0) rfl))) (fun v5 m5 hv5 => ?_)
      subst hv5
      refine VO.y rfl (.notD rfl) ?_
      refine VO.k6 0 1 5 10 14 26 ?_
      refine outN ?_
      refine VC.cond rfl (fun hc6 => ?_) (fun hc6 => ?_)
      · -- FTT
        refine VC.rs ?_
        refine VO.as ?_
        refine VO.kp [0] [(0, wm W)] ?_
        refine VO.k7 0 1 4 5 10 14 26 ?_
        refine VC.ret ?_
        refine outBR ?_
        refine outR ?_
        refine outR ?_
        refine outBR ?_
        refine outR ?_
        refine ⟨_, _, res_run (rs := [.tmp 4]) rfl (.tmp rfl .nil), fun W_ hI => out_of (l := []) hI [] rfl rfl (mle_refl _) (fun hS_ => ?_)⟩
        dsimp only [packV]
        all_goals (first | rfl | (simp [get_ne ‹d0[k]? = some _› ‹d1[k]? = some _› (‹¬ _ = _›)]))
      · -- FTF
        refine VC.skip ?_
        refine outBN ?_
        refine outN ?_
        refine VC.reg ?_
        refine VO.mv ?_
        refine VO.y rfl (.add (c := ((k + 1 : Nat) : Int)) rfl rfl (by omega) ⟨bd, bd⟩) ?_
        refine VO.as ?_
        refine VO.kp [0] [(0, wm W)] ?_
        refine VO.k6 0 1 5 10 14 26 ?_
        exact outN ⟨k + 1, ⟨by omega, by exact take_next ht ‹d0[k]? = some _› ‹d1[k]? = some _› (Decidable.not_not.1 ‹¬ ¬ _ = _›)⟩, bd, ⟨⟨rfl, rfl, rfl, rfl, trivial⟩, fun _ h => Inv.sub h [0]⟩⟩
    · -- FF
      refine VC.exit ?_
      refine outE ?_
      refine outE ?_
      refine outBB ?_
      refine outN ?_
      refine VC.rs ?_
      refine VO.as ?_
      refine VO.k6 0 1 4 5 10 14 ?_
      refine VC.ret ?_
      refine ⟨_, _, res_run (rs := [.tmp 4]) rfl (.tmp rfl .nil), fun W_ hI => out_of (l := []) hI [] rfl rfl (mle_refl _) (fun hS_ => ?_)⟩
      dsimp only [packV]
      all_goals (first | rfl | (simp [take_all ht (by omega) (by omega)]))
end
section
set_option linter.unusedVariables false
def sGo (en : Int) : Int → Int → Nat → List DStart → Prop
  | _, _, _, [] => True
  | le, lf, i, s :: r => le < s.1 ∧ s.1 ≤ 1048576 ∧ lf < s.2 ∧ s.2 ≤ en ∧ (i = 0 → s.2 = 1) ∧ sGo en s.1 s.2 (i + 1) r
instance decGo (en : Int) : ∀ (le lf : Int) (i : Nat) (l : List DStart), Decidable (sGo en le lf i l)
  | _, _, _, [] => isTrue trivial
  | le, lf, i, s :: r => by
    have := decGo en s.1 s.2 (i + 1) r
    unfold sGo; infer_instance
def sCheck (l : List DStart) (en : Int) : Int := if 0 ≤ en ∧ en ≤ 1048576 ∧ ((l.length : Int) = 0 ↔ en = 0) ∧ sGo en 0 0 0 l then 0 else 5
def bareM (m : DMessage) : Prop := m.2.2.1 = 0 ∧ m.2.2.2.1 = 0 ∧ m.2.2.2.2.1.length = 0 ∧ m.2.2.2.2.2.1 = 0 ∧ m.2.2.2.2.2.2.1 = 0 ∧ m.2.2.2.2.2.2.2.length = 0
instance (m : DMessage) : Decidable (bareM m) := by unfold bareM; infer_instance
def lastOk (l : List DStart) (e : Int) : Bool := match l.getLast? with
  | some s => decide (s.1 ≤ e)
  | none => true
def helloM (m : DMessage) : Prop := (1 ≤ m.2.2.1 ∧ m.2.2.1 ≤ 3) ∧ sCheck m.2.2.2.2.1 m.2.2.2.1 = 0 ∧ lastOk m.2.2.2.2.1 m.2.1 = true ∧ m.2.2.2.2.2.1 = 0 ∧ m.2.2.2.2.2.2.1 = 0 ∧ m.2.2.2.2.2.2.2.length = 0
instance (m : DMessage) : Decidable (helloM m) := by unfold helloM; infer_instance
def shipM (m : DMessage) : Prop := (1 ≤ m.2.2.2.2.2.1 ∧ m.2.2.2.2.2.1 ≤ 1048576) ∧ (0 ≤ m.2.2.2.2.2.2.1 ∧ m.2.2.2.2.2.2.1 ≤ m.2.1) ∧ (m.2.2.2.2.2.2.1 = 0 ↔ m.2.2.2.2.2.1 = 1) ∧ m.2.2.2.2.2.2.2.length ≤ 4 ∧
  (cFollows m.2.2.2.2.2.2.1 (m.2.2.2.2.2.1 - 1) m.2.2.2.2.2.2.2).1 = 0 ∧ (∀ c ∈ m.2.2.2.2.2.2.2, c.1 ≤ m.2.1) ∧ m.2.2.1 = 0 ∧ m.2.2.2.1 = 0 ∧ m.2.2.2.2.1.length = 0
instance (m : DMessage) : Decidable (shipM m) := by unfold shipM; infer_instance
def ackM (m : DMessage) : Prop := (0 ≤ m.2.2.2.1 ∧ m.2.2.2.1 ≤ 1048576) ∧ m.2.2.1 = 0 ∧ m.2.2.2.2.1.length = 0 ∧ m.2.2.2.2.2.1 = 0 ∧ m.2.2.2.2.2.2.1 = 0 ∧ m.2.2.2.2.2.2.2.length = 0
instance (m : DMessage) : Decidable (ackM m) := by unfold ackM; infer_instance
end
section
set_option linter.unusedVariables false
def epochAt (l : List DCommit) (n : Int) : Int := match l[n.toNat]? with
  | some c => c.1
  | none => 0
def fitsM (l : List DCommit) (m : DMessage) : Prop := (1 < m.2.2.2.2.2.1 → epochAt l (m.2.2.2.2.2.1 - 2) = m.2.2.2.2.2.2.1) ∧ ∀ c ∈ m.2.2.2.2.2.2.2, c.2.1 ≤ l.length → epochAt l (c.2.1 - 1) = c.1
instance (l : List DCommit) (m : DMessage) : Decidable (fitsM l m) := by unfold fitsM; infer_instance
end
end Go.Proofs.Ytbjkfnnabnacfaa
