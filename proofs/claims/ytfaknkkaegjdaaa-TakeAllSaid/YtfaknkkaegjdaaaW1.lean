/- Walks, printed by program: what lagleashkit SameBytes, lagleashkit SameOps, lagleashkit CopyBytes, lagleashkit CopyOps, lagleashkit LentBytes, lagleashkit LentOps, lagleashkit KeptBytes, lagleashkit KeptOps, op Check, lagleashref02 Check, commit within, varint Append, lagleashref01 Append compute. Conditions: those named in each theorem. -/
import Derived.Test.YtfaknkkaegjdaaaChecked
import Derived.Test.YtfaknkkaegjdaaaKitP
import Derived.Test.YtfaknkkaegjdaaaSpec1
set_option linter.unusedVariables false
set_option linter.unusedSimpArgs false
set_option maxRecDepth 4000
namespace Go.Proofs.Ytfaknkkaegjdaaa
theorem fnOk28 : fnOk Try.prog 28 = true := by kernel_rfl
theorem fnOk29 : fnOk Try.prog 29 = true := by kernel_rfl
theorem fnOk33 : fnOk Try.prog 33 = true := by kernel_rfl
theorem fnOk38 : fnOk Try.prog 38 = true := by kernel_rfl
theorem fnOk44 : fnOk Try.prog 44 = true := by kernel_rfl
theorem fnOk96 : fnOk Try.prog 96 = true := by kernel_rfl
theorem teq49 (a0 : Bool) (a1 : List UInt8) (a2 : List UInt8) : plainS Try.prog 49 [.bool a0, str a1, str a2] = true := by kernel_rfl
theorem tk4 : tk Try.prog 4 = some none := by kernel_rfl
theorem tk49 : tk Try.prog 49 = some (some 3) := by kernel_rfl
theorem tk5 : tk Try.prog 5 = some none := by kernel_rfl
theorem tk9 : tk Try.prog 9 = some none := by kernel_rfl
theorem tsl22 : tsl Try.prog 22 = some (49, 3, 40) := by kernel_rfl
theorem tsl23 : tsl Try.prog 23 = some (5, 1, 1) := by kernel_rfl
theorem tst49 : tst Try.prog 49 = some [(0, 1), (1, 1), (2, 1)] := by kernel_rfl
theorem tz49 : tz Try.prog 49 = some [.bool false, .string ⟨#[]⟩, .string ⟨#[]⟩] := by kernel_rfl
theorem tz5 : tz Try.prog 5 = some [.int .u8 0] := by kernel_rfl
theorem follows : Try.prog.follows .mixedOrders = true := by kernel_rfl
theorem SameBytes_ok (W : World) {v0 : Value} {d0 : List UInt8} (h0 : Rd (.sl .byte) (wm W) [v0] d0) {v1 : Value} {d1 : List UInt8} (h1 : Rd (.sl .byte) (wm W) [v1] d1) : CallR Try.prog 33 [v0, v1] W (mnil) (fun v m' => v = .bool (decide (d0 = d1))) := by
  obtain ⟨A0, c0, rfl, l0, k0⟩ := h0.slice
  simp only [maxLen] at k0
  obtain ⟨A1, c1, rfl, l1, k1⟩ := h1.slice
  simp only [maxLen] at k1
  refine CallR.ofA (n := 26) Try.func33 rfl rfl rfl ?_
  refine VC.rs ?_
  refine VO.y rfl (.as rfl) ?_
  refine VO.esub [(0, _), (1, _), (4, _)] ⟨rfl, rfl, rfl, trivial⟩ (VO.nil ?_)
  refine VC.seq ?_
  refine VC.rs ?_
  refine VO.y rfl (.mv rfl) ?_
  refine VO.y rfl (.lenS rfl tsl23) ?_
  refine VO.y rfl (.mv rfl) ?_
  refine VO.y rfl (.lenS rfl tsl23) ?_
  refine VO.y rfl (.neq rfl rfl) ?_
  refine VO.esub [(0, _), (1, _), (4, _), (10, _)] ⟨rfl, rfl, rfl, rfl, trivial⟩ (VO.nil ?_)
  refine VC.cond rfl (fun hc1 => ?_) (fun hc1 => ?_)
  · -- T
    refine VC.rs ?_
    refine VO.y rfl (.as rfl) ?_
    refine VO.esub [(0, _), (1, _), (4, _), (10, _)] ⟨rfl, rfl, rfl, rfl, trivial⟩ (VO.nil ?_)
    refine VC.ret ?_
    refine outR ?_
    refine ⟨_, _, res_run (rs := [.tmp 4]) rfl (.tmp rfl .nil), fun W_ hI => out_of (l := []) hI [] rfl rfl (mle_refl _) (fun hS_ => ?_)⟩
    dsimp only [packV]
    all_goals (first | rfl | (simp [len_ne hc1]))
  · -- F
    refine VC.skip ?_
    refine outN ?_
    refine VC.seq ?_
    refine VC.rs ?_
    refine VO.y rfl (.as rfl) ?_
    refine VO.esub [(0, _), (1, _), (4, _), (5, _), (10, _)] ⟨rfl, rfl, rfl, rfl, rfl, trivial⟩ (VO.nil ?_)
    refine VC.block ?_
    refine VC.loop (G := Nat) (fun k => [(5, Value.int .i64 (((k : Nat) : Int))), (0, Value.slice A0 (d0.length) (c0)), (1, Value.slice A1 (d1.length) (c1)), (10, Value.bool (decide (¬ ((d0.length : Nat) : Int) = ((d1.length : Nat) : Int))))]) (fun k => [(0, wm W)]) (fun k => (k ≤ d0.length) ∧ (d0.take k = d1.take k)) (fun k => d0.length - k) 0 (⟨by omega, by rfl⟩) ⟨⟨rfl, rfl, rfl, rfl, trivial⟩, fun _ h => h.sub [0]⟩ ?_
    rintro k ⟨hk, ht⟩
    refine VC.seq ?_
    refine VC.rs ?_
    refine VO.y rfl (.mv rfl) ?_
    refine VO.y rfl (.mv rfl) ?_
    refine VO.y rfl (.lenS rfl tsl23) ?_
    refine VO.y rfl (.lss rfl rfl) ?_
    refine VO.esub [(0, _), (1, _), (5, _), (10, _), (14, _)] ⟨rfl, rfl, rfl, rfl, rfl, trivial⟩ (VO.nil ?_)
    refine VC.cond rfl (fun hc2 => ?_) (fun hc2 => ?_)
    · -- FT
      refine VC.skip ?_
      refine outN ?_
      refine VC.seq ?_
      refine VC.block ?_
      refine VC.seq ?_
      refine VC.regD _ 8 [(0, true), (1, true), (2, true), (3, true), (4, true), (5, true), (6, true), (7, true)] follows (by kernel_rfl) (fun _ h => h.sub [0]) ?_
      refine VD.y rfl rfl (.inl rfl) (.mv rfl) ?_
      refine VD.y rfl rfl (.inl rfl) (.mv rfl) ?_
      obtain ⟨x3, hx3⟩ : ∃ x, (d0)[k]? = some x := ⟨_, List.getElem?_eq_getElem (by first | omega | (simp only [List.length_append, List.length_nil, List.length_cons, List.length_take, List.length_drop] at *; omega))⟩
      obtain ⟨gg3, oo3, ec3, ea3, hce3, hre3⟩ := h0.elem hx3
      cases ea3
      obtain rfl := (show _ = _ from hre3)
      have xb3 := x3.toNat_lt
      refine VD.y rfl rfl (.inl rfl) (.ixI k rfl rfl tsl23 rfl (by first | omega | (simp only [List.length_append, List.length_nil, List.length_cons, List.length_take, List.length_drop] at *; omega))) ?_
      refine VD.y rfl rfl (.inl rfl) (.ld1 0 rfl tk5 rfl hce3) ?_
      refine VD.y rfl rfl (.inl rfl) (.mv rfl) ?_
      refine VD.y rfl rfl (.inl rfl) (.mv rfl) ?_
      obtain ⟨x4, hx4⟩ : ∃ x, (d1)[k]? = some x := ⟨_, List.getElem?_eq_getElem (by first | omega | (simp only [List.length_append, List.length_nil, List.length_cons, List.length_take, List.length_drop] at *; omega))⟩
      obtain ⟨gg4, oo4, ec4, ea4, hce4, hre4⟩ := h1.elem hx4
      cases ea4
      obtain rfl := (show _ = _ from hre4)
      have xb4 := x4.toNat_lt
      refine VD.y rfl rfl (.inl rfl) (.ixI k rfl rfl tsl23 rfl (by first | omega | (simp only [List.length_append, List.length_nil, List.length_cons, List.length_take, List.length_drop] at *; omega))) ?_
      refine VD.y rfl rfl (.inl rfl) (.ld1 0 rfl tk5 rfl hce4) ?_
      refine VD.nil rfl ?_ rfl
      refine VO.y rfl (.neq rfl rfl) ?_
      refine VO.esub [(0, _), (1, _), (5, _), (10, _), (14, _), (25, _)] ⟨rfl, rfl, rfl, rfl, rfl, rfl, trivial⟩ (VO.nil ?_)
      refine outN ?_
      refine VC.cond rfl (fun hc5 => ?_) (fun hc5 => ?_)
      · -- FTT
        refine VC.rs ?_
        refine VO.y rfl (.as rfl) ?_
        refine VO.esub [(0, _), (1, _), (4, _), (5, _), (10, _), (14, _), (25, _)] ⟨rfl, rfl, rfl, rfl, rfl, rfl, rfl, trivial⟩ (VO.nil ?_)
        refine VC.ret ?_
        refine outBR ?_
        refine outR ?_
        refine outR ?_
        refine outBR ?_
        refine outR ?_
        refine ⟨_, _, res_run (rs := [.tmp 4]) rfl (.tmp rfl .nil), fun W_ hI => out_of (l := []) hI [] rfl rfl (mle_refl _) (fun hS_ => ?_)⟩
        dsimp only [packV]
        all_goals (first | rfl | (simp [get_ne ‹d0[k]? = some _› ‹d1[k]? = some _› (byte_ne ‹_›)]))
      · -- FTF
        refine VC.skip ?_
        refine outBN ?_
        refine outN ?_
        refine VC.reg ?_
        refine VO.y rfl (.mv rfl) ?_
        refine VO.y rfl (.add (c := ((k + 1 : Nat) : Int)) rfl rfl (by omega) ⟨by first | omega | (simp only [List.length_append, List.length_nil, List.length_cons, List.length_take, List.length_drop] at *; omega), by first | omega | (simp only [List.length_append, List.length_nil, List.length_cons, List.length_take, List.length_drop] at *; omega)⟩) ?_
        refine VO.y rfl (.as rfl) ?_
        refine VO.esub [(0, _), (1, _), (5, _), (10, _), (14, _), (25, _)] ⟨rfl, rfl, rfl, rfl, rfl, rfl, trivial⟩ (VO.nil ?_)
        exact outN ⟨k + 1, ⟨by omega, by exact take_next ht ‹d0[k]? = some _› ‹d1[k]? = some _› (byte_eq (by omega))⟩, by first | omega | (simp only [List.length_append, List.length_nil, List.length_cons, List.length_take, List.length_drop] at *; omega), ⟨⟨rfl, rfl, rfl, rfl, trivial⟩, fun _ h => Inv.sub h [0]⟩⟩
    · -- FF
      refine VC.exit ?_
      refine outE ?_
      refine outE ?_
      refine outBB ?_
      refine outN ?_
      refine VC.rs ?_
      refine VO.y rfl (.as rfl) ?_
      refine VO.esub [(0, _), (1, _), (4, _), (5, _), (10, _), (14, _)] ⟨rfl, rfl, rfl, rfl, rfl, rfl, trivial⟩ (VO.nil ?_)
      refine VC.ret ?_
      refine ⟨_, _, res_run (rs := [.tmp 4]) rfl (.tmp rfl .nil), fun W_ hI => out_of (l := []) hI [] rfl rfl (mle_refl _) (fun hS_ => ?_)⟩
      dsimp only [packV]
      all_goals (first | rfl | (simp [take_all ht (by omega) (by omega)]))
theorem SameOps_ok (W : World) {v0 : Value} {d0 : List DOp} (h0 : Rd (.sl TOp) (wm W) [v0] d0) {v1 : Value} {d1 : List DOp} (h1 : Rd (.sl TOp) (wm W) [v1] d1) : CallR Try.prog 38 [v0, v1] W (mnil) (fun v m' => v = .bool (decide (d0 = d1))) := by
  obtain ⟨A0, c0, rfl, l0, k0⟩ := h0.slice
  simp only [maxLen] at k0
  obtain ⟨A1, c1, rfl, l1, k1⟩ := h1.slice
  simp only [maxLen] at k1
  refine CallR.ofA (n := 26) Try.func38 rfl rfl rfl ?_
  refine VC.rs ?_
  refine VO.y rfl (.as rfl) ?_
  refine VO.esub [(0, _), (1, _), (4, _)] ⟨rfl, rfl, rfl, trivial⟩ (VO.nil ?_)
  refine VC.seq ?_
  refine VC.rs ?_
  refine VO.y rfl (.mv rfl) ?_
  refine VO.y rfl (.lenS rfl tsl22) ?_
  refine VO.y rfl (.mv rfl) ?_
  refine VO.y rfl (.lenS rfl tsl22) ?_
  refine VO.y rfl (.neq rfl rfl) ?_
  refine VO.esub [(0, _), (1, _), (4, _), (10, _)] ⟨rfl, rfl, rfl, rfl, trivial⟩ (VO.nil ?_)
  refine VC.cond rfl (fun hc1 => ?_) (fun hc1 => ?_)
  · -- T
    refine VC.rs ?_
    refine VO.y rfl (.as rfl) ?_
    refine VO.esub [(0, _), (1, _), (4, _), (10, _)] ⟨rfl, rfl, rfl, rfl, trivial⟩ (VO.nil ?_)
    refine VC.ret ?_
    refine outR ?_
    refine ⟨_, _, res_run (rs := [.tmp 4]) rfl (.tmp rfl .nil), fun W_ hI => out_of (l := []) hI [] rfl rfl (mle_refl _) (fun hS_ => ?_)⟩
    dsimp only [packV]
    all_goals (first | rfl | (simp [len_ne hc1]))
  · -- F
    refine VC.skip ?_
    refine outN ?_
    refine VC.seq ?_
    refine VC.rs ?_
    refine VO.y rfl (.as rfl) ?_
    refine VO.esub [(0, _), (1, _), (4, _), (5, _), (10, _)] ⟨rfl, rfl, rfl, rfl, rfl, trivial⟩ (VO.nil ?_)
    refine VC.block ?_
    refine VC.loop (G := Nat) (fun k => [(5, Value.int .i64 (((k : Nat) : Int))), (0, Value.slice A0 (d0.length) (c0)), (1, Value.slice A1 (d1.length) (c1)), (10, Value.bool (decide (¬ ((d0.length : Nat) : Int) = ((d1.length : Nat) : Int))))]) (fun k => [(0, wm W)]) (fun k => (k ≤ d0.length) ∧ (d0.take k = d1.take k)) (fun k => d0.length - k) 0 (⟨by omega, by rfl⟩) ⟨⟨rfl, rfl, rfl, rfl, trivial⟩, fun _ h => h.sub [0]⟩ ?_
    rintro k ⟨hk, ht⟩
    refine VC.seq ?_
    refine VC.rs ?_
    refine VO.y rfl (.mv rfl) ?_
    refine VO.y rfl (.mv rfl) ?_
    refine VO.y rfl (.lenS rfl tsl22) ?_
    refine VO.y rfl (.lss rfl rfl) ?_
    refine VO.esub [(0, _), (1, _), (5, _), (10, _), (14, _)] ⟨rfl, rfl, rfl, rfl, rfl, trivial⟩ (VO.nil ?_)
    refine VC.cond rfl (fun hc2 => ?_) (fun hc2 => ?_)
    · -- FT
      refine VC.skip ?_
      refine outN ?_
      refine VC.seq ?_
      refine VC.block ?_
      refine VC.seq ?_
      refine VC.regD _ 8 [(0, true), (1, true), (2, true), (3, true), (4, true), (5, true), (6, true), (7, true)] follows (by kernel_rfl) (fun _ h => h.sub [0]) ?_
      refine VD.y rfl rfl (.inl rfl) (.mv rfl) ?_
      refine VD.y rfl rfl (.inl rfl) (.mv rfl) ?_
      obtain ⟨x3, hx3⟩ : ∃ x, (d0)[k]? = some x := ⟨_, List.getElem?_eq_getElem (by first | omega | (simp only [List.length_append, List.length_nil, List.length_cons, List.length_take, List.length_drop] at *; omega))⟩
      obtain ⟨gg3, oo3, ec3, ea3, hce3, hre3⟩ := h0.elem hx3
      cases ea3
      obtain ⟨rfl, q3_1, q3_2⟩ := open_Op (x0 := x3.1) (x1 := x3.2.1) (x2 := x3.2.2) hre3
      simp only [maxLen] at q3_1
      simp only [maxLen] at q3_2
      refine VD.y rfl rfl (.inl rfl) (.ixI k rfl rfl tsl22 rfl (by first | omega | (simp only [List.length_append, List.length_nil, List.length_cons, List.length_take, List.length_drop] at *; omega))) ?_
      refine VD.y rfl rfl (.inl rfl) (.ldA 0 rfl tk49 rfl hce3) ?_
      refine VD.y rfl rfl (.inl rfl) (.mv rfl) ?_
      refine VD.y rfl rfl (.inl rfl) (.mv rfl) ?_
      obtain ⟨x4, hx4⟩ : ∃ x, (d1)[k]? = some x := ⟨_, List.getElem?_eq_getElem (by first | omega | (simp only [List.length_append, List.length_nil, List.length_cons, List.length_take, List.length_drop] at *; omega))⟩
      obtain ⟨gg4, oo4, ec4, ea4, hce4, hre4⟩ := h1.elem hx4
      cases ea4
      obtain ⟨rfl, q4_1, q4_2⟩ := open_Op (x0 := x4.1) (x1 := x4.2.1) (x2 := x4.2.2) hre4
      simp only [maxLen] at q4_1
      simp only [maxLen] at q4_2
      refine VD.y rfl rfl (.inl rfl) (.ixI k rfl rfl tsl22 rfl (by first | omega | (simp only [List.length_append, List.length_nil, List.length_cons, List.length_take, List.length_drop] at *; omega))) ?_
      refine VD.y rfl rfl (.inl rfl) (.ldA 0 rfl tk49 rfl hce4) ?_
      refine VD.nil rfl ?_ rfl
      refine VO.y rfl (.stneq (p := x3.1 = x4.1 ∧ x3.2.1 = x4.2.1 ∧ x3.2.2 = x4.2.2) rfl rfl (teq49 x3.1 x3.2.1 x3.2.2) (teq49 x4.1 x4.2.1 x4.2.2) (by simp [ceq, ba_toList])) ?_
      refine VO.esub [(0, _), (1, _), (5, _), (10, _), (14, _), (25, _)] ⟨rfl, rfl, rfl, rfl, rfl, rfl, trivial⟩ (VO.nil ?_)
      refine outN ?_
      refine VC.cond rfl (fun hc5 => ?_) (fun hc5 => ?_)
      · -- FTT
        refine VC.rs ?_
        refine VO.y rfl (.as rfl) ?_
        refine VO.esub [(0, _), (1, _), (4, _), (5, _), (10, _), (14, _), (25, _)] ⟨rfl, rfl, rfl, rfl, rfl, rfl, rfl, trivial⟩ (VO.nil ?_)
        refine VC.ret ?_
        refine outBR ?_
        refine outR ?_
        refine outR ?_
        refine outBR ?_
        refine outR ?_
        refine ⟨_, _, res_run (rs := [.tmp 4]) rfl (.tmp rfl .nil), fun W_ hI => out_of (l := []) hI [] rfl rfl (mle_refl _) (fun hS_ => ?_)⟩
        dsimp only [packV]
        all_goals (first | rfl | (simp [get_ne ‹d0[k]? = some _› ‹d1[k]? = some _› (op_ne ‹_›)]))
      · -- FTF
        refine VC.skip ?_
        refine outBN ?_
        refine outN ?_
        refine VC.reg ?_
        refine VO.y rfl (.mv rfl) ?_
        refine VO.y rfl (.add (c := ((k + 1 : Nat) : Int)) rfl rfl (by omega) ⟨by first | omega | (simp only [List.length_append, List.length_nil, List.length_cons, List.length_take, List.length_drop] at *; omega), by first | omega | (simp only [List.length_append, List.length_nil, List.length_cons, List.length_take, List.length_drop] at *; omega)⟩) ?_
        refine VO.y rfl (.as rfl) ?_
        refine VO.esub [(0, _), (1, _), (5, _), (10, _), (14, _), (25, _)] ⟨rfl, rfl, rfl, rfl, rfl, rfl, trivial⟩ (VO.nil ?_)
        exact outN ⟨k + 1, ⟨by omega, by exact take_next ht ‹d0[k]? = some _› ‹d1[k]? = some _› (op_eq (by simpa using ‹¬ ¬ _›))⟩, by first | omega | (simp only [List.length_append, List.length_nil, List.length_cons, List.length_take, List.length_drop] at *; omega), ⟨⟨rfl, rfl, rfl, rfl, trivial⟩, fun _ h => Inv.sub h [0]⟩⟩
    · -- FF
      refine VC.exit ?_
      refine outE ?_
      refine outE ?_
      refine outBB ?_
      refine outN ?_
      refine VC.rs ?_
      refine VO.y rfl (.as rfl) ?_
      refine VO.esub [(0, _), (1, _), (4, _), (5, _), (10, _), (14, _)] ⟨rfl, rfl, rfl, rfl, rfl, rfl, trivial⟩ (VO.nil ?_)
      refine VC.ret ?_
      refine ⟨_, _, res_run (rs := [.tmp 4]) rfl (.tmp rfl .nil), fun W_ hI => out_of (l := []) hI [] rfl rfl (mle_refl _) (fun hS_ => ?_)⟩
      dsimp only [packV]
      all_goals (first | rfl | (simp [take_all ht (by omega) (by omega)]))
theorem CopyBytes_ok (W : World) {v0 : Value} {d0 : List UInt8} (h0 : Rd (.sl .byte) (wm W) [v0] d0) (e0 : d0.length ≤ 140737488355000) : CallR Try.prog 44 [v0] W (mnil) (fun v m' => ∃ (s0 : Value), v = s0 ∧ Ow (.sl .byte) m' [s0] (d0)) := by
  obtain ⟨A0, c0, rfl, l0, k0⟩ := h0.slice
  simp only [maxLen] at k0
  refine CallR.ofA (n := 6) Try.func44 rfl rfl rfl ?_
  refine VC.rs ?_
  refine VO.y rfl (.as rfl) ?_
  refine VO.esub [(0, _), (2, _)] ⟨rfl, rfl, trivial⟩ (VO.nil ?_)
  refine VC.rs ?_
  refine VO.bsl (cs := []) 102 rfl rfl tsl23 tz5 rfl rfl (fun g1 => ?_)
  refine VO.y rfl (.mv rfl) ?_
  have ho4 : OwnL .byte (mone g1 (.cells [].toArray 5 (0, 0))) mnil (Value.slice (some ⟨g1, 0, none⟩) (0) (0)) [] := OwnL.lit 0 All2c.nil rfl rfl
  obtain ⟨mo3, cs3, hM3, hA3, hC3⟩ := ho4
  obtain ⟨all3, hS3, hR3⟩ := Rd.srcI (P := Try.prog) (h0) Try.underlying23
  refine VO.app 102 rfl rfl rfl tsl23 tz5 rfl rfl hM3 hA3 (hS3 _ 0 rfl) hR3.nice (by simp only [maxLen]; (first | omega | (simp only [List.length_append, List.length_nil, List.length_cons, List.length_take, List.length_drop] at *; omega))) (by first | omega | (simp only [List.length_append, List.length_nil, List.length_cons, List.length_take, List.length_drop] at *; omega)) (by decide) (fun v3 m3 hN3 => ?_)
  have ho3 : OwnL .byte m3 mnil v3 (d0) := OwnL.more hC3 hN3 (All2c.mono hR3 fun _ _ h => Rd.flat rfl h _)
  obtain ⟨A3, c3, rfl, l3, k3⟩ := ho3.slice
  simp only [maxLen] at k3
  refine VO.y rfl (.as rfl) ?_
  refine VO.esub [(0, _), (2, _)] ⟨rfl, rfl, trivial⟩ (VO.nil ?_)
  refine VC.ret ?_
  refine ⟨_, _, res_run (rs := [.tmp 2]) rfl (.tmp rfl .nil), fun W_ hI => out_of (l := [m3]) hI [102] rfl rfl (mle_refl _) (fun hS_ => ?_)⟩
  dsimp only [packV]
  have he0 : (d0 : Ty.Den (.sl .byte)) = d0 := by first | rfl | (simp [*]; done)
  refine ⟨Value.slice A3 ((d0).length) (c3), ?_, ?_⟩
  rotate_left
  · rw [he0]; exact (Ow.up (OwnL.ow ho3 rfl) (hS_.1 _ (.head _)))
  first | rfl | (simp [*]; done)
theorem CopyOps_ok (W : World) {v0 : Value} {d0 : List DOp} (h0 : Rd (.sl TOp) (wm W) [v0] d0) (e0 : d0.length ≤ 3518437208000) : CallR Try.prog 96 [v0] W (mnil) (fun v m' => ∃ (s0 : Value), v = s0 ∧ Ow (.sl TOp) m' [s0] (d0)) := by
  obtain ⟨A0, c0, rfl, l0, k0⟩ := h0.slice
  simp only [maxLen] at k0
  refine CallR.ofA (n := 6) Try.func96 rfl rfl rfl ?_
  refine VC.rs ?_
  refine VO.y rfl (.as rfl) ?_
  refine VO.esub [(0, _), (2, _)] ⟨rfl, rfl, trivial⟩ (VO.nil ?_)
  refine VC.rs ?_
  refine VO.bsl (cs := []) 102 rfl rfl tsl22 tz49 rfl rfl (fun g1 => ?_)
  refine VO.y rfl (.mv rfl) ?_
  have ho4 : OwnL TOp (mone g1 (.cells [].toArray 49 (0, 0))) mnil (Value.slice (some ⟨g1, 0, none⟩) (0) (0)) [] := OwnL.lit 0 All2c.nil rfl rfl
  obtain ⟨mo3, cs3, hM3, hA3, hC3⟩ := ho4
  obtain ⟨all3, hS3, hR3⟩ := Rd.srcI (P := Try.prog) (h0) Try.underlying22
  refine VO.app 102 rfl rfl rfl tsl22 tz49 rfl rfl hM3 hA3 (hS3 _ 0 rfl) hR3.nice (by simp only [maxLen]; (first | omega | (simp only [List.length_append, List.length_nil, List.length_cons, List.length_take, List.length_drop] at *; omega))) (by first | omega | (simp only [List.length_append, List.length_nil, List.length_cons, List.length_take, List.length_drop] at *; omega)) (by decide) (fun v3 m3 hN3 => ?_)
  have ho3 : OwnL TOp m3 mnil v3 (d0) := OwnL.more hC3 hN3 (All2c.mono hR3 fun _ _ h => Rd.flat rfl h _)
  obtain ⟨A3, c3, rfl, l3, k3⟩ := ho3.slice
  simp only [maxLen] at k3
  refine VO.y rfl (.as rfl) ?_
  refine VO.esub [(0, _), (2, _)] ⟨rfl, rfl, trivial⟩ (VO.nil ?_)
  refine VC.ret ?_
  refine ⟨_, _, res_run (rs := [.tmp 2]) rfl (.tmp rfl .nil), fun W_ hI => out_of (l := [m3]) hI [102] rfl rfl (mle_refl _) (fun hS_ => ?_)⟩
  dsimp only [packV]
  have he0 : (d0 : Ty.Den (.sl TOp)) = d0 := by first | rfl | (simp [*]; done)
  refine ⟨Value.slice A3 ((d0).length) (c3), ?_, ?_⟩
  rotate_left
  · rw [he0]; exact (Ow.up (OwnL.ow ho3 rfl) (hS_.1 _ (.head _)))
  first | rfl | (simp [*]; done)
theorem LentBytes_ok (W : World) {v0 : Value} {d0 : List UInt8} (h0 : Rd (.sl .byte) (wm W) [v0] d0) (e0 : d0.length ≤ 140737488355000) : CallR Try.prog 28 [v0] W (mnil) (fun v m' => ∃ (s0 : Value), v = s0 ∧ Ow (.sl .byte) m' [s0] (d0 ++ spareB)) := by
  obtain ⟨A0, c0, rfl, l0, k0⟩ := h0.slice
  simp only [maxLen] at k0
  refine CallR.ofA (n := 18) Try.func28 rfl rfl rfl ?_
  refine VC.rs ?_
  refine VO.y rfl (.as rfl) ?_
  refine VO.esub [(0, _), (2, _)] ⟨rfl, rfl, trivial⟩ (VO.nil ?_)
  refine VC.rs ?_
  refine VO.y rfl (.mv rfl) ?_
  refine VO.callN 101 rfl fnOk44 rfl (fun W hW => CopyBytes_ok W (Rd.mono h0 (hW.at (i := 0) rfl)) (by first | omega | (simp only [List.length_append, List.length_nil, List.length_cons, List.length_take, List.length_drop] at *; omega))) (fun v1 m1 hv1 => ?_)
  obtain ⟨s1_0, rfl, f1_0⟩ := hv1
  obtain ⟨A1_0, c1_0, eq1_0, l1_0, k1_0⟩ := f1_0.slice
  subst eq1_0
  simp only [maxLen] at k1_0
  refine VO.y rfl (.as rfl) ?_
  refine VO.esub [(0, _), (2, _), (3, _)] ⟨rfl, rfl, rfl, trivial⟩ (VO.nil ?_)
  refine VC.seq ?_
  refine VC.rs ?_
  refine VO.y rfl (.as rfl) ?_
  refine VO.esub [(0, _), (2, _), (3, _), (4, _)] ⟨rfl, rfl, rfl, rfl, trivial⟩ (VO.nil ?_)
  refine VC.block ?_
  refine VC.loop (G := Nat × (List UInt8) × (Option Addr) × Nat × Mem) (fun g => [(3, Value.slice (g.2.2.1) ((g.2.1).length) ((g.2.2.2.1))), (4, Value.int .i64 ((((g.1) : Nat) : Int))), (0, Value.slice A0 (d0.length) (c0)), (2, Value.slice none (0) (0))]) (fun g => [(101, (g.2.2.2.2)), (0, wm W)]) (fun g => ((g.1) ≤ 3) ∧ ((g.2.1) = d0 ++ spareB.take (g.1)) ∧ (OwnL .byte (g.2.2.2.2) mnil (.slice (g.2.2.1) (g.2.1).length (g.2.2.2.1)) (g.2.1))) (fun g => 3 - (g.1)) (0, d0, A1_0, c1_0, m1) (⟨by omega, by simp, (Ow.ownl f1_0 rfl mnil)⟩) ⟨⟨rfl, rfl, rfl, rfl, trivial⟩, fun _ h => h.sub [101, 0]⟩ ?_
  rintro ⟨k, out, out_A, out_c, out_m⟩ ⟨hk, ho, h_out⟩
  replace hk : k ≤ 3 := hk
  replace ho : out = d0 ++ spareB.take k := ho
  replace h_out : OwnL .byte out_m mnil (.slice out_A out.length out_c) out := h_out
  show VC _ _ _ _ _ [(3, Value.slice out_A (out.length) (out_c)), (4, Value.int .i64 (((k : Nat) : Int))), (0, Value.slice A0 (d0.length) (c0)), (2, Value.slice none (0) (0))] [(101, out_m), (0, wm W)]
  have l_out : out.length ≤ out_c := by obtain ⟨_, _, he, hl, _⟩ := h_out.slice; simp only [Value.slice.injEq] at he; omega
  have k_out : out_c ≤ 9223372036854775807 := by obtain ⟨_, _, he, _, hl⟩ := h_out.slice; simp only [Value.slice.injEq, maxLen] at he hl; omega
  have hlo : out.length ≤ d0.length + 3 := by rw [ho]; simp [spareB]; omega
  refine VC.seq ?_
  refine VC.rs ?_
  refine VO.y rfl (.mv rfl) ?_
  refine VO.y rfl (.lss rfl rfl) ?_
  refine VO.esub [(0, _), (2, _), (3, _), (4, _), (8, _)] ⟨rfl, rfl, rfl, rfl, rfl, trivial⟩ (VO.nil ?_)
  refine VC.cond rfl (fun hc2 => ?_) (fun hc2 => ?_)
  · -- T
    refine VC.skip ?_
    refine outN ?_
    refine VC.seq ?_
    refine VC.block ?_
    refine VC.reg ?_
    refine VO.y rfl (.mv rfl) ?_
    refine VO.y rfl (.mv rfl) ?_
    refine VO.y rfl (.cvI rfl ⟨_, Try.underlying3⟩ Try.underlying5 (u8_of_nat _)) ?_
    refine VO.y rfl (.addN (c := 201 + (k % 256)) rfl rfl rfl (.inl ⟨rfl, by omega⟩)) ?_
    refine VO.bsl (cs := [Value.int .u8 (((201 + (k % 256) : Nat) : Int))]) 104 rfl rfl tsl23 tz5 rfl rfl (fun g3 => ?_)
    obtain ⟨mo5, cs5, hM5, hA5, hC5⟩ := h_out
    refine VO.app 101 rfl rfl rfl tsl23 tz5 rfl rfl hM5 hA5 (.row 104 _ _ _ 1 1 _ _ Try.underlying23 rfl (cellsAt_one rfl rfl)) (by simp [Value.oneCell']) (by simp only [maxLen]; (first | omega | (simp only [List.length_append, List.length_nil, List.length_cons, List.length_take, List.length_drop] at *; omega))) (by first | omega | (simp only [List.length_append, List.length_nil, List.length_cons, List.length_take, List.length_drop] at *; omega)) (by decide) (fun v5 m5 hN5 => ?_)
    have ho5 : OwnL .byte m5 mnil v5 (out ++ [UInt8.ofNat (201 + (k % 256))]) := OwnL.one hC5 hN5 (rd_byteN (by first | omega | (simp only [List.length_append, List.length_nil, List.length_cons, List.length_take, List.length_drop] at *; omega)))
    obtain ⟨A5, c5, rfl, l5, k5⟩ := ho5.slice
    simp only [maxLen] at k5
    refine VO.y rfl (.as rfl) ?_
    refine VO.esub [(0, _), (2, _), (3, _), (4, _), (8, _)] ⟨rfl, rfl, rfl, rfl, rfl, trivial⟩ (VO.nil ?_)
    refine outBN ?_
    refine outN ?_
    refine VC.reg ?_
    refine VO.y rfl (.mv rfl) ?_
    refine VO.y rfl (.add (c := ((k + 1 : Nat) : Int)) rfl rfl (by omega) ⟨by first | omega | (simp only [List.length_append, List.length_nil, List.length_cons, List.length_take, List.length_drop] at *; omega), by first | omega | (simp only [List.length_append, List.length_nil, List.length_cons, List.length_take, List.length_drop] at *; omega)⟩) ?_
    refine VO.y rfl (.as rfl) ?_
    refine VO.esub [(0, _), (2, _), (3, _), (4, _), (8, _)] ⟨rfl, rfl, rfl, rfl, rfl, trivial⟩ (VO.nil ?_)
    exact outN ⟨⟨k + 1, out ++ [UInt8.ofNat (201 + (k % 256))], A5, c5, m5⟩, ⟨by omega, by exact spareB_next ho (by omega), ho5⟩, by first | omega | (simp only [List.length_append, List.length_nil, List.length_cons, List.length_take, List.length_drop] at *; omega), ⟨⟨rfl, rfl, rfl, rfl, trivial⟩, fun _ h => Inv.sub h [101, 0]⟩⟩
  · -- F
    refine VC.exit ?_
    refine outE ?_
    refine outE ?_
    refine outBB ?_
    refine outN ?_
    refine VC.rs ?_
    refine VO.y rfl (.mv rfl) ?_
    refine VO.y rfl (.as rfl) ?_
    refine VO.esub [(0, _), (2, _), (3, _), (4, _), (8, _)] ⟨rfl, rfl, rfl, rfl, rfl, trivial⟩ (VO.nil ?_)
    refine VC.ret ?_
    refine ⟨_, _, res_run (rs := [.tmp 2]) rfl (.tmp rfl .nil), fun W_ hI => out_of (l := [out_m]) hI [101] rfl rfl (mle_refl _) (fun hS_ => ?_)⟩
    dsimp only [packV]
    have he0 : (d0 ++ spareB : Ty.Den (.sl .byte)) = out := by first | rfl | (have : k = 3 := (by omega); subst this; exact ho.symm)
    refine ⟨Value.slice out_A (out.length) (out_c), ?_, ?_⟩
    rotate_left
    · rw [he0]; exact (Ow.up (OwnL.ow h_out rfl) (hS_.1 _ (.head _)))
    first | rfl | (simp [*]; done)
theorem LentOps_ok (W : World) {v0 : Value} {d0 : List DOp} (h0 : Rd (.sl TOp) (wm W) [v0] d0) (e0 : d0.length ≤ 3518437208000) : CallR Try.prog 29 [v0] W (mnil) (fun v m' => ∃ (s0 : Value), v = s0 ∧ Ow (.sl TOp) m' [s0] (d0 ++ spareO)) := by
  obtain ⟨A0, c0, rfl, l0, k0⟩ := h0.slice
  simp only [maxLen] at k0
  refine CallR.ofA (n := 16) Try.func29 rfl rfl rfl ?_
  refine VC.rs ?_
  refine VO.y rfl (.as rfl) ?_
  refine VO.esub [(0, _), (2, _)] ⟨rfl, rfl, trivial⟩ (VO.nil ?_)
  refine VC.rs ?_
  refine VO.y rfl (.mv rfl) ?_
  refine VO.callN 101 rfl fnOk96 rfl (fun W hW => CopyOps_ok W (Rd.mono h0 (hW.at (i := 0) rfl)) (by first | omega | (simp only [List.length_append, List.length_nil, List.length_cons, List.length_take, List.length_drop] at *; omega))) (fun v1 m1 hv1 => ?_)
  obtain ⟨s1_0, rfl, f1_0⟩ := hv1
  obtain ⟨A1_0, c1_0, eq1_0, l1_0, k1_0⟩ := f1_0.slice
  subst eq1_0
  simp only [maxLen] at k1_0
  refine VO.y rfl (.as rfl) ?_
  refine VO.esub [(0, _), (2, _), (3, _)] ⟨rfl, rfl, rfl, trivial⟩ (VO.nil ?_)
  refine VC.seq ?_
  refine VC.rs ?_
  refine VO.y rfl (.as rfl) ?_
  refine VO.esub [(0, _), (2, _), (3, _), (4, _)] ⟨rfl, rfl, rfl, rfl, trivial⟩ (VO.nil ?_)
  refine VC.block ?_
  refine VC.loop (G := Nat × (List DOp) × (Option Addr) × Nat × Mem) (fun g => [(3, Value.slice (g.2.2.1) ((g.2.1).length) ((g.2.2.2.1))), (4, Value.int .i64 ((((g.1) : Nat) : Int))), (0, Value.slice A0 (d0.length) (c0)), (2, Value.slice none (0) (0))]) (fun g => [(101, (g.2.2.2.2)), (0, wm W)]) (fun g => ((g.1) ≤ 3) ∧ ((g.2.1) = d0 ++ spareO.take (g.1)) ∧ (OwnL TOp (g.2.2.2.2) mnil (.slice (g.2.2.1) (g.2.1).length (g.2.2.2.1)) (g.2.1))) (fun g => 3 - (g.1)) (0, d0, A1_0, c1_0, m1) (⟨by omega, by simp, (Ow.ownl f1_0 rfl mnil)⟩) ⟨⟨rfl, rfl, rfl, rfl, trivial⟩, fun _ h => h.sub [101, 0]⟩ ?_
  rintro ⟨k, out, out_A, out_c, out_m⟩ ⟨hk, ho, h_out⟩
  replace hk : k ≤ 3 := hk
  replace ho : out = d0 ++ spareO.take k := ho
  replace h_out : OwnL TOp out_m mnil (.slice out_A out.length out_c) out := h_out
  show VC _ _ _ _ _ [(3, Value.slice out_A (out.length) (out_c)), (4, Value.int .i64 (((k : Nat) : Int))), (0, Value.slice A0 (d0.length) (c0)), (2, Value.slice none (0) (0))] [(101, out_m), (0, wm W)]
  have l_out : out.length ≤ out_c := by obtain ⟨_, _, he, hl, _⟩ := h_out.slice; simp only [Value.slice.injEq] at he; omega
  have k_out : out_c ≤ 9223372036854775807 := by obtain ⟨_, _, he, _, hl⟩ := h_out.slice; simp only [Value.slice.injEq, maxLen] at he hl; omega
  have hlo : out.length ≤ d0.length + 3 := by rw [ho]; simp [spareO]; omega
  refine VC.seq ?_
  refine VC.rs ?_
  refine VO.y rfl (.mv rfl) ?_
  refine VO.y rfl (.lss rfl rfl) ?_
  refine VO.esub [(0, _), (2, _), (3, _), (4, _), (8, _)] ⟨rfl, rfl, rfl, rfl, rfl, trivial⟩ (VO.nil ?_)
  refine VC.cond rfl (fun hc2 => ?_) (fun hc2 => ?_)
  · -- T
    refine VC.skip ?_
    refine outN ?_
    refine VC.seq ?_
    refine VC.block ?_
    refine VC.reg ?_
    refine VO.y rfl (.mv rfl) ?_
    refine VO.y rfl (.bst (cs := [Value.bool true, str ([98, 101, 104, 105, 110, 100]), str ([])]) rfl tst49 tz49 rfl) ?_
    refine VO.bsl (cs := [Value.bool true, str ([98, 101, 104, 105, 110, 100]), str ([])]) 104 rfl rfl tsl22 tz49 rfl rfl (fun g3 => ?_)
    obtain ⟨mo5, cs5, hM5, hA5, hC5⟩ := h_out
    refine VO.app 101 rfl rfl rfl tsl22 tz49 rfl rfl hM5 hA5 (.row 104 _ _ _ 1 1 _ _ Try.underlying22 rfl (cellsAt_one rfl rfl)) (by simp [Value.oneCell']) (by simp only [maxLen]; (first | omega | (simp only [List.length_append, List.length_nil, List.length_cons, List.length_take, List.length_drop] at *; omega))) (by first | omega | (simp only [List.length_append, List.length_nil, List.length_cons, List.length_take, List.length_drop] at *; omega)) (by decide) (fun v5 m5 hN5 => ?_)
    have ho5 : OwnL TOp m5 mnil v5 (out ++ [(true, [98, 101, 104, 105, 110, 100], [])]) := OwnL.one hC5 hN5 (mk_Op (m := _) true ([98, 101, 104, 105, 110, 100]) ([]) (by simp only [maxLen]; (first | omega | (simp only [List.length_append, List.length_nil, List.length_cons, List.length_take, List.length_drop] at *; omega))) (by simp only [maxLen]; (first | omega | (simp only [List.length_append, List.length_nil, List.length_cons, List.length_take, List.length_drop] at *; omega))))
    obtain ⟨A5, c5, rfl, l5, k5⟩ := ho5.slice
    simp only [maxLen] at k5
    refine VO.y rfl (.as rfl) ?_
    refine VO.esub [(0, _), (2, _), (3, _), (4, _), (8, _)] ⟨rfl, rfl, rfl, rfl, rfl, trivial⟩ (VO.nil ?_)
    refine outBN ?_
    refine outN ?_
    refine VC.reg ?_
    refine VO.y rfl (.mv rfl) ?_
    refine VO.y rfl (.add (c := ((k + 1 : Nat) : Int)) rfl rfl (by omega) ⟨by first | omega | (simp only [List.length_append, List.length_nil, List.length_cons, List.length_take, List.length_drop] at *; omega), by first | omega | (simp only [List.length_append, List.length_nil, List.length_cons, List.length_take, List.length_drop] at *; omega)⟩) ?_
    refine VO.y rfl (.as rfl) ?_
    refine VO.esub [(0, _), (2, _), (3, _), (4, _), (8, _)] ⟨rfl, rfl, rfl, rfl, rfl, trivial⟩ (VO.nil ?_)
    exact outN ⟨⟨k + 1, out ++ [(true, [98, 101, 104, 105, 110, 100], [])], A5, c5, m5⟩, ⟨by omega, by exact spareO_next ho (by omega), ho5⟩, by first | omega | (simp only [List.length_append, List.length_nil, List.length_cons, List.length_take, List.length_drop] at *; omega), ⟨⟨rfl, rfl, rfl, rfl, trivial⟩, fun _ h => Inv.sub h [101, 0]⟩⟩
  · -- F
    refine VC.exit ?_
    refine outE ?_
    refine outE ?_
    refine outBB ?_
    refine outN ?_
    refine VC.rs ?_
    refine VO.y rfl (.mv rfl) ?_
    refine VO.y rfl (.as rfl) ?_
    refine VO.esub [(0, _), (2, _), (3, _), (4, _), (8, _)] ⟨rfl, rfl, rfl, rfl, rfl, trivial⟩ (VO.nil ?_)
    refine VC.ret ?_
    refine ⟨_, _, res_run (rs := [.tmp 2]) rfl (.tmp rfl .nil), fun W_ hI => out_of (l := [out_m]) hI [101] rfl rfl (mle_refl _) (fun hS_ => ?_)⟩
    dsimp only [packV]
    have he0 : (d0 ++ spareO : Ty.Den (.sl TOp)) = out := by first | rfl | (have : k = 3 := (by omega); subst this; exact ho.symm)
    refine ⟨Value.slice out_A (out.length) (out_c), ?_, ?_⟩
    rotate_left
    · rw [he0]; exact (Ow.up (OwnL.ow h_out rfl) (hS_.1 _ (.head _)))
    first | rfl | (simp [*]; done)
theorem KeptBytes_ok (W : World) {v0 : Value} {d0 : List UInt8} (h0 : Rd (.sl .byte) (wm W) [v0] d0) {v1 : Value} {d1 : List UInt8} (h1 : Rd (.sl .byte) (wm W) [v1] d1) (e0 : d1.length ≤ 140737488355000) : CallR Try.prog 34 [v0, v1] W (mnil) (fun v m' => v = .bool (decide (d0 = d1 ++ spareB))) := by
  obtain ⟨A0, c0, rfl, l0, k0⟩ := h0.slice
  simp only [maxLen] at k0
  obtain ⟨A1, c1, rfl, l1, k1⟩ := h1.slice
  simp only [maxLen] at k1
  refine CallR.ofA (n := 9) Try.func34 rfl rfl rfl ?_
  refine VC.rs ?_
  refine VO.y rfl (.as rfl) ?_
  refine VO.esub [(0, _), (1, _), (4, _)] ⟨rfl, rfl, rfl, trivial⟩ (VO.nil ?_)
  refine VC.rs ?_
  refine VO.y rfl (.mv rfl) ?_
  refine VO.y rfl (.mv rfl) ?_
  refine VO.callN 101 rfl fnOk28 rfl (fun W hW => LentBytes_ok W (Rd.mono h1 (hW.at (i := 0) rfl)) (by first | omega | (simp only [List.length_append, List.length_nil, List.length_cons, List.length_take, List.length_drop] at *; omega))) (fun v1 m1 hv1 => ?_)
  obtain ⟨s1_0, rfl, f1_0⟩ := hv1
  obtain ⟨A1_0, c1_0, eq1_0, l1_0, k1_0⟩ := f1_0.slice
  subst eq1_0
  simp only [maxLen] at k1_0
  refine VO.callN 102 rfl fnOk33 rfl (fun W hW => SameBytes_ok W (Rd.mono h0 (hW.at (i := 0) rfl)) (OwnL.rd (Ow.ownl f1_0 rfl mnil) (hW.at (i := 101) rfl) (mle_nil _))) (fun v2 m2 hv2 => ?_)
  subst hv2
  refine VO.y rfl (.as rfl) ?_
  refine VO.esub [(0, _), (1, _), (4, _)] ⟨rfl, rfl, rfl, trivial⟩ (VO.nil ?_)
  refine VC.ret ?_
  refine ⟨_, _, res_run (rs := [.tmp 4]) rfl (.tmp rfl .nil), fun W_ hI => out_of (l := []) hI [] rfl rfl (mle_refl _) (fun hS_ => ?_)⟩
  dsimp only [packV]
  all_goals (first | rfl | (rfl))
theorem KeptOps_ok (W : World) {v0 : Value} {d0 : List DOp} (h0 : Rd (.sl TOp) (wm W) [v0] d0) {v1 : Value} {d1 : List DOp} (h1 : Rd (.sl TOp) (wm W) [v1] d1) (e0 : d1.length ≤ 3518437208000) : CallR Try.prog 35 [v0, v1] W (mnil) (fun v m' => v = .bool (decide (d0 = d1 ++ spareO))) := by
  obtain ⟨A0, c0, rfl, l0, k0⟩ := h0.slice
  simp only [maxLen] at k0
  obtain ⟨A1, c1, rfl, l1, k1⟩ := h1.slice
  simp only [maxLen] at k1
  refine CallR.ofA (n := 9) Try.func35 rfl rfl rfl ?_
  refine VC.rs ?_
  refine VO.y rfl (.as rfl) ?_
  refine VO.esub [(0, _), (1, _), (4, _)] ⟨rfl, rfl, rfl, trivial⟩ (VO.nil ?_)
  refine VC.rs ?_
  refine VO.y rfl (.mv rfl) ?_
  refine VO.y rfl (.mv rfl) ?_
  refine VO.callN 101 rfl fnOk29 rfl (fun W hW => LentOps_ok W (Rd.mono h1 (hW.at (i := 0) rfl)) (by first | omega | (simp only [List.length_append, List.length_nil, List.length_cons, List.length_take, List.length_drop] at *; omega))) (fun v1 m1 hv1 => ?_)
  obtain ⟨s1_0, rfl, f1_0⟩ := hv1
  obtain ⟨A1_0, c1_0, eq1_0, l1_0, k1_0⟩ := f1_0.slice
  subst eq1_0
  simp only [maxLen] at k1_0
  refine VO.callN 102 rfl fnOk38 rfl (fun W hW => SameOps_ok W (Rd.mono h0 (hW.at (i := 0) rfl)) (OwnL.rd (Ow.ownl f1_0 rfl mnil) (hW.at (i := 101) rfl) (mle_nil _))) (fun v2 m2 hv2 => ?_)
  subst hv2
  refine VO.y rfl (.as rfl) ?_
  refine VO.esub [(0, _), (1, _), (4, _)] ⟨rfl, rfl, rfl, trivial⟩ (VO.nil ?_)
  refine VC.ret ?_
  refine ⟨_, _, res_run (rs := [.tmp 4]) rfl (.tmp rfl .nil), fun W_ hI => out_of (l := []) hI [] rfl rfl (mle_refl _) (fun hS_ => ?_)⟩
  dsimp only [packV]
  all_goals (first | rfl | (rfl))
theorem opCheck_ok (W : World) {v0 : List Value} {d0 : DOp} (h0 : Rd TOp (wm W) v0 d0) : CallR Try.prog 95 [.agg v0.toArray] W (mnil) (fun v m' => v = .int .i64 (opCheck d0)) := by
  obtain ⟨rfl, p0_1, p0_2⟩ := open_Op (x0 := d0.1) (x1 := d0.2.1) (x2 := d0.2.2) h0
  simp only [maxLen] at p0_1
  simp only [maxLen] at p0_2
  refine CallR.ofA (n := 29) Try.func95 rfl rfl rfl ?_
  refine VC.rs ?_
  refine VO.box (cs := [Value.bool d0.1, str (d0.2.1), str (d0.2.2)]) 102 rfl rfl rfl (fun g1 => ?_)
  refine VO.y rfl (.as rfl) ?_
  refine VO.esub [(0, _), (1, _), (2, _)] ⟨rfl, rfl, rfl, trivial⟩ (VO.nil ?_)
  refine VC.seq ?_
  refine VC.rs ?_
  refine VO.y rfl (.fa rfl tst49 rfl) ?_
  refine VO.y rfl (.ld1 102 rfl tk9 rfl (cellsAt_one rfl rfl)) ?_
  refine VO.y rfl (.lenT rfl Try.underlying9) ?_
  refine VO.y rfl (.lss rfl rfl) ?_
  refine VO.y rfl (.mv rfl) ?_
  refine VO.dec (t := 7) rfl (fun hc3 => ?_) (fun hc3 => ?_)
  · -- T
    refine VO.gn rfl (.inl ⟨_, rfl, rfl⟩) ?_
    refine VO.gn rfl (.inl ⟨_, rfl, rfl⟩) ?_
    refine VO.gn rfl (.inl ⟨_, rfl, rfl⟩) ?_
    refine VO.gn rfl (.inl ⟨_, rfl, rfl⟩) ?_
    refine VO.y rfl (.pT rfl rfl) ?_
    refine VO.y rfl (.mv rfl) ?_
    refine VO.gn rfl (.inl ⟨_, rfl, rfl⟩) ?_
    refine VO.gn rfl (.inl ⟨_, rfl, rfl⟩) ?_
    refine VO.gn rfl (.inl ⟨_, rfl, rfl⟩) ?_
    refine VO.gn rfl (.inl ⟨_, rfl, rfl⟩) ?_
    refine VO.y rfl (.pT rfl rfl) ?_
    refine VO.y rfl (.mv rfl) ?_
    refine VO.gn rfl (.inl ⟨_, rfl, rfl⟩) ?_
    refine VO.gn rfl (.inl ⟨_, rfl, rfl⟩) ?_
    refine VO.gn rfl (.inl ⟨_, rfl, rfl⟩) ?_
    refine VO.gn rfl (.inl ⟨_, rfl, rfl⟩) ?_
    refine VO.gn rfl (.inr ⟨_, rfl, rfl⟩) ?_
    refine VO.gn rfl (.inr ⟨_, rfl, rfl⟩) ?_
    refine VO.gn rfl (.inr ⟨_, rfl, rfl⟩) ?_
    refine VO.gn rfl (.inl ⟨_, rfl, rfl⟩) ?_
    refine VO.y rfl (.pT rfl rfl) ?_
    refine VO.esub [(0, _), (1, _), (2, _), (28, _)] ⟨rfl, rfl, rfl, rfl, trivial⟩ (VO.nil ?_)
    refine VC.condT rfl ?_
    refine VC.rs ?_
    refine VO.y rfl (.as rfl) ?_
    refine VO.esub [(0, _), (1, _), (2, _), (28, _)] ⟨rfl, rfl, rfl, rfl, trivial⟩ (VO.nil ?_)
    refine VC.ret ?_
    refine outR ?_
    refine ⟨_, _, res_run (rs := [.tmp 2]) rfl (.tmp rfl .nil), fun W_ hI => out_of (l := []) hI [] rfl rfl (mle_refl _) (fun hS_ => ?_)⟩
    dsimp only [packV]
    all_goals (first | rfl | (congr 1; first | exact (opCheck_bad (fun h => by have := h.1; have := h.2.1; have := h.2.2.1; omega)).symm | exact (opCheck_bad (fun h => by rcases h.2.2.2 with e | e <;> first | exact absurd e ‹¬ _ = _› | simp [e] at *)).symm | exact (opCheck_good ⟨by omega, by omega, by omega, by first | exact .inl (by simpa using ‹(!d0.1) = false›) | exact .inr (by simpa using ‹¬ ¬ _›)⟩).symm))
  · -- F
    refine VO.gy rfl ⟨_, rfl, rfl⟩ (.fa rfl tst49 rfl) ?_
    refine VO.gy rfl ⟨_, rfl, rfl⟩ (.ld1 102 rfl tk9 rfl (cellsAt_one rfl rfl)) ?_
    refine VO.gy rfl ⟨_, rfl, rfl⟩ (.lenT rfl Try.underlying9) ?_
    refine VO.gy rfl ⟨_, rfl, rfl⟩ (.gtr rfl rfl) ?_
    refine VO.y rfl (.pF rfl rfl) ?_
    refine VO.y rfl (.mv rfl) ?_
    refine VO.dec (t := 13) rfl (fun hc4 => ?_) (fun hc4 => ?_)
    · -- FT
      refine VO.gn rfl (.inl ⟨_, rfl, rfl⟩) ?_
      refine VO.gn rfl (.inl ⟨_, rfl, rfl⟩) ?_
      refine VO.gn rfl (.inl ⟨_, rfl, rfl⟩) ?_
      refine VO.gn rfl (.inl ⟨_, rfl, rfl⟩) ?_
      refine VO.y rfl (.pT rfl rfl) ?_
      refine VO.y rfl (.mv rfl) ?_
      refine VO.gn rfl (.inl ⟨_, rfl, rfl⟩) ?_
      refine VO.gn rfl (.inl ⟨_, rfl, rfl⟩) ?_
      refine VO.gn rfl (.inl ⟨_, rfl, rfl⟩) ?_
      refine VO.gn rfl (.inl ⟨_, rfl, rfl⟩) ?_
      refine VO.gn rfl (.inr ⟨_, rfl, rfl⟩) ?_
      refine VO.gn rfl (.inr ⟨_, rfl, rfl⟩) ?_
      refine VO.gn rfl (.inr ⟨_, rfl, rfl⟩) ?_
      refine VO.gn rfl (.inl ⟨_, rfl, rfl⟩) ?_
      refine VO.y rfl (.pT rfl rfl) ?_
      refine VO.esub [(0, _), (1, _), (2, _), (28, _)] ⟨rfl, rfl, rfl, rfl, trivial⟩ (VO.nil ?_)
      refine VC.condT rfl ?_
      refine VC.rs ?_
      refine VO.y rfl (.as rfl) ?_
      refine VO.esub [(0, _), (1, _), (2, _), (28, _)] ⟨rfl, rfl, rfl, rfl, trivial⟩ (VO.nil ?_)
      refine VC.ret ?_
      refine outR ?_
      refine ⟨_, _, res_run (rs := [.tmp 2]) rfl (.tmp rfl .nil), fun W_ hI => out_of (l := []) hI [] rfl rfl (mle_refl _) (fun hS_ => ?_)⟩
      dsimp only [packV]
      all_goals (first | rfl | (congr 1; first | exact (opCheck_bad (fun h => by have := h.1; have := h.2.1; have := h.2.2.1; omega)).symm | exact (opCheck_bad (fun h => by rcases h.2.2.2 with e | e <;> first | exact absurd e ‹¬ _ = _› | simp [e] at *)).symm | exact (opCheck_good ⟨by omega, by omega, by omega, by first | exact .inl (by simpa using ‹(!d0.1) = false›) | exact .inr (by simpa using ‹¬ ¬ _›)⟩).symm))
    · -- FF
      refine VO.gy rfl ⟨_, rfl, rfl⟩ (.fa rfl tst49 rfl) ?_
      refine VO.gy rfl ⟨_, rfl, rfl⟩ (.ld1 102 rfl tk9 rfl (cellsAt_one rfl rfl)) ?_
      refine VO.gy rfl ⟨_, rfl, rfl⟩ (.lenT rfl Try.underlying9) ?_
      refine VO.gy rfl ⟨_, rfl, rfl⟩ (.gtr rfl rfl) ?_
      refine VO.y rfl (.pF rfl rfl) ?_
      refine VO.y rfl (.mv rfl) ?_
      refine VO.dec (t := 19) rfl (fun hc5 => ?_) (fun hc5 => ?_)
      · -- FFT
        refine VO.gn rfl (.inl ⟨_, rfl, rfl⟩) ?_
        refine VO.gn rfl (.inl ⟨_, rfl, rfl⟩) ?_
        refine VO.gn rfl (.inl ⟨_, rfl, rfl⟩) ?_
        refine VO.gn rfl (.inl ⟨_, rfl, rfl⟩) ?_
        refine VO.gn rfl (.inr ⟨_, rfl, rfl⟩) ?_
        refine VO.gn rfl (.inr ⟨_, rfl, rfl⟩) ?_
        refine VO.gn rfl (.inr ⟨_, rfl, rfl⟩) ?_
        refine VO.gn rfl (.inl ⟨_, rfl, rfl⟩) ?_
        refine VO.y rfl (.pT rfl rfl) ?_
        refine VO.esub [(0, _), (1, _), (2, _), (28, _)] ⟨rfl, rfl, rfl, rfl, trivial⟩ (VO.nil ?_)
        refine VC.condT rfl ?_
        refine VC.rs ?_
        refine VO.y rfl (.as rfl) ?_
        refine VO.esub [(0, _), (1, _), (2, _), (28, _)] ⟨rfl, rfl, rfl, rfl, trivial⟩ (VO.nil ?_)
        refine VC.ret ?_
        refine outR ?_
        refine ⟨_, _, res_run (rs := [.tmp 2]) rfl (.tmp rfl .nil), fun W_ hI => out_of (l := []) hI [] rfl rfl (mle_refl _) (fun hS_ => ?_)⟩
        dsimp only [packV]
        all_goals (first | rfl | (congr 1; first | exact (opCheck_bad (fun h => by have := h.1; have := h.2.1; have := h.2.2.1; omega)).symm | exact (opCheck_bad (fun h => by rcases h.2.2.2 with e | e <;> first | exact absurd e ‹¬ _ = _› | simp [e] at *)).symm | exact (opCheck_good ⟨by omega, by omega, by omega, by first | exact .inl (by simpa using ‹(!d0.1) = false›) | exact .inr (by simpa using ‹¬ ¬ _›)⟩).symm))
      · -- FFF
        refine VO.gy rfl ⟨_, rfl, rfl⟩ (.fa rfl tst49 rfl) ?_
        refine VO.gy rfl ⟨_, rfl, rfl⟩ (.ld1 102 rfl tk4 rfl (cellsAt_one rfl rfl)) ?_
        refine VO.gy rfl ⟨_, rfl, rfl⟩ (.not rfl) ?_
        refine VO.gy rfl ⟨_, rfl, rfl⟩ (.mv rfl) ?_
        refine VO.decB (t := 23) rfl (fun hc6 => ?_) (fun hc6 => ?_)
        · -- FFFT
          refine VO.gy rfl ⟨_, rfl, rfl⟩ (.fa rfl tst49 rfl) ?_
          refine VO.gy rfl ⟨_, rfl, rfl⟩ (.ld1 102 rfl tk9 rfl (cellsAt_one rfl rfl)) ?_
          refine VO.gy rfl ⟨_, rfl, rfl⟩ (.sneq rfl rfl) ?_
          refine VO.gy rfl ⟨_, rfl, rfl⟩ (.pT rfl rfl) ?_
          refine VO.y rfl (.pF rfl rfl) ?_
          refine VO.esub [(0, _), (1, _), (2, _), (28, _)] ⟨rfl, rfl, rfl, rfl, trivial⟩ (VO.nil ?_)
          refine VC.cond rfl (fun hc7 => ?_) (fun hc7 => ?_)
          · -- FFFTT
            refine VC.rs ?_
            refine VO.y rfl (.as rfl) ?_
            refine VO.esub [(0, _), (1, _), (2, _), (28, _)] ⟨rfl, rfl, rfl, rfl, trivial⟩ (VO.nil ?_)
            refine VC.ret ?_
            refine outR ?_
            refine ⟨_, _, res_run (rs := [.tmp 2]) rfl (.tmp rfl .nil), fun W_ hI => out_of (l := []) hI [] rfl rfl (mle_refl _) (fun hS_ => ?_)⟩
            dsimp only [packV]
            all_goals (first | rfl | (congr 1; first | exact (opCheck_bad (fun h => by have := h.1; have := h.2.1; have := h.2.2.1; omega)).symm | exact (opCheck_bad (fun h => by rcases h.2.2.2 with e | e <;> first | exact absurd e ‹¬ _ = _› | simp [e] at *)).symm | exact (opCheck_good ⟨by omega, by omega, by omega, by first | exact .inl (by simpa using ‹(!d0.1) = false›) | exact .inr (by simpa using ‹¬ ¬ _›)⟩).symm))
          · -- FFFTF
            refine VC.skip ?_
            refine outN ?_
            refine VC.rs ?_
            refine VO.y rfl (.as rfl) ?_
            refine VO.esub [(0, _), (1, _), (2, _), (28, _)] ⟨rfl, rfl, rfl, rfl, trivial⟩ (VO.nil ?_)
            refine VC.ret ?_
            refine ⟨_, _, res_run (rs := [.tmp 2]) rfl (.tmp rfl .nil), fun W_ hI => out_of (l := []) hI [] rfl rfl (mle_refl _) (fun hS_ => ?_)⟩
            dsimp only [packV]
            all_goals (first | rfl | (congr 1; first | exact (opCheck_bad (fun h => by have := h.1; have := h.2.1; have := h.2.2.1; omega)).symm | exact (opCheck_bad (fun h => by rcases h.2.2.2 with e | e <;> first | exact absurd e ‹¬ _ = _› | simp [e] at *)).symm | exact (opCheck_good ⟨by omega, by omega, by omega, by first | exact .inl (by simpa using ‹(!d0.1) = false›) | exact .inr (by simpa using ‹¬ ¬ _›)⟩).symm))
        · -- FFFF
          refine VO.gn rfl (.inl ⟨_, rfl, rfl⟩) ?_
          refine VO.gn rfl (.inl ⟨_, rfl, rfl⟩) ?_
          refine VO.gn rfl (.inl ⟨_, rfl, rfl⟩) ?_
          refine VO.gy rfl ⟨_, rfl, rfl⟩ (.pF rfl rfl) ?_
          refine VO.y rfl (.pF rfl rfl) ?_
          refine VO.esub [(0, _), (1, _), (2, _), (28, _)] ⟨rfl, rfl, rfl, rfl, trivial⟩ (VO.nil ?_)
          refine VC.condF rfl ?_
          refine VC.skip ?_
          refine outN ?_
          refine VC.rs ?_
          refine VO.y rfl (.as rfl) ?_
          refine VO.esub [(0, _), (1, _), (2, _), (28, _)] ⟨rfl, rfl, rfl, rfl, trivial⟩ (VO.nil ?_)
          refine VC.ret ?_
          refine ⟨_, _, res_run (rs := [.tmp 2]) rfl (.tmp rfl .nil), fun W_ hI => out_of (l := []) hI [] rfl rfl (mle_refl _) (fun hS_ => ?_)⟩
          dsimp only [packV]
          all_goals (first | rfl | (congr 1; first | exact (opCheck_bad (fun h => by have := h.1; have := h.2.1; have := h.2.2.1; omega)).symm | exact (opCheck_bad (fun h => by rcases h.2.2.2 with e | e <;> first | exact absurd e ‹¬ _ = _› | simp [e] at *)).symm | exact (opCheck_good ⟨by omega, by omega, by omega, by first | exact .inl (by simpa using ‹(!d0.1) = false›) | exact .inr (by simpa using ‹¬ ¬ _›)⟩).symm))
theorem refOpCheck_ok (W : World) {v0 : List Value} {d0 : DOp} (h0 : Rd TOp (wm W) v0 d0) : CallR Try.prog 99 [.agg v0.toArray] W (mnil) (fun v m' => v = .int .i64 (opCheck d0)) := by
  obtain ⟨rfl, p0_1, p0_2⟩ := open_Op (x0 := d0.1) (x1 := d0.2.1) (x2 := d0.2.2) h0
  simp only [maxLen] at p0_1
  simp only [maxLen] at p0_2
  refine CallR.ofA (n := 29) Try.func99 rfl rfl rfl ?_
  refine VC.rs ?_
  refine VO.box (cs := [Value.bool d0.1, str (d0.2.1), str (d0.2.2)]) 102 rfl rfl rfl (fun g1 => ?_)
  refine VO.y rfl (.as rfl) ?_
  refine VO.esub [(0, _), (1, _), (2, _)] ⟨rfl, rfl, rfl, trivial⟩ (VO.nil ?_)
  refine VC.seq ?_
  refine VC.rs ?_
  refine VO.y rfl (.fa rfl tst49 rfl) ?_
  refine VO.y rfl (.ld1 102 rfl tk9 rfl (cellsAt_one rfl rfl)) ?_
  refine VO.y rfl (.lenT rfl Try.underlying9) ?_
  refine VO.y rfl (.lss rfl rfl) ?_
  refine VO.y rfl (.mv rfl) ?_
  refine VO.dec (t := 7) rfl (fun hc3 => ?_) (fun hc3 => ?_)
  · -- T
    refine VO.gn rfl (.inl ⟨_, rfl, rfl⟩) ?_
    refine VO.gn rfl (.inl ⟨_, rfl, rfl⟩) ?_
    refine VO.gn rfl (.inl ⟨_, rfl, rfl⟩) ?_
    refine VO.gn rfl (.inl ⟨_, rfl, rfl⟩) ?_
    refine VO.y rfl (.pT rfl rfl) ?_
    refine VO.y rfl (.mv rfl) ?_
    refine VO.gn rfl (.inl ⟨_, rfl, rfl⟩) ?_
    refine VO.gn rfl (.inl ⟨_, rfl, rfl⟩) ?_
    refine VO.gn rfl (.inl ⟨_, rfl, rfl⟩) ?_
    refine VO.gn rfl (.inl ⟨_, rfl, rfl⟩) ?_
    refine VO.y rfl (.pT rfl rfl) ?_
    refine VO.y rfl (.mv rfl) ?_
    refine VO.gn rfl (.inl ⟨_, rfl, rfl⟩) ?_
    refine VO.gn rfl (.inl ⟨_, rfl, rfl⟩) ?_
    refine VO.gn rfl (.inl ⟨_, rfl, rfl⟩) ?_
    refine VO.gn rfl (.inl ⟨_, rfl, rfl⟩) ?_
    refine VO.gn rfl (.inr ⟨_, rfl, rfl⟩) ?_
    refine VO.gn rfl (.inr ⟨_, rfl, rfl⟩) ?_
    refine VO.gn rfl (.inr ⟨_, rfl, rfl⟩) ?_
    refine VO.gn rfl (.inl ⟨_, rfl, rfl⟩) ?_
    refine VO.y rfl (.pT rfl rfl) ?_
    refine VO.esub [(0, _), (1, _), (2, _), (28, _)] ⟨rfl, rfl, rfl, rfl, trivial⟩ (VO.nil ?_)
    refine VC.condT rfl ?_
    refine VC.rs ?_
    refine VO.y rfl (.as rfl) ?_
    refine VO.esub [(0, _), (1, _), (2, _), (28, _)] ⟨rfl, rfl, rfl, rfl, trivial⟩ (VO.nil ?_)
    refine VC.ret ?_
    refine outR ?_
    refine ⟨_, _, res_run (rs := [.tmp 2]) rfl (.tmp rfl .nil), fun W_ hI => out_of (l := []) hI [] rfl rfl (mle_refl _) (fun hS_ => ?_)⟩
    dsimp only [packV]
    all_goals (first | rfl | (congr 1; first | exact (opCheck_bad (fun h => by have := h.1; have := h.2.1; have := h.2.2.1; omega)).symm | exact (opCheck_bad (fun h => by rcases h.2.2.2 with e | e <;> first | exact absurd e ‹¬ _ = _› | simp [e] at *)).symm | exact (opCheck_good ⟨by omega, by omega, by omega, by first | exact .inl (by simpa using ‹(!d0.1) = false›) | exact .inr (by simpa using ‹¬ ¬ _›)⟩).symm))
  · -- F
    refine VO.gy rfl ⟨_, rfl, rfl⟩ (.fa rfl tst49 rfl) ?_
    refine VO.gy rfl ⟨_, rfl, rfl⟩ (.ld1 102 rfl tk9 rfl (cellsAt_one rfl rfl)) ?_
    refine VO.gy rfl ⟨_, rfl, rfl⟩ (.lenT rfl Try.underlying9) ?_
    refine VO.gy rfl ⟨_, rfl, rfl⟩ (.gtr rfl rfl) ?_
    refine VO.y rfl (.pF rfl rfl) ?_
    refine VO.y rfl (.mv rfl) ?_
    refine VO.dec (t := 13) rfl (fun hc4 => ?_) (fun hc4 => ?_)
    · -- FT
      refine VO.gn rfl (.inl ⟨_, rfl, rfl⟩) ?_
      refine VO.gn rfl (.inl ⟨_, rfl, rfl⟩) ?_
      refine VO.gn rfl (.inl ⟨_, rfl, rfl⟩) ?_
      refine VO.gn rfl (.inl ⟨_, rfl, rfl⟩) ?_
      refine VO.y rfl (.pT rfl rfl) ?_
      refine VO.y rfl (.mv rfl) ?_
      refine VO.gn rfl (.inl ⟨_, rfl, rfl⟩) ?_
      refine VO.gn rfl (.inl ⟨_, rfl, rfl⟩) ?_
      refine VO.gn rfl (.inl ⟨_, rfl, rfl⟩) ?_
      refine VO.gn rfl (.inl ⟨_, rfl, rfl⟩) ?_
      refine VO.gn rfl (.inr ⟨_, rfl, rfl⟩) ?_
      refine VO.gn rfl (.inr ⟨_, rfl, rfl⟩) ?_
      refine VO.gn rfl (.inr ⟨_, rfl, rfl⟩) ?_
      refine VO.gn rfl (.inl ⟨_, rfl, rfl⟩) ?_
      refine VO.y rfl (.pT rfl rfl) ?_
      refine VO.esub [(0, _), (1, _), (2, _), (28, _)] ⟨rfl, rfl, rfl, rfl, trivial⟩ (VO.nil ?_)
      refine VC.condT rfl ?_
      refine VC.rs ?_
      refine VO.y rfl (.as rfl) ?_
      refine VO.esub [(0, _), (1, _), (2, _), (28, _)] ⟨rfl, rfl, rfl, rfl, trivial⟩ (VO.nil ?_)
      refine VC.ret ?_
      refine outR ?_
      refine ⟨_, _, res_run (rs := [.tmp 2]) rfl (.tmp rfl .nil), fun W_ hI => out_of (l := []) hI [] rfl rfl (mle_refl _) (fun hS_ => ?_)⟩
      dsimp only [packV]
      all_goals (first | rfl | (congr 1; first | exact (opCheck_bad (fun h => by have := h.1; have := h.2.1; have := h.2.2.1; omega)).symm | exact (opCheck_bad (fun h => by rcases h.2.2.2 with e | e <;> first | exact absurd e ‹¬ _ = _› | simp [e] at *)).symm | exact (opCheck_good ⟨by omega, by omega, by omega, by first | exact .inl (by simpa using ‹(!d0.1) = false›) | exact .inr (by simpa using ‹¬ ¬ _›)⟩).symm))
    · -- FF
      refine VO.gy rfl ⟨_, rfl, rfl⟩ (.fa rfl tst49 rfl) ?_
      refine VO.gy rfl ⟨_, rfl, rfl⟩ (.ld1 102 rfl tk9 rfl (cellsAt_one rfl rfl)) ?_
      refine VO.gy rfl ⟨_, rfl, rfl⟩ (.lenT rfl Try.underlying9) ?_
      refine VO.gy rfl ⟨_, rfl, rfl⟩ (.gtr rfl rfl) ?_
      refine VO.y rfl (.pF rfl rfl) ?_
      refine VO.y rfl (.mv rfl) ?_
      refine VO.dec (t := 19) rfl (fun hc5 => ?_) (fun hc5 => ?_)
      · -- FFT
        refine VO.gn rfl (.inl ⟨_, rfl, rfl⟩) ?_
        refine VO.gn rfl (.inl ⟨_, rfl, rfl⟩) ?_
        refine VO.gn rfl (.inl ⟨_, rfl, rfl⟩) ?_
        refine VO.gn rfl (.inl ⟨_, rfl, rfl⟩) ?_
        refine VO.gn rfl (.inr ⟨_, rfl, rfl⟩) ?_
        refine VO.gn rfl (.inr ⟨_, rfl, rfl⟩) ?_
        refine VO.gn rfl (.inr ⟨_, rfl, rfl⟩) ?_
        refine VO.gn rfl (.inl ⟨_, rfl, rfl⟩) ?_
        refine VO.y rfl (.pT rfl rfl) ?_
        refine VO.esub [(0, _), (1, _), (2, _), (28, _)] ⟨rfl, rfl, rfl, rfl, trivial⟩ (VO.nil ?_)
        refine VC.condT rfl ?_
        refine VC.rs ?_
        refine VO.y rfl (.as rfl) ?_
        refine VO.esub [(0, _), (1, _), (2, _), (28, _)] ⟨rfl, rfl, rfl, rfl, trivial⟩ (VO.nil ?_)
        refine VC.ret ?_
        refine outR ?_
        refine ⟨_, _, res_run (rs := [.tmp 2]) rfl (.tmp rfl .nil), fun W_ hI => out_of (l := []) hI [] rfl rfl (mle_refl _) (fun hS_ => ?_)⟩
        dsimp only [packV]
        all_goals (first | rfl | (congr 1; first | exact (opCheck_bad (fun h => by have := h.1; have := h.2.1; have := h.2.2.1; omega)).symm | exact (opCheck_bad (fun h => by rcases h.2.2.2 with e | e <;> first | exact absurd e ‹¬ _ = _› | simp [e] at *)).symm | exact (opCheck_good ⟨by omega, by omega, by omega, by first | exact .inl (by simpa using ‹(!d0.1) = false›) | exact .inr (by simpa using ‹¬ ¬ _›)⟩).symm))
      · -- FFF
        refine VO.gy rfl ⟨_, rfl, rfl⟩ (.fa rfl tst49 rfl) ?_
        refine VO.gy rfl ⟨_, rfl, rfl⟩ (.ld1 102 rfl tk4 rfl (cellsAt_one rfl rfl)) ?_
        refine VO.gy rfl ⟨_, rfl, rfl⟩ (.not rfl) ?_
        refine VO.gy rfl ⟨_, rfl, rfl⟩ (.mv rfl) ?_
        refine VO.decB (t := 23) rfl (fun hc6 => ?_) (fun hc6 => ?_)
        · -- FFFT
          refine VO.gy rfl ⟨_, rfl, rfl⟩ (.fa rfl tst49 rfl) ?_
          refine VO.gy rfl ⟨_, rfl, rfl⟩ (.ld1 102 rfl tk9 rfl (cellsAt_one rfl rfl)) ?_
          refine VO.gy rfl ⟨_, rfl, rfl⟩ (.sneq rfl rfl) ?_
          refine VO.gy rfl ⟨_, rfl, rfl⟩ (.pT rfl rfl) ?_
          refine VO.y rfl (.pF rfl rfl) ?_
          refine VO.esub [(0, _), (1, _), (2, _), (28, _)] ⟨rfl, rfl, rfl, rfl, trivial⟩ (VO.nil ?_)
          refine VC.cond rfl (fun hc7 => ?_) (fun hc7 => ?_)
          · -- FFFTT
            refine VC.rs ?_
            refine VO.y rfl (.as rfl) ?_
            refine VO.esub [(0, _), (1, _), (2, _), (28, _)] ⟨rfl, rfl, rfl, rfl, trivial⟩ (VO.nil ?_)
            refine VC.ret ?_
            refine outR ?_
            refine ⟨_, _, res_run (rs := [.tmp 2]) rfl (.tmp rfl .nil), fun W_ hI => out_of (l := []) hI [] rfl rfl (mle_refl _) (fun hS_ => ?_)⟩
            dsimp only [packV]
            all_goals (first | rfl | (congr 1; first | exact (opCheck_bad (fun h => by have := h.1; have := h.2.1; have := h.2.2.1; omega)).symm | exact (opCheck_bad (fun h => by rcases h.2.2.2 with e | e <;> first | exact absurd e ‹¬ _ = _› | simp [e] at *)).symm | exact (opCheck_good ⟨by omega, by omega, by omega, by first | exact .inl (by simpa using ‹(!d0.1) = false›) | exact .inr (by simpa using ‹¬ ¬ _›)⟩).symm))
          · -- FFFTF
            refine VC.skip ?_
            refine outN ?_
            refine VC.rs ?_
            refine VO.y rfl (.as rfl) ?_
            refine VO.esub [(0, _), (1, _), (2, _), (28, _)] ⟨rfl, rfl, rfl, rfl, trivial⟩ (VO.nil ?_)
            refine VC.ret ?_
            refine ⟨_, _, res_run (rs := [.tmp 2]) rfl (.tmp rfl .nil), fun W_ hI => out_of (l := []) hI [] rfl rfl (mle_refl _) (fun hS_ => ?_)⟩
            dsimp only [packV]
            all_goals (first | rfl | (congr 1; first | exact (opCheck_bad (fun h => by have := h.1; have := h.2.1; have := h.2.2.1; omega)).symm | exact (opCheck_bad (fun h => by rcases h.2.2.2 with e | e <;> first | exact absurd e ‹¬ _ = _› | simp [e] at *)).symm | exact (opCheck_good ⟨by omega, by omega, by omega, by first | exact .inl (by simpa using ‹(!d0.1) = false›) | exact .inr (by simpa using ‹¬ ¬ _›)⟩).symm))
        · -- FFFF
          refine VO.gn rfl (.inl ⟨_, rfl, rfl⟩) ?_
          refine VO.gn rfl (.inl ⟨_, rfl, rfl⟩) ?_
          refine VO.gn rfl (.inl ⟨_, rfl, rfl⟩) ?_
          refine VO.gy rfl ⟨_, rfl, rfl⟩ (.pF rfl rfl) ?_
          refine VO.y rfl (.pF rfl rfl) ?_
          refine VO.esub [(0, _), (1, _), (2, _), (28, _)] ⟨rfl, rfl, rfl, rfl, trivial⟩ (VO.nil ?_)
          refine VC.condF rfl ?_
          refine VC.skip ?_
          refine outN ?_
          refine VC.rs ?_
          refine VO.y rfl (.as rfl) ?_
          refine VO.esub [(0, _), (1, _), (2, _), (28, _)] ⟨rfl, rfl, rfl, rfl, trivial⟩ (VO.nil ?_)
          refine VC.ret ?_
          refine ⟨_, _, res_run (rs := [.tmp 2]) rfl (.tmp rfl .nil), fun W_ hI => out_of (l := []) hI [] rfl rfl (mle_refl _) (fun hS_ => ?_)⟩
          dsimp only [packV]
          all_goals (first | rfl | (congr 1; first | exact (opCheck_bad (fun h => by have := h.1; have := h.2.1; have := h.2.2.1; omega)).symm | exact (opCheck_bad (fun h => by rcases h.2.2.2 with e | e <;> first | exact absurd e ‹¬ _ = _› | simp [e] at *)).symm | exact (opCheck_good ⟨by omega, by omega, by omega, by first | exact .inl (by simpa using ‹(!d0.1) = false›) | exact .inr (by simpa using ‹¬ ¬ _›)⟩).symm))
theorem within_ok (W : World) (d0 : Int) (h0 : inK .i64 d0) : CallR Try.prog 109 [.int .i64 d0] W (mnil) (fun v m' => v = .bool (decide (1 ≤ d0 ∧ d0 ≤ 1048576))) := by
  have h0' := h0; simp only [inK] at h0'
  refine CallR.ofA (n := 9) Try.func109 rfl rfl rfl ?_
  refine VC.rs ?_
  refine VO.y rfl (.as rfl) ?_
  refine VO.esub [(0, _), (2, _)] ⟨rfl, rfl, trivial⟩ (VO.nil ?_)
  refine VC.rs ?_
  refine VO.y rfl (.mv rfl) ?_
  refine VO.y rfl (.geq rfl rfl) ?_
  refine VO.y rfl (.mv rfl) ?_
  refine VO.dec (t := 5) rfl (fun hc1 => ?_) (fun hc1 => ?_)
  · -- T
    refine VO.gy rfl ⟨_, rfl, rfl⟩ (.mv rfl) ?_
    refine VO.gy rfl ⟨_, rfl, rfl⟩ (.leq rfl rfl) ?_
    refine VO.y rfl (.pT rfl rfl) ?_
    refine VO.y rfl (.as rfl) ?_
    refine VO.esub [(0, _), (2, _)] ⟨rfl, rfl, trivial⟩ (VO.nil ?_)
    refine VC.ret ?_
    refine ⟨_, _, res_run (rs := [.tmp 2]) rfl (.tmp rfl .nil), fun W_ hI => out_of (l := []) hI [] rfl rfl (mle_refl _) (fun hS_ => ?_)⟩
    dsimp only [packV]
    all_goals (first | rfl | (simp [*]))
  · -- F
    refine VO.gn rfl (.inl ⟨_, rfl, rfl⟩) ?_
    refine VO.gn rfl (.inl ⟨_, rfl, rfl⟩) ?_
    refine VO.y rfl (.pF rfl rfl) ?_
    refine VO.y rfl (.as rfl) ?_
    refine VO.esub [(0, _), (2, _)] ⟨rfl, rfl, trivial⟩ (VO.nil ?_)
    refine VC.ret ?_
    refine ⟨_, _, res_run (rs := [.tmp 2]) rfl (.tmp rfl .nil), fun W_ hI => out_of (l := []) hI [] rfl rfl (mle_refl _) (fun hS_ => ?_)⟩
    dsimp only [packV]
    all_goals (first | rfl | (simp [*]))
theorem vAppend_ok (W : World) {v0 : Value} {d0 : List UInt8} (h0 : Rd (.sl .byte) (wm W) [v0] d0) (d1 : Nat) (h1 : d1 < 18446744073709551616) (e0 : d0.length ≤ 140737488355000) : CallR Try.prog 97 [v0, .int .u64 (d1 : Int)] W (mnil) (fun v m' => ∃ (s0 : Value), v = s0 ∧ Ow (.sl .byte) m' [s0] (d0 ++ venc d1)) := by
  obtain ⟨A0, c0, rfl, l0, k0⟩ := h0.slice
  simp only [maxLen] at k0
  refine CallR.ofA (n := 23) Try.func97 rfl rfl rfl ?_
  refine VC.rs ?_
  refine VO.y rfl (.as rfl) ?_
  refine VO.esub [(0, _), (1, _), (4, _)] ⟨rfl, rfl, rfl, trivial⟩ (VO.nil ?_)
  refine VC.rs ?_
  refine VO.y rfl (.mv rfl) ?_
  refine VO.inv ((102, mnil) :: _) (fun _ h => h.nilc 102) ?_
  obtain ⟨mo1, cs1, hM1, hA1, hC1⟩ := (OwnL.nil .byte mnil mnil)
  obtain ⟨all1, hS1, hR1⟩ := Rd.srcI (P := Try.prog) (h0) Try.underlying23
  refine VO.app 102 rfl rfl rfl tsl23 tz5 rfl rfl hM1 hA1 (hS1 _ 0 rfl) hR1.nice (by simp only [maxLen]; (first | omega | (simp only [List.length_append, List.length_nil, List.length_cons, List.length_take, List.length_drop] at *; omega))) (by first | omega | (simp only [List.length_append, List.length_nil, List.length_cons, List.length_take, List.length_drop] at *; omega)) (by decide) (fun v1 m1 hN1 => ?_)
  have ho1 : OwnL .byte m1 mnil v1 (d0) := OwnL.more hC1 hN1 (All2c.mono hR1 fun _ _ h => Rd.flat rfl h _)
  obtain ⟨A1, c1, rfl, l1, k1⟩ := ho1.slice
  simp only [maxLen] at k1
  refine VO.y rfl (.as rfl) ?_
  refine VO.esub [(0, _), (1, _), (4, _), (5, _)] ⟨rfl, rfl, rfl, rfl, trivial⟩ (VO.nil ?_)
  refine VC.seq ?_
  refine VC.block ?_
  refine VC.loop (G := Nat × (List UInt8) × (Option Addr) × Nat × Mem) (fun g => [(1, Value.int .u64 ((((g.1) : Nat) : Int))), (5, Value.slice (g.2.2.1) ((g.2.1).length) ((g.2.2.2.1))), (0, Value.slice A0 (d0.length) (c0)), (4, Value.slice none (0) (0))]) (fun g => [(102, (g.2.2.2.2)), (0, wm W)]) (fun g => ((g.1) < 18446744073709551616) ∧ ((g.2.1) ++ venc (g.1) = d0 ++ venc d1) ∧ (OwnL .byte (g.2.2.2.2) mnil (.slice (g.2.2.1) (g.2.1).length (g.2.2.2.1)) (g.2.1))) (fun g => (g.1)) (d1, d0, A1, c1, m1) (⟨by omega, by rfl, ho1⟩) ⟨⟨rfl, rfl, rfl, rfl, trivial⟩, fun _ h => h.sub [102, 0]⟩ ?_
  rintro ⟨x, out, out_A, out_c, out_m⟩ ⟨hx, ho, h_out⟩
  replace hx : x < 18446744073709551616 := hx
  replace ho : out ++ venc x = d0 ++ venc d1 := ho
  replace h_out : OwnL .byte out_m mnil (.slice out_A out.length out_c) out := h_out
  show VC _ _ _ _ _ [(1, Value.int .u64 (((x : Nat) : Int))), (5, Value.slice out_A (out.length) (out_c)), (0, Value.slice A0 (d0.length) (c0)), (4, Value.slice none (0) (0))] [(102, out_m), (0, wm W)]
  have l_out : out.length ≤ out_c := by obtain ⟨_, _, he, hl, _⟩ := h_out.slice; simp only [Value.slice.injEq] at he; omega
  have k_out : out_c ≤ 9223372036854775807 := by obtain ⟨_, _, he, _, hl⟩ := h_out.slice; simp only [Value.slice.injEq, maxLen] at he hl; omega
  have hlo := venc_room hx h1 ho
  refine VC.block ?_
  refine VC.seq ?_
  refine VC.rs ?_
  refine VO.y rfl (.mv rfl) ?_
  refine VO.y rfl (.lss rfl rfl) ?_
  refine VO.esub [(0, _), (1, _), (4, _), (5, _), (9, _)] ⟨rfl, rfl, rfl, rfl, rfl, trivial⟩ (VO.nil ?_)
  refine VC.cond rfl (fun hc3 => ?_) (fun hc3 => ?_)
  · -- T
    refine VC.exit ?_
    refine outE ?_
    refine outBE rfl ?_
    refine outE ?_
    refine outBB ?_
    refine outN ?_
    refine VC.rs ?_
    refine VO.y rfl (.mv rfl) ?_
    refine VO.y rfl (.mv rfl) ?_
    refine VO.y rfl (.cvI rfl ⟨_, Try.underlying112⟩ Try.underlying5 (u8_of_nat _)) ?_
    refine VO.bsl (cs := [Value.int .u8 (((x % 256 : Nat) : Int))]) 105 rfl rfl tsl23 tz5 rfl rfl (fun g4 => ?_)
    obtain ⟨mo6, cs6, hM6, hA6, hC6⟩ := h_out
    refine VO.app 102 rfl rfl rfl tsl23 tz5 rfl rfl hM6 hA6 (.row 105 _ _ _ 1 1 _ _ Try.underlying23 rfl (cellsAt_one rfl rfl)) (by simp [Value.oneCell']) (by simp only [maxLen]; (first | omega | (simp only [List.length_append, List.length_nil, List.length_cons, List.length_take, List.length_drop] at *; omega))) (by first | omega | (simp only [List.length_append, List.length_nil, List.length_cons, List.length_take, List.length_drop] at *; omega)) (by decide) (fun v6 m6 hN6 => ?_)
    have ho6 : OwnL .byte m6 mnil v6 (out ++ [UInt8.ofNat (x % 256)]) := OwnL.one hC6 hN6 (rd_byteN (by first | omega | (simp only [List.length_append, List.length_nil, List.length_cons, List.length_take, List.length_drop] at *; omega)))
    obtain ⟨A6, c6, rfl, l6, k6⟩ := ho6.slice
    simp only [maxLen] at k6
    refine VO.y rfl (.as rfl) ?_
    refine VO.esub [(0, _), (1, _), (4, _), (5, _), (9, _)] ⟨rfl, rfl, rfl, rfl, rfl, trivial⟩ (VO.nil ?_)
    refine VC.ret ?_
    refine ⟨_, _, res_run (rs := [.tmp 4]) rfl (.tmp rfl .nil), fun W_ hI => out_of (l := [m6]) hI [102] rfl rfl (mle_refl _) (fun hS_ => ?_)⟩
    dsimp only [packV]
    have he0 : (d0 ++ venc d1 : Ty.Den (.sl .byte)) = out ++ [UInt8.ofNat (x % 256)] := by first | rfl | (rw [← ho, venc_last (by omega)])
    refine ⟨Value.slice A6 ((out ++ [UInt8.ofNat (x % 256)]).length) (c6), ?_, ?_⟩
    rotate_left
    · rw [he0]; exact (Ow.up (OwnL.ow ho6 rfl) (hS_.1 _ (.head _)))
    first | rfl | (simp [*]; done)
  · -- F
    refine VC.skip ?_
    refine outN ?_
    refine VC.rs ?_
    refine VO.y rfl (.mv rfl) ?_
    refine VO.y rfl (.mv rfl) ?_
    refine VO.y rfl (.cvI rfl ⟨_, Try.underlying112⟩ Try.underlying5 (u8_of_nat _)) ?_
    refine VO.y rfl (.bit (.inr (.inl rfl)) rfl rfl (or128 _ (by omega))) ?_
    refine VO.bsl (cs := [Value.int .u8 ((((x % 256) % 128 + 128 : Nat) : Int))]) 108 rfl rfl tsl23 tz5 rfl rfl (fun g7 => ?_)
    obtain ⟨mo9, cs9, hM9, hA9, hC9⟩ := h_out
    refine VO.app 102 rfl rfl rfl tsl23 tz5 rfl rfl hM9 hA9 (.row 108 _ _ _ 1 1 _ _ Try.underlying23 rfl (cellsAt_one rfl rfl)) (by simp [Value.oneCell']) (by simp only [maxLen]; (first | omega | (simp only [List.length_append, List.length_nil, List.length_cons, List.length_take, List.length_drop] at *; omega))) (by first | omega | (simp only [List.length_append, List.length_nil, List.length_cons, List.length_take, List.length_drop] at *; omega)) (by decide) (fun v9 m9 hN9 => ?_)
    have ho9 : OwnL .byte m9 mnil v9 (out ++ [UInt8.ofNat ((x % 256) % 128 + 128)]) := OwnL.one hC9 hN9 (rd_byteN (by first | omega | (simp only [List.length_append, List.length_nil, List.length_cons, List.length_take, List.length_drop] at *; omega)))
    obtain ⟨A9, c9, rfl, l9, k9⟩ := ho9.slice
    simp only [maxLen] at k9
    refine VO.y rfl (.as rfl) ?_
    refine VO.esub [(0, _), (1, _), (4, _), (5, _), (9, _)] ⟨rfl, rfl, rfl, rfl, rfl, trivial⟩ (VO.nil ?_)
    refine VC.reg ?_
    refine VO.y rfl (.mv rfl) ?_
    refine VO.y rfl (.shf (.inr rfl) rfl rfl (shr7 _)) ?_
    refine VO.y rfl (.as rfl) ?_
    refine VO.esub [(0, _), (1, _), (4, _), (5, _), (9, _)] ⟨rfl, rfl, rfl, rfl, rfl, trivial⟩ (VO.nil ?_)
    refine outBN ?_
    exact outN ⟨⟨x / 128, out ++ [UInt8.ofNat ((x % 256) % 128 + 128)], A9, c9, m9⟩, ⟨by omega, by rw [← ho]; exact (venc_step (by omega) _).symm, ho9⟩, by first | omega | (simp only [List.length_append, List.length_nil, List.length_cons, List.length_take, List.length_drop] at *; omega), ⟨⟨rfl, rfl, rfl, rfl, trivial⟩, fun _ h => Inv.sub h [102, 0]⟩⟩
theorem rAppend_ok (W : World) {v0 : Value} {d0 : List UInt8} (h0 : Rd (.sl .byte) (wm W) [v0] d0) (d1 : Nat) (h1 : d1 < 18446744073709551616) (e0 : d0.length ≤ 140737488355000) : CallR Try.prog 137 [v0, .int .u64 (d1 : Int)] W (mnil) (fun v m' => ∃ (s0 : Value), v = s0 ∧ Ow (.sl .byte) m' [s0] (d0 ++ venc d1)) := by
  obtain ⟨A0, c0, rfl, l0, k0⟩ := h0.slice
  simp only [maxLen] at k0
  refine CallR.ofA (n := 25) Try.func137 rfl rfl rfl ?_
  refine VC.rs ?_
  refine VO.y rfl (.as rfl) ?_
  refine VO.esub [(0, _), (1, _), (4, _)] ⟨rfl, rfl, rfl, trivial⟩ (VO.nil ?_)
  refine VC.rs ?_
  refine VO.y rfl (.as rfl) ?_
  refine VO.esub [(0, _), (1, _), (4, _), (5, _)] ⟨rfl, rfl, rfl, rfl, trivial⟩ (VO.nil ?_)
  refine VC.rs ?_
  refine VO.y rfl (.mv rfl) ?_
  refine VO.y rfl (.mv rfl) ?_
  refine VO.inv ((102, mnil) :: _) (fun _ h => h.nilc 102) ?_
  obtain ⟨mo1, cs1, hM1, hA1, hC1⟩ := (OwnL.nil .byte mnil mnil)
  obtain ⟨all1, hS1, hR1⟩ := Rd.srcI (P := Try.prog) (h0) Try.underlying23
  refine VO.app 102 rfl rfl rfl tsl23 tz5 rfl rfl hM1 hA1 (hS1 _ 0 rfl) hR1.nice (by simp only [maxLen]; (first | omega | (simp only [List.length_append, List.length_nil, List.length_cons, List.length_take, List.length_drop] at *; omega))) (by first | omega | (simp only [List.length_append, List.length_nil, List.length_cons, List.length_take, List.length_drop] at *; omega)) (by decide) (fun v1 m1 hN1 => ?_)
  have ho1 : OwnL .byte m1 mnil v1 (d0) := OwnL.more hC1 hN1 (All2c.mono hR1 fun _ _ h => Rd.flat rfl h _)
  obtain ⟨A1, c1, rfl, l1, k1⟩ := ho1.slice
  simp only [maxLen] at k1
  refine VO.y rfl (.as rfl) ?_
  refine VO.esub [(0, _), (1, _), (4, _), (5, _)] ⟨rfl, rfl, rfl, rfl, trivial⟩ (VO.nil ?_)
  refine VC.seq ?_
  refine VC.block ?_
  refine VC.loop (G := Nat × (List UInt8) × (Option Addr) × Nat × Mem) (fun g => [(1, Value.int .u64 ((((g.1) : Nat) : Int))), (5, Value.slice (g.2.2.1) ((g.2.1).length) ((g.2.2.2.1))), (0, Value.slice A0 (d0.length) (c0)), (4, Value.slice none (0) (0))]) (fun g => [(102, (g.2.2.2.2)), (0, wm W)]) (fun g => ((g.1) < 18446744073709551616) ∧ ((g.2.1) ++ venc (g.1) = d0 ++ venc d1) ∧ (OwnL .byte (g.2.2.2.2) mnil (.slice (g.2.2.1) (g.2.1).length (g.2.2.2.1)) (g.2.1))) (fun g => (g.1)) (d1, d0, A1, c1, m1) (⟨by omega, by rfl, ho1⟩) ⟨⟨rfl, rfl, rfl, rfl, trivial⟩, fun _ h => h.sub [102, 0]⟩ ?_
  rintro ⟨x, out, out_A, out_c, out_m⟩ ⟨hx, ho, h_out⟩
  replace hx : x < 18446744073709551616 := hx
  replace ho : out ++ venc x = d0 ++ venc d1 := ho
  replace h_out : OwnL .byte out_m mnil (.slice out_A out.length out_c) out := h_out
  show VC _ _ _ _ _ [(1, Value.int .u64 (((x : Nat) : Int))), (5, Value.slice out_A (out.length) (out_c)), (0, Value.slice A0 (d0.length) (c0)), (4, Value.slice none (0) (0))] [(102, out_m), (0, wm W)]
  have l_out : out.length ≤ out_c := by obtain ⟨_, _, he, hl, _⟩ := h_out.slice; simp only [Value.slice.injEq] at he; omega
  have k_out : out_c ≤ 9223372036854775807 := by obtain ⟨_, _, he, _, hl⟩ := h_out.slice; simp only [Value.slice.injEq, maxLen] at he hl; omega
  have hlo := venc_room hx h1 ho
  refine VC.seq ?_
  refine VC.rs ?_
  refine VO.y rfl (.mv rfl) ?_
  refine VO.y rfl (.geq rfl rfl) ?_
  refine VO.esub [(0, _), (1, _), (4, _), (5, _), (10, _)] ⟨rfl, rfl, rfl, rfl, rfl, trivial⟩ (VO.nil ?_)
  refine VC.cond rfl (fun hc3 => ?_) (fun hc3 => ?_)
  · -- T
    refine VC.skip ?_
    refine outN ?_
    refine VC.block ?_
    refine VC.rs ?_
    refine VO.y rfl (.mv rfl) ?_
    refine VO.y rfl (.mv rfl) ?_
    refine VO.y rfl (.quo (.inr rfl) rfl rfl (rem_nat _ _ _ (by decide))) ?_
    refine VO.y rfl (.cvI rfl ⟨_, Try.underlying112⟩ Try.underlying5 (u8_of_nat _)) ?_
    refine VO.y rfl (.addN (c := ((x % 128) % 256) + 128) rfl rfl rfl (.inl ⟨rfl, by omega⟩)) ?_
    refine VO.bsl (cs := [Value.int .u8 (((((x % 128) % 256) + 128 : Nat) : Int))]) 105 rfl rfl tsl23 tz5 rfl rfl (fun g4 => ?_)
    obtain ⟨mo6, cs6, hM6, hA6, hC6⟩ := h_out
    refine VO.app 102 rfl rfl rfl tsl23 tz5 rfl rfl hM6 hA6 (.row 105 _ _ _ 1 1 _ _ Try.underlying23 rfl (cellsAt_one rfl rfl)) (by simp [Value.oneCell']) (by simp only [maxLen]; (first | omega | (simp only [List.length_append, List.length_nil, List.length_cons, List.length_take, List.length_drop] at *; omega))) (by first | omega | (simp only [List.length_append, List.length_nil, List.length_cons, List.length_take, List.length_drop] at *; omega)) (by decide) (fun v6 m6 hN6 => ?_)
    have ho6 : OwnL .byte m6 mnil v6 (out ++ [UInt8.ofNat (((x % 128) % 256) + 128)]) := OwnL.one hC6 hN6 (rd_byteN (by first | omega | (simp only [List.length_append, List.length_nil, List.length_cons, List.length_take, List.length_drop] at *; omega)))
    obtain ⟨A6, c6, rfl, l6, k6⟩ := ho6.slice
    simp only [maxLen] at k6
    refine VO.y rfl (.as rfl) ?_
    refine VO.esub [(0, _), (1, _), (4, _), (5, _), (10, _)] ⟨rfl, rfl, rfl, rfl, rfl, trivial⟩ (VO.nil ?_)
    refine VC.reg ?_
    refine VO.y rfl (.mv rfl) ?_
    refine VO.y rfl (.quo (.inl rfl) rfl rfl (quo_nat_u64 _ _ (by omega) (by decide))) ?_
    refine VO.y rfl (.as rfl) ?_
    refine VO.esub [(0, _), (1, _), (4, _), (5, _), (10, _)] ⟨rfl, rfl, rfl, rfl, rfl, trivial⟩ (VO.nil ?_)
    refine outBN ?_
    exact outN ⟨⟨x / 128, out ++ [UInt8.ofNat (((x % 128) % 256) + 128)], A6, c6, m6⟩, ⟨by omega, by rw [← ho]; exact (venc_step2 (by omega) _).symm, ho6⟩, by first | omega | (simp only [List.length_append, List.length_nil, List.length_cons, List.length_take, List.length_drop] at *; omega), ⟨⟨rfl, rfl, rfl, rfl, trivial⟩, fun _ h => Inv.sub h [102, 0]⟩⟩
  · -- F
    refine VC.exit ?_
    refine outE ?_
    refine outE ?_
    refine outBB ?_
    refine outN ?_
    refine VC.rs ?_
    refine VO.y rfl (.mv rfl) ?_
    refine VO.y rfl (.mv rfl) ?_
    refine VO.y rfl (.cvI rfl ⟨_, Try.underlying112⟩ Try.underlying5 (u8_of_nat _)) ?_
    refine VO.bsl (cs := [Value.int .u8 (((x % 256 : Nat) : Int))]) 108 rfl rfl tsl23 tz5 rfl rfl (fun g7 => ?_)
    obtain ⟨mo9, cs9, hM9, hA9, hC9⟩ := h_out
    refine VO.app 102 rfl rfl rfl tsl23 tz5 rfl rfl hM9 hA9 (.row 108 _ _ _ 1 1 _ _ Try.underlying23 rfl (cellsAt_one rfl rfl)) (by simp [Value.oneCell']) (by simp only [maxLen]; (first | omega | (simp only [List.length_append, List.length_nil, List.length_cons, List.length_take, List.length_drop] at *; omega))) (by first | omega | (simp only [List.length_append, List.length_nil, List.length_cons, List.length_take, List.length_drop] at *; omega)) (by decide) (fun v9 m9 hN9 => ?_)
    have ho9 : OwnL .byte m9 mnil v9 (out ++ [UInt8.ofNat (x % 256)]) := OwnL.one hC9 hN9 (rd_byteN (by first | omega | (simp only [List.length_append, List.length_nil, List.length_cons, List.length_take, List.length_drop] at *; omega)))
    obtain ⟨A9, c9, rfl, l9, k9⟩ := ho9.slice
    simp only [maxLen] at k9
    refine VO.y rfl (.as rfl) ?_
    refine VO.esub [(0, _), (1, _), (4, _), (5, _), (10, _)] ⟨rfl, rfl, rfl, rfl, rfl, trivial⟩ (VO.nil ?_)
    refine VC.ret ?_
    refine ⟨_, _, res_run (rs := [.tmp 4]) rfl (.tmp rfl .nil), fun W_ hI => out_of (l := [m9]) hI [102] rfl rfl (mle_refl _) (fun hS_ => ?_)⟩
    dsimp only [packV]
    have he0 : (d0 ++ venc d1 : Ty.Den (.sl .byte)) = out ++ [UInt8.ofNat (x % 256)] := by first | rfl | (rw [← ho, venc_last (by omega)])
    refine ⟨Value.slice A9 ((out ++ [UInt8.ofNat (x % 256)]).length) (c9), ?_, ?_⟩
    rotate_left
    · rw [he0]; exact (Ow.up (OwnL.ow ho9 rfl) (hS_.1 _ (.head _)))
    first | rfl | (simp [*]; done)
end Go.Proofs.Ytfaknkkaegjdaaa
