/- Part 6 of the proof of LLetterCalls: what it needs of the library, the walks and the plain laws. Conditions: those named in each theorem. -/
import Derived.Test.YtcikgnbpcombpaaLLetterCallsM5
namespace Go.Proofs.Ytcikgnbpcombpaa
section
set_option linter.unusedVariables false
set_option linter.unusedSimpArgs false
set_option maxRecDepth 4000
theorem fnOk10 : fnOk Try.prog 10 = true := by kernel_rfl
theorem fnOk11 : fnOk Try.prog 11 = true := by kernel_rfl
theorem fnOk12 : fnOk Try.prog 12 = true := by kernel_rfl
theorem fnOk16 : fnOk Try.prog 16 = true := by kernel_rfl
theorem fnOk17 : fnOk Try.prog 17 = true := by kernel_rfl
theorem fnOk18 : fnOk Try.prog 18 = true := by kernel_rfl
theorem fnOk19 : fnOk Try.prog 19 = true := by kernel_rfl
theorem fnOk8 : fnOk Try.prog 8 = true := by kernel_rfl
theorem fnOk9 : fnOk Try.prog 9 = true := by kernel_rfl
theorem small11_ok (W : World) {v0 : List Value} {d0 : DMessage} (h0 : Rd TMessage (wm W) v0 d0) : CallR Try.prog 9 [.agg v0.toArray] W (mnil) (fun v m' => v = .bool (decide (smallM d0))) := by
  obtain ⟨p0_A4, p0_c4, p0_A7, p0_c7, rfl, p0_0, p0_1, p0_2, p0_3, p0_4, p0_5, p0_6, p0_7⟩ := open_Message (x0 := d0.1) (x1 := d0.2.1) (x2 := d0.2.2.1) (x3 := d0.2.2.2.1) (x4 := d0.2.2.2.2.1) (x5 := d0.2.2.2.2.2.1) (x6 := d0.2.2.2.2.2.2.1) (x7 := d0.2.2.2.2.2.2.2) h0
  simp only [inK] at p0_0
  simp only [inK] at p0_1
  simp only [inK] at p0_2
  simp only [inK] at p0_3
  have p0_r4 := Rd.room p0_4
  simp only [inK] at p0_5
  simp only [inK] at p0_6
  have p0_r7 := Rd.room p0_7
  refine CallR.ofA (n := 29) Try.func9 rfl rfl rfl ?_
  refine VC.rs ?_
  refine VO.box (cs := [Value.int .i64 (d0.1), Value.int .i64 (d0.2.1), Value.int .u8 (d0.2.2.1), Value.int .i64 (d0.2.2.2.1), Value.slice p0_A4 (d0.2.2.2.2.1.length) (p0_c4), Value.int .i64 (d0.2.2.2.2.2.1), Value.int .i64 (d0.2.2.2.2.2.2.1), Value.slice p0_A7 (d0.2.2.2.2.2.2.2.length) (p0_c7)]) 102 rfl rfl rfl (fun g1 => ?_)
  refine VO.as ?_
  refine VO.k3 0 1 2 ?_
  refine VC.seq ?_
  refine VC.rs ?_
  refine VO.as ?_
  refine VO.k4 0 1 2 3 ?_
  refine VC.block ?_
  refine VC.loop (G := Nat) (fun k => [(3, Value.int .i64 (((k : Nat) : Int))), (0, Value.agg [Value.int .i64 (d0.1), Value.int .i64 (d0.2.1), Value.int .u8 (d0.2.2.1), Value.int .i64 (d0.2.2.2.1), Value.slice p0_A4 (d0.2.2.2.2.1.length) (p0_c4), Value.int .i64 (d0.2.2.2.2.2.1), Value.int .i64 (d0.2.2.2.2.2.2.1), Value.slice p0_A7 (d0.2.2.2.2.2.2.2.length) (p0_c7)].toArray), (1, Value.pointer (some ⟨g1, 0, none⟩))]) (fun k => [(102, mone g1 (.cells [Value.int .i64 (d0.1), Value.int .i64 (d0.2.1), Value.int .u8 (d0.2.2.1), Value.int .i64 (d0.2.2.2.1), Value.slice p0_A4 (d0.2.2.2.2.1.length) (p0_c4), Value.int .i64 (d0.2.2.2.2.2.1), Value.int .i64 (d0.2.2.2.2.2.2.1), Value.slice p0_A7 (d0.2.2.2.2.2.2.2.length) (p0_c7)].toArray 26 (0, 0))), (0, wm W)]) (fun k => (k ≤ d0.2.2.2.2.2.2.2.length) ∧ (∀ c ∈ d0.2.2.2.2.2.2.2.take k, c.2.2.length ≤ 40)) (fun k => d0.2.2.2.2.2.2.2.length - k) 0 (⟨by omega, by simp⟩) ⟨⟨rfl, rfl, rfl, trivial⟩, fun _ h => h.sub [102, 0]⟩ ?_
  rintro k ⟨hk, ha⟩
  refine VC.seq ?_
  refine VC.rs ?_
  refine VO.mv ?_
  refine VO.y rfl (.fa rfl tst26 rfl) ?_
  refine VO.y rfl (.ld1 102 rfl tk24 rfl (cellsAt_one rfl rfl)) ?_
  refine VO.y rfl (.lenS rfl tsl24) ?_
  refine VO.y rfl (.lss rfl rfl) ?_
  refine VO.keep [102, 0] [(102, mone g1 (.cells [Value.int .i64 (d0.1), Value.int .i64 (d0.2.1), Value.int .u8 (d0.2.2.1), Value.int .i64 (d0.2.2.2.1), Value.slice p0_A4 (d0.2.2.2.2.1.length) (p0_c4), Value.int .i64 (d0.2.2.2.2.2.1), Value.int .i64 (d0.2.2.2.2.2.2.1), Value.slice p0_A7 (d0.2.2.2.2.2.2.2.length) (p0_c7)].toArray 26 (0, 0))), (0, wm W)] (by kernel_rfl) ?_
  refine VO.k4 0 1 3 8 ?_
  refine VC.cond rfl (fun hc3 => ?_) (fun hc3 => ?_)
  · -- T
    refine VC.skip ?_
    refine outN ?_
    refine VC.seq ?_
    refine VC.block ?_
    refine VC.rs ?_
    refine VO.y rfl (.fa rfl tst26 rfl) ?_
    refine VO.y rfl (.ld1 102 rfl tk24 rfl (cellsAt_one rfl rfl)) ?_
    refine VO.mv ?_
    obtain ⟨x4, hx4⟩ : ∃ z_, (d0.2.2.2.2.2.2.2)[k]? = some z_ := ⟨_, List.getElem?_eq_getElem bd⟩
    obtain ⟨gg4, oo4, ec4, ea4, hce4, hre4⟩ := p0_7.elem hx4
    cases ea4
    obtain ⟨q4_A2, q4_c2, rfl, q4_0, q4_1, q4_2⟩ := open_Commit (x0 := x4.1) (x1 := x4.2.1) (x2 := x4.2.2) hre4
    simp only [inK] at q4_0
    simp only [inK] at q4_1
    have q4_r2 := Rd.room q4_2
    refine VO.y rfl (.ixI k rfl rfl tsl24 rfl bd) ?_
    refine VO.y rfl (.fa rfl tst43 rfl) ?_
    refine VO.y rfl (.ld1 0 rfl tk41 rfl (hce4.at1 (j := 2) rfl)) ?_
    refine VO.y rfl (.lenS rfl tsl41) ?_
    refine VO.y rfl (.gtr rfl rfl) ?_
    refine VO.k5 0 1 3 8 18 ?_
    refine VC.cond rfl (fun hc5 => ?_) (fun hc5 => ?_)
    · -- TT
      refine VC.rs ?_
      refine VO.as ?_
      refine VO.k6 0 1 2 3 8 18 ?_
      refine VC.ret ?_
      refine outBR ?_
      refine outR ?_
      refine outR ?_
      refine outBR ?_
      refine outR ?_
      refine ⟨_, _, res_run (rs := [.tmp 2]) rfl (.tmp rfl .nil), fun W_ hI => out_of (l := []) hI [] rfl rfl (mle_refl _) (fun hS_ => ?_)⟩
      dsimp only [packV]
      all_goals (first | rfl | (first | exact congrArg Value.bool (decide_eq_false (fun e => by have := e.1 _ (List.mem_of_getElem? ‹d0.2.2.2.2.2.2.2[k]? = some _›); omega)).symm | exact congrArg Value.bool (decide_eq_false (fun e => by have := e.2; omega)).symm | exact congrArg Value.bool (decide_eq_decide.2 (by have ha2 := ha; rw [List.take_of_length_le (by omega)] at ha2; exact ⟨fun h => ⟨ha2, by omega, by omega⟩, fun h => by have := h.2; omega⟩))))
    · -- TF
      refine VC.skip ?_
      refine outBN ?_
      refine outN ?_
      refine VC.reg ?_
      refine VO.mv ?_
      refine VO.y rfl (.add (c := ((k + 1 : Nat) : Int)) rfl rfl (by omega) ⟨bd, bd⟩) ?_
      refine VO.as ?_
      refine VO.k5 0 1 3 8 18 ?_
      exact outN ⟨k + 1, ⟨by omega, by exact all_next ha ‹d0.2.2.2.2.2.2.2[k]? = some _› (by omega)⟩, bd, ⟨⟨rfl, rfl, rfl, trivial⟩, fun _ h => Inv.sub h [102, 0]⟩⟩
  · -- F
    refine VC.exit ?_
    refine outE ?_
    refine outE ?_
    refine outBB ?_
    refine outN ?_
    refine VC.rs ?_
    refine VO.y rfl (.fa rfl tst26 rfl) ?_
    refine VO.y rfl (.ld1 102 rfl tk23 rfl (cellsAt_one rfl rfl)) ?_
    refine VO.y rfl (.lenS rfl tsl23) ?_
    refine VO.y rfl (.leq rfl rfl) ?_
    refine VO.mv ?_
    refine VO.dec (t := 23) rfl (fun hc6 => ?_) (fun hc6 => ?_)
    · -- FT
      refine VO.gy rfl ⟨_, rfl, rfl⟩ (.fa rfl tst26 rfl) ?_
      refine VO.gy rfl ⟨_, rfl, rfl⟩ (.ld1 102 rfl tk24 rfl (cellsAt_one rfl rfl)) ?_
      refine VO.gy rfl ⟨_, rfl, rfl⟩ (.lenS rfl tsl24) ?_
      refine VO.gy rfl ⟨_, rfl, rfl⟩ (.leq rfl rfl) ?_
      refine VO.y rfl (.pT rfl rfl) ?_
      refine VO.as ?_
      refine VO.k5 0 1 2 3 8 ?_
      refine VC.ret ?_
      refine ⟨_, _, res_run (rs := [.tmp 2]) rfl (.tmp rfl .nil), fun W_ hI => out_of (l := []) hI [] rfl rfl (mle_refl _) (fun hS_ => ?_)⟩
      dsimp only [packV]
      all_goals (first | rfl | (first | exact congrArg Value.bool (decide_eq_false (fun e => by have := e.1 _ (List.mem_of_getElem? ‹d0.2.2.2.2.2.2.2[k]? = some _›); omega)).symm | exact congrArg Value.bool (decide_eq_false (fun e => by have := e.2; omega)).symm | exact congrArg Value.bool (decide_eq_decide.2 (by have ha2 := ha; rw [List.take_of_length_le (by omega)] at ha2; exact ⟨fun h => ⟨ha2, by omega, by omega⟩, fun h => by have := h.2; omega⟩))))
    · -- FF
      refine VO.gN ?_
      refine VO.gN ?_
      refine VO.gN ?_
      refine VO.gN ?_
      refine VO.y rfl (.pF rfl rfl) ?_
      refine VO.as ?_
      refine VO.k5 0 1 2 3 8 ?_
      refine VC.ret ?_
      refine ⟨_, _, res_run (rs := [.tmp 2]) rfl (.tmp rfl .nil), fun W_ hI => out_of (l := []) hI [] rfl rfl (mle_refl _) (fun hS_ => ?_)⟩
      dsimp only [packV]
      all_goals (first | rfl | (first | exact congrArg Value.bool (decide_eq_false (fun e => by have := e.1 _ (List.mem_of_getElem? ‹d0.2.2.2.2.2.2.2[k]? = some _›); omega)).symm | exact congrArg Value.bool (decide_eq_false (fun e => by have := e.2; omega)).symm | exact congrArg Value.bool (decide_eq_decide.2 (by have ha2 := ha; rw [List.take_of_length_le (by omega)] at ha2; exact ⟨fun h => ⟨ha2, by omega, by omega⟩, fun h => by have := h.2; omega⟩))))
theorem lives11_ok (W : World) : CallR Try.prog 8 [] W (mnil) (fun v m' => v = .bool true) := by
  refine CallR.ofA (n := 34) Try.func8 rfl rfl rfl ?_
  refine VC.rs ?_
  refine VO.as ?_
  refine VO.k1 0 ?_
  refine VC.rs ?_
  refine VO.y rfl (.bst (cs := [Value.int .i64 (3), Value.int .i64 (2), Value.int .u8 (0), Value.int .i64 (7), Value.slice none (0) (0), Value.int .i64 (0), Value.int .i64 (0), Value.slice none (0) (0)]) rfl tst26 tz26 rfl) ?_
  refine VO.callN 101 rfl fnOk11 rfl (fun W hW => lEncode_ok W (mk_Message (m := wm W) 3 2 0 7 [] 0 0 [] (by simp only [inK]; (first | omega | (simp only [List.length_append, List.length_nil, List.length_cons, List.length_take, List.length_drop] at *; omega) | (have : exC.length = 6 := rfl; omega) | decide)) (by simp only [inK]; (first | omega | (simp only [List.length_append, List.length_nil, List.length_cons, List.length_take, List.length_drop] at *; omega) | (have : exC.length = 6 := rfl; omega) | decide)) (by simp only [inK]; (first | omega | (simp only [List.length_append, List.length_nil, List.length_cons, List.length_take, List.length_drop] at *; omega) | (have : exC.length = 6 := rfl; omega) | decide)) (by simp only [inK]; (first | omega | (simp only [List.length_append, List.length_nil, List.length_cons, List.length_take, List.length_drop] at *; omega) | (have : exC.length = 6 := rfl; omega) | decide)) (Rd.nil _ _ none 0 (Nat.zero_le _)) (by simp only [inK]; (first | omega | (simp only [List.length_append, List.length_nil, List.length_cons, List.length_take, List.length_drop] at *; omega) | (have : exC.length = 6 := rfl; omega) | decide)) (by simp only [inK]; (first | omega | (simp only [List.length_append, List.length_nil, List.length_cons, List.length_take, List.length_drop] at *; omega) | (have : exC.length = 6 := rfl; omega) | decide)) (Rd.nil _ _ none 0 (Nat.zero_le _)))) (fun v1 m1 hv1 => ?_)
  try dsimp only at hv1
  obtain ⟨s1_0, rfl, f1_0⟩ := hv1
  have hfa2 := lEncode_len (3, 2, 0, 7, [], 0, 0, [])
  generalize hq1_0 : ((lEncode (3, 2, 0, 7, [], 0, 0, [])).1) = r1_0 at f1_0
  obtain ⟨A1_0, c1_0, eq1_0, l1_0, k1_0⟩ := f1_0.slice
  subst eq1_0
  simp only [maxLen] at k1_0
  refine VO.mv ?_
  refine VO.y rfl (.ext rfl rfl) ?_
  refine VO.y rfl (.ext rfl rfl) ?_
  refine VO.as ?_
  refine VO.as ?_
  refine VO.k3 0 1 2 ?_
  refine VC.rs ?_
  refine VO.y rfl (.bst (cs := [Value.int .i64 (1), Value.int .i64 (1)]) rfl tst57 tz57 rfl) ?_
  refine VO.y rfl (.bst (cs := [Value.int .i64 (2), Value.int .i64 (3)]) rfl tst57 tz57 rfl) ?_
  refine VO.bsl (cs := [Value.int .i64 (1), Value.int .i64 (1), Value.int .i64 (2), Value.int .i64 (3)]) 104 rfl rfl tsl23 tz57 rfl rfl (fun g3 => ?_)
  refine VO.y rfl (.bst (cs := [Value.int .i64 (1), Value.int .i64 (2), Value.int .u8 (2), Value.int .i64 (3), Value.slice (some ⟨g3, 0, none⟩) (2) (2), Value.int .i64 (0), Value.int .i64 (0), Value.slice none (0) (0)]) rfl tst26 tz26 rfl) ?_
  have ho6 : OwnL TStart (mone g3 (.cells [Value.int .i64 (1), Value.int .i64 (1), Value.int .i64 (2), Value.int .i64 (3)].toArray 57 (0, 0))) mnil (Value.slice (some ⟨g3, 0, none⟩) (2) (2)) [(1, 1), (2, 3)] := OwnL.lit 2 (All2c.cons (c1 := [Value.int .i64 (1), Value.int .i64 (1)]) (mk_Start (m := _) 1 1 (by simp only [inK]; (first | omega | (simp only [List.length_append, List.length_nil, List.length_cons, List.length_take, List.length_drop] at *; omega) | (have : exC.length = 6 := rfl; omega) | decide)) (by simp only [inK]; (first | omega | (simp only [List.length_append, List.length_nil, List.length_cons, List.length_take, List.length_drop] at *; omega) | (have : exC.length = 6 := rfl; omega) | decide))) (All2c.cons (c1 := [Value.int .i64 (2), Value.int .i64 (3)]) (mk_Start (m := _) 2 3 (by simp only [inK]; (first | omega | (simp only [List.length_append, List.length_nil, List.length_cons, List.length_take, List.length_drop] at *; omega) | (have : exC.length = 6 := rfl; omega) | decide)) (by simp only [inK]; (first | omega | (simp only [List.length_append, List.length_nil, List.length_cons, List.length_take, List.length_drop] at *; omega) | (have : exC.length = 6 := rfl; omega) | decide))) All2c.nil)) rfl rfl
  refine VO.callN 105 rfl fnOk11 rfl (fun W hW => lEncode_ok W (mk_Message (m := wm W) 1 2 2 3 ([(1, 1), (2, 3)]) 0 0 [] (by simp only [inK]; (first | omega | (simp only [List.length_append, List.length_nil, List.length_cons, List.length_take, List.length_drop] at *; omega) | (have : exC.length = 6 := rfl; omega) | decide)) (by simp only [inK]; (first | omega | (simp only [List.length_append, List.length_nil, List.length_cons, List.length_take, List.length_drop] at *; omega) | (have : exC.length = 6 := rfl; omega) | decide)) (by simp only [inK]; (first | omega | (simp only [List.length_append, List.length_nil, List.length_cons, List.length_take, List.length_drop] at *; omega) | (have : exC.length = 6 := rfl; omega) | decide)) (by simp only [inK]; (first | omega | (simp only [List.length_append, List.length_nil, List.length_cons, List.length_take, List.length_drop] at *; omega) | (have : exC.length = 6 := rfl; omega) | decide)) (OwnL.rd ho6 (hW.at (i := 104) rfl) (mle_nil _)) (by simp only [inK]; (first | omega | (simp only [List.length_append, List.length_nil, List.length_cons, List.length_take, List.length_drop] at *; omega) | (have : exC.length = 6 := rfl; omega) | decide)) (by simp only [inK]; (first | omega | (simp only [List.length_append, List.length_nil, List.length_cons, List.length_take, List.length_drop] at *; omega) | (have : exC.length = 6 := rfl; omega) | decide)) (Rd.nil _ _ none 0 (Nat.zero_le _)))) (fun v5 m5 hv5 => ?_)
  try dsimp only at hv5
  obtain ⟨s5_0, rfl, f5_0⟩ := hv5
  have hfa7 := lEncode_len (1, 2, 2, 3, [(1, 1), (2, 3)], 0, 0, [])
  generalize hq5_0 : ((lEncode (1, 2, 2, 3, [(1, 1), (2, 3)], 0, 0, [])).1) = r5_0 at f5_0
  obtain ⟨A5_0, c5_0, eq5_0, l5_0, k5_0⟩ := f5_0.slice
  subst eq5_0
  simp only [maxLen] at k5_0
  refine VO.mv ?_
  refine VO.y rfl (.ext rfl rfl) ?_
  refine VO.y rfl (.ext rfl rfl) ?_
  refine VO.as ?_
  refine VO.as ?_
  refine VO.keep [105, 101, 0] [(105, m5), (101, m1), (0, wm W)] (by kernel_rfl) ?_
  refine VO.k5 0 1 2 3 4 ?_
  refine VC.rs ?_
  refine VO.mv ?_
  refine VO.y rfl (.eql rfl rfl) ?_
  refine VO.mv ?_
  refine VO.dec (t := 20) rfl (fun hc8 => ?_) (fun hc8 => ?_)
  · -- T
    refine VO.gy rfl ⟨_, rfl, rfl⟩ (.mv rfl) ?_
    refine VO.gy rfl ⟨_, rfl, rfl⟩ (.eql rfl rfl) ?_
    refine VO.y rfl (.pT rfl rfl) ?_
    refine VO.mv ?_
    refine VO.dec (t := 24) rfl (fun hc9 => ?_) (fun hc9 => ?_)
    · -- TT
      refine VO.gy rfl ⟨_, rfl, rfl⟩ (.mv rfl) ?_
      refine VO.gbsl (cs := [Value.int .u8 (3), Value.int .u8 (2), Value.int .u8 (7)]) 111 rfl ⟨_, rfl, rfl⟩ rfl tsl30 tz5 rfl rfl (fun g10 => ?_)
      have ho13 : OwnL .byte (mone g10 (.cells [Value.int .u8 (3), Value.int .u8 (2), Value.int .u8 (7)].toArray 5 (0, 0))) mnil (Value.slice (some ⟨g10, 0, none⟩) (3) (3)) [UInt8.ofNat 3, UInt8.ofNat 2, UInt8.ofNat 7] := OwnL.lit 3 (All2c.cons (c1 := [Value.int .u8 (3)]) (rd_byteN (by first | omega | (simp only [List.length_append, List.length_nil, List.length_cons, List.length_take, List.length_drop] at *; omega) | (have : exC.length = 6 := rfl; omega) | decide)) (All2c.cons (c1 := [Value.int .u8 (2)]) (rd_byteN (by first | omega | (simp only [List.length_append, List.length_nil, List.length_cons, List.length_take, List.length_drop] at *; omega) | (have : exC.length = 6 := rfl; omega) | decide)) (All2c.cons (c1 := [Value.int .u8 (7)]) (rd_byteN (by first | omega | (simp only [List.length_append, List.length_nil, List.length_cons, List.length_take, List.length_drop] at *; omega) | (have : exC.length = 6 := rfl; omega) | decide)) All2c.nil))) rfl rfl
      refine VO.gcallN 112 rfl ⟨_, rfl, rfl⟩ fnOk15 rfl (fun W hW => SameBytes_ok W (OwnL.rd (Ow.ownl f1_0 rfl mnil) (hW.at (i := 101) rfl) (mle_nil _)) (OwnL.rd ho13 (hW.at (i := 111) rfl) (mle_nil _))) (fun v12 m12 hv12 => ?_)
      subst hv12
      refine VO.y rfl (.pT rfl rfl) ?_
      refine VO.mv ?_
      refine VO.dec (t := 29) rfl (fun hc14 => ?_) (fun hc14 => ?_)
      · -- TTT
        refine VO.gy rfl ⟨_, rfl, rfl⟩ (.mv rfl) ?_
        refine VO.gbsl (cs := [Value.int .u8 (1), Value.int .u8 (2), Value.int .u8 (2), Value.int .u8 (3), Value.int .u8 (2), Value.int .u8 (1), Value.int .u8 (1), Value.int .u8 (2), Value.int .u8 (3)]) 116 rfl ⟨_, rfl, rfl⟩ rfl tsl30 tz5 rfl rfl (fun g15 => ?_)
        have ho18 : OwnL .byte (mone g15 (.cells [Value.int .u8 (1), Value.int .u8 (2), Value.int .u8 (2), Value.int .u8 (3), Value.int .u8 (2), Value.int .u8 (1), Value.int .u8 (1), Value.int .u8 (2), Value.int .u8 (3)].toArray 5 (0, 0))) mnil (Value.slice (some ⟨g15, 0, none⟩) (9) (9)) [UInt8.ofNat 1, UInt8.ofNat 2, UInt8.ofNat 2, UInt8.ofNat 3, UInt8.ofNat 2, UInt8.ofNat 1, UInt8.ofNat 1, UInt8.ofNat 2, UInt8.ofNat 3] := OwnL.lit 9 (All2c.cons (c1 := [Value.int .u8 (1)]) (rd_byteN (by first | omega | (simp only [List.length_append, List.length_nil, List.length_cons, List.length_take, List.length_drop] at *; omega) | (have : exC.length = 6 := rfl; omega) | decide)) (All2c.cons (c1 := [Value.int .u8 (2)]) (rd_byteN (by first | omega | (simp only [List.length_append, List.length_nil, List.length_cons, List.length_take, List.length_drop] at *; omega) | (have : exC.length = 6 := rfl; omega) | decide)) (All2c.cons (c1 := [Value.int .u8 (2)]) (rd_byteN (by first | omega | (simp only [List.length_append, List.length_nil, List.length_cons, List.length_take, List.length_drop] at *; omega) | (have : exC.length = 6 := rfl; omega) | decide)) (All2c.cons (c1 := [Value.int .u8 (3)]) (rd_byteN (by first | omega | (simp only [List.length_append, List.length_nil, List.length_cons, List.length_take, List.length_drop] at *; omega) | (have : exC.length = 6 := rfl; omega) | decide)) (All2c.cons (c1 := [Value.int .u8 (2)]) (rd_byteN (by first | omega | (simp only [List.length_append, List.length_nil, List.length_cons, List.length_take, List.length_drop] at *; omega) | (have : exC.length = 6 := rfl; omega) | decide)) (All2c.cons (c1 := [Value.int .u8 (1)]) (rd_byteN (by first | omega | (simp only [List.length_append, List.length_nil, List.length_cons, List.length_take, List.length_drop] at *; omega) | (have : exC.length = 6 := rfl; omega) | decide)) (All2c.cons (c1 := [Value.int .u8 (1)]) (rd_byteN (by first | omega | (simp only [List.length_append, List.length_nil, List.length_cons, List.length_take, List.length_drop] at *; omega) | (have : exC.length = 6 := rfl; omega) | decide)) (All2c.cons (c1 := [Value.int .u8 (2)]) (rd_byteN (by first | omega | (simp only [List.length_append, List.length_nil, List.length_cons, List.length_take, List.length_drop] at *; omega) | (have : exC.length = 6 := rfl; omega) | decide)) (All2c.cons (c1 := [Value.int .u8 (3)]) (rd_byteN (by first | omega | (simp only [List.length_append, List.length_nil, List.length_cons, List.length_take, List.length_drop] at *; omega) | (have : exC.length = 6 := rfl; omega) | decide)) All2c.nil))))))))) rfl rfl
        refine VO.gcallN 117 rfl ⟨_, rfl, rfl⟩ fnOk15 rfl (fun W hW => SameBytes_ok W (OwnL.rd (Ow.ownl f5_0 rfl mnil) (hW.at (i := 105) rfl) (mle_nil _)) (OwnL.rd ho18 (hW.at (i := 116) rfl) (mle_nil _))) (fun v17 m17 hv17 => ?_)
        subst hv17
        refine VO.y rfl (.pT rfl rfl) ?_
        refine VO.as ?_
        refine VO.k5 0 1 2 3 4 ?_
        refine VC.ret ?_
        refine ⟨_, _, res_run (rs := [.tmp 0]) rfl (.tmp rfl .nil), fun W_ hI => out_of (l := []) hI [] rfl rfl (mle_refl _) (fun hS_ => ?_)⟩
        dsimp only [packV]
        all_goals (first | rfl | (exact congrArg Value.bool (decide_eq_true (by subst_vars; first | (simp only [ex11a, ex11b, ex11c]; done) | (simp only [ex11a, ex11b, ex11c]; first | rfl | decide) | rfl | decide))))
      · -- TTF
        exact absurd (by subst_vars; first | (simp only [ex11a, ex11b, ex11c]; done) | (simp only [ex11a, ex11b, ex11c]; first | rfl | decide) | rfl | decide) hc14
    · -- TF
      exact absurd (by subst_vars; first | (simp only [ex11a, ex11b, ex11c]; done) | (simp only [ex11a, ex11b, ex11c]; first | rfl | decide) | rfl | decide) hc9
  · -- F
    exact absurd (by subst_vars; first | (simp only [ex11a, ex11b, ex11c]; done) | (simp only [ex11a, ex11b, ex11c]; first | rfl | decide) | rfl | decide) hc8
set_option maxHeartbeats 1000000 in
theorem letterCalls_ok (W : World) {v0 : List Value} {d0 : DMessage} (h0 : Rd TMessage (wm W) v0 d0) {v1 : List Value} {d1 : DMessage} (h1 : Rd TMessage (wm W) v1 d1) : CallR Try.prog 3 [.agg v0.toArray, .agg v1.toArray] W (mnil) (fun v m' => v = .bool true) := by
  obtain ⟨p0_A4, p0_c4, p0_A7, p0_c7, rfl, p0_0, p0_1, p0_2, p0_3, p0_4, p0_5, p0_6, p0_7⟩ := open_Message (x0 := d0.1) (x1 := d0.2.1) (x2 := d0.2.2.1) (x3 := d0.2.2.2.1) (x4 := d0.2.2.2.2.1) (x5 := d0.2.2.2.2.2.1) (x6 := d0.2.2.2.2.2.2.1) (x7 := d0.2.2.2.2.2.2.2) h0
  simp only [inK] at p0_0
  simp only [inK] at p0_1
  simp only [inK] at p0_2
  simp only [inK] at p0_3
  have p0_r4 := Rd.room p0_4
  simp only [inK] at p0_5
  simp only [inK] at p0_6
  have p0_r7 := Rd.room p0_7
  obtain ⟨p1_A4, p1_c4, p1_A7, p1_c7, rfl, p1_0, p1_1, p1_2, p1_3, p1_4, p1_5, p1_6, p1_7⟩ := open_Message (x0 := d1.1) (x1 := d1.2.1) (x2 := d1.2.2.1) (x3 := d1.2.2.2.1) (x4 := d1.2.2.2.2.1) (x5 := d1.2.2.2.2.2.1) (x6 := d1.2.2.2.2.2.2.1) (x7 := d1.2.2.2.2.2.2.2) h1
  simp only [inK] at p1_0
  simp only [inK] at p1_1
  simp only [inK] at p1_2
  simp only [inK] at p1_3
  have p1_r4 := Rd.room p1_4
  simp only [inK] at p1_5
  simp only [inK] at p1_6
  have p1_r7 := Rd.room p1_7
  refine CallR.ofA (n := 79) Try.func3 rfl rfl rfl ?_
  refine VC.rs ?_
  refine VO.box (cs := [Value.int .i64 (d0.1), Value.int .i64 (d0.2.1), Value.int .u8 (d0.2.2.1), Value.int .i64 (d0.2.2.2.1), Value.slice p0_A4 (d0.2.2.2.2.1.length) (p0_c4), Value.int .i64 (d0.2.2.2.2.2.1), Value.int .i64 (d0.2.2.2.2.2.2.1), Value.slice p0_A7 (d0.2.2.2.2.2.2.2.length) (p0_c7)]) 102 rfl rfl rfl (fun g1 => ?_)
  refine VO.box (cs := [Value.int .i64 (d1.1), Value.int .i64 (d1.2.1), Value.int .u8 (d1.2.2.1), Value.int .i64 (d1.2.2.2.1), Value.slice p1_A4 (d1.2.2.2.2.1.length) (p1_c4), Value.int .i64 (d1.2.2.2.2.2.1), Value.int .i64 (d1.2.2.2.2.2.2.1), Value.slice p1_A7 (d1.2.2.2.2.2.2.2.length) (p1_c7)]) 104 rfl rfl rfl (fun g3 => ?_)
  refine VO.as ?_
  refine VO.k5 0 1 2 3 4 ?_
  refine VC.seq ?_
  refine VC.rs ?_
  refine VO.callN 105 rfl fnOk8 rfl (fun W hW => lives11_ok W ) (fun v5 m5 hv5 => ?_)
  subst hv5
  refine VO.y rfl (.not rfl) ?_
  refine VO.k6 0 1 2 3 4 13 ?_
  refine VC.condF rfl ?_
  refine VC.skip ?_
  refine outN ?_
  refine VC.seq ?_
  refine VC.rs ?_
  refine VO.y rfl (.ldA 102 rfl tk26 rfl (cellsAt_one rfl rfl)) ?_
  refine VO.callN 106 rfl fnOk9 rfl (fun W hW => small11_ok W (Rd.mono h0 (hW.at (i := 0) rfl))) (fun v6 m6 hv6 => ?_)
  subst hv6
  refine VO.y rfl (.notD rfl) ?_
  refine VO.mv ?_
  refine VO.dec (t := 17) rfl (fun hc7 => ?_) (fun hc7 => ?_)
  · -- T
    refine VO.gN ?_
    refine VO.gN ?_
    refine VO.gN ?_
    refine VO.y rfl (.pT rfl rfl) ?_
    refine VO.keep [104, 102, 0] [(104, mone g3 (.cells [Value.int .i64 (d1.1), Value.int .i64 (d1.2.1), Value.int .u8 (d1.2.2.1), Value.int .i64 (d1.2.2.2.1), Value.slice p1_A4 (d1.2.2.2.2.1.length) (p1_c4), Value.int .i64 (d1.2.2.2.2.2.1), Value.int .i64 (d1.2.2.2.2.2.2.1), Value.slice p1_A7 (d1.2.2.2.2.2.2.2.length) (p1_c7)].toArray 26 (0, 0))), (102, mone g1 (.cells [Value.int .i64 (d0.1), Value.int .i64 (d0.2.1), Value.int .u8 (d0.2.2.1), Value.int .i64 (d0.2.2.2.1), Value.slice p0_A4 (d0.2.2.2.2.1.length) (p0_c4), Value.int .i64 (d0.2.2.2.2.2.1), Value.int .i64 (d0.2.2.2.2.2.2.1), Value.slice p0_A7 (d0.2.2.2.2.2.2.2.length) (p0_c7)].toArray 26 (0, 0))), (0, wm W)] (by kernel_rfl) ?_
    refine VO.k7 0 1 2 3 4 13 21 ?_
    refine VC.condT rfl ?_
    refine VC.rs ?_
    refine VO.as ?_
    refine VO.k7 0 1 2 3 4 13 21 ?_
    refine VC.ret ?_
    refine outR ?_
    refine ⟨_, _, res_run (rs := [.tmp 4]) rfl (.tmp rfl .nil), fun W_ hI => out_of (l := []) hI [] rfl rfl (mle_refl _) (fun hS_ => ?_)⟩
    dsimp only [packV]
    all_goals (first | rfl | (simp [*]; done))
  · -- F
    refine VO.gy rfl ⟨_, rfl, rfl⟩ (.ldA 104 rfl tk26 rfl (cellsAt_one rfl rfl)) ?_
    refine VO.gcallN 108 rfl ⟨_, rfl, rfl⟩ fnOk9 rfl (fun W hW => small11_ok W (Rd.mono h1 (hW.at (i := 0) rfl))) (fun v8 m8 hv8 => ?_)
    subst hv8
    refine VO.gy rfl ⟨_, rfl, rfl⟩ (.notD rfl) ?_
    refine VO.y rfl (.pF rfl rfl) ?_
    refine VO.keep [104, 102, 0] [(104, mone g3 (.cells [Value.int .i64 (d1.1), Value.int .i64 (d1.2.1), Value.int .u8 (d1.2.2.1), Value.int .i64 (d1.2.2.2.1), Value.slice p1_A4 (d1.2.2.2.2.1.length) (p1_c4), Value.int .i64 (d1.2.2.2.2.2.1), Value.int .i64 (d1.2.2.2.2.2.2.1), Value.slice p1_A7 (d1.2.2.2.2.2.2.2.length) (p1_c7)].toArray 26 (0, 0))), (102, mone g1 (.cells [Value.int .i64 (d0.1), Value.int .i64 (d0.2.1), Value.int .u8 (d0.2.2.1), Value.int .i64 (d0.2.2.2.1), Value.slice p0_A4 (d0.2.2.2.2.1.length) (p0_c4), Value.int .i64 (d0.2.2.2.2.2.1), Value.int .i64 (d0.2.2.2.2.2.2.1), Value.slice p0_A7 (d0.2.2.2.2.2.2.2.length) (p0_c7)].toArray 26 (0, 0))), (0, wm W)] (by kernel_rfl) ?_
    refine VO.k7 0 1 2 3 4 13 21 ?_
    refine VC.cond rfl (fun hc9 => ?_) (fun hc9 => ?_)
    · -- FT
      refine VC.rs ?_
      refine VO.as ?_
      refine VO.k7 0 1 2 3 4 13 21 ?_
      refine VC.ret ?_
      refine outR ?_
      refine ⟨_, _, res_run (rs := [.tmp 4]) rfl (.tmp rfl .nil), fun W_ hI => out_of (l := []) hI [] rfl rfl (mle_refl _) (fun hS_ => ?_)⟩
      dsimp only [packV]
      all_goals (first | rfl | (simp [*]; done))
    · -- FF
      refine VC.skip ?_
      refine outN ?_
      refine VC.rs ?_
      refine VO.y rfl (.ldA 102 rfl tk26 rfl (cellsAt_one rfl rfl)) ?_
      refine VO.callN 110 rfl fnOk10 rfl (fun W hW => LentMessage_ok W (Rd.mono h0 (hW.at (i := 0) rfl)) (by first | omega | (simp only [List.length_append, List.length_nil, List.length_cons, List.length_take, List.length_drop] at *; omega) | (have h_ := (Decidable.not_not.1 ‹¬ ¬ smallM d0›).2; omega)) (by first | omega | (simp only [List.length_append, List.length_nil, List.length_cons, List.length_take, List.length_drop] at *; omega) | (have h_ := (Decidable.not_not.1 ‹¬ ¬ smallM d0›).2; omega)) (by exact fun c hc => by have h_ := (Decidable.not_not.1 ‹¬ ¬ smallM d0›).1 c hc; omega)) (fun v10 m10 hv10 => ?_)
      obtain ⟨s10_0, rfl, f10_0⟩ := hv10
      obtain ⟨q10_0_A4, q10_0_c4, q10_0_A7, q10_0_c7, q10_0_n4, q10_0_n7, rfl, q10_0_S, q10_0_0, q10_0_1, q10_0_2, q10_0_3, q10_0_4, q10_0_5, q10_0_6, q10_0_7⟩ := openO_LMessage (x0 := d0.1) (x1 := d0.2.1) (x2 := d0.2.2.1) (x3 := d0.2.2.2.1) (x4 := (d0.2.2.2.2.1, spareS)) (x5 := d0.2.2.2.2.2.1) (x6 := d0.2.2.2.2.2.2.1) (x7 := (d0.2.2.2.2.2.2.2.map lentC, spareC)) f10_0
      simp only [inK] at q10_0_0
      simp only [inK] at q10_0_1
      simp only [inK] at q10_0_2
      simp only [inK] at q10_0_3
      have q10_0_f4 := (Rd.full (q10_0_4.rd (mle_refl _))).2
      have q10_0_s4 := Rd.pre2 q10_0_f4
      have q10_0_r4 := Rd.room q10_0_f4
      dsimp only at q10_0_f4 q10_0_s4 q10_0_r4
      have q10_0_o4 := (Ow.full q10_0_4).2
      have q10_0_p4 := Ow.pre2 q10_0_o4
      dsimp only at q10_0_o4 q10_0_p4
      simp only [inK] at q10_0_5
      simp only [inK] at q10_0_6
      have q10_0_f7 := (Rd.full (q10_0_7.rd (mle_refl _))).2
      have q10_0_s7 := Rd.pre2 q10_0_f7
      have q10_0_r7 := Rd.room q10_0_f7
      have q10_0_m7 : (d0.2.2.2.2.2.2.2.map lentC).length = d0.2.2.2.2.2.2.2.length := List.length_map ..
      dsimp only at q10_0_f7 q10_0_s7 q10_0_r7
      have q10_0_o7 := (Ow.full q10_0_7).2
      have q10_0_p7 := Ow.pre2 q10_0_o7
      dsimp only at q10_0_o7 q10_0_p7
      refine VO.inv _ (fun _ h => h.parts (i := 110) rfl q10_0_S [111, 112]) ?_
      refine VO.alloc 114 rfl tz26 (fun g13 => ?_)
      refine VO.store (k := 8) (c' := [Value.int .i64 (d0.1), Value.int .i64 (d0.2.1), Value.int .u8 (d0.2.2.1), Value.int .i64 (d0.2.2.2.1), Value.slice q10_0_A4 (d0.2.2.2.2.1.length) (q10_0_c4), Value.int .i64 (d0.2.2.2.2.2.1), Value.int .i64 (d0.2.2.2.2.2.2.1), Value.slice q10_0_A7 ((d0.2.2.2.2.2.2.2.map lentC).length) (q10_0_c7)]) 114 rfl rfl (.inl tk26) rfl rfl rfl rfl rfl ?_
      refine VO.k8 0 1 2 3 4 5 13 21 ?_
      refine VC.rs ?_
      refine VO.y rfl (.ldA 114 rfl tk26 rfl (cellsAt_one rfl rfl)) ?_
      refine VO.callN 115 rfl fnOk11 rfl (fun W hW => lEncode_ok W (show Rd TMessage _ _ d0 from (mk_Message (m := wm W) d0.1 d0.2.1 d0.2.2.1 d0.2.2.2.1 d0.2.2.2.2.1 d0.2.2.2.2.2.1 d0.2.2.2.2.2.2.1 d0.2.2.2.2.2.2.2 (by simp only [inK]; (first | omega | (simp only [List.length_append, List.length_nil, List.length_cons, List.length_take, List.length_drop] at *; omega) | (have h_ := (Decidable.not_not.1 ‹¬ ¬ smallM d0›).2; omega))) (by simp only [inK]; (first | omega | (simp only [List.length_append, List.length_nil, List.length_cons, List.length_take, List.length_drop] at *; omega) | (have h_ := (Decidable.not_not.1 ‹¬ ¬ smallM d0›).2; omega))) (by simp only [inK]; (first | omega | (simp only [List.length_append, List.length_nil, List.length_cons, List.length_take, List.length_drop] at *; omega) | (have h_ := (Decidable.not_not.1 ‹¬ ¬ smallM d0›).2; omega))) (by simp only [inK]; (first | omega | (simp only [List.length_append, List.length_nil, List.length_cons, List.length_take, List.length_drop] at *; omega) | (have h_ := (Decidable.not_not.1 ‹¬ ¬ smallM d0›).2; omega))) (OwnL.rd (Ow.ownl q10_0_p4 rfl mnil) (hW.at (i := 111) rfl) (mle_nil _)) (by simp only [inK]; (first | omega | (simp only [List.length_append, List.length_nil, List.length_cons, List.length_take, List.length_drop] at *; omega) | (have h_ := (Decidable.not_not.1 ‹¬ ¬ smallM d0›).2; omega))) (by simp only [inK]; (first | omega | (simp only [List.length_append, List.length_nil, List.length_cons, List.length_take, List.length_drop] at *; omega) | (have h_ := (Decidable.not_not.1 ‹¬ ¬ smallM d0›).2; omega))) (lentm_rd (Ow.rd q10_0_p7 (hW.at (i := 112) rfl)))))) (fun v15 m15 hv15 => ?_)
      obtain ⟨s15_0, rfl, f15_0⟩ := hv15
      have hfa16 := lEncode_len d0
      obtain ⟨A15_0, c15_0, eq15_0, l15_0, k15_0⟩ := f15_0.slice
      subst eq15_0
      simp only [maxLen] at k15_0
      refine VO.mv ?_
      refine VO.y rfl (.ext rfl rfl) ?_
      refine VO.y rfl (.ext rfl rfl) ?_
      refine VO.as ?_
      refine VO.as ?_
      refine VO.k10 0 1 2 3 4 5 6 7 13 21 ?_
      refine VC.rs ?_
      refine VO.y rfl (.ldA 114 rfl tk26 rfl (cellsAt_one rfl rfl)) ?_
      refine VO.callN 117 rfl fnOk11 rfl (fun W hW => lEncode_ok W (show Rd TMessage _ _ d0 from (mk_Message (m := wm W) d0.1 d0.2.1 d0.2.2.1 d0.2.2.2.1 d0.2.2.2.2.1 d0.2.2.2.2.2.1 d0.2.2.2.2.2.2.1 d0.2.2.2.2.2.2.2 (by simp only [inK]; (first | omega | (simp only [List.length_append, List.length_nil, List.length_cons, List.length_take, List.length_drop] at *; omega) | (have h_ := (Decidable.not_not.1 ‹¬ ¬ smallM d0›).2; omega))) (by simp only [inK]; (first | omega | (simp only [List.length_append, List.length_nil, List.length_cons, List.length_take, List.length_drop] at *; omega) | (have h_ := (Decidable.not_not.1 ‹¬ ¬ smallM d0›).2; omega))) (by simp only [inK]; (first | omega | (simp only [List.length_append, List.length_nil, List.length_cons, List.length_take, List.length_drop] at *; omega) | (have h_ := (Decidable.not_not.1 ‹¬ ¬ smallM d0›).2; omega))) (by simp only [inK]; (first | omega | (simp only [List.length_append, List.length_nil, List.length_cons, List.length_take, List.length_drop] at *; omega) | (have h_ := (Decidable.not_not.1 ‹¬ ¬ smallM d0›).2; omega))) (OwnL.rd (Ow.ownl q10_0_p4 rfl mnil) (hW.at (i := 111) rfl) (mle_nil _)) (by simp only [inK]; (first | omega | (simp only [List.length_append, List.length_nil, List.length_cons, List.length_take, List.length_drop] at *; omega) | (have h_ := (Decidable.not_not.1 ‹¬ ¬ smallM d0›).2; omega))) (by simp only [inK]; (first | omega | (simp only [List.length_append, List.length_nil, List.length_cons, List.length_take, List.length_drop] at *; omega) | (have h_ := (Decidable.not_not.1 ‹¬ ¬ smallM d0›).2; omega))) (lentm_rd (Ow.rd q10_0_p7 (hW.at (i := 112) rfl)))))) (fun v17 m17 hv17 => ?_)
      obtain ⟨s17_0, rfl, f17_0⟩ := hv17
      have hfa18 := lEncode_len d0
      obtain ⟨A17_0, c17_0, eq17_0, l17_0, k17_0⟩ := f17_0.slice
      subst eq17_0
      simp only [maxLen] at k17_0
      refine VO.mv ?_
      refine VO.y rfl (.ext rfl rfl) ?_
      refine VO.y rfl (.ext rfl rfl) ?_
      refine VO.as ?_
      refine VO.as ?_
      refine VO.keep [117, 115, 114, 111, 112, 104, 102, 0] [(117, m17), (115, m15), (114, mone g13 (.cells [Value.int .i64 (d0.1), Value.int .i64 (d0.2.1), Value.int .u8 (d0.2.2.1), Value.int .i64 (d0.2.2.2.1), Value.slice q10_0_A4 (d0.2.2.2.2.1.length) (q10_0_c4), Value.int .i64 (d0.2.2.2.2.2.1), Value.int .i64 (d0.2.2.2.2.2.2.1), Value.slice q10_0_A7 ((d0.2.2.2.2.2.2.2.map lentC).length) (q10_0_c7)].toArray 26 (0, 0))), (111, q10_0_n4), (112, q10_0_n7), (104, mone g3 (.cells [Value.int .i64 (d1.1), Value.int .i64 (d1.2.1), Value.int .u8 (d1.2.2.1), Value.int .i64 (d1.2.2.2.1), Value.slice p1_A4 (d1.2.2.2.2.1.length) (p1_c4), Value.int .i64 (d1.2.2.2.2.2.1), Value.int .i64 (d1.2.2.2.2.2.2.1), Value.slice p1_A7 (d1.2.2.2.2.2.2.2.length) (p1_c7)].toArray 26 (0, 0))), (102, mone g1 (.cells [Value.int .i64 (d0.1), Value.int .i64 (d0.2.1), Value.int .u8 (d0.2.2.1), Value.int .i64 (d0.2.2.2.1), Value.slice p0_A4 (d0.2.2.2.2.1.length) (p0_c4), Value.int .i64 (d0.2.2.2.2.2.1), Value.int .i64 (d0.2.2.2.2.2.2.1), Value.slice p0_A7 (d0.2.2.2.2.2.2.2.length) (p0_c7)].toArray 26 (0, 0))), (0, wm W)] (by kernel_rfl) ?_
      refine VO.k11 0 1 2 3 4 5 6 7 8 13 21 ?_
      refine VC.rs ?_
      refine VO.y rfl (.ldA 102 rfl tk26 rfl (cellsAt_one rfl rfl)) ?_
      refine VO.callN 119 rfl fnOk12 rfl (fun W hW => lEncode11_ok W (Rd.mono h0 (hW.at (i := 0) rfl))) (fun v19 m19 hv19 => ?_)
      obtain ⟨s19_0, rfl, f19_0⟩ := hv19
      have hfa20 := lEncode_len d0
      obtain ⟨A19_0, c19_0, eq19_0, l19_0, k19_0⟩ := f19_0.slice
      subst eq19_0
      simp only [maxLen] at k19_0
      refine VO.mv ?_
      refine VO.y rfl (.ext rfl rfl) ?_
      refine VO.y rfl (.ext rfl rfl) ?_
      refine VO.as ?_
      refine VO.as ?_
      refine VO.k13 0 1 2 3 4 5 6 7 8 10 11 13 21 ?_
      refine VC.seq ?_
      refine VC.regD _ 37 [(0, true), (2, true), (1, false), (3, false), (4, true), (5, true), (6, true), (7, true), (8, true), (9, true), (10, true), (11, true), (12, true), (13, false), (14, true), (15, true), (16, true), (17, true), (19, true), (20, true), (18, false), (21, false), (22, true), (23, true), (24, true), (25, true), (26, true), (27, false), (28, true), (29, true), (30, true), (31, true), (32, false), (33, true), (34, true), (35, true), (36, true)] follows (by kernel_rfl) (fun _ h => h.sub [119, 117, 115, 114, 111, 112, 104, 102, 0]) ?_
      refine VD.y rfl rfl (.inl rfl) (.ldA 114 rfl tk26 rfl (cellsAt_one rfl rfl)) ?_
      refine VD.y rfl rfl (.inl rfl) (.ldA 102 rfl tk26 rfl (cellsAt_one rfl rfl)) ?_
      refine VD.callN 121 rfl rfl (.inl rfl) fnOk13 rfl (fun _ h => h.sub [119, 117, 115, 114, 111, 112, 104, 102, 0]) (fun W hW => lCheck_ok W (show Rd TMessage _ _ d0 from (mk_Message (m := wm W) d0.1 d0.2.1 d0.2.2.1 d0.2.2.2.1 d0.2.2.2.2.1 d0.2.2.2.2.2.1 d0.2.2.2.2.2.2.1 d0.2.2.2.2.2.2.2 (by simp only [inK]; (first | omega | (simp only [List.length_append, List.length_nil, List.length_cons, List.length_take, List.length_drop] at *; omega) | (have h_ := (Decidable.not_not.1 ‹¬ ¬ smallM d0›).2; omega))) (by simp only [inK]; (first | omega | (simp only [List.length_append, List.length_nil, List.length_cons, List.length_take, List.length_drop] at *; omega) | (have h_ := (Decidable.not_not.1 ‹¬ ¬ smallM d0›).2; omega))) (by simp only [inK]; (first | omega | (simp only [List.length_append, List.length_nil, List.length_cons, List.length_take, List.length_drop] at *; omega) | (have h_ := (Decidable.not_not.1 ‹¬ ¬ smallM d0›).2; omega))) (by simp only [inK]; (first | omega | (simp only [List.length_append, List.length_nil, List.length_cons, List.length_take, List.length_drop] at *; omega) | (have h_ := (Decidable.not_not.1 ‹¬ ¬ smallM d0›).2; omega))) (OwnL.rd (Ow.ownl q10_0_p4 rfl mnil) (hW.at (i := 111) rfl) (mle_nil _)) (by simp only [inK]; (first | omega | (simp only [List.length_append, List.length_nil, List.length_cons, List.length_take, List.length_drop] at *; omega) | (have h_ := (Decidable.not_not.1 ‹¬ ¬ smallM d0›).2; omega))) (by simp only [inK]; (first | omega | (simp only [List.length_append, List.length_nil, List.length_cons, List.length_take, List.length_drop] at *; omega) | (have h_ := (Decidable.not_not.1 ‹¬ ¬ smallM d0›).2; omega))) (lentm_rd (Ow.rd q10_0_p7 (hW.at (i := 112) rfl)))))) (fun v21 m21 hv21 => ?_)
      subst hv21
      have hfa22 := lCheck_range d0
      refine VD.callN 123 rfl rfl (.inl rfl) fnOk14 rfl (fun _ h => h.sub [119, 117, 115, 114, 111, 112, 104, 102, 0]) (fun W hW => check11_ok W (Rd.mono h0 (hW.at (i := 0) rfl))) (fun v23 m23 hv23 => ?_)
      subst hv23
      have hfa24 := lCheck_range d0
      refine VD.y rfl rfl (.inl rfl) (.eql rfl rfl) ?_
      refine VD.y rfl rfl (.inl rfl) (.mv rfl) ?_
      refine VD.dec (s := 44) rfl (fun hc25 => ?_) (fun hc25 => ?_)
      · -- FFT
        refine VD.y rfl rfl (.inr ⟨_, _, rfl, _, rfl, rfl⟩) (.mv rfl) ?_
        refine VD.y rfl rfl (.inr ⟨_, _, rfl, _, rfl, rfl⟩) (.mv rfl) ?_
        refine VD.y rfl rfl (.inr ⟨_, _, rfl, _, rfl, rfl⟩) (.eql rfl rfl) ?_
        refine VD.y rfl rfl (.inl rfl) (.pT rfl rfl) ?_
        refine VD.y rfl rfl (.inl rfl) (.mv rfl) ?_
        refine VD.dec (s := 49) rfl (fun hc26 => ?_) (fun hc26 => ?_)
        · -- FFTT
          refine VD.y rfl rfl (.inr ⟨_, _, rfl, _, rfl, rfl⟩) (.mv rfl) ?_
          refine VD.y rfl rfl (.inr ⟨_, _, rfl, _, rfl, rfl⟩) (.mv rfl) ?_
          refine VD.callN 127 rfl rfl (.inr ⟨_, _, rfl, _, rfl, rfl⟩) fnOk15 rfl (fun _ h => h.sub [119, 117, 115, 114, 111, 112, 104, 102, 0]) (fun W hW => SameBytes_ok W (OwnL.rd (Ow.ownl f15_0 rfl mnil) (hW.at (i := 115) rfl) (mle_nil _)) (OwnL.rd (Ow.ownl f19_0 rfl mnil) (hW.at (i := 119) rfl) (mle_nil _))) (fun v27 m27 hv27 => ?_)
          subst hv27
          refine VD.y rfl rfl (.inl rfl) (.pT rfl rfl) ?_
          refine VD.y rfl rfl (.inl rfl) (.mv rfl) ?_
          refine VD.dec (s := 54) rfl (fun hc28 => ?_) (fun hc28 => ?_)
          · -- FFTTT
            refine VD.y rfl rfl (.inr ⟨_, _, rfl, _, rfl, rfl⟩) (.ldA 114 rfl tk26 rfl (cellsAt_one rfl rfl)) ?_
            refine VD.y rfl rfl (.inr ⟨_, _, rfl, _, rfl, rfl⟩) (.ldA 104 rfl tk26 rfl (cellsAt_one rfl rfl)) ?_
            refine VD.y rfl rfl (.inr ⟨_, _, rfl, _, rfl, rfl⟩) (.ldA 102 rfl tk26 rfl (cellsAt_one rfl rfl)) ?_
            refine VD.y rfl rfl (.inr ⟨_, _, rfl, _, rfl, rfl⟩) (.ldA 104 rfl tk26 rfl (cellsAt_one rfl rfl)) ?_
            refine VD.callN 129 rfl rfl (.inr ⟨_, _, rfl, _, rfl, rfl⟩) fnOk16 rfl (fun _ h => h.sub [119, 117, 115, 114, 111, 112, 104, 102, 0]) (fun W hW => lSame_ok W (show Rd TMessage _ _ d0 from (mk_Message (m := wm W) d0.1 d0.2.1 d0.2.2.1 d0.2.2.2.1 d0.2.2.2.2.1 d0.2.2.2.2.2.1 d0.2.2.2.2.2.2.1 d0.2.2.2.2.2.2.2 (by simp only [inK]; (first | omega | (simp only [List.length_append, List.length_nil, List.length_cons, List.length_take, List.length_drop] at *; omega) | (have h_ := (Decidable.not_not.1 ‹¬ ¬ smallM d0›).2; omega))) (by simp only [inK]; (first | omega | (simp only [List.length_append, List.length_nil, List.length_cons, List.length_take, List.length_drop] at *; omega) | (have h_ := (Decidable.not_not.1 ‹¬ ¬ smallM d0›).2; omega))) (by simp only [inK]; (first | omega | (simp only [List.length_append, List.length_nil, List.length_cons, List.length_take, List.length_drop] at *; omega) | (have h_ := (Decidable.not_not.1 ‹¬ ¬ smallM d0›).2; omega))) (by simp only [inK]; (first | omega | (simp only [List.length_append, List.length_nil, List.length_cons, List.length_take, List.length_drop] at *; omega) | (have h_ := (Decidable.not_not.1 ‹¬ ¬ smallM d0›).2; omega))) (OwnL.rd (Ow.ownl q10_0_p4 rfl mnil) (hW.at (i := 111) rfl) (mle_nil _)) (by simp only [inK]; (first | omega | (simp only [List.length_append, List.length_nil, List.length_cons, List.length_take, List.length_drop] at *; omega) | (have h_ := (Decidable.not_not.1 ‹¬ ¬ smallM d0›).2; omega))) (by simp only [inK]; (first | omega | (simp only [List.length_append, List.length_nil, List.length_cons, List.length_take, List.length_drop] at *; omega) | (have h_ := (Decidable.not_not.1 ‹¬ ¬ smallM d0›).2; omega))) (lentm_rd (Ow.rd q10_0_p7 (hW.at (i := 112) rfl))))) (Rd.mono h1 (hW.at (i := 0) rfl))) (fun v29 m29 hv29 => ?_)
            subst hv29
            refine VD.callN 130 rfl rfl (.inr ⟨_, _, rfl, _, rfl, rfl⟩) fnOk17 rfl (fun _ h => h.sub [119, 117, 115, 114, 111, 112, 104, 102, 0]) (fun W hW => lSame11_ok W (Rd.mono h0 (hW.at (i := 0) rfl)) (Rd.mono h1 (hW.at (i := 0) rfl))) (fun v30 m30 hv30 => ?_)
            subst hv30
            refine VD.y rfl rfl (.inr ⟨_, _, rfl, _, rfl, rfl⟩) (.beql rfl rfl Try.underlying4) ?_
            refine VD.y rfl rfl (.inl rfl) (.pT rfl rfl) ?_
            refine VD.y rfl rfl (.inl rfl) (.mv rfl) ?_
            refine VD.dec (s := 63) rfl (fun hc31 => ?_) (fun hc31 => ?_)
            · -- FFTTTT
              refine VD.y rfl rfl (.inr ⟨_, _, rfl, _, rfl, rfl⟩) (.ldA 102 rfl tk26 rfl (cellsAt_one rfl rfl)) ?_
              refine VD.y rfl rfl (.inr ⟨_, _, rfl, _, rfl, rfl⟩) (.ldA 114 rfl tk26 rfl (cellsAt_one rfl rfl)) ?_
              refine VD.callN 132 rfl rfl (.inr ⟨_, _, rfl, _, rfl, rfl⟩) fnOk16 rfl (fun _ h => h.sub [119, 117, 115, 114, 111, 112, 104, 102, 0]) (fun W hW => lSame_ok W (Rd.mono h0 (hW.at (i := 0) rfl)) (show Rd TMessage _ _ d0 from (mk_Message (m := wm W) d0.1 d0.2.1 d0.2.2.1 d0.2.2.2.1 d0.2.2.2.2.1 d0.2.2.2.2.2.1 d0.2.2.2.2.2.2.1 d0.2.2.2.2.2.2.2 (by simp only [inK]; (first | omega | (simp only [List.length_append, List.length_nil, List.length_cons, List.length_take, List.length_drop] at *; omega) | (have h_ := (Decidable.not_not.1 ‹¬ ¬ smallM d0›).2; omega))) (by simp only [inK]; (first | omega | (simp only [List.length_append, List.length_nil, List.length_cons, List.length_take, List.length_drop] at *; omega) | (have h_ := (Decidable.not_not.1 ‹¬ ¬ smallM d0›).2; omega))) (by simp only [inK]; (first | omega | (simp only [List.length_append, List.length_nil, List.length_cons, List.length_take, List.length_drop] at *; omega) | (have h_ := (Decidable.not_not.1 ‹¬ ¬ smallM d0›).2; omega))) (by simp only [inK]; (first | omega | (simp only [List.length_append, List.length_nil, List.length_cons, List.length_take, List.length_drop] at *; omega) | (have h_ := (Decidable.not_not.1 ‹¬ ¬ smallM d0›).2; omega))) (OwnL.rd (Ow.ownl q10_0_p4 rfl mnil) (hW.at (i := 111) rfl) (mle_nil _)) (by simp only [inK]; (first | omega | (simp only [List.length_append, List.length_nil, List.length_cons, List.length_take, List.length_drop] at *; omega) | (have h_ := (Decidable.not_not.1 ‹¬ ¬ smallM d0›).2; omega))) (by simp only [inK]; (first | omega | (simp only [List.length_append, List.length_nil, List.length_cons, List.length_take, List.length_drop] at *; omega) | (have h_ := (Decidable.not_not.1 ‹¬ ¬ smallM d0›).2; omega))) (lentm_rd (Ow.rd q10_0_p7 (hW.at (i := 112) rfl)))))) (fun v32 m32 hv32 => ?_)
              subst hv32
              refine VD.y rfl rfl (.inl rfl) (.pT rfl rfl) ?_
              refine VD.y rfl rfl (.inl rfl) (.mv rfl) ?_
              refine VD.dec (s := 68) rfl (fun hc33 => ?_) (fun hc33 => ?_)
              · -- FFTTTTT
                refine VD.y rfl rfl (.inr ⟨_, _, rfl, _, rfl, rfl⟩) (.ldA 114 rfl tk26 rfl (cellsAt_one rfl rfl)) ?_
                refine VD.y rfl rfl (.inr ⟨_, _, rfl, _, rfl, rfl⟩) (.ldA 102 rfl tk26 rfl (cellsAt_one rfl rfl)) ?_
                refine VD.callN 134 rfl rfl (.inr ⟨_, _, rfl, _, rfl, rfl⟩) fnOk18 rfl (fun _ h => h.sub [119, 117, 115, 114, 111, 112, 104, 102, 0]) (fun W hW => KeptMessage_ok W (mk_LMessage (m := wm W) d0.1 d0.2.1 d0.2.2.1 d0.2.2.2.1 (d0.2.2.2.2.1, spareS) d0.2.2.2.2.2.1 d0.2.2.2.2.2.2.1 (d0.2.2.2.2.2.2.2.map lentC, spareC) (by simp only [inK]; (first | omega | (simp only [List.length_append, List.length_nil, List.length_cons, List.length_take, List.length_drop] at *; omega) | (have h_ := (Decidable.not_not.1 ‹¬ ¬ smallM d0›).2; omega))) (by simp only [inK]; (first | omega | (simp only [List.length_append, List.length_nil, List.length_cons, List.length_take, List.length_drop] at *; omega) | (have h_ := (Decidable.not_not.1 ‹¬ ¬ smallM d0›).2; omega))) (by simp only [inK]; (first | omega | (simp only [List.length_append, List.length_nil, List.length_cons, List.length_take, List.length_drop] at *; omega) | (have h_ := (Decidable.not_not.1 ‹¬ ¬ smallM d0›).2; omega))) (by simp only [inK]; (first | omega | (simp only [List.length_append, List.length_nil, List.length_cons, List.length_take, List.length_drop] at *; omega) | (have h_ := (Decidable.not_not.1 ‹¬ ¬ smallM d0›).2; omega))) (Rd.mono (Rd.mkSpl (e := TStart) (xs := (d0.2.2.2.2.1, spareS).1) (ys := (d0.2.2.2.2.1, spareS).2) q10_0_f4 rfl) (hW.at (i := 111) rfl)) (by simp only [inK]; (first | omega | (simp only [List.length_append, List.length_nil, List.length_cons, List.length_take, List.length_drop] at *; omega) | (have h_ := (Decidable.not_not.1 ‹¬ ¬ smallM d0›).2; omega))) (by simp only [inK]; (first | omega | (simp only [List.length_append, List.length_nil, List.length_cons, List.length_take, List.length_drop] at *; omega) | (have h_ := (Decidable.not_not.1 ‹¬ ¬ smallM d0›).2; omega))) (Rd.mono (Rd.mkSpl (e := TLCommit) (xs := (d0.2.2.2.2.2.2.2.map lentC, spareC).1) (ys := (d0.2.2.2.2.2.2.2.map lentC, spareC).2) q10_0_f7 rfl) (hW.at (i := 112) rfl))) (Rd.mono h0 (hW.at (i := 0) rfl)) (by rfl) (by first | omega | (simp only [List.length_append, List.length_nil, List.length_cons, List.length_take, List.length_drop] at *; omega) | (have h_ := (Decidable.not_not.1 ‹¬ ¬ smallM d0›).2; omega)) (by first | omega | (simp only [List.length_append, List.length_nil, List.length_cons, List.length_take, List.length_drop] at *; omega) | (have h_ := (Decidable.not_not.1 ‹¬ ¬ smallM d0›).2; omega)) (by exact fun c hc => by have h_ := (Decidable.not_not.1 ‹¬ ¬ smallM d0›).1 c hc; omega)) (fun v34 m34 hv34 => ?_)
                try dsimp only at hv34
                subst hv34
                refine VD.y rfl rfl (.inl rfl) (.pT rfl rfl) ?_
                refine VD.y rfl rfl (.inl rfl) (.mv rfl) ?_
                refine VD.y rfl rfl (.inr ⟨_, _, rfl, _, rfl, rfl⟩) (.mv rfl) ?_
                refine VD.y rfl rfl (.inr ⟨_, _, rfl, _, rfl, rfl⟩) (.mv rfl) ?_
                refine VD.nil rfl ?_ rfl
                refine VO.gbsl (cs := [Value.slice A15_0 (((lEncode d0).1).length) (c15_0), Value.slice A17_0 (((lEncode d0).1).length) (c17_0)]) 136 rfl ⟨_, rfl, rfl⟩ rfl tsl38 tz30 rfl rfl (fun g35 => ?_)
                refine VO.gather (l := [mone g35 (.cells [Value.slice A15_0 (((lEncode d0).1).length) (c15_0), Value.slice A17_0 (((lEncode d0).1).length) (c17_0)].toArray 30 (0, 0)), m15, m17]) 139 [136, 115, 117] rfl (fun hg38 => ?_)
                have ho38 : Ow (.sl (.sl .byte)) (muns [mone g35 (.cells [Value.slice A15_0 (((lEncode d0).1).length) (c15_0), Value.slice A17_0 (((lEncode d0).1).length) (c17_0)].toArray 30 (0, 0)), m15, m17]) [Value.slice (some ⟨g35, 0, none⟩) (2) (2)] [(lEncode d0).1, (lEncode d0).1] := Ow.lit 2 (Seps.grp1 (ls := [[m15], [m17]]) hg38) (OwAs.cons (m := muns [m15]) (c1 := [Value.slice A15_0 (((lEncode d0).1).length) (c15_0)]) (Ow.up (OwnL.ow (Ow.ownl f15_0 rfl mnil) rfl) ((Seps.self hg38 (List.Sublist.cons _ (List.Sublist.cons_cons _ (List.Sublist.cons _ List.Sublist.slnil)))).1 _ (.head _))) (OwAs.cons (m := muns [m17]) (c1 := [Value.slice A17_0 (((lEncode d0).1).length) (c17_0)]) (Ow.up (OwnL.ow (Ow.ownl f17_0 rfl mnil) rfl) ((Seps.self hg38 (List.Sublist.cons _ (List.Sublist.cons _ (List.Sublist.cons_cons _ List.Sublist.slnil)))).1 _ (.head _))) OwAs.nil)) rfl rfl
                refine VO.gcall 139 rfl ⟨_, rfl, rfl⟩ fnOk19 rfl rfl (fun W hW => ApartBytes_ok W (hW.at (i := 139) rfl) ho38 (by first | omega | (simp only [List.length_append, List.length_nil, List.length_cons, List.length_take, List.length_drop] at *; omega) | (have h_ := (Decidable.not_not.1 ‹¬ ¬ smallM d0›).2; omega)) (by exact two_lenc d0)) (fun v37 m37 hv37 => ?_)
                subst hv37
                refine VO.y rfl (.pT rfl rfl) ?_
                refine VO.as ?_
                refine VO.keep [119, 114, 111, 112, 104, 102, 0] [(119, m19), (114, mone g13 (.cells [Value.int .i64 (d0.1), Value.int .i64 (d0.2.1), Value.int .u8 (d0.2.2.1), Value.int .i64 (d0.2.2.2.1), Value.slice q10_0_A4 (d0.2.2.2.2.1.length) (q10_0_c4), Value.int .i64 (d0.2.2.2.2.2.1), Value.int .i64 (d0.2.2.2.2.2.2.1), Value.slice q10_0_A7 ((d0.2.2.2.2.2.2.2.map lentC).length) (q10_0_c7)].toArray 26 (0, 0))), (111, q10_0_n4), (112, q10_0_n7), (104, mone g3 (.cells [Value.int .i64 (d1.1), Value.int .i64 (d1.2.1), Value.int .u8 (d1.2.2.1), Value.int .i64 (d1.2.2.2.1), Value.slice p1_A4 (d1.2.2.2.2.1.length) (p1_c4), Value.int .i64 (d1.2.2.2.2.2.1), Value.int .i64 (d1.2.2.2.2.2.2.1), Value.slice p1_A7 (d1.2.2.2.2.2.2.2.length) (p1_c7)].toArray 26 (0, 0))), (102, mone g1 (.cells [Value.int .i64 (d0.1), Value.int .i64 (d0.2.1), Value.int .u8 (d0.2.2.1), Value.int .i64 (d0.2.2.2.1), Value.slice p0_A4 (d0.2.2.2.2.1.length) (p0_c4), Value.int .i64 (d0.2.2.2.2.2.1), Value.int .i64 (d0.2.2.2.2.2.2.1), Value.slice p0_A7 (d0.2.2.2.2.2.2.2.length) (p0_c7)].toArray 26 (0, 0))), (0, wm W)] (by kernel_rfl) ?_
                refine VO.k13 0 1 2 3 4 5 6 7 8 10 11 13 21 ?_
                refine outN ?_
                refine VC.ret ?_
                refine ⟨_, _, res_run (rs := [.tmp 4]) rfl (.tmp rfl .nil), fun W_ hI => out_of (l := []) hI [] rfl rfl (mle_refl _) (fun hS_ => ?_)⟩
                dsimp only [packV]
                all_goals (first | rfl | (simp [*]; done))
              · -- FFTTTTF
                exact absurd rfl hc33
            · -- FFTTTF
              exact absurd rfl hc31
          · -- FFTTF
            exact absurd rfl hc28
        · -- FFTF
          exact absurd rfl hc26
      · -- FFF
        exact absurd rfl hc25
end
section
set_option linter.unusedVariables false
set_option maxRecDepth 4000
open Go.ChangeShapes Go.WideShapes Go.ChangeAt Go.RowKit
theorem letterCalls_ok0 : tyOk Try.prog 60 TMessage (.inl 26) = true := by kernel_rfl
theorem letterCalls_ok1 : tyOk Try.prog 60 TMessage (.inl 26) = true := by kernel_rfl
set_option maxRecDepth 100000 in
theorem letterCalls_lifted (os : Os) (started : os.Started) (H : Type) (enc : TypeId × Value → H) :
    ReturnsInHanded {} Try.checked os 3 .any (Rows.letterCallsSpec.pre6 enc Try.prog Try.f3 Rows.letterCallsRow.domain false) (Rows.letterCallsSpec.post enc Try.prog Try.f3 false true false false) := by
  refine returnsInHanded_of_change (C := Try.checked) (by kernel_rfl) started (by kernel_rfl) Try.func3
    (ChangeSpec.witness6 (enc := enc) (C := Try.checked) false ⟨#[], #[.agg #[.int .i64 0, .int .i64 0, .int .u8 0, .int .i64 0, .slice none 0 0, .int .i64 0, .int .i64 0, .slice none 0 0], .agg #[.int .i64 0, .int .i64 0, .int .u8 0, .int .i64 0, .slice none 0 0, .int .i64 0, .int .i64 0, .slice none 0 0]], []⟩ 8 (by kernel_rfl) (by kernel_rfl) (by kernel_rfl) (by kernel_rfl)) ?_
  intro W base args ds gs before hval0 hW hcnd _
  have hval : ∀ (j : Nat) t v, Try.f3.params[j]? = some t → args[j]? = some v → Value.okWide Try.prog W .any base t v := hval0
  have hW' := hW
  obtain ⟨p, q, hA0, hV, rfl, hfz, hnd⟩ := hW
  have hA : DataW.TrodAll enc Try.prog W 0 (fun _ => true) true Try.f3.params.toList args.toList ds p := hA0
  rw [Try.params3] at hA hval
  clear hA0 hval0
  obtain ⟨args⟩ := args
  obtain ⟨v0, r0, d0, e0, p0, q0, ha0, rfl, rfl, h0, hA0⟩ := trodAll_cons hA
  simp only at ha0; subst ha0
  obtain ⟨v1, r1, d1, e1, p1, q1, ha1, rfl, rfl, h1, hA1⟩ := trodAll_cons hA0
  subst ha1
  obtain ⟨rfl, rfl, rfl⟩ := trodAll_nil hA1
  obtain ⟨c0, x0, rfl, hx0⟩ := arg_st 60 letterCalls_ok0 Try.underlying26 (hval 0 26 v0 rfl rfl) h0
  obtain ⟨c1, x1, rfl, hx1⟩ := arg_st 60 letterCalls_ok1 Try.underlying26 (hval 1 26 v1 rfl rfl) h1
  refine (calls_of (letterCalls_ok W hx0 hx1)).mono fun e W' ⟨he, hg⟩ => ?_
  subst he
  exact ⟨_, rfl, law_post hW' hg laidOut_ok (by kernel_rfl) rfl Try.underlying4 rfl rfl rfl rfl⟩
theorem letterCalls_joined : joinedFacts Try.prog 3 Try.f3 Rows.letterCallsSpec Rows.letterCallsRow = true := by
  unfold joinedFacts
  rw [laidOut_ok, mapsRowed_ok, stopsHeard_ok, mayEnter_ok, lifts_ok, make_ok]
  kernel_rfl
theorem letterCalls_proved : Rows.LetterCallsSaid :=
  OpenClaim.holds_of_wide 3 Try.f3 rfl rfl rfl rfl rfl rfl rfl ⟨rfl, rfl, rfl, rfl, rfl⟩ rfl rfl rfl rfl rfl (by kernel_rfl) Try.func3 letterCalls_joined
    (of_decide_eq_true (by kernel_rfl)) (by unfold Func.isWrapper; first | (rw [if_pos (by decide +kernel)]; kernel_rfl) | (rw [if_neg (by decide +kernel)]; exact ⟨rfl, rfl⟩))
    (fun os started H enc _ => letterCalls_lifted os started H enc)
#print axioms letterCalls_proved
end
end Go.Proofs.Ytcikgnbpcombpaa
