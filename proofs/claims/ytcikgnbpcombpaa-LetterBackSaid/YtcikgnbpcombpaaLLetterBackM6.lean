/- Part 6 of the proof of LLetterBack: what it needs of the library, the walks and the plain laws. Conditions: those named in each theorem. -/
import Derived.Test.YtcikgnbpcombpaaLLetterBackM5
namespace Go.Proofs.Ytcikgnbpcombpaa
section
set_option linter.unusedVariables false
def smallM (m : DMessage) : Prop := (∀ c ∈ m.2.2.2.2.2.2.2, c.2.2.length ≤ 40) ∧ m.2.2.2.2.1.length ≤ 40 ∧ m.2.2.2.2.2.2.2.length ≤ 40
instance (m : DMessage) : Decidable (smallM m) := by unfold smallM; infer_instance
theorem ex11a : lEncode (3, 2, 0, 7, [], 0, 0, []) = ([3, 2, 7], 0) := by
  rw [lEncode_ack (by decide) (by decide) (by decide)]; simp [venc_last]
theorem ex11b : lEncode (1, 2, 2, 3, [(1, 1), (2, 3)], 0, 0, []) = ([1, 2, 2, 3, 2, 1, 1, 2, 3], 0) := by
  rw [lEncode_hello (by decide) rfl]; simp [lHd, sEnc, venc_last]
theorem ex11c : lEncode (2, 1, 0, 0, [], 1, 0, []) = ([2, 1, 1, 0, 0], 0) := by
  rw [lEncode_ship (by decide) (by decide) rfl]; simp [lHs, csEnc, venc_last]
theorem enc_ok {m : DMessage} (h : (lEncode m).2 = 0) : lCheck m = 0 ∧ lEncode m = (lEnc m, 0) := by
  unfold lEncode at h ⊢
  split at h
  · rename_i hc; exact ⟨hc, if_pos hc⟩
  · exact absurd h ‹_›
theorem mback1 {m : DMessage} (h : (lEncode m).2 = 0) : lDec (lEncode m).1 = (m, 0) := by
  obtain ⟨h1, h2⟩ := enc_ok h
  rw [h2]; exact decG_there (R := lComm) good1 h1
theorem mback2 {B : Bytes} (hB : B.length ≤ 9223372036854775807) (h : (lDec B).2 = 0) : lEncode (lDec B).1 = (B, 0) := by
  obtain ⟨h1, h2⟩ := decG_back (R := lComm) good1 hB h
  have h1' : lCheck (lDec B).1 = 0 := h1
  unfold lEncode
  rw [if_pos h1']
  exact Prod.ext h2.symm rfl
theorem mback3 {B : Bytes} (h : ¬ (lDec B).2 = 0) : lDec B = (zeroM, 5) := decG_bad (R := lComm) h
end
section
set_option linter.unusedVariables false
set_option linter.unusedSimpArgs false
set_option maxRecDepth 4000
theorem fnOk11 : fnOk Try.prog 11 = true := by kernel_rfl
theorem fnOk16 : fnOk Try.prog 16 = true := by kernel_rfl
theorem fnOk20 : fnOk Try.prog 20 = true := by kernel_rfl
theorem fnOk8 : fnOk Try.prog 8 = true := by kernel_rfl
theorem fnOk9 : fnOk Try.prog 9 = true := by kernel_rfl
theorem small11_ok (W : World) {v0 : List Value} {d0 : DMessage} (h0 : Rd TMessage (wm W) v0 d0) : CallR Try.prog 9 [.agg v0.toArray] W (mnil) (fun v m' => v = .bool (decide (smallM d0))) := by
  obtain ⟨p0_A4, p0_c4, p0_A7, p0_c7, rfl, p0_0, p0_1, p0_2, p0_3, p0_4, p0_5, p0_6, p0_7⟩ := open_Message (x0 := d0.1) (x1 := d0.2.1) (x2 := d0.2.2.1) (x3 := d0.2.2.2.1) (x4 := d0.2.2.2.2.1) (x5 := d0.2.2.2.2.2.1) (x6 := d0.2.2.2.2.2.2.1) (x7 := d0.2.2.2.2.2.2.2) h0
  simp only [inK] at p0_0
  simp only [inK] at p0_1
  simp only [inK] at p0_2
  simp only [inK] at p0_3
  have p0_r4 := Rd.room p0_4
  simp only [inK] at p0_5
  simp only [inK] at p0_6
  have p0_r7 := Rd.room p0_7
  refine CallR.ofA (n := 29) Try.func9 rfl rfl rfl ?_
  refine VC.rs ?_
  refine VO.box (cs := [Value.int .i64 (d0.1), Value.int .i64 (d0.2.1), Value.int .u8 (d0.2.2.1), Value.int .i64 (d0.2.2.2.1), Value.slice p0_A4 (d0.2.2.2.2.1.length) (p0_c4), Value.int .i64 (d0.2.2.2.2.2.1), Value.int .i64 (d0.2.2.2.2.2.2.1), Value.slice p0_A7 (d0.2.2.2.2.2.2.2.length) (p0_c7)]) 102 rfl rfl rfl (fun g1 => ?_)
  refine VO.as ?_
  refine VO.k3 0 1 2 ?_
  refine VC.seq ?_
  refine VC.rs ?_
  refine VO.as ?_
  refine VO.k4 0 1 2 3 ?_
  refine VC.block ?_
  refine VC.loop (G := Nat) (fun k => [(3, Value.int .i64 (((k : Nat) : Int))), (0, Value.agg [Value.int .i64 (d0.1), Value.int .i64 (d0.2.1), Value.int .u8 (d0.2.2.1), Value.int .i64 (d0.2.2.2.1), Value.slice p0_A4 (d0.2.2.2.2.1.length) (p0_c4), Value.int .i64 (d0.2.2.2.2.2.1), Value.int .i64 (d0.2.2.2.2.2.2.1), Value.slice p0_A7 (d0.2.2.2.2.2.2.2.length) (p0_c7)].toArray), (1, Value.pointer (some ⟨g1, 0, none⟩))]) (fun k => [(102, mone g1 (.cells [Value.int .i64 (d0.1), Value.int .i64 (d0.2.1), Value.int .u8 (d0.2.2.1), Value.int .i64 (d0.2.2.2.1), Value.slice p0_A4 (d0.2.2.2.2.1.length) (p0_c4), Value.int .i64 (d0.2.2.2.2.2.1), Value.int .i64 (d0.2.2.2.2.2.2.1), Value.slice p0_A7 (d0.2.2.2.2.2.2.2.length) (p0_c7)].toArray 26 (0, 0))), (0, wm W)]) (fun k => (k ≤ d0.2.2.2.2.2.2.2.length) ∧ (∀ c ∈ d0.2.2.2.2.2.2.2.take k, c.2.2.length ≤ 40)) (fun k => d0.2.2.2.2.2.2.2.length - k) 0 (⟨by omega, by simp⟩) ⟨⟨rfl, rfl, rfl, trivial⟩, fun _ h => h.sub [102, 0]⟩ ?_
  rintro k ⟨hk, ha⟩
  refine VC.seq ?_
  refine VC.rs ?_
  refine VO.mv ?_
  refine VO.y rfl (.fa rfl tst26 rfl) ?_
  refine VO.y rfl (.ld1 102 rfl tk24 rfl (cellsAt_one rfl rfl)) ?_
  refine VO.y rfl (.lenS rfl tsl24) ?_
  refine VO.y rfl (.lss rfl rfl) ?_
  refine VO.keep [102, 0] [(102, mone g1 (.cells [Value.int .i64 (d0.1), Value.int .i64 (d0.2.1), Value.int .u8 (d0.2.2.1), Value.int .i64 (d0.2.2.2.1), Value.slice p0_A4 (d0.2.2.2.2.1.length) (p0_c4), Value.int .i64 (d0.2.2.2.2.2.1), Value.int .i64 (d0.2.2.2.2.2.2.1), Value.slice p0_A7 (d0.2.2.2.2.2.2.2.length) (p0_c7)].toArray 26 (0, 0))), (0, wm W)] (by kernel_rfl) ?_
  refine VO.k4 0 1 3 8 ?_
  refine VC.cond rfl (fun hc3 => ?_) (fun hc3 => ?_)
  · -- T
    refine VC.skip ?_
    refine outN ?_
    refine VC.seq ?_
    refine VC.block ?_
    refine VC.rs ?_
    refine VO.y rfl (.fa rfl tst26 rfl) ?_
    refine VO.y rfl (.ld1 102 rfl tk24 rfl (cellsAt_one rfl rfl)) ?_
    refine VO.mv ?_
    obtain ⟨x4, hx4⟩ : ∃ z_, (d0.2.2.2.2.2.2.2)[k]? = some z_ := ⟨_, List.getElem?_eq_getElem bd⟩
    obtain ⟨gg4, oo4, ec4, ea4, hce4, hre4⟩ := p0_7.elem hx4
    cases ea4
    obtain ⟨q4_A2, q4_c2, rfl, q4_0, q4_1, q4_2⟩ := open_Commit (x0 := x4.1) (x1 := x4.2.1) (x2 := x4.2.2) hre4
    simp only [inK] at q4_0
    simp only [inK] at q4_1
    have q4_r2 := Rd.room q4_2
    refine VO.y rfl (.ixI k rfl rfl tsl24 rfl bd) ?_
    refine VO.y rfl (.fa rfl tst43 rfl) ?_
    refine VO.y rfl (.ld1 0 rfl tk41 rfl (hce4.at1 (j := 2) rfl)) ?_
    refine VO.y rfl (.lenS rfl tsl41) ?_
    refine VO.y rfl (.gtr rfl rfl) ?_
    refine VO.k5 0 1 3 8 18 ?_
    refine VC.cond rfl (fun hc5 => ?_) (fun hc5 => ?_)
    · -- TT
      refine VC.rs ?_
      refine VO.as ?_
      refine VO.k6 0 1 2 3 8 18 ?_
      refine VC.ret ?_
      refine outBR ?_
      refine outR ?_
      refine outR ?_
      refine outBR ?_
      refine outR ?_
      refine ⟨_, _, res_run (rs := [.tmp 2]) rfl (.tmp rfl .nil), fun W_ hI => out_of (l := []) hI [] rfl rfl (mle_refl _) (fun hS_ => ?_)⟩
      dsimp only [packV]
      all_goals (first | rfl | (first | exact congrArg Value.bool (decide_eq_false (fun e => by have := e.1 _ (List.mem_of_getElem? ‹d0.2.2.2.2.2.2.2[k]? = some _›); omega)).symm | exact congrArg Value.bool (decide_eq_false (fun e => by have := e.2; omega)).symm | exact congrArg Value.bool (decide_eq_decide.2 (by have ha2 := ha; rw [List.take_of_length_le (by omega)] at ha2; exact ⟨fun h => ⟨ha2, by omega, by omega⟩, fun h => by have := h.2; omega⟩))))
    · -- TF
      refine VC.skip ?_
      refine outBN ?_
      refine outN ?_
      refine VC.reg ?_
      refine VO.mv ?_
      refine VO.y rfl (.add (c := ((k + 1 : Nat) : Int)) rfl rfl (by omega) ⟨bd, bd⟩) ?_
      refine VO.as ?_
      refine VO.k5 0 1 3 8 18 ?_
      exact outN ⟨k + 1, ⟨by omega, by exact all_next ha ‹d0.2.2.2.2.2.2.2[k]? = some _› (by omega)⟩, bd, ⟨⟨rfl, rfl, rfl, trivial⟩, fun _ h => Inv.sub h [102, 0]⟩⟩
  · -- F
    refine VC.exit ?_
    refine outE ?_
    refine outE ?_
    refine outBB ?_
    refine outN ?_
    refine VC.rs ?_
    refine VO.y rfl (.fa rfl tst26 rfl) ?_
    refine VO.y rfl (.ld1 102 rfl tk23 rfl (cellsAt_one rfl rfl)) ?_
    refine VO.y rfl (.lenS rfl tsl23) ?_
    refine VO.y rfl (.leq rfl rfl) ?_
    refine VO.mv ?_
    refine VO.dec (t := 23) rfl (fun hc6 => ?_) (fun hc6 => ?_)
    · -- FT
      refine VO.gy rfl ⟨_, rfl, rfl⟩ (.fa rfl tst26 rfl) ?_
      refine VO.gy rfl ⟨_, rfl, rfl⟩ (.ld1 102 rfl tk24 rfl (cellsAt_one rfl rfl)) ?_
      refine VO.gy rfl ⟨_, rfl, rfl⟩ (.lenS rfl tsl24) ?_
      refine VO.gy rfl ⟨_, rfl, rfl⟩ (.leq rfl rfl) ?_
      refine VO.y rfl (.pT rfl rfl) ?_
      refine VO.as ?_
      refine VO.k5 0 1 2 3 8 ?_
      refine VC.ret ?_
      refine ⟨_, _, res_run (rs := [.tmp 2]) rfl (.tmp rfl .nil), fun W_ hI => out_of (l := []) hI [] rfl rfl (mle_refl _) (fun hS_ => ?_)⟩
      dsimp only [packV]
      all_goals (first | rfl | (first | exact congrArg Value.bool (decide_eq_false (fun e => by have := e.1 _ (List.mem_of_getElem? ‹d0.2.2.2.2.2.2.2[k]? = some _›); omega)).symm | exact congrArg Value.bool (decide_eq_false (fun e => by have := e.2; omega)).symm | exact congrArg Value.bool (decide_eq_decide.2 (by have ha2 := ha; rw [List.take_of_length_le (by omega)] at ha2; exact ⟨fun h => ⟨ha2, by omega, by omega⟩, fun h => by have := h.2; omega⟩))))
    · -- FF
      refine VO.gN ?_
      refine VO.gN ?_
      refine VO.gN ?_
      refine VO.gN ?_
      refine VO.y rfl (.pF rfl rfl) ?_
      refine VO.as ?_
      refine VO.k5 0 1 2 3 8 ?_
      refine VC.ret ?_
      refine ⟨_, _, res_run (rs := [.tmp 2]) rfl (.tmp rfl .nil), fun W_ hI => out_of (l := []) hI [] rfl rfl (mle_refl _) (fun hS_ => ?_)⟩
      dsimp only [packV]
      all_goals (first | rfl | (first | exact congrArg Value.bool (decide_eq_false (fun e => by have := e.1 _ (List.mem_of_getElem? ‹d0.2.2.2.2.2.2.2[k]? = some _›); omega)).symm | exact congrArg Value.bool (decide_eq_false (fun e => by have := e.2; omega)).symm | exact congrArg Value.bool (decide_eq_decide.2 (by have ha2 := ha; rw [List.take_of_length_le (by omega)] at ha2; exact ⟨fun h => ⟨ha2, by omega, by omega⟩, fun h => by have := h.2; omega⟩))))
theorem lives11_ok (W : World) : CallR Try.prog 8 [] W (mnil) (fun v m' => v = .bool true) := by
  refine CallR.ofA (n := 34) Try.func8 rfl rfl rfl ?_
  refine VC.rs ?_
  refine VO.as ?_
  refine VO.k1 0 ?_
  refine VC.rs ?_
  refine VO.y rfl (.bst (cs := [Value.int .i64 (3), Value.int .i64 (2), Value.int .u8 (0), Value.int .i64 (7), Value.slice none (0) (0), Value.int .i64 (0), Value.int .i64 (0), Value.slice none (0) (0)]) rfl tst26 tz26 rfl) ?_
  refine VO.callN 101 rfl fnOk11 rfl (fun W hW => lEncode_ok W (mk_Message (m := wm W) 3 2 0 7 [] 0 0 [] (by simp only [inK]; (first | omega | (simp only [List.length_append, List.length_nil, List.length_cons, List.length_take, List.length_drop] at *; omega) | (have : exC.length = 6 := rfl; omega) | decide)) (by simp only [inK]; (first | omega | (simp only [List.length_append, List.length_nil, List.length_cons, List.length_take, List.length_drop] at *; omega) | (have : exC.length = 6 := rfl; omega) | decide)) (by simp only [inK]; (first | omega | (simp only [List.length_append, List.length_nil, List.length_cons, List.length_take, List.length_drop] at *; omega) | (have : exC.length = 6 := rfl; omega) | decide)) (by simp only [inK]; (first | omega | (simp only [List.length_append, List.length_nil, List.length_cons, List.length_take, List.length_drop] at *; omega) | (have : exC.length = 6 := rfl; omega) | decide)) (Rd.nil _ _ none 0 (Nat.zero_le _)) (by simp only [inK]; (first | omega | (simp only [List.length_append, List.length_nil, List.length_cons, List.length_take, List.length_drop] at *; omega) | (have : exC.length = 6 := rfl; omega) | decide)) (by simp only [inK]; (first | omega | (simp only [List.length_append, List.length_nil, List.length_cons, List.length_take, List.length_drop] at *; omega) | (have : exC.length = 6 := rfl; omega) | decide)) (Rd.nil _ _ none 0 (Nat.zero_le _)))) (fun v1 m1 hv1 => ?_)
  try dsimp only at hv1
  obtain ⟨s1_0, rfl, f1_0⟩ := hv1
  have hfa2 := lEncode_len (3, 2, 0, 7, [], 0, 0, [])
  generalize hq1_0 : ((lEncode (3, 2, 0, 7, [], 0, 0, [])).1) = r1_0 at f1_0
  obtain ⟨A1_0, c1_0, eq1_0, l1_0, k1_0⟩ := f1_0.slice
  subst eq1_0
  simp only [maxLen] at k1_0
  refine VO.mv ?_
  refine VO.y rfl (.ext rfl rfl) ?_
  refine VO.y rfl (.ext rfl rfl) ?_
  refine VO.as ?_
  refine VO.as ?_
  refine VO.k3 0 1 2 ?_
  refine VC.rs ?_
  refine VO.y rfl (.bst (cs := [Value.int .i64 (1), Value.int .i64 (1)]) rfl tst57 tz57 rfl) ?_
  refine VO.y rfl (.bst (cs := [Value.int .i64 (2), Value.int .i64 (3)]) rfl tst57 tz57 rfl) ?_
  refine VO.bsl (cs := [Value.int .i64 (1), Value.int .i64 (1), Value.int .i64 (2), Value.int .i64 (3)]) 104 rfl rfl tsl23 tz57 rfl rfl (fun g3 => ?_)
  refine VO.y rfl (.bst (cs := [Value.int .i64 (1), Value.int .i64 (2), Value.int .u8 (2), Value.int .i64 (3), Value.slice (some ⟨g3, 0, none⟩) (2) (2), Value.int .i64 (0), Value.int .i64 (0), Value.slice none (0) (0)]) rfl tst26 tz26 rfl) ?_
  have ho6 : OwnL TStart (mone g3 (.cells [Value.int .i64 (1), Value.int .i64 (1), Value.int .i64 (2), Value.int .i64 (3)].toArray 57 (0, 0))) mnil (Value.slice (some ⟨g3, 0, none⟩) (2) (2)) [(1, 1), (2, 3)] := OwnL.lit 2 (All2c.cons (c1 := [Value.int .i64 (1), Value.int .i64 (1)]) (mk_Start (m := _) 1 1 (by simp only [inK]; (first | omega | (simp only [List.length_append, List.length_nil, List.length_cons, List.length_take, List.length_drop] at *; omega) | (have : exC.length = 6 := rfl; omega) | decide)) (by simp only [inK]; (first | omega | (simp only [List.length_append, List.length_nil, List.length_cons, List.length_take, List.length_drop] at *; omega) | (have : exC.length = 6 := rfl; omega) | decide))) (All2c.cons (c1 := [Value.int .i64 (2), Value.int .i64 (3)]) (mk_Start (m := _) 2 3 (by simp only [inK]; (first | omega | (simp only [List.length_append, List.length_nil, List.length_cons, List.length_take, List.length_drop] at *; omega) | (have : exC.length = 6 := rfl; omega) | decide)) (by simp only [inK]; (first | omega | (simp only [List.length_append, List.length_nil, List.length_cons, List.length_take, List.length_drop] at *; omega) | (have : exC.length = 6 := rfl; omega) | decide))) All2c.nil)) rfl rfl
  refine VO.callN 105 rfl fnOk11 rfl (fun W hW => lEncode_ok W (mk_Message (m := wm W) 1 2 2 3 ([(1, 1), (2, 3)]) 0 0 [] (by simp only [inK]; (first | omega | (simp only [List.length_append, List.length_nil, List.length_cons, List.length_take, List.length_drop] at *; omega) | (have : exC.length = 6 := rfl; omega) | decide)) (by simp only [inK]; (first | omega | (simp only [List.length_append, List.length_nil, List.length_cons, List.length_take, List.length_drop] at *; omega) | (have : exC.length = 6 := rfl; omega) | decide)) (by simp only [inK]; (first | omega | (simp only [List.length_append, List.length_nil, List.length_cons, List.length_take, List.length_drop] at *; omega) | (have : exC.length = 6 := rfl; omega) | decide)) (by simp only [inK]; (first | omega | (simp only [List.length_append, List.length_nil, List.length_cons, List.length_take, List.length_drop] at *; omega) | (have : exC.length = 6 := rfl; omega) | decide)) (OwnL.rd ho6 (hW.at (i := 104) rfl) (mle_nil _)) (by simp only [inK]; (first | omega | (simp only [List.length_append, List.length_nil, List.length_cons, List.length_take, List.length_drop] at *; omega) | (have : exC.length = 6 := rfl; omega) | decide)) (by simp only [inK]; (first | omega | (simp only [List.length_append, List.length_nil, List.length_cons, List.length_take, List.length_drop] at *; omega) | (have : exC.length = 6 := rfl; omega) | decide)) (Rd.nil _ _ none 0 (Nat.zero_le _)))) (fun v5 m5 hv5 => ?_)
  try dsimp only at hv5
  obtain ⟨s5_0, rfl, f5_0⟩ := hv5
  have hfa7 := lEncode_len (1, 2, 2, 3, [(1, 1), (2, 3)], 0, 0, [])
  generalize hq5_0 : ((lEncode (1, 2, 2, 3, [(1, 1), (2, 3)], 0, 0, [])).1) = r5_0 at f5_0
  obtain ⟨A5_0, c5_0, eq5_0, l5_0, k5_0⟩ := f5_0.slice
  subst eq5_0
  simp only [maxLen] at k5_0
  refine VO.mv ?_
  refine VO.y rfl (.ext rfl rfl) ?_
  refine VO.y rfl (.ext rfl rfl) ?_
  refine VO.as ?_
  refine VO.as ?_
  refine VO.keep [105, 101, 0] [(105, m5), (101, m1), (0, wm W)] (by kernel_rfl) ?_
  refine VO.k5 0 1 2 3 4 ?_
  refine VC.rs ?_
  refine VO.mv ?_
  refine VO.y rfl (.eql rfl rfl) ?_
  refine VO.mv ?_
  refine VO.dec (t := 20) rfl (fun hc8 => ?_) (fun hc8 => ?_)
  · -- T
    refine VO.gy rfl ⟨_, rfl, rfl⟩ (.mv rfl) ?_
    refine VO.gy rfl ⟨_, rfl, rfl⟩ (.eql rfl rfl) ?_
    refine VO.y rfl (.pT rfl rfl) ?_
    refine VO.mv ?_
    refine VO.dec (t := 24) rfl (fun hc9 => ?_) (fun hc9 => ?_)
    · -- TT
      refine VO.gy rfl ⟨_, rfl, rfl⟩ (.mv rfl) ?_
      refine VO.gbsl (cs := [Value.int .u8 (3), Value.int .u8 (2), Value.int .u8 (7)]) 111 rfl ⟨_, rfl, rfl⟩ rfl tsl30 tz5 rfl rfl (fun g10 => ?_)
      have ho13 : OwnL .byte (mone g10 (.cells [Value.int .u8 (3), Value.int .u8 (2), Value.int .u8 (7)].toArray 5 (0, 0))) mnil (Value.slice (some ⟨g10, 0, none⟩) (3) (3)) [UInt8.ofNat 3, UInt8.ofNat 2, UInt8.ofNat 7] := OwnL.lit 3 (All2c.cons (c1 := [Value.int .u8 (3)]) (rd_byteN (by first | omega | (simp only [List.length_append, List.length_nil, List.length_cons, List.length_take, List.length_drop] at *; omega) | (have : exC.length = 6 := rfl; omega) | decide)) (All2c.cons (c1 := [Value.int .u8 (2)]) (rd_byteN (by first | omega | (simp only [List.length_append, List.length_nil, List.length_cons, List.length_take, List.length_drop] at *; omega) | (have : exC.length = 6 := rfl; omega) | decide)) (All2c.cons (c1 := [Value.int .u8 (7)]) (rd_byteN (by first | omega | (simp only [List.length_append, List.length_nil, List.length_cons, List.length_take, List.length_drop] at *; omega) | (have : exC.length = 6 := rfl; omega) | decide)) All2c.nil))) rfl rfl
      refine VO.gcallN 112 rfl ⟨_, rfl, rfl⟩ fnOk15 rfl (fun W hW => SameBytes_ok W (OwnL.rd (Ow.ownl f1_0 rfl mnil) (hW.at (i := 101) rfl) (mle_nil _)) (OwnL.rd ho13 (hW.at (i := 111) rfl) (mle_nil _))) (fun v12 m12 hv12 => ?_)
      subst hv12
      refine VO.y rfl (.pT rfl rfl) ?_
      refine VO.mv ?_
      refine VO.dec (t := 29) rfl (fun hc14 => ?_) (fun hc14 => ?_)
      · -- TTT
        refine VO.gy rfl ⟨_, rfl, rfl⟩ (.mv rfl) ?_
        refine VO.gbsl (cs := [Value.int .u8 (1), Value.int .u8 (2), Value.int .u8 (2), Value.int .u8 (3), Value.int .u8 (2), Value.int .u8 (1), Value.int .u8 (1), Value.int .u8 (2), Value.int .u8 (3)]) 116 rfl ⟨_, rfl, rfl⟩ rfl tsl30 tz5 rfl rfl (fun g15 => ?_)
        have ho18 : OwnL .byte (mone g15 (.cells [Value.int .u8 (1), Value.int .u8 (2), Value.int .u8 (2), Value.int .u8 (3), Value.int .u8 (2), Value.int .u8 (1), Value.int .u8 (1), Value.int .u8 (2), Value.int .u8 (3)].toArray 5 (0, 0))) mnil (Value.slice (some ⟨g15, 0, none⟩) (9) (9)) [UInt8.ofNat 1, UInt8.ofNat 2, UInt8.ofNat 2, UInt8.ofNat 3, UInt8.ofNat 2, UInt8.ofNat 1, UInt8.ofNat 1, UInt8.ofNat 2, UInt8.ofNat 3] := OwnL.lit 9 (All2c.cons (c1 := [Value.int .u8 (1)]) (rd_byteN (by first | omega | (simp only [List.length_append, List.length_nil, List.length_cons, List.length_take, List.length_drop] at *; omega) | (have : exC.length = 6 := rfl; omega) | decide)) (All2c.cons (c1 := [Value.int .u8 (2)]) (rd_byteN (by first | omega | (simp only [List.length_append, List.length_nil, List.length_cons, List.length_take, List.length_drop] at *; omega) | (have : exC.length = 6 := rfl; omega) | decide)) (All2c.cons (c1 := [Value.int .u8 (2)]) (rd_byteN (by first | omega | (simp only [List.length_append, List.length_nil, List.length_cons, List.length_take, List.length_drop] at *; omega) | (have : exC.length = 6 := rfl; omega) | decide)) (All2c.cons (c1 := [Value.int .u8 (3)]) (rd_byteN (by first | omega | (simp only [List.length_append, List.length_nil, List.length_cons, List.length_take, List.length_drop] at *; omega) | (have : exC.length = 6 := rfl; omega) | decide)) (All2c.cons (c1 := [Value.int .u8 (2)]) (rd_byteN (by first | omega | (simp only [List.length_append, List.length_nil, List.length_cons, List.length_take, List.length_drop] at *; omega) | (have : exC.length = 6 := rfl; omega) | decide)) (All2c.cons (c1 := [Value.int .u8 (1)]) (rd_byteN (by first | omega | (simp only [List.length_append, List.length_nil, List.length_cons, List.length_take, List.length_drop] at *; omega) | (have : exC.length = 6 := rfl; omega) | decide)) (All2c.cons (c1 := [Value.int .u8 (1)]) (rd_byteN (by first | omega | (simp only [List.length_append, List.length_nil, List.length_cons, List.length_take, List.length_drop] at *; omega) | (have : exC.length = 6 := rfl; omega) | decide)) (All2c.cons (c1 := [Value.int .u8 (2)]) (rd_byteN (by first | omega | (simp only [List.length_append, List.length_nil, List.length_cons, List.length_take, List.length_drop] at *; omega) | (have : exC.length = 6 := rfl; omega) | decide)) (All2c.cons (c1 := [Value.int .u8 (3)]) (rd_byteN (by first | omega | (simp only [List.length_append, List.length_nil, List.length_cons, List.length_take, List.length_drop] at *; omega) | (have : exC.length = 6 := rfl; omega) | decide)) All2c.nil))))))))) rfl rfl
        refine VO.gcallN 117 rfl ⟨_, rfl, rfl⟩ fnOk15 rfl (fun W hW => SameBytes_ok W (OwnL.rd (Ow.ownl f5_0 rfl mnil) (hW.at (i := 105) rfl) (mle_nil _)) (OwnL.rd ho18 (hW.at (i := 116) rfl) (mle_nil _))) (fun v17 m17 hv17 => ?_)
        subst hv17
        refine VO.y rfl (.pT rfl rfl) ?_
        refine VO.as ?_
        refine VO.k5 0 1 2 3 4 ?_
        refine VC.ret ?_
        refine ⟨_, _, res_run (rs := [.tmp 0]) rfl (.tmp rfl .nil), fun W_ hI => out_of (l := []) hI [] rfl rfl (mle_refl _) (fun hS_ => ?_)⟩
        dsimp only [packV]
        all_goals (first | rfl | (exact congrArg Value.bool (decide_eq_true (by subst_vars; first | (simp only [ex11a, ex11b, ex11c]; done) | (simp only [ex11a, ex11b, ex11c]; first | rfl | decide) | rfl | decide))))
      · -- TTF
        exact absurd (by subst_vars; first | (simp only [ex11a, ex11b, ex11c]; done) | (simp only [ex11a, ex11b, ex11c]; first | rfl | decide) | rfl | decide) hc14
    · -- TF
      exact absurd (by subst_vars; first | (simp only [ex11a, ex11b, ex11c]; done) | (simp only [ex11a, ex11b, ex11c]; first | rfl | decide) | rfl | decide) hc9
  · -- F
    exact absurd (by subst_vars; first | (simp only [ex11a, ex11b, ex11c]; done) | (simp only [ex11a, ex11b, ex11c]; first | rfl | decide) | rfl | decide) hc8
set_option maxHeartbeats 1000000 in
theorem letterBack_ok (W : World) {v0 : List Value} {d0 : DMessage} (h0 : Rd TMessage (wm W) v0 d0) {v1 : Value} {d1 : List UInt8} (h1 : Rd (.sl .byte) (wm W) [v1] d1) : CallR Try.prog 6 [.agg v0.toArray, v1] W (mnil) (fun v m' => v = .bool true) := by
  obtain ⟨p0_A4, p0_c4, p0_A7, p0_c7, rfl, p0_0, p0_1, p0_2, p0_3, p0_4, p0_5, p0_6, p0_7⟩ := open_Message (x0 := d0.1) (x1 := d0.2.1) (x2 := d0.2.2.1) (x3 := d0.2.2.2.1) (x4 := d0.2.2.2.2.1) (x5 := d0.2.2.2.2.2.1) (x6 := d0.2.2.2.2.2.2.1) (x7 := d0.2.2.2.2.2.2.2) h0
  simp only [inK] at p0_0
  simp only [inK] at p0_1
  simp only [inK] at p0_2
  simp only [inK] at p0_3
  have p0_r4 := Rd.room p0_4
  simp only [inK] at p0_5
  simp only [inK] at p0_6
  have p0_r7 := Rd.room p0_7
  obtain ⟨A1, c1, rfl, l1, k1⟩ := h1.slice
  simp only [maxLen] at k1
  refine CallR.ofA (n := 70) Try.func6 rfl rfl rfl ?_
  refine VC.rs ?_
  refine VO.box (cs := [Value.int .i64 (d0.1), Value.int .i64 (d0.2.1), Value.int .u8 (d0.2.2.1), Value.int .i64 (d0.2.2.2.1), Value.slice p0_A4 (d0.2.2.2.2.1.length) (p0_c4), Value.int .i64 (d0.2.2.2.2.2.1), Value.int .i64 (d0.2.2.2.2.2.2.1), Value.slice p0_A7 (d0.2.2.2.2.2.2.2.length) (p0_c7)]) 102 rfl rfl rfl (fun g1 => ?_)
  refine VO.as ?_
  refine VO.k4 0 1 2 4 ?_
  refine VC.seq ?_
  refine VC.rs ?_
  refine VO.callN 103 rfl fnOk8 rfl (fun W hW => lives11_ok W ) (fun v3 m3 hv3 => ?_)
  subst hv3
  refine VO.y rfl (.not rfl) ?_
  refine VO.k5 0 1 2 4 13 ?_
  refine VC.condF rfl ?_
  refine VC.skip ?_
  refine outN ?_
  refine VC.seq ?_
  refine VC.rs ?_
  refine VO.y rfl (.ldA 102 rfl tk26 rfl (cellsAt_one rfl rfl)) ?_
  refine VO.callN 104 rfl fnOk9 rfl (fun W hW => small11_ok W (Rd.mono h0 (hW.at (i := 0) rfl))) (fun v4 m4 hv4 => ?_)
  subst hv4
  refine VO.y rfl (.notD rfl) ?_
  refine VO.mv ?_
  refine VO.dec (t := 17) rfl (fun hc5 => ?_) (fun hc5 => ?_)
  · -- T
    refine VO.gN ?_
    refine VO.gN ?_
    refine VO.gN ?_
    refine VO.y rfl (.pT rfl rfl) ?_
    refine VO.keep [102, 0] [(102, mone g1 (.cells [Value.int .i64 (d0.1), Value.int .i64 (d0.2.1), Value.int .u8 (d0.2.2.1), Value.int .i64 (d0.2.2.2.1), Value.slice p0_A4 (d0.2.2.2.2.1.length) (p0_c4), Value.int .i64 (d0.2.2.2.2.2.1), Value.int .i64 (d0.2.2.2.2.2.2.1), Value.slice p0_A7 (d0.2.2.2.2.2.2.2.length) (p0_c7)].toArray 26 (0, 0))), (0, wm W)] (by kernel_rfl) ?_
    refine VO.k6 0 1 2 4 13 21 ?_
    refine VC.condT rfl ?_
    refine VC.rs ?_
    refine VO.as ?_
    refine VO.k6 0 1 2 4 13 21 ?_
    refine VC.ret ?_
    refine outR ?_
    refine ⟨_, _, res_run (rs := [.tmp 4]) rfl (.tmp rfl .nil), fun W_ hI => out_of (l := []) hI [] rfl rfl (mle_refl _) (fun hS_ => ?_)⟩
    dsimp only [packV]
    all_goals (first | rfl | (first | exact congrArg Value.bool (decide_eq_true (by rw [mback3 (by assumption)]; rfl)) | exact congrArg Value.bool (decide_eq_true (by rw [mback2 (by omega) (Decidable.not_not.1 (by assumption))]))))
  · -- F
    refine VO.gy rfl ⟨_, rfl, rfl⟩ (.mv rfl) ?_
    refine VO.gy rfl ⟨_, rfl, rfl⟩ (.lenS rfl tsl30) ?_
    refine VO.gy rfl ⟨_, rfl, rfl⟩ (.gtr rfl rfl) ?_
    refine VO.y rfl (.pF rfl rfl) ?_
    refine VO.keep [102, 0] [(102, mone g1 (.cells [Value.int .i64 (d0.1), Value.int .i64 (d0.2.1), Value.int .u8 (d0.2.2.1), Value.int .i64 (d0.2.2.2.1), Value.slice p0_A4 (d0.2.2.2.2.1.length) (p0_c4), Value.int .i64 (d0.2.2.2.2.2.1), Value.int .i64 (d0.2.2.2.2.2.2.1), Value.slice p0_A7 (d0.2.2.2.2.2.2.2.length) (p0_c7)].toArray 26 (0, 0))), (0, wm W)] (by kernel_rfl) ?_
    refine VO.k6 0 1 2 4 13 21 ?_
    refine VC.cond rfl (fun hc6 => ?_) (fun hc6 => ?_)
    · -- FT
      refine VC.rs ?_
      refine VO.as ?_
      refine VO.k6 0 1 2 4 13 21 ?_
      refine VC.ret ?_
      refine outR ?_
      refine ⟨_, _, res_run (rs := [.tmp 4]) rfl (.tmp rfl .nil), fun W_ hI => out_of (l := []) hI [] rfl rfl (mle_refl _) (fun hS_ => ?_)⟩
      dsimp only [packV]
      all_goals (first | rfl | (first | exact congrArg Value.bool (decide_eq_true (by rw [mback3 (by assumption)]; rfl)) | exact congrArg Value.bool (decide_eq_true (by rw [mback2 (by omega) (Decidable.not_not.1 (by assumption))]))))
    · -- FF
      refine VC.skip ?_
      refine outN ?_
      refine VC.rs ?_
      refine VO.y rfl (.ldA 102 rfl tk26 rfl (cellsAt_one rfl rfl)) ?_
      refine VO.callN 107 rfl fnOk11 rfl (fun W hW => lEncode_ok W (Rd.mono h0 (hW.at (i := 0) rfl))) (fun v7 m7 hv7 => ?_)
      obtain ⟨s7_0, rfl, f7_0⟩ := hv7
      have hfa8 := lEncode_len d0
      obtain ⟨A7_0, c7_0, eq7_0, l7_0, k7_0⟩ := f7_0.slice
      subst eq7_0
      simp only [maxLen] at k7_0
      refine VO.mv ?_
      refine VO.y rfl (.ext rfl rfl) ?_
      refine VO.y rfl (.ext rfl rfl) ?_
      refine VO.as ?_
      refine VO.as ?_
      refine VO.k8 0 1 2 4 5 6 13 21 ?_
      refine VC.seq ?_
      refine VC.rs ?_
      refine VO.mv ?_
      refine VO.y rfl (.eql rfl rfl) ?_
      refine VO.k9 0 1 2 4 5 6 13 21 28 ?_
      refine VC.cond rfl (fun hc9 => ?_) (fun hc9 => ?_)
      · -- FFT
        refine VC.rs ?_
        refine VO.mv ?_
        refine VO.callN 110 rfl fnOk20 rfl (fun W hW => lDec_ok W (OwnL.rd (Ow.ownl f7_0 rfl mnil) (hW.at (i := 107) rfl) (mle_nil _))) (fun v10 m10 hv10 => ?_)
        obtain ⟨s10_0, rfl, f10_0⟩ := hv10
        have hfa11 := lDec_fits ((lEncode d0).1)
        obtain ⟨q10_0_A4, q10_0_c4, q10_0_A7, q10_0_c7, q10_0_n4, q10_0_n7, rfl, q10_0_S, q10_0_0, q10_0_1, q10_0_2, q10_0_3, q10_0_4, q10_0_5, q10_0_6, q10_0_7⟩ := openO_Message (x0 := ((lDec ((lEncode d0).1)).1).1) (x1 := ((lDec ((lEncode d0).1)).1).2.1) (x2 := ((lDec ((lEncode d0).1)).1).2.2.1) (x3 := ((lDec ((lEncode d0).1)).1).2.2.2.1) (x4 := ((lDec ((lEncode d0).1)).1).2.2.2.2.1) (x5 := ((lDec ((lEncode d0).1)).1).2.2.2.2.2.1) (x6 := ((lDec ((lEncode d0).1)).1).2.2.2.2.2.2.1) (x7 := ((lDec ((lEncode d0).1)).1).2.2.2.2.2.2.2) f10_0
        simp only [inK] at q10_0_0
        simp only [inK] at q10_0_1
        simp only [inK] at q10_0_2
        simp only [inK] at q10_0_3
        have q10_0_r4 := Rd.room (q10_0_4.rd (mle_refl _))
        simp only [inK] at q10_0_5
        simp only [inK] at q10_0_6
        have q10_0_r7 := Rd.room (q10_0_7.rd (mle_refl _))
        refine VO.inv _ (fun _ h => h.parts (i := 110) rfl q10_0_S [112, 113]) ?_
        refine VO.mv ?_
        refine VO.y rfl (.ext rfl rfl) ?_
        refine VO.y rfl (.ext rfl rfl) ?_
        refine VO.alloc 115 rfl tz26 (fun g14 => ?_)
        refine VO.store (k := 8) (c' := [Value.int .i64 (((lDec ((lEncode d0).1)).1).1), Value.int .i64 (((lDec ((lEncode d0).1)).1).2.1), Value.int .u8 (((lDec ((lEncode d0).1)).1).2.2.1), Value.int .i64 (((lDec ((lEncode d0).1)).1).2.2.2.1), Value.slice q10_0_A4 ((((lDec ((lEncode d0).1)).1).2.2.2.2.1).length) (q10_0_c4), Value.int .i64 (((lDec ((lEncode d0).1)).1).2.2.2.2.2.1), Value.int .i64 (((lDec ((lEncode d0).1)).1).2.2.2.2.2.2.1), Value.slice q10_0_A7 ((((lDec ((lEncode d0).1)).1).2.2.2.2.2.2.2).length) (q10_0_c7)]) 115 rfl rfl (.inl tk26) rfl rfl rfl rfl rfl ?_
        refine VO.as ?_
        refine VO.keep [115, 112, 113, 107, 102, 0] [(115, mone g14 (.cells [Value.int .i64 (((lDec ((lEncode d0).1)).1).1), Value.int .i64 (((lDec ((lEncode d0).1)).1).2.1), Value.int .u8 (((lDec ((lEncode d0).1)).1).2.2.1), Value.int .i64 (((lDec ((lEncode d0).1)).1).2.2.2.1), Value.slice q10_0_A4 ((((lDec ((lEncode d0).1)).1).2.2.2.2.1).length) (q10_0_c4), Value.int .i64 (((lDec ((lEncode d0).1)).1).2.2.2.2.2.1), Value.int .i64 (((lDec ((lEncode d0).1)).1).2.2.2.2.2.2.1), Value.slice q10_0_A7 ((((lDec ((lEncode d0).1)).1).2.2.2.2.2.2.2).length) (q10_0_c7)].toArray 26 (0, 0))), (112, q10_0_n4), (113, q10_0_n7), (107, m7), (102, mone g1 (.cells [Value.int .i64 (d0.1), Value.int .i64 (d0.2.1), Value.int .u8 (d0.2.2.1), Value.int .i64 (d0.2.2.2.1), Value.slice p0_A4 (d0.2.2.2.2.1.length) (p0_c4), Value.int .i64 (d0.2.2.2.2.2.1), Value.int .i64 (d0.2.2.2.2.2.2.1), Value.slice p0_A7 (d0.2.2.2.2.2.2.2.length) (p0_c7)].toArray 26 (0, 0))), (0, wm W)] (by kernel_rfl) ?_
        refine VO.k11 0 1 2 4 5 6 7 8 13 21 28 ?_
        refine VC.rs ?_
        refine VO.mv ?_
        refine VO.y rfl (.neq rfl rfl) ?_
        refine VO.mv ?_
        refine VO.dec (t := 36) rfl (fun hc16 => ?_) (fun hc16 => ?_)
        · -- FFTT
          exact absurd (by rw [mback1 (by assumption)]) hc16
        · -- FFTF
          refine VO.gy rfl ⟨_, rfl, rfl⟩ (.ldA 115 rfl tk26 rfl (cellsAt_one rfl rfl)) ?_
          refine VO.gy rfl ⟨_, rfl, rfl⟩ (.ldA 102 rfl tk26 rfl (cellsAt_one rfl rfl)) ?_
          refine VO.gcallN 117 rfl ⟨_, rfl, rfl⟩ fnOk16 rfl (fun W hW => lSame_ok W (show Rd TMessage _ _ ((lDec ((lEncode d0).1)).1) from (mk_Message (m := wm W) (((lDec ((lEncode d0).1)).1).1) (((lDec ((lEncode d0).1)).1).2.1) (((lDec ((lEncode d0).1)).1).2.2.1) (((lDec ((lEncode d0).1)).1).2.2.2.1) (((lDec ((lEncode d0).1)).1).2.2.2.2.1) (((lDec ((lEncode d0).1)).1).2.2.2.2.2.1) (((lDec ((lEncode d0).1)).1).2.2.2.2.2.2.1) (((lDec ((lEncode d0).1)).1).2.2.2.2.2.2.2) bdk bdk bdk bdk (OwnL.rd (Ow.ownl q10_0_4 rfl mnil) (hW.at (i := 112) rfl) (mle_nil _)) bdk bdk (Ow.rd q10_0_7 (hW.at (i := 113) rfl)))) (Rd.mono h0 (hW.at (i := 0) rfl))) (fun v17 m17 hv17 => ?_)
          subst hv17
          refine VO.gy rfl ⟨_, rfl, rfl⟩ (.notD rfl) ?_
          refine VO.y rfl (.pF rfl rfl) ?_
          refine VO.mv ?_
          refine VO.dec (t := 42) rfl (fun hc18 => ?_) (fun hc18 => ?_)
          · -- FFTFT
            exact absurd (by rw [mback1 (by assumption)]) hc18
          · -- FFTFF
            refine VO.gy rfl ⟨_, rfl, rfl⟩ (.ldA 115 rfl tk26 rfl (cellsAt_one rfl rfl)) ?_
            refine VO.gy rfl ⟨_, rfl, rfl⟩ (.ldA 102 rfl tk26 rfl (cellsAt_one rfl rfl)) ?_
            refine VO.gcallN 119 rfl ⟨_, rfl, rfl⟩ fnOk23 rfl (fun W hW => SameMessage_ok W (show Rd TMessage _ _ ((lDec ((lEncode d0).1)).1) from (mk_Message (m := wm W) (((lDec ((lEncode d0).1)).1).1) (((lDec ((lEncode d0).1)).1).2.1) (((lDec ((lEncode d0).1)).1).2.2.1) (((lDec ((lEncode d0).1)).1).2.2.2.1) (((lDec ((lEncode d0).1)).1).2.2.2.2.1) (((lDec ((lEncode d0).1)).1).2.2.2.2.2.1) (((lDec ((lEncode d0).1)).1).2.2.2.2.2.2.1) (((lDec ((lEncode d0).1)).1).2.2.2.2.2.2.2) bdk bdk bdk bdk (OwnL.rd (Ow.ownl q10_0_4 rfl mnil) (hW.at (i := 112) rfl) (mle_nil _)) bdk bdk (Ow.rd q10_0_7 (hW.at (i := 113) rfl)))) (Rd.mono h0 (hW.at (i := 0) rfl))) (fun v19 m19 hv19 => ?_)
            subst hv19
            refine VO.gy rfl ⟨_, rfl, rfl⟩ (.notD rfl) ?_
            refine VO.y rfl (.pF rfl rfl) ?_
            refine VO.k12 0 1 2 4 5 6 7 8 13 21 28 47 ?_
            refine VC.condKF rfl (decide_eq_false hc18) ?_
            refine VC.skip ?_
            refine outN ?_
            refine VC.rs ?_
            refine VO.mv ?_
            refine VO.callN 120 rfl fnOk20 rfl (fun W hW => lDec_ok W (Rd.mono h1 (hW.at (i := 0) rfl))) (fun v20 m20 hv20 => ?_)
            obtain ⟨s20_0, rfl, f20_0⟩ := hv20
            have hfa21 := lDec_fits d1
            obtain ⟨q20_0_A4, q20_0_c4, q20_0_A7, q20_0_c7, q20_0_n4, q20_0_n7, rfl, q20_0_S, q20_0_0, q20_0_1, q20_0_2, q20_0_3, q20_0_4, q20_0_5, q20_0_6, q20_0_7⟩ := openO_Message (x0 := ((lDec d1).1).1) (x1 := ((lDec d1).1).2.1) (x2 := ((lDec d1).1).2.2.1) (x3 := ((lDec d1).1).2.2.2.1) (x4 := ((lDec d1).1).2.2.2.2.1) (x5 := ((lDec d1).1).2.2.2.2.2.1) (x6 := ((lDec d1).1).2.2.2.2.2.2.1) (x7 := ((lDec d1).1).2.2.2.2.2.2.2) f20_0
            simp only [inK] at q20_0_0
            simp only [inK] at q20_0_1
            simp only [inK] at q20_0_2
            simp only [inK] at q20_0_3
            have q20_0_r4 := Rd.room (q20_0_4.rd (mle_refl _))
            simp only [inK] at q20_0_5
            simp only [inK] at q20_0_6
            have q20_0_r7 := Rd.room (q20_0_7.rd (mle_refl _))
            refine VO.inv _ (fun _ h => h.parts (i := 120) rfl q20_0_S [122, 123]) ?_
            refine VO.mv ?_
            refine VO.y rfl (.ext rfl rfl) ?_
            refine VO.y rfl (.ext rfl rfl) ?_
            refine VO.alloc 125 rfl tz26 (fun g24 => ?_)
            refine VO.store (k := 8) (c' := [Value.int .i64 (((lDec d1).1).1), Value.int .i64 (((lDec d1).1).2.1), Value.int .u8 (((lDec d1).1).2.2.1), Value.int .i64 (((lDec d1).1).2.2.2.1), Value.slice q20_0_A4 ((((lDec d1).1).2.2.2.2.1).length) (q20_0_c4), Value.int .i64 (((lDec d1).1).2.2.2.2.2.1), Value.int .i64 (((lDec d1).1).2.2.2.2.2.2.1), Value.slice q20_0_A7 ((((lDec d1).1).2.2.2.2.2.2.2).length) (q20_0_c7)]) 125 rfl rfl (.inl tk26) rfl rfl rfl rfl rfl ?_
            refine VO.as ?_
            refine VO.k13 0 1 2 4 5 6 7 8 9 13 21 28 47 ?_
            refine VC.seq ?_
            refine VC.rs ?_
            refine VO.mv ?_
            refine VO.y rfl (.neq rfl rfl) ?_
            refine VO.keep [125, 122, 123, 115, 112, 113, 107, 102, 0] [(125, mone g24 (.cells [Value.int .i64 (((lDec d1).1).1), Value.int .i64 (((lDec d1).1).2.1), Value.int .u8 (((lDec d1).1).2.2.1), Value.int .i64 (((lDec d1).1).2.2.2.1), Value.slice q20_0_A4 ((((lDec d1).1).2.2.2.2.1).length) (q20_0_c4), Value.int .i64 (((lDec d1).1).2.2.2.2.2.1), Value.int .i64 (((lDec d1).1).2.2.2.2.2.2.1), Value.slice q20_0_A7 ((((lDec d1).1).2.2.2.2.2.2.2).length) (q20_0_c7)].toArray 26 (0, 0))), (122, q20_0_n4), (123, q20_0_n7), (115, mone g14 (.cells [Value.int .i64 (((lDec ((lEncode d0).1)).1).1), Value.int .i64 (((lDec ((lEncode d0).1)).1).2.1), Value.int .u8 (((lDec ((lEncode d0).1)).1).2.2.1), Value.int .i64 (((lDec ((lEncode d0).1)).1).2.2.2.1), Value.slice q10_0_A4 ((((lDec ((lEncode d0).1)).1).2.2.2.2.1).length) (q10_0_c4), Value.int .i64 (((lDec ((lEncode d0).1)).1).2.2.2.2.2.1), Value.int .i64 (((lDec ((lEncode d0).1)).1).2.2.2.2.2.2.1), Value.slice q10_0_A7 ((((lDec ((lEncode d0).1)).1).2.2.2.2.2.2.2).length) (q10_0_c7)].toArray 26 (0, 0))), (112, q10_0_n4), (113, q10_0_n7), (107, m7), (102, mone g1 (.cells [Value.int .i64 (d0.1), Value.int .i64 (d0.2.1), Value.int .u8 (d0.2.2.1), Value.int .i64 (d0.2.2.2.1), Value.slice p0_A4 (d0.2.2.2.2.1.length) (p0_c4), Value.int .i64 (d0.2.2.2.2.2.1), Value.int .i64 (d0.2.2.2.2.2.2.1), Value.slice p0_A7 (d0.2.2.2.2.2.2.2.length) (p0_c7)].toArray 26 (0, 0))), (0, wm W)] (by kernel_rfl) ?_
            refine VO.k14 0 1 2 4 5 6 7 8 9 13 21 28 47 54 ?_
            refine VC.cond rfl (fun hc26 => ?_) (fun hc26 => ?_)
            · -- FFTFFT
              refine VC.rs ?_
              refine VO.y rfl (.ldA 125 rfl tk26 rfl (cellsAt_one rfl rfl)) ?_
              refine VO.y rfl (.bst (cs := [Value.int .i64 (0), Value.int .i64 (0), Value.int .u8 (0), Value.int .i64 (0), Value.slice none (0) (0), Value.int .i64 (0), Value.int .i64 (0), Value.slice none (0) (0)]) rfl tst26 tz26 rfl) ?_
              refine VO.callN 127 rfl fnOk23 rfl (fun W hW => SameMessage_ok W (show Rd TMessage _ _ ((lDec d1).1) from (mk_Message (m := wm W) (((lDec d1).1).1) (((lDec d1).1).2.1) (((lDec d1).1).2.2.1) (((lDec d1).1).2.2.2.1) (((lDec d1).1).2.2.2.2.1) (((lDec d1).1).2.2.2.2.2.1) (((lDec d1).1).2.2.2.2.2.2.1) (((lDec d1).1).2.2.2.2.2.2.2) bdk bdk bdk bdk (OwnL.rd (Ow.ownl q20_0_4 rfl mnil) (hW.at (i := 122) rfl) (mle_nil _)) bdk bdk (Ow.rd q20_0_7 (hW.at (i := 123) rfl)))) (mk_Message (m := wm W) 0 0 0 0 [] 0 0 [] bdk bdk bdk bdk (Rd.nil _ _ none 0 (Nat.zero_le _)) bdk bdk (Rd.nil _ _ none 0 (Nat.zero_le _)))) (fun v27 m27 hv27 => ?_)
              try dsimp only at hv27
              subst hv27
              refine VO.as ?_
              refine VO.k14 0 1 2 4 5 6 7 8 9 13 21 28 47 54 ?_
              refine VC.ret ?_
              refine outR ?_
              refine ⟨_, _, res_run (rs := [.tmp 4]) rfl (.tmp rfl .nil), fun W_ hI => out_of (l := []) hI [] rfl rfl (mle_refl _) (fun hS_ => ?_)⟩
              dsimp only [packV]
              all_goals (first | rfl | (first | exact congrArg Value.bool (decide_eq_true (by rw [mback3 (by assumption)]; rfl)) | exact congrArg Value.bool (decide_eq_true (by rw [mback2 (by omega) (Decidable.not_not.1 (by assumption))]))))
            · -- FFTFFF
              refine VC.skip ?_
              refine outN ?_
              refine VC.rs ?_
              refine VO.y rfl (.ldA 125 rfl tk26 rfl (cellsAt_one rfl rfl)) ?_
              refine VO.callN 128 rfl fnOk11 rfl (fun W hW => lEncode_ok W (show Rd TMessage _ _ ((lDec d1).1) from (mk_Message (m := wm W) (((lDec d1).1).1) (((lDec d1).1).2.1) (((lDec d1).1).2.2.1) (((lDec d1).1).2.2.2.1) (((lDec d1).1).2.2.2.2.1) (((lDec d1).1).2.2.2.2.2.1) (((lDec d1).1).2.2.2.2.2.2.1) (((lDec d1).1).2.2.2.2.2.2.2) bdk bdk bdk bdk (OwnL.rd (Ow.ownl q20_0_4 rfl mnil) (hW.at (i := 122) rfl) (mle_nil _)) bdk bdk (Ow.rd q20_0_7 (hW.at (i := 123) rfl))))) (fun v28 m28 hv28 => ?_)
              obtain ⟨s28_0, rfl, f28_0⟩ := hv28
              have hfa29 := lEncode_len ((lDec d1).1)
              obtain ⟨A28_0, c28_0, eq28_0, l28_0, k28_0⟩ := f28_0.slice
              subst eq28_0
              simp only [maxLen] at k28_0
              refine VO.mv ?_
              refine VO.y rfl (.ext rfl rfl) ?_
              refine VO.y rfl (.ext rfl rfl) ?_
              refine VO.as ?_
              refine VO.as ?_
              refine VO.k16 0 1 2 4 5 6 7 8 9 10 11 13 21 28 47 54 ?_
              refine VC.rs ?_
              refine VO.mv ?_
              refine VO.y rfl (.eql rfl rfl) ?_
              refine VO.mv ?_
              refine VO.dec (t := 65) rfl (fun hc30 => ?_) (fun hc30 => ?_)
              · -- FFTFFFT
                refine VO.gy rfl ⟨_, rfl, rfl⟩ (.mv rfl) ?_
                refine VO.gy rfl ⟨_, rfl, rfl⟩ (.mv rfl) ?_
                refine VO.gcallN 131 rfl ⟨_, rfl, rfl⟩ fnOk15 rfl (fun W hW => SameBytes_ok W (OwnL.rd (Ow.ownl f28_0 rfl mnil) (hW.at (i := 128) rfl) (mle_nil _)) (Rd.mono h1 (hW.at (i := 0) rfl))) (fun v31 m31 hv31 => ?_)
                subst hv31
                refine VO.y rfl (.pT rfl rfl) ?_
                refine VO.as ?_
                refine VO.k16 0 1 2 4 5 6 7 8 9 10 11 13 21 28 47 54 ?_
                refine VC.ret ?_
                refine ⟨_, _, res_run (rs := [.tmp 4]) rfl (.tmp rfl .nil), fun W_ hI => out_of (l := []) hI [] rfl rfl (mle_refl _) (fun hS_ => ?_)⟩
                dsimp only [packV]
                all_goals (first | rfl | (first | exact congrArg Value.bool (decide_eq_true (by rw [mback3 (by assumption)]; rfl)) | exact congrArg Value.bool (decide_eq_true (by rw [mback2 (by omega) (Decidable.not_not.1 (by assumption))]))))
              · -- FFTFFFF
                exact absurd (by rw [mback2 (by omega) (Decidable.not_not.1 (by assumption))]) hc30
      · -- FFF
        refine VC.skip ?_
        refine outN ?_
        refine VC.rs ?_
        refine VO.mv ?_
        refine VO.callN 132 rfl fnOk20 rfl (fun W hW => lDec_ok W (Rd.mono h1 (hW.at (i := 0) rfl))) (fun v32 m32 hv32 => ?_)
        obtain ⟨s32_0, rfl, f32_0⟩ := hv32
        have hfa33 := lDec_fits d1
        obtain ⟨q32_0_A4, q32_0_c4, q32_0_A7, q32_0_c7, q32_0_n4, q32_0_n7, rfl, q32_0_S, q32_0_0, q32_0_1, q32_0_2, q32_0_3, q32_0_4, q32_0_5, q32_0_6, q32_0_7⟩ := openO_Message (x0 := ((lDec d1).1).1) (x1 := ((lDec d1).1).2.1) (x2 := ((lDec d1).1).2.2.1) (x3 := ((lDec d1).1).2.2.2.1) (x4 := ((lDec d1).1).2.2.2.2.1) (x5 := ((lDec d1).1).2.2.2.2.2.1) (x6 := ((lDec d1).1).2.2.2.2.2.2.1) (x7 := ((lDec d1).1).2.2.2.2.2.2.2) f32_0
        simp only [inK] at q32_0_0
        simp only [inK] at q32_0_1
        simp only [inK] at q32_0_2
        simp only [inK] at q32_0_3
        have q32_0_r4 := Rd.room (q32_0_4.rd (mle_refl _))
        simp only [inK] at q32_0_5
        simp only [inK] at q32_0_6
        have q32_0_r7 := Rd.room (q32_0_7.rd (mle_refl _))
        refine VO.inv _ (fun _ h => h.parts (i := 132) rfl q32_0_S [134, 135]) ?_
        refine VO.mv ?_
        refine VO.y rfl (.ext rfl rfl) ?_
        refine VO.y rfl (.ext rfl rfl) ?_
        refine VO.alloc 137 rfl tz26 (fun g36 => ?_)
        refine VO.store (k := 8) (c' := [Value.int .i64 (((lDec d1).1).1), Value.int .i64 (((lDec d1).1).2.1), Value.int .u8 (((lDec d1).1).2.2.1), Value.int .i64 (((lDec d1).1).2.2.2.1), Value.slice q32_0_A4 ((((lDec d1).1).2.2.2.2.1).length) (q32_0_c4), Value.int .i64 (((lDec d1).1).2.2.2.2.2.1), Value.int .i64 (((lDec d1).1).2.2.2.2.2.2.1), Value.slice q32_0_A7 ((((lDec d1).1).2.2.2.2.2.2.2).length) (q32_0_c7)]) 137 rfl rfl (.inl tk26) rfl rfl rfl rfl rfl ?_
        refine VO.as ?_
        refine VO.keep [137, 134, 135, 107, 102, 0] [(137, mone g36 (.cells [Value.int .i64 (((lDec d1).1).1), Value.int .i64 (((lDec d1).1).2.1), Value.int .u8 (((lDec d1).1).2.2.1), Value.int .i64 (((lDec d1).1).2.2.2.1), Value.slice q32_0_A4 ((((lDec d1).1).2.2.2.2.1).length) (q32_0_c4), Value.int .i64 (((lDec d1).1).2.2.2.2.2.1), Value.int .i64 (((lDec d1).1).2.2.2.2.2.2.1), Value.slice q32_0_A7 ((((lDec d1).1).2.2.2.2.2.2.2).length) (q32_0_c7)].toArray 26 (0, 0))), (134, q32_0_n4), (135, q32_0_n7), (107, m7), (102, mone g1 (.cells [Value.int .i64 (d0.1), Value.int .i64 (d0.2.1), Value.int .u8 (d0.2.2.1), Value.int .i64 (d0.2.2.2.1), Value.slice p0_A4 (d0.2.2.2.2.1.length) (p0_c4), Value.int .i64 (d0.2.2.2.2.2.1), Value.int .i64 (d0.2.2.2.2.2.2.1), Value.slice p0_A7 (d0.2.2.2.2.2.2.2.length) (p0_c7)].toArray 26 (0, 0))), (0, wm W)] (by kernel_rfl) ?_
        refine VO.k10 0 1 2 4 5 6 9 13 21 28 ?_
        refine VC.seq ?_
        refine VC.rs ?_
        refine VO.mv ?_
        refine VO.y rfl (.neq rfl rfl) ?_
        refine VO.k11 0 1 2 4 5 6 9 13 21 28 54 ?_
        refine VC.cond rfl (fun hc38 => ?_) (fun hc38 => ?_)
        · -- FFFT
          refine VC.rs ?_
          refine VO.y rfl (.ldA 137 rfl tk26 rfl (cellsAt_one rfl rfl)) ?_
          refine VO.y rfl (.bst (cs := [Value.int .i64 (0), Value.int .i64 (0), Value.int .u8 (0), Value.int .i64 (0), Value.slice none (0) (0), Value.int .i64 (0), Value.int .i64 (0), Value.slice none (0) (0)]) rfl tst26 tz26 rfl) ?_
          refine VO.callN 139 rfl fnOk23 rfl (fun W hW => SameMessage_ok W (show Rd TMessage _ _ ((lDec d1).1) from (mk_Message (m := wm W) (((lDec d1).1).1) (((lDec d1).1).2.1) (((lDec d1).1).2.2.1) (((lDec d1).1).2.2.2.1) (((lDec d1).1).2.2.2.2.1) (((lDec d1).1).2.2.2.2.2.1) (((lDec d1).1).2.2.2.2.2.2.1) (((lDec d1).1).2.2.2.2.2.2.2) bdk bdk bdk bdk (OwnL.rd (Ow.ownl q32_0_4 rfl mnil) (hW.at (i := 134) rfl) (mle_nil _)) bdk bdk (Ow.rd q32_0_7 (hW.at (i := 135) rfl)))) (mk_Message (m := wm W) 0 0 0 0 [] 0 0 [] bdk bdk bdk bdk (Rd.nil _ _ none 0 (Nat.zero_le _)) bdk bdk (Rd.nil _ _ none 0 (Nat.zero_le _)))) (fun v39 m39 hv39 => ?_)
          try dsimp only at hv39
          subst hv39
          refine VO.as ?_
          refine VO.k11 0 1 2 4 5 6 9 13 21 28 54 ?_
          refine VC.ret ?_
          refine outR ?_
          refine ⟨_, _, res_run (rs := [.tmp 4]) rfl (.tmp rfl .nil), fun W_ hI => out_of (l := []) hI [] rfl rfl (mle_refl _) (fun hS_ => ?_)⟩
          dsimp only [packV]
          all_goals (first | rfl | (first | exact congrArg Value.bool (decide_eq_true (by rw [mback3 (by assumption)]; rfl)) | exact congrArg Value.bool (decide_eq_true (by rw [mback2 (by omega) (Decidable.not_not.1 (by assumption))]))))
        · -- FFFF
          refine VC.skip ?_
          refine outN ?_
          refine VC.rs ?_
          refine VO.y rfl (.ldA 137 rfl tk26 rfl (cellsAt_one rfl rfl)) ?_
          refine VO.callN 140 rfl fnOk11 rfl (fun W hW => lEncode_ok W (show Rd TMessage _ _ ((lDec d1).1) from (mk_Message (m := wm W) (((lDec d1).1).1) (((lDec d1).1).2.1) (((lDec d1).1).2.2.1) (((lDec d1).1).2.2.2.1) (((lDec d1).1).2.2.2.2.1) (((lDec d1).1).2.2.2.2.2.1) (((lDec d1).1).2.2.2.2.2.2.1) (((lDec d1).1).2.2.2.2.2.2.2) bdk bdk bdk bdk (OwnL.rd (Ow.ownl q32_0_4 rfl mnil) (hW.at (i := 134) rfl) (mle_nil _)) bdk bdk (Ow.rd q32_0_7 (hW.at (i := 135) rfl))))) (fun v40 m40 hv40 => ?_)
          obtain ⟨s40_0, rfl, f40_0⟩ := hv40
          have hfa41 := lEncode_len ((lDec d1).1)
          obtain ⟨A40_0, c40_0, eq40_0, l40_0, k40_0⟩ := f40_0.slice
          subst eq40_0
          simp only [maxLen] at k40_0
          refine VO.mv ?_
          refine VO.y rfl (.ext rfl rfl) ?_
          refine VO.y rfl (.ext rfl rfl) ?_
          refine VO.as ?_
          refine VO.as ?_
          refine VO.k13 0 1 2 4 5 6 9 10 11 13 21 28 54 ?_
          refine VC.rs ?_
          refine VO.mv ?_
          refine VO.y rfl (.eql rfl rfl) ?_
          refine VO.mv ?_
          refine VO.dec (t := 65) rfl (fun hc42 => ?_) (fun hc42 => ?_)
          · -- FFFFT
            refine VO.gy rfl ⟨_, rfl, rfl⟩ (.mv rfl) ?_
            refine VO.gy rfl ⟨_, rfl, rfl⟩ (.mv rfl) ?_
            refine VO.gcallN 143 rfl ⟨_, rfl, rfl⟩ fnOk15 rfl (fun W hW => SameBytes_ok W (OwnL.rd (Ow.ownl f40_0 rfl mnil) (hW.at (i := 140) rfl) (mle_nil _)) (Rd.mono h1 (hW.at (i := 0) rfl))) (fun v43 m43 hv43 => ?_)
            subst hv43
            refine VO.y rfl (.pT rfl rfl) ?_
            refine VO.as ?_
            refine VO.keep [140, 137, 134, 135, 107, 102, 0] [(140, m40), (137, mone g36 (.cells [Value.int .i64 (((lDec d1).1).1), Value.int .i64 (((lDec d1).1).2.1), Value.int .u8 (((lDec d1).1).2.2.1), Value.int .i64 (((lDec d1).1).2.2.2.1), Value.slice q32_0_A4 ((((lDec d1).1).2.2.2.2.1).length) (q32_0_c4), Value.int .i64 (((lDec d1).1).2.2.2.2.2.1), Value.int .i64 (((lDec d1).1).2.2.2.2.2.2.1), Value.slice q32_0_A7 ((((lDec d1).1).2.2.2.2.2.2.2).length) (q32_0_c7)].toArray 26 (0, 0))), (134, q32_0_n4), (135, q32_0_n7), (107, m7), (102, mone g1 (.cells [Value.int .i64 (d0.1), Value.int .i64 (d0.2.1), Value.int .u8 (d0.2.2.1), Value.int .i64 (d0.2.2.2.1), Value.slice p0_A4 (d0.2.2.2.2.1.length) (p0_c4), Value.int .i64 (d0.2.2.2.2.2.1), Value.int .i64 (d0.2.2.2.2.2.2.1), Value.slice p0_A7 (d0.2.2.2.2.2.2.2.length) (p0_c7)].toArray 26 (0, 0))), (0, wm W)] (by kernel_rfl) ?_
            refine VO.k13 0 1 2 4 5 6 9 10 11 13 21 28 54 ?_
            refine VC.ret ?_
            refine ⟨_, _, res_run (rs := [.tmp 4]) rfl (.tmp rfl .nil), fun W_ hI => out_of (l := []) hI [] rfl rfl (mle_refl _) (fun hS_ => ?_)⟩
            dsimp only [packV]
            all_goals (first | rfl | (first | exact congrArg Value.bool (decide_eq_true (by rw [mback3 (by assumption)]; rfl)) | exact congrArg Value.bool (decide_eq_true (by rw [mback2 (by omega) (Decidable.not_not.1 (by assumption))]))))
          · -- FFFFF
            exact absurd (by rw [mback2 (by omega) (Decidable.not_not.1 (by assumption))]) hc42
end
section
set_option linter.unusedVariables false
set_option maxRecDepth 4000
open Go.ChangeShapes Go.WideShapes Go.ChangeAt Go.RowKit
theorem letterBack_ok0 : tyOk Try.prog 60 TMessage (.inl 26) = true := by kernel_rfl
theorem letterBack_ok1 : tyOk Try.prog 60 (.sl .byte) (.inl 30) = true := by kernel_rfl
set_option maxRecDepth 100000 in
theorem letterBack_lifted (os : Os) (started : os.Started) (H : Type) (enc : TypeId × Value → H) :
    ReturnsInHanded {} Try.checked os 6 .any (Rows.letterBackSpec.pre6 enc Try.prog Try.f6 Rows.letterBackRow.domain false) (Rows.letterBackSpec.post enc Try.prog Try.f6 false true false false) := by
  refine returnsInHanded_of_change (C := Try.checked) (by kernel_rfl) started (by kernel_rfl) Try.func6
    (ChangeSpec.witness6 (enc := enc) (C := Try.checked) false ⟨#[], #[.agg #[.int .i64 0, .int .i64 0, .int .u8 0, .int .i64 0, .slice none 0 0, .int .i64 0, .int .i64 0, .slice none 0 0], .slice none 0 0], []⟩ 8 (by kernel_rfl) (by kernel_rfl) (by kernel_rfl) (by kernel_rfl)) ?_
  intro W base args ds gs before hval0 hW hcnd _
  have hval : ∀ (j : Nat) t v, Try.f6.params[j]? = some t → args[j]? = some v → Value.okWide Try.prog W .any base t v := hval0
  have hW' := hW
  obtain ⟨p, q, hA0, hV, rfl, hfz, hnd⟩ := hW
  have hA : DataW.TrodAll enc Try.prog W 0 (fun _ => true) true Try.f6.params.toList args.toList ds p := hA0
  rw [Try.params6] at hA hval
  clear hA0 hval0
  obtain ⟨args⟩ := args
  obtain ⟨v0, r0, d0, e0, p0, q0, ha0, rfl, rfl, h0, hA0⟩ := trodAll_cons hA
  simp only at ha0; subst ha0
  obtain ⟨v1, r1, d1, e1, p1, q1, ha1, rfl, rfl, h1, hA1⟩ := trodAll_cons hA0
  subst ha1
  obtain ⟨rfl, rfl, rfl⟩ := trodAll_nil hA1
  obtain ⟨c0, x0, rfl, hx0⟩ := arg_st 60 letterBack_ok0 Try.underlying26 (hval 0 26 v0 rfl rfl) h0
  obtain ⟨x1, hx1⟩ := arg_sl 60 letterBack_ok1 Try.underlying30 (hval 1 30 v1 rfl rfl) h1
  refine (calls_of (letterBack_ok W hx0 hx1)).mono fun e W' ⟨he, hg⟩ => ?_
  subst he
  exact ⟨_, rfl, law_post hW' hg laidOut_ok (by kernel_rfl) rfl Try.underlying4 rfl rfl rfl rfl⟩
theorem letterBack_joined : joinedFacts Try.prog 6 Try.f6 Rows.letterBackSpec Rows.letterBackRow = true := by
  unfold joinedFacts
  rw [laidOut_ok, mapsRowed_ok, stopsHeard_ok, mayEnter_ok, lifts_ok, make_ok]
  kernel_rfl
theorem letterBack_proved : Rows.LetterBackSaid :=
  OpenClaim.holds_of_wide 6 Try.f6 rfl rfl rfl rfl rfl rfl rfl ⟨rfl, rfl, rfl, rfl, rfl⟩ rfl rfl rfl rfl rfl (by kernel_rfl) Try.func6 letterBack_joined
    (of_decide_eq_true (by kernel_rfl)) (by unfold Func.isWrapper; first | (rw [if_pos (by decide +kernel)]; kernel_rfl) | (rw [if_neg (by decide +kernel)]; exact ⟨rfl, rfl⟩))
    (fun os started H enc _ => letterBack_lifted os started H enc)
#print axioms letterBack_proved
end
end Go.Proofs.Ytcikgnbpcombpaa
