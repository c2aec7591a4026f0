/- Part 6 of the proof of LLetterUnlike: what it needs of the library, the walks and the plain laws. Conditions: those named in each theorem. -/
import Derived.Test.YtcikgnbpcombpaaLLetterUnlikeM5
namespace Go.Proofs.Ytcikgnbpcombpaa
section
set_option linter.unusedVariables false
def smallM (m : DMessage) : Prop := (∀ c ∈ m.2.2.2.2.2.2.2, c.2.2.length ≤ 40) ∧ m.2.2.2.2.1.length ≤ 40 ∧ m.2.2.2.2.2.2.2.length ≤ 40
instance (m : DMessage) : Decidable (smallM m) := by unfold smallM; infer_instance
theorem ex11a : lEncode (3, 2, 0, 7, [], 0, 0, []) = ([3, 2, 7], 0) := by
  rw [lEncode_ack (by decide) (by decide) (by decide)]; simp [venc_last]
theorem ex11b : lEncode (1, 2, 2, 3, [(1, 1), (2, 3)], 0, 0, []) = ([1, 2, 2, 3, 2, 1, 1, 2, 3], 0) := by
  rw [lEncode_hello (by decide) rfl]; simp [lHd, sEnc, venc_last]
theorem ex11c : lEncode (2, 1, 0, 0, [], 1, 0, []) = ([2, 1, 1, 0, 0], 0) := by
  rw [lEncode_ship (by decide) (by decide) rfl]; simp [lHs, csEnc, venc_last]
theorem enc_ok {m : DMessage} (h : (lEncode m).2 = 0) : lCheck m = 0 ∧ lEncode m = (lEnc m, 0) := by
  unfold lEncode at h ⊢
  split at h
  · rename_i hc; exact ⟨hc, if_pos hc⟩
  · exact absurd h ‹_›
theorem mback3 {B : Bytes} (h : ¬ (lDec B).2 = 0) : lDec B = (zeroM, 5) := decG_bad (R := lComm) h
theorem enc_none {m : DMessage} (h : ¬ (lEncode m).2 = 0) : (lEncode m).1 = [] := by
  unfold lEncode at h ⊢
  split
  · rename_i hc; rw [if_pos hc] at h; exact absurd rfl h
  · rfl
theorem lEnc_pos (m : DMessage) : 1 ≤ (lEnc m).length := by
  rw [lEnc, List.length_append]; have := venc_pos m.1.toNat; omega
theorem cut_dead {m : DMessage} (h : (lEncode m).2 = 0) {k : Nat} (hk : k < (lEncode m).1.length) : lDec ((lEncode m).1.take k) = (zeroM, 5) := by
  obtain ⟨h1, h2⟩ := enc_ok h
  have hl := lEnc_len h1
  by_cases hz : (lDec ((lEncode m).1.take k)).2 = 0
  · exfalso
    rw [h2] at hz hk
    dsimp only at hz hk
    obtain ⟨c1, c2⟩ := decG_back (R := lComm) good1 (B := (lEnc m).take k) (by simp only [List.length_take]; omega) hz
    obtain ⟨e1, e2⟩ := lEnc_prefix (R := lComm) good1 (r := (lEnc m).drop k) h1 c1 (by rw [← c2, List.take_append_drop])
    have := congrArg List.length e2
    simp only [List.length_drop, List.length_nil] at this
    omega
  · exact mback3 hz
theorem more_dead {m : DMessage} (h : (lEncode m).2 = 0) : lDec ((lEncode m).1 ++ [UInt8.ofNat 0]) = (zeroM, 5) := by
  obtain ⟨h1, h2⟩ := enc_ok h
  have hl := lEnc_len h1
  by_cases hz : (lDec ((lEncode m).1 ++ [UInt8.ofNat 0])).2 = 0
  · exfalso
    rw [h2] at hz
    dsimp only at hz
    obtain ⟨c1, c2⟩ := decG_back (R := lComm) good1 (B := lEnc m ++ [UInt8.ofNat 0]) (by simp only [List.length_append, List.length_cons, List.length_nil]; omega) hz
    obtain ⟨e1, e2⟩ := lEnc_prefix (R := lComm) good1 (r := [UInt8.ofNat 0]) c1 h1 (by rw [← c2])
    cases e2
  · exact mback3 hz
theorem unlike {m n : DMessage} (h : (lEncode m).2 = 0) (h' : (lEncode n).2 = 0) : (lEncode m).1 = (lEncode n).1 ↔ m = n := by
  obtain ⟨h1, h2⟩ := enc_ok h
  obtain ⟨h3, h4⟩ := enc_ok h'
  rw [h2, h4]
  refine ⟨fun e => (lEnc_prefix (R := lComm) good1 (r := []) h1 h3 (by rw [List.append_nil]; exact e)).1, fun e => by rw [e]⟩
theorem enc_pos {m : DMessage} (h : (lEncode m).2 = 0) : 1 ≤ (lEncode m).1.length := by
  rw [(enc_ok h).2]; exact lEnc_pos m
end
section
set_option linter.unusedVariables false
set_option linter.unusedSimpArgs false
set_option maxRecDepth 4000
theorem fnOk11 : fnOk Try.prog 11 = true := by kernel_rfl
theorem fnOk16 : fnOk Try.prog 16 = true := by kernel_rfl
theorem fnOk20 : fnOk Try.prog 20 = true := by kernel_rfl
theorem fnOk27 : fnOk Try.prog 27 = true := by kernel_rfl
theorem fnOk8 : fnOk Try.prog 8 = true := by kernel_rfl
theorem fnOk9 : fnOk Try.prog 9 = true := by kernel_rfl
theorem small11_ok (W : World) {v0 : List Value} {d0 : DMessage} (h0 : Rd TMessage (wm W) v0 d0) : CallR Try.prog 9 [.agg v0.toArray] W (mnil) (fun v m' => v = .bool (decide (smallM d0))) := by
  obtain ⟨p0_A4, p0_c4, p0_A7, p0_c7, rfl, p0_0, p0_1, p0_2, p0_3, p0_4, p0_5, p0_6, p0_7⟩ := open_Message (x0 := d0.1) (x1 := d0.2.1) (x2 := d0.2.2.1) (x3 := d0.2.2.2.1) (x4 := d0.2.2.2.2.1) (x5 := d0.2.2.2.2.2.1) (x6 := d0.2.2.2.2.2.2.1) (x7 := d0.2.2.2.2.2.2.2) h0
  simp only [inK] at p0_0
  simp only [inK] at p0_1
  simp only [inK] at p0_2
  simp only [inK] at p0_3
  have p0_r4 := Rd.room p0_4
  simp only [inK] at p0_5
  simp only [inK] at p0_6
  have p0_r7 := Rd.room p0_7
  refine CallR.ofA (n := 29) Try.func9 rfl rfl rfl ?_
  refine VC.rs ?_
  refine VO.box (cs := [Value.int .i64 (d0.1), Value.int .i64 (d0.2.1), Value.int .u8 (d0.2.2.1), Value.int .i64 (d0.2.2.2.1), Value.slice p0_A4 (d0.2.2.2.2.1.length) (p0_c4), Value.int .i64 (d0.2.2.2.2.2.1), Value.int .i64 (d0.2.2.2.2.2.2.1), Value.slice p0_A7 (d0.2.2.2.2.2.2.2.length) (p0_c7)]) 102 rfl rfl rfl (fun g1 => ?_)
  refine VO.as ?_
  refine VO.k3 0 1 2 ?_
  refine VC.seq ?_
  refine VC.rs ?_
  refine VO.as ?_
  refine VO.k4 0 1 2 3 ?_
  refine VC.block ?_
  refine VC.loop (G := Nat) (fun k => [(3, Value.int .i64 (((k : Nat) : Int))), (0, Value.agg [Value.int .i64 (d0.1), Value.int .i64 (d0.2.1), Value.int .u8 (d0.2.2.1), Value.int .i64 (d0.2.2.2.1), Value.slice p0_A4 (d0.2.2.2.2.1.length) (p0_c4), Value.int .i64 (d0.2.2.2.2.2.1), Value.int .i64 (d0.2.2.2.2.2.2.1), Value.slice p0_A7 (d0.2.2.2.2.2.2.2.length) (p0_c7)].toArray), (1, Value.pointer (some ⟨g1, 0, none⟩))]) (fun k => [(102, mone g1 (.cells [Value.int .i64 (d0.1), Value.int .i64 (d0.2.1), Value.int .u8 (d0.2.2.1), Value.int .i64 (d0.2.2.2.1), Value.slice p0_A4 (d0.2.2.2.2.1.length) (p0_c4), Value.int .i64 (d0.2.2.2.2.2.1), Value.int .i64 (d0.2.2.2.2.2.2.1), Value.slice p0_A7 (d0.2.2.2.2.2.2.2.length) (p0_c7)].toArray 26 (0, 0))), (0, wm W)]) (fun k => (k ≤ d0.2.2.2.2.2.2.2.length) ∧ (∀ c ∈ d0.2.2.2.2.2.2.2.take k, c.2.2.length ≤ 40)) (fun k => d0.2.2.2.2.2.2.2.length - k) 0 (⟨by omega, by simp⟩) ⟨⟨rfl, rfl, rfl, trivial⟩, fun _ h => h.sub [102, 0]⟩ ?_
  rintro k ⟨hk, ha⟩
  refine VC.seq ?_
  refine VC.rs ?_
  refine VO.mv ?_
  refine VO.y rfl (.fa rfl tst26 rfl) ?_
  refine VO.y rfl (.ld1 102 rfl tk24 rfl (cellsAt_one rfl rfl)) ?_
  refine VO.y rfl (.lenS rfl tsl24) ?_
  refine VO.y rfl (.lss rfl rfl) ?_
  refine VO.keep [102, 0] [(102, mone g1 (.cells [Value.int .i64 (d0.1), Value.int .i64 (d0.2.1), Value.int .u8 (d0.2.2.1), Value.int .i64 (d0.2.2.2.1), Value.slice p0_A4 (d0.2.2.2.2.1.length) (p0_c4), Value.int .i64 (d0.2.2.2.2.2.1), Value.int .i64 (d0.2.2.2.2.2.2.1), Value.slice p0_A7 (d0.2.2.2.2.2.2.2.length) (p0_c7)].toArray 26 (0, 0))), (0, wm W)] (by kernel_rfl) ?_
  refine VO.k4 0 1 3 8 ?_
  refine VC.cond rfl (fun hc3 => ?_) (fun hc3 => ?_)
  · -- T
    refine VC.skip ?_
    refine outN ?_
    refine VC.seq ?_
    refine VC.block ?_
    refine VC.rs ?_
    refine VO.y rfl (.fa rfl tst26 rfl) ?_
    refine VO.y rfl (.ld1 102 rfl tk24 rfl (cellsAt_one rfl rfl)) ?_
    refine VO.mv ?_
    obtain ⟨x4, hx4⟩ : ∃ z_, (d0.2.2.2.2.2.2.2)[k]? = some z_ := ⟨_, List.getElem?_eq_getElem bd⟩
    obtain ⟨gg4, oo4, ec4, ea4, hce4, hre4⟩ := p0_7.elem hx4
    cases ea4
    obtain ⟨q4_A2, q4_c2, rfl, q4_0, q4_1, q4_2⟩ := open_Commit (x0 := x4.1) (x1 := x4.2.1) (x2 := x4.2.2) hre4
    simp only [inK] at q4_0
    simp only [inK] at q4_1
    have q4_r2 := Rd.room q4_2
    refine VO.y rfl (.ixI k rfl rfl tsl24 rfl bd) ?_
    refine VO.y rfl (.fa rfl tst43 rfl) ?_
    refine VO.y rfl (.ld1 0 rfl tk41 rfl (hce4.at1 (j := 2) rfl)) ?_
    refine VO.y rfl (.lenS rfl tsl41) ?_
    refine VO.y rfl (.gtr rfl rfl) ?_
    refine VO.k5 0 1 3 8 18 ?_
    refine VC.cond rfl (fun hc5 => ?_) (fun hc5 => ?_)
    · -- TT
      refine VC.rs ?_
      refine VO.as ?_
      refine VO.k6 0 1 2 3 8 18 ?_
      refine VC.ret ?_
      refine outBR ?_
      refine outR ?_
      refine outR ?_
      refine outBR ?_
      refine outR ?_
      refine ⟨_, _, res_run (rs := [.tmp 2]) rfl (.tmp rfl .nil), fun W_ hI => out_of (l := []) hI [] rfl rfl (mle_refl _) (fun hS_ => ?_)⟩
      dsimp only [packV]
      all_goals (first | rfl | (first | exact congrArg Value.bool (decide_eq_false (fun e => by have := e.1 _ (List.mem_of_getElem? ‹d0.2.2.2.2.2.2.2[k]? = some _›); omega)).symm | exact congrArg Value.bool (decide_eq_false (fun e => by have := e.2; omega)).symm | exact congrArg Value.bool (decide_eq_decide.2 (by have ha2 := ha; rw [List.take_of_length_le (by omega)] at ha2; exact ⟨fun h => ⟨ha2, by omega, by omega⟩, fun h => by have := h.2; omega⟩))))
    · -- TF
      refine VC.skip ?_
      refine outBN ?_
      refine outN ?_
      refine VC.reg ?_
      refine VO.mv ?_
      refine VO.y rfl (.add (c := ((k + 1 : Nat) : Int)) rfl rfl (by omega) ⟨bd, bd⟩) ?_
      refine VO.as ?_
      refine VO.k5 0 1 3 8 18 ?_
      exact outN ⟨k + 1, ⟨by omega, by exact all_next ha ‹d0.2.2.2.2.2.2.2[k]? = some _› (by omega)⟩, bd, ⟨⟨rfl, rfl, rfl, trivial⟩, fun _ h => Inv.sub h [102, 0]⟩⟩
  · -- F
    refine VC.exit ?_
    refine outE ?_
    refine outE ?_
    refine outBB ?_
    refine outN ?_
    refine VC.rs ?_
    refine VO.y rfl (.fa rfl tst26 rfl) ?_
    refine VO.y rfl (.ld1 102 rfl tk23 rfl (cellsAt_one rfl rfl)) ?_
    refine VO.y rfl (.lenS rfl tsl23) ?_
    refine VO.y rfl (.leq rfl rfl) ?_
    refine VO.mv ?_
    refine VO.dec (t := 23) rfl (fun hc6 => ?_) (fun hc6 => ?_)
    · -- FT
      refine VO.gy rfl ⟨_, rfl, rfl⟩ (.fa rfl tst26 rfl) ?_
      refine VO.gy rfl ⟨_, rfl, rfl⟩ (.ld1 102 rfl tk24 rfl (cellsAt_one rfl rfl)) ?_
      refine VO.gy rfl ⟨_, rfl, rfl⟩ (.lenS rfl tsl24) ?_
      refine VO.gy rfl ⟨_, rfl, rfl⟩ (.leq rfl rfl) ?_
      refine VO.y rfl (.pT rfl rfl) ?_
      refine VO.as ?_
      refine VO.k5 0 1 2 3 8 ?_
      refine VC.ret ?_
      refine ⟨_, _, res_run (rs := [.tmp 2]) rfl (.tmp rfl .nil), fun W_ hI => out_of (l := []) hI [] rfl rfl (mle_refl _) (fun hS_ => ?_)⟩
      dsimp only [packV]
      all_goals (first | rfl | (first | exact congrArg Value.bool (decide_eq_false (fun e => by have := e.1 _ (List.mem_of_getElem? ‹d0.2.2.2.2.2.2.2[k]? = some _›); omega)).symm | exact congrArg Value.bool (decide_eq_false (fun e => by have := e.2; omega)).symm | exact congrArg Value.bool (decide_eq_decide.2 (by have ha2 := ha; rw [List.take_of_length_le (by omega)] at ha2; exact ⟨fun h => ⟨ha2, by omega, by omega⟩, fun h => by have := h.2; omega⟩))))
    · -- FF
      refine VO.gN ?_
      refine VO.gN ?_
      refine VO.gN ?_
      refine VO.gN ?_
      refine VO.y rfl (.pF rfl rfl) ?_
      refine VO.as ?_
      refine VO.k5 0 1 2 3 8 ?_
      refine VC.ret ?_
      refine ⟨_, _, res_run (rs := [.tmp 2]) rfl (.tmp rfl .nil), fun W_ hI => out_of (l := []) hI [] rfl rfl (mle_refl _) (fun hS_ => ?_)⟩
      dsimp only [packV]
      all_goals (first | rfl | (first | exact congrArg Value.bool (decide_eq_false (fun e => by have := e.1 _ (List.mem_of_getElem? ‹d0.2.2.2.2.2.2.2[k]? = some _›); omega)).symm | exact congrArg Value.bool (decide_eq_false (fun e => by have := e.2; omega)).symm | exact congrArg Value.bool (decide_eq_decide.2 (by have ha2 := ha; rw [List.take_of_length_le (by omega)] at ha2; exact ⟨fun h => ⟨ha2, by omega, by omega⟩, fun h => by have := h.2; omega⟩))))
theorem lives11_ok (W : World) : CallR Try.prog 8 [] W (mnil) (fun v m' => v = .bool true) := by
  refine CallR.ofA (n := 34) Try.func8 rfl rfl rfl ?_
  refine VC.rs ?_
  refine VO.as ?_
  refine VO.k1 0 ?_
  refine VC.rs ?_
  refine VO.y rfl (.bst (cs := [Value.int .i64 (3), Value.int .i64 (2), Value.int .u8 (0), Value.int .i64 (7), Value.slice none (0) (0), Value.int .i64 (0), Value.int .i64 (0), Value.slice none (0) (0)]) rfl tst26 tz26 rfl) ?_
  refine VO.callN 101 rfl fnOk11 rfl (fun W hW => lEncode_ok W (mk_Message (m := wm W) 3 2 0 7 [] 0 0 [] (by simp only [inK]; (first | omega | (simp only [List.length_append, List.length_nil, List.length_cons, List.length_take, List.length_drop] at *; omega) | (have : exC.length = 6 := rfl; omega) | decide)) (by simp only [inK]; (first | omega | (simp only [List.length_append, List.length_nil, List.length_cons, List.length_take, List.length_drop] at *; omega) | (have : exC.length = 6 := rfl; omega) | decide)) (by simp only [inK]; (first | omega | (simp only [List.length_append, List.length_nil, List.length_cons, List.length_take, List.length_drop] at *; omega) | (have : exC.length = 6 := rfl; omega) | decide)) (by simp only [inK]; (first | omega | (simp only [List.length_append, List.length_nil, List.length_cons, List.length_take, List.length_drop] at *; omega) | (have : exC.length = 6 := rfl; omega) | decide)) (Rd.nil _ _ none 0 (Nat.zero_le _)) (by simp only [inK]; (first | omega | (simp only [List.length_append, List.length_nil, List.length_cons, List.length_take, List.length_drop] at *; omega) | (have : exC.length = 6 := rfl; omega) | decide)) (by simp only [inK]; (first | omega | (simp only [List.length_append, List.length_nil, List.length_cons, List.length_take, List.length_drop] at *; omega) | (have : exC.length = 6 := rfl; omega) | decide)) (Rd.nil _ _ none 0 (Nat.zero_le _)))) (fun v1 m1 hv1 => ?_)
  try dsimp only at hv1
  obtain ⟨s1_0, rfl, f1_0⟩ := hv1
  have hfa2 := lEncode_len (3, 2, 0, 7, [], 0, 0, [])
  generalize hq1_0 : ((lEncode (3, 2, 0, 7, [], 0, 0, [])).1) = r1_0 at f1_0
  obtain ⟨A1_0, c1_0, eq1_0, l1_0, k1_0⟩ := f1_0.slice
  subst eq1_0
  simp only [maxLen] at k1_0
  refine VO.mv ?_
  refine VO.y rfl (.ext rfl rfl) ?_
  refine VO.y rfl (.ext rfl rfl) ?_
  refine VO.as ?_
  refine VO.as ?_
  refine VO.k3 0 1 2 ?_
  refine VC.rs ?_
  refine VO.y rfl (.bst (cs := [Value.int .i64 (1), Value.int .i64 (1)]) rfl tst57 tz57 rfl) ?_
  refine VO.y rfl (.bst (cs := [Value.int .i64 (2), Value.int .i64 (3)]) rfl tst57 tz57 rfl) ?_
  refine VO.bsl (cs := [Value.int .i64 (1), Value.int .i64 (1), Value.int .i64 (2), Value.int .i64 (3)]) 104 rfl rfl tsl23 tz57 rfl rfl (fun g3 => ?_)
  refine VO.y rfl (.bst (cs := [Value.int .i64 (1), Value.int .i64 (2), Value.int .u8 (2), Value.int .i64 (3), Value.slice (some ⟨g3, 0, none⟩) (2) (2), Value.int .i64 (0), Value.int .i64 (0), Value.slice none (0) (0)]) rfl tst26 tz26 rfl) ?_
  have ho6 : OwnL TStart (mone g3 (.cells [Value.int .i64 (1), Value.int .i64 (1), Value.int .i64 (2), Value.int .i64 (3)].toArray 57 (0, 0))) mnil (Value.slice (some ⟨g3, 0, none⟩) (2) (2)) [(1, 1), (2, 3)] := OwnL.lit 2 (All2c.cons (c1 := [Value.int .i64 (1), Value.int .i64 (1)]) (mk_Start (m := _) 1 1 (by simp only [inK]; (first | omega | (simp only [List.length_append, List.length_nil, List.length_cons, List.length_take, List.length_drop] at *; omega) | (have : exC.length = 6 := rfl; omega) | decide)) (by simp only [inK]; (first | omega | (simp only [List.length_append, List.length_nil, List.length_cons, List.length_take, List.length_drop] at *; omega) | (have : exC.length = 6 := rfl; omega) | decide))) (All2c.cons (c1 := [Value.int .i64 (2), Value.int .i64 (3)]) (mk_Start (m := _) 2 3 (by simp only [inK]; (first | omega | (simp only [List.length_append, List.length_nil, List.length_cons, List.length_take, List.length_drop] at *; omega) | (have : exC.length = 6 := rfl; omega) | decide)) (by simp only [inK]; (first | omega | (simp only [List.length_append, List.length_nil, List.length_cons, List.length_take, List.length_drop] at *; omega) | (have : exC.length = 6 := rfl; omega) | decide))) All2c.nil)) rfl rfl
  refine VO.callN 105 rfl fnOk11 rfl (fun W hW => lEncode_ok W (mk_Message (m := wm W) 1 2 2 3 ([(1, 1), (2, 3)]) 0 0 [] (by simp only [inK]; (first | omega | (simp only [List.length_append, List.length_nil, List.length_cons, List.length_take, List.length_drop] at *; omega) | (have : exC.length = 6 := rfl; omega) | decide)) (by simp only [inK]; (first | omega | (simp only [List.length_append, List.length_nil, List.length_cons, List.length_take, List.length_drop] at *; omega) | (have : exC.length = 6 := rfl; omega) | decide)) (by simp only [inK]; (first | omega | (simp only [List.length_append, List.length_nil, List.length_cons, List.length_take, List.length_drop] at *; omega) | (have : exC.length = 6 := rfl; omega) | decide)) (by simp only [inK]; (first | omega | (simp only [List.length_append, List.length_nil, List.length_cons, List.length_take, List.length_drop] at *; omega) | (have : exC.length = 6 := rfl; omega) | decide)) (OwnL.rd ho6 (hW.at (i := 104) rfl) (mle_nil _)) (by simp only [inK]; (first | omega | (simp only [List.length_append, List.length_nil, List.length_cons, List.length_take, List.length_drop] at *; omega) | (have : exC.length = 6 := rfl; omega) | decide)) (by simp only [inK]; (first | omega | (simp only [List.length_append, List.length_nil, List.length_cons, List.length_take, List.length_drop] at *; omega) | (have : exC.length = 6 := rfl; omega) | decide)) (Rd.nil _ _ none 0 (Nat.zero_le _)))) (fun v5 m5 hv5 => ?_)
  try dsimp only at hv5
  obtain ⟨s5_0, rfl, f5_0⟩ := hv5
  have hfa7 := lEncode_len (1, 2, 2, 3, [(1, 1), (2, 3)], 0, 0, [])
  generalize hq5_0 : ((lEncode (1, 2, 2, 3, [(1, 1), (2, 3)], 0, 0, [])).1) = r5_0 at f5_0
  obtain ⟨A5_0, c5_0, eq5_0, l5_0, k5_0⟩ := f5_0.slice
  subst eq5_0
  simp only [maxLen] at k5_0
  refine VO.mv ?_
  refine VO.y rfl (.ext rfl rfl) ?_
  refine VO.y rfl (.ext rfl rfl) ?_
  refine VO.as ?_
  refine VO.as ?_
  refine VO.keep [105, 101, 0] [(105, m5), (101, m1), (0, wm W)] (by kernel_rfl) ?_
  refine VO.k5 0 1 2 3 4 ?_
  refine VC.rs ?_
  refine VO.mv ?_
  refine VO.y rfl (.eql rfl rfl) ?_
  refine VO.mv ?_
  refine VO.dec (t := 20) rfl (fun hc8 => ?_) (fun hc8 => ?_)
  · -- T
    refine VO.gy rfl ⟨_, rfl, rfl⟩ (.mv rfl) ?_
    refine VO.gy rfl ⟨_, rfl, rfl⟩ (.eql rfl rfl) ?_
    refine VO.y rfl (.pT rfl rfl) ?_
    refine VO.mv ?_
    refine VO.dec (t := 24) rfl (fun hc9 => ?_) (fun hc9 => ?_)
    · -- TT
      refine VO.gy rfl ⟨_, rfl, rfl⟩ (.mv rfl) ?_
      refine VO.gbsl (cs := [Value.int .u8 (3), Value.int .u8 (2), Value.int .u8 (7)]) 111 rfl ⟨_, rfl, rfl⟩ rfl tsl30 tz5 rfl rfl (fun g10 => ?_)
      have ho13 : OwnL .byte (mone g10 (.cells [Value.int .u8 (3), Value.int .u8 (2), Value.int .u8 (7)].toArray 5 (0, 0))) mnil (Value.slice (some ⟨g10, 0, none⟩) (3) (3)) [UInt8.ofNat 3, UInt8.ofNat 2, UInt8.ofNat 7] := OwnL.lit 3 (All2c.cons (c1 := [Value.int .u8 (3)]) (rd_byteN (by first | omega | (simp only [List.length_append, List.length_nil, List.length_cons, List.length_take, List.length_drop] at *; omega) | (have : exC.length = 6 := rfl; omega) | decide)) (All2c.cons (c1 := [Value.int .u8 (2)]) (rd_byteN (by first | omega | (simp only [List.length_append, List.length_nil, List.length_cons, List.length_take, List.length_drop] at *; omega) | (have : exC.length = 6 := rfl; omega) | decide)) (All2c.cons (c1 := [Value.int .u8 (7)]) (rd_byteN (by first | omega | (simp only [List.length_append, List.length_nil, List.length_cons, List.length_take, List.length_drop] at *; omega) | (have : exC.length = 6 := rfl; omega) | decide)) All2c.nil))) rfl rfl
      refine VO.gcallN 112 rfl ⟨_, rfl, rfl⟩ fnOk15 rfl (fun W hW => SameBytes_ok W (OwnL.rd (Ow.ownl f1_0 rfl mnil) (hW.at (i := 101) rfl) (mle_nil _)) (OwnL.rd ho13 (hW.at (i := 111) rfl) (mle_nil _))) (fun v12 m12 hv12 => ?_)
      subst hv12
      refine VO.y rfl (.pT rfl rfl) ?_
      refine VO.mv ?_
      refine VO.dec (t := 29) rfl (fun hc14 => ?_) (fun hc14 => ?_)
      · -- TTT
        refine VO.gy rfl ⟨_, rfl, rfl⟩ (.mv rfl) ?_
        refine VO.gbsl (cs := [Value.int .u8 (1), Value.int .u8 (2), Value.int .u8 (2), Value.int .u8 (3), Value.int .u8 (2), Value.int .u8 (1), Value.int .u8 (1), Value.int .u8 (2), Value.int .u8 (3)]) 116 rfl ⟨_, rfl, rfl⟩ rfl tsl30 tz5 rfl rfl (fun g15 => ?_)
        have ho18 : OwnL .byte (mone g15 (.cells [Value.int .u8 (1), Value.int .u8 (2), Value.int .u8 (2), Value.int .u8 (3), Value.int .u8 (2), Value.int .u8 (1), Value.int .u8 (1), Value.int .u8 (2), Value.int .u8 (3)].toArray 5 (0, 0))) mnil (Value.slice (some ⟨g15, 0, none⟩) (9) (9)) [UInt8.ofNat 1, UInt8.ofNat 2, UInt8.ofNat 2, UInt8.ofNat 3, UInt8.ofNat 2, UInt8.ofNat 1, UInt8.ofNat 1, UInt8.ofNat 2, UInt8.ofNat 3] := OwnL.lit 9 (All2c.cons (c1 := [Value.int .u8 (1)]) (rd_byteN (by first | omega | (simp only [List.length_append, List.length_nil, List.length_cons, List.length_take, List.length_drop] at *; omega) | (have : exC.length = 6 := rfl; omega) | decide)) (All2c.cons (c1 := [Value.int .u8 (2)]) (rd_byteN (by first | omega | (simp only [List.length_append, List.length_nil, List.length_cons, List.length_take, List.length_drop] at *; omega) | (have : exC.length = 6 := rfl; omega) | decide)) (All2c.cons (c1 := [Value.int .u8 (2)]) (rd_byteN (by first | omega | (simp only [List.length_append, List.length_nil, List.length_cons, List.length_take, List.length_drop] at *; omega) | (have : exC.length = 6 := rfl; omega) | decide)) (All2c.cons (c1 := [Value.int .u8 (3)]) (rd_byteN (by first | omega | (simp only [List.length_append, List.length_nil, List.length_cons, List.length_take, List.length_drop] at *; omega) | (have : exC.length = 6 := rfl; omega) | decide)) (All2c.cons (c1 := [Value.int .u8 (2)]) (rd_byteN (by first | omega | (simp only [List.length_append, List.length_nil, List.length_cons, List.length_take, List.length_drop] at *; omega) | (have : exC.length = 6 := rfl; omega) | decide)) (All2c.cons (c1 := [Value.int .u8 (1)]) (rd_byteN (by first | omega | (simp only [List.length_append, List.length_nil, List.length_cons, List.length_take, List.length_drop] at *; omega) | (have : exC.length = 6 := rfl; omega) | decide)) (All2c.cons (c1 := [Value.int .u8 (1)]) (rd_byteN (by first | omega | (simp only [List.length_append, List.length_nil, List.length_cons, List.length_take, List.length_drop] at *; omega) | (have : exC.length = 6 := rfl; omega) | decide)) (All2c.cons (c1 := [Value.int .u8 (2)]) (rd_byteN (by first | omega | (simp only [List.length_append, List.length_nil, List.length_cons, List.length_take, List.length_drop] at *; omega) | (have : exC.length = 6 := rfl; omega) | decide)) (All2c.cons (c1 := [Value.int .u8 (3)]) (rd_byteN (by first | omega | (simp only [List.length_append, List.length_nil, List.length_cons, List.length_take, List.length_drop] at *; omega) | (have : exC.length = 6 := rfl; omega) | decide)) All2c.nil))))))))) rfl rfl
        refine VO.gcallN 117 rfl ⟨_, rfl, rfl⟩ fnOk15 rfl (fun W hW => SameBytes_ok W (OwnL.rd (Ow.ownl f5_0 rfl mnil) (hW.at (i := 105) rfl) (mle_nil _)) (OwnL.rd ho18 (hW.at (i := 116) rfl) (mle_nil _))) (fun v17 m17 hv17 => ?_)
        subst hv17
        refine VO.y rfl (.pT rfl rfl) ?_
        refine VO.as ?_
        refine VO.k5 0 1 2 3 4 ?_
        refine VC.ret ?_
        refine ⟨_, _, res_run (rs := [.tmp 0]) rfl (.tmp rfl .nil), fun W_ hI => out_of (l := []) hI [] rfl rfl (mle_refl _) (fun hS_ => ?_)⟩
        dsimp only [packV]
        all_goals (first | rfl | (exact congrArg Value.bool (decide_eq_true (by subst_vars; first | (simp only [ex11a, ex11b, ex11c]; done) | (simp only [ex11a, ex11b, ex11c]; first | rfl | decide) | rfl | decide))))
      · -- TTF
        exact absurd (by subst_vars; first | (simp only [ex11a, ex11b, ex11c]; done) | (simp only [ex11a, ex11b, ex11c]; first | rfl | decide) | rfl | decide) hc14
    · -- TF
      exact absurd (by subst_vars; first | (simp only [ex11a, ex11b, ex11c]; done) | (simp only [ex11a, ex11b, ex11c]; first | rfl | decide) | rfl | decide) hc9
  · -- F
    exact absurd (by subst_vars; first | (simp only [ex11a, ex11b, ex11c]; done) | (simp only [ex11a, ex11b, ex11c]; first | rfl | decide) | rfl | decide) hc8
set_option maxHeartbeats 1000000 in
theorem letterUnlike_ok (W : World) {v0 : List Value} {d0 : DMessage} (h0 : Rd TMessage (wm W) v0 d0) {v1 : List Value} {d1 : DMessage} (h1 : Rd TMessage (wm W) v1 d1) (d2 : Int) (h2 : inK .i64 d2) : CallR Try.prog 7 [.agg v0.toArray, .agg v1.toArray, .int .i64 d2] W (mnil) (fun v m' => v = .bool true) := by
  obtain ⟨p0_A4, p0_c4, p0_A7, p0_c7, rfl, p0_0, p0_1, p0_2, p0_3, p0_4, p0_5, p0_6, p0_7⟩ := open_Message (x0 := d0.1) (x1 := d0.2.1) (x2 := d0.2.2.1) (x3 := d0.2.2.2.1) (x4 := d0.2.2.2.2.1) (x5 := d0.2.2.2.2.2.1) (x6 := d0.2.2.2.2.2.2.1) (x7 := d0.2.2.2.2.2.2.2) h0
  simp only [inK] at p0_0
  simp only [inK] at p0_1
  simp only [inK] at p0_2
  simp only [inK] at p0_3
  have p0_r4 := Rd.room p0_4
  simp only [inK] at p0_5
  simp only [inK] at p0_6
  have p0_r7 := Rd.room p0_7
  obtain ⟨p1_A4, p1_c4, p1_A7, p1_c7, rfl, p1_0, p1_1, p1_2, p1_3, p1_4, p1_5, p1_6, p1_7⟩ := open_Message (x0 := d1.1) (x1 := d1.2.1) (x2 := d1.2.2.1) (x3 := d1.2.2.2.1) (x4 := d1.2.2.2.2.1) (x5 := d1.2.2.2.2.2.1) (x6 := d1.2.2.2.2.2.2.1) (x7 := d1.2.2.2.2.2.2.2) h1
  simp only [inK] at p1_0
  simp only [inK] at p1_1
  simp only [inK] at p1_2
  simp only [inK] at p1_3
  have p1_r4 := Rd.room p1_4
  simp only [inK] at p1_5
  simp only [inK] at p1_6
  have p1_r7 := Rd.room p1_7
  have h2' := h2; simp only [inK] at h2'
  refine CallR.ofA (n := 75) Try.func7 rfl rfl rfl ?_
  refine VC.rs ?_
  refine VO.box (cs := [Value.int .i64 (d0.1), Value.int .i64 (d0.2.1), Value.int .u8 (d0.2.2.1), Value.int .i64 (d0.2.2.2.1), Value.slice p0_A4 (d0.2.2.2.2.1.length) (p0_c4), Value.int .i64 (d0.2.2.2.2.2.1), Value.int .i64 (d0.2.2.2.2.2.2.1), Value.slice p0_A7 (d0.2.2.2.2.2.2.2.length) (p0_c7)]) 102 rfl rfl rfl (fun g1 => ?_)
  refine VO.box (cs := [Value.int .i64 (d1.1), Value.int .i64 (d1.2.1), Value.int .u8 (d1.2.2.1), Value.int .i64 (d1.2.2.2.1), Value.slice p1_A4 (d1.2.2.2.2.1.length) (p1_c4), Value.int .i64 (d1.2.2.2.2.2.1), Value.int .i64 (d1.2.2.2.2.2.2.1), Value.slice p1_A7 (d1.2.2.2.2.2.2.2.length) (p1_c7)]) 104 rfl rfl rfl (fun g3 => ?_)
  refine VO.as ?_
  refine VO.k6 0 1 2 3 4 6 ?_
  refine VC.seq ?_
  refine VC.rs ?_
  refine VO.callN 105 rfl fnOk8 rfl (fun W hW => lives11_ok W ) (fun v5 m5 hv5 => ?_)
  subst hv5
  refine VO.y rfl (.not rfl) ?_
  refine VO.k7 0 1 2 3 4 6 16 ?_
  refine VC.condF rfl ?_
  refine VC.skip ?_
  refine outN ?_
  refine VC.seq ?_
  refine VC.rs ?_
  refine VO.y rfl (.ldA 102 rfl tk26 rfl (cellsAt_one rfl rfl)) ?_
  refine VO.callN 106 rfl fnOk9 rfl (fun W hW => small11_ok W (Rd.mono h0 (hW.at (i := 0) rfl))) (fun v6 m6 hv6 => ?_)
  subst hv6
  refine VO.y rfl (.notD rfl) ?_
  refine VO.mv ?_
  refine VO.dec (t := 20) rfl (fun hc7 => ?_) (fun hc7 => ?_)
  · -- T
    refine VO.gN ?_
    refine VO.gN ?_
    refine VO.gN ?_
    refine VO.y rfl (.pT rfl rfl) ?_
    refine VO.keep [104, 102, 0] [(104, mone g3 (.cells [Value.int .i64 (d1.1), Value.int .i64 (d1.2.1), Value.int .u8 (d1.2.2.1), Value.int .i64 (d1.2.2.2.1), Value.slice p1_A4 (d1.2.2.2.2.1.length) (p1_c4), Value.int .i64 (d1.2.2.2.2.2.1), Value.int .i64 (d1.2.2.2.2.2.2.1), Value.slice p1_A7 (d1.2.2.2.2.2.2.2.length) (p1_c7)].toArray 26 (0, 0))), (102, mone g1 (.cells [Value.int .i64 (d0.1), Value.int .i64 (d0.2.1), Value.int .u8 (d0.2.2.1), Value.int .i64 (d0.2.2.2.1), Value.slice p0_A4 (d0.2.2.2.2.1.length) (p0_c4), Value.int .i64 (d0.2.2.2.2.2.1), Value.int .i64 (d0.2.2.2.2.2.2.1), Value.slice p0_A7 (d0.2.2.2.2.2.2.2.length) (p0_c7)].toArray 26 (0, 0))), (0, wm W)] (by kernel_rfl) ?_
    refine VO.k8 0 1 2 3 4 6 16 24 ?_
    refine VC.condT rfl ?_
    refine VC.rs ?_
    refine VO.as ?_
    refine VO.k8 0 1 2 3 4 6 16 24 ?_
    refine VC.ret ?_
    refine outR ?_
    refine ⟨_, _, res_run (rs := [.tmp 6]) rfl (.tmp rfl .nil), fun W_ hI => out_of (l := []) hI [] rfl rfl (mle_refl _) (fun hS_ => ?_)⟩
    dsimp only [packV]
    all_goals (first | rfl | (first | exact congrArg Value.bool (decide_eq_true (by rw [enc_none (by assumption)]; rfl)) | exact congrArg Value.bool (decide_eq_true (decide_eq_decide.2 (unlike (Decidable.not_not.1 ‹¬ ¬ (lEncode d0).2 = 0›) (Decidable.not_not.1 (by assumption)))))))
  · -- F
    refine VO.gy rfl ⟨_, rfl, rfl⟩ (.ldA 104 rfl tk26 rfl (cellsAt_one rfl rfl)) ?_
    refine VO.gcallN 108 rfl ⟨_, rfl, rfl⟩ fnOk9 rfl (fun W hW => small11_ok W (Rd.mono h1 (hW.at (i := 0) rfl))) (fun v8 m8 hv8 => ?_)
    subst hv8
    refine VO.gy rfl ⟨_, rfl, rfl⟩ (.notD rfl) ?_
    refine VO.y rfl (.pF rfl rfl) ?_
    refine VO.keep [104, 102, 0] [(104, mone g3 (.cells [Value.int .i64 (d1.1), Value.int .i64 (d1.2.1), Value.int .u8 (d1.2.2.1), Value.int .i64 (d1.2.2.2.1), Value.slice p1_A4 (d1.2.2.2.2.1.length) (p1_c4), Value.int .i64 (d1.2.2.2.2.2.1), Value.int .i64 (d1.2.2.2.2.2.2.1), Value.slice p1_A7 (d1.2.2.2.2.2.2.2.length) (p1_c7)].toArray 26 (0, 0))), (102, mone g1 (.cells [Value.int .i64 (d0.1), Value.int .i64 (d0.2.1), Value.int .u8 (d0.2.2.1), Value.int .i64 (d0.2.2.2.1), Value.slice p0_A4 (d0.2.2.2.2.1.length) (p0_c4), Value.int .i64 (d0.2.2.2.2.2.1), Value.int .i64 (d0.2.2.2.2.2.2.1), Value.slice p0_A7 (d0.2.2.2.2.2.2.2.length) (p0_c7)].toArray 26 (0, 0))), (0, wm W)] (by kernel_rfl) ?_
    refine VO.k8 0 1 2 3 4 6 16 24 ?_
    refine VC.cond rfl (fun hc9 => ?_) (fun hc9 => ?_)
    · -- FT
      refine VC.rs ?_
      refine VO.as ?_
      refine VO.k8 0 1 2 3 4 6 16 24 ?_
      refine VC.ret ?_
      refine outR ?_
      refine ⟨_, _, res_run (rs := [.tmp 6]) rfl (.tmp rfl .nil), fun W_ hI => out_of (l := []) hI [] rfl rfl (mle_refl _) (fun hS_ => ?_)⟩
      dsimp only [packV]
      all_goals (first | rfl | (first | exact congrArg Value.bool (decide_eq_true (by rw [enc_none (by assumption)]; rfl)) | exact congrArg Value.bool (decide_eq_true (decide_eq_decide.2 (unlike (Decidable.not_not.1 ‹¬ ¬ (lEncode d0).2 = 0›) (Decidable.not_not.1 (by assumption)))))))
    · -- FF
      refine VC.skip ?_
      refine outN ?_
      refine VC.rs ?_
      refine VO.y rfl (.ldA 102 rfl tk26 rfl (cellsAt_one rfl rfl)) ?_
      refine VO.callN 110 rfl fnOk11 rfl (fun W hW => lEncode_ok W (Rd.mono h0 (hW.at (i := 0) rfl))) (fun v10 m10 hv10 => ?_)
      obtain ⟨s10_0, rfl, f10_0⟩ := hv10
      have hfa11 := lEncode_len d0
      obtain ⟨A10_0, c10_0, eq10_0, l10_0, k10_0⟩ := f10_0.slice
      subst eq10_0
      simp only [maxLen] at k10_0
      refine VO.mv ?_
      refine VO.y rfl (.ext rfl rfl) ?_
      refine VO.y rfl (.ext rfl rfl) ?_
      refine VO.as ?_
      refine VO.as ?_
      refine VO.k10 0 1 2 3 4 6 7 8 16 24 ?_
      refine VC.rs ?_
      refine VO.y rfl (.ldA 104 rfl tk26 rfl (cellsAt_one rfl rfl)) ?_
      refine VO.callN 112 rfl fnOk11 rfl (fun W hW => lEncode_ok W (Rd.mono h1 (hW.at (i := 0) rfl))) (fun v12 m12 hv12 => ?_)
      obtain ⟨s12_0, rfl, f12_0⟩ := hv12
      have hfa13 := lEncode_len d1
      obtain ⟨A12_0, c12_0, eq12_0, l12_0, k12_0⟩ := f12_0.slice
      subst eq12_0
      simp only [maxLen] at k12_0
      refine VO.mv ?_
      refine VO.y rfl (.ext rfl rfl) ?_
      refine VO.y rfl (.ext rfl rfl) ?_
      refine VO.as ?_
      refine VO.as ?_
      refine VO.k12 0 1 2 3 4 6 7 8 9 10 16 24 ?_
      refine VC.seq ?_
      refine VC.rs ?_
      refine VO.mv ?_
      refine VO.y rfl (.neq rfl rfl) ?_
      refine VO.keep [112, 110, 104, 102, 0] [(112, m12), (110, m10), (104, mone g3 (.cells [Value.int .i64 (d1.1), Value.int .i64 (d1.2.1), Value.int .u8 (d1.2.2.1), Value.int .i64 (d1.2.2.2.1), Value.slice p1_A4 (d1.2.2.2.2.1.length) (p1_c4), Value.int .i64 (d1.2.2.2.2.2.1), Value.int .i64 (d1.2.2.2.2.2.2.1), Value.slice p1_A7 (d1.2.2.2.2.2.2.2.length) (p1_c7)].toArray 26 (0, 0))), (102, mone g1 (.cells [Value.int .i64 (d0.1), Value.int .i64 (d0.2.1), Value.int .u8 (d0.2.2.1), Value.int .i64 (d0.2.2.2.1), Value.slice p0_A4 (d0.2.2.2.2.1.length) (p0_c4), Value.int .i64 (d0.2.2.2.2.2.1), Value.int .i64 (d0.2.2.2.2.2.2.1), Value.slice p0_A7 (d0.2.2.2.2.2.2.2.length) (p0_c7)].toArray 26 (0, 0))), (0, wm W)] (by kernel_rfl) ?_
      refine VO.k13 0 1 2 3 4 6 7 8 9 10 16 24 36 ?_
      refine VC.cond rfl (fun hc14 => ?_) (fun hc14 => ?_)
      · -- FFT
        refine VC.rs ?_
        refine VO.mv ?_
        refine VO.y rfl (.lenS rfl tsl30) ?_
        refine VO.y rfl (.eql rfl rfl) ?_
        refine VO.as ?_
        refine VO.k13 0 1 2 3 4 6 7 8 9 10 16 24 36 ?_
        refine VC.ret ?_
        refine outR ?_
        refine ⟨_, _, res_run (rs := [.tmp 6]) rfl (.tmp rfl .nil), fun W_ hI => out_of (l := []) hI [] rfl rfl (mle_refl _) (fun hS_ => ?_)⟩
        dsimp only [packV]
        all_goals (first | rfl | (first | exact congrArg Value.bool (decide_eq_true (by rw [enc_none (by assumption)]; rfl)) | exact congrArg Value.bool (decide_eq_true (decide_eq_decide.2 (unlike (Decidable.not_not.1 ‹¬ ¬ (lEncode d0).2 = 0›) (Decidable.not_not.1 (by assumption)))))))
      · -- FFF
        refine VC.skip ?_
        refine outN ?_
        refine VC.rs ?_
        refine VO.mv ?_
        refine VO.mv ?_
        refine VO.mv ?_
        refine VO.y rfl (.lenS rfl tsl30) ?_
        have hpos := enc_pos (Decidable.not_not.1 ‹¬ ¬ (lEncode d0).2 = 0›)
        refine VO.callN 115 rfl fnOk27 rfl (fun W hW => pick_ok W d2 (by simp only [inK]; (first | omega | (simp only [List.length_append, List.length_nil, List.length_cons, List.length_take, List.length_drop] at *; omega) | (have h_ := enc_pos (Decidable.not_not.1 ‹¬ ¬ (lEncode d0).2 = 0›); omega) | (have h_ := pickI_bounds d2 ((lEncode d0).1.length : Int) (by have h_ := enc_pos (Decidable.not_not.1 ‹¬ ¬ (lEncode d0).2 = 0›); omega); omega))) ((((lEncode d0).1).length : Nat) : Int) (by simp only [inK]; (first | omega | (simp only [List.length_append, List.length_nil, List.length_cons, List.length_take, List.length_drop] at *; omega) | (have h_ := enc_pos (Decidable.not_not.1 ‹¬ ¬ (lEncode d0).2 = 0›); omega) | (have h_ := pickI_bounds d2 ((lEncode d0).1.length : Int) (by have h_ := enc_pos (Decidable.not_not.1 ‹¬ ¬ (lEncode d0).2 = 0›); omega); omega))) (by first | omega | (simp only [List.length_append, List.length_nil, List.length_cons, List.length_take, List.length_drop] at *; omega) | (have h_ := enc_pos (Decidable.not_not.1 ‹¬ ¬ (lEncode d0).2 = 0›); omega) | (have h_ := pickI_bounds d2 ((lEncode d0).1.length : Int) (by have h_ := enc_pos (Decidable.not_not.1 ‹¬ ¬ (lEncode d0).2 = 0›); omega); omega))) (fun v15 m15 hv15 => ?_)
        subst hv15
        have hfa16 := pickI_bounds d2 ((((lEncode d0).1).length : Nat) : Int) (by omega)
        have hs17 := (OwnL.rd (Ow.ownl f10_0 rfl mnil) (mle_refl _) (mle_nil _)).pre (j := ((pickI d2 ((((lEncode d0).1).length : Nat) : Int)).toNat)) (by first | omega | (simp only [List.length_append, List.length_nil, List.length_cons, List.length_take, List.length_drop] at *; omega) | (have h_ := enc_pos (Decidable.not_not.1 ‹¬ ¬ (lEncode d0).2 = 0›); omega) | (have h_ := pickI_bounds d2 ((lEncode d0).1.length : Int) (by have h_ := enc_pos (Decidable.not_not.1 ‹¬ ¬ (lEncode d0).2 = 0›); omega); omega))
        refine VO.y rfl (.slHI ((pickI d2 ((((lEncode d0).1).length : Nat) : Int)).toNat) rfl rfl tsl30 (by first | omega | (simp only [List.length_append, List.length_nil, List.length_cons, List.length_take, List.length_drop] at *; omega) | (have h_ := enc_pos (Decidable.not_not.1 ‹¬ ¬ (lEncode d0).2 = 0›); omega) | (have h_ := pickI_bounds d2 ((lEncode d0).1.length : Int) (by have h_ := enc_pos (Decidable.not_not.1 ‹¬ ¬ (lEncode d0).2 = 0›); omega); omega)) (by first | omega | (simp only [List.length_append, List.length_nil, List.length_cons, List.length_take, List.length_drop] at *; omega) | (have h_ := enc_pos (Decidable.not_not.1 ‹¬ ¬ (lEncode d0).2 = 0›); omega) | (have h_ := pickI_bounds d2 ((lEncode d0).1.length : Int) (by have h_ := enc_pos (Decidable.not_not.1 ‹¬ ¬ (lEncode d0).2 = 0›); omega); omega))) ?_
        refine VO.callN 118 rfl fnOk20 rfl (fun W hW => lDec_ok W (OwnL.rd ((Ow.ownl f10_0 rfl mnil).pre (j := ((pickI d2 ((((lEncode d0).1).length : Nat) : Int)).toNat)) (by first | omega | (simp only [List.length_append, List.length_nil, List.length_cons, List.length_take, List.length_drop] at *; omega) | (have h_ := enc_pos (Decidable.not_not.1 ‹¬ ¬ (lEncode d0).2 = 0›); omega) | (have h_ := pickI_bounds d2 ((lEncode d0).1.length : Int) (by have h_ := enc_pos (Decidable.not_not.1 ‹¬ ¬ (lEncode d0).2 = 0›); omega); omega))) (hW.at (i := 110) rfl) (mle_nil _))) (fun v18 m18 hv18 => ?_)
        obtain ⟨s18_0, rfl, f18_0⟩ := hv18
        have hfa19 := lDec_fits (((lEncode d0).1).take ((pickI d2 ((((lEncode d0).1).length : Nat) : Int)).toNat))
        obtain ⟨q18_0_A4, q18_0_c4, q18_0_A7, q18_0_c7, q18_0_n4, q18_0_n7, rfl, q18_0_S, q18_0_0, q18_0_1, q18_0_2, q18_0_3, q18_0_4, q18_0_5, q18_0_6, q18_0_7⟩ := openO_Message (x0 := ((lDec (((lEncode d0).1).take ((pickI d2 ((((lEncode d0).1).length : Nat) : Int)).toNat))).1).1) (x1 := ((lDec (((lEncode d0).1).take ((pickI d2 ((((lEncode d0).1).length : Nat) : Int)).toNat))).1).2.1) (x2 := ((lDec (((lEncode d0).1).take ((pickI d2 ((((lEncode d0).1).length : Nat) : Int)).toNat))).1).2.2.1) (x3 := ((lDec (((lEncode d0).1).take ((pickI d2 ((((lEncode d0).1).length : Nat) : Int)).toNat))).1).2.2.2.1) (x4 := ((lDec (((lEncode d0).1).take ((pickI d2 ((((lEncode d0).1).length : Nat) : Int)).toNat))).1).2.2.2.2.1) (x5 := ((lDec (((lEncode d0).1).take ((pickI d2 ((((lEncode d0).1).length : Nat) : Int)).toNat))).1).2.2.2.2.2.1) (x6 := ((lDec (((lEncode d0).1).take ((pickI d2 ((((lEncode d0).1).length : Nat) : Int)).toNat))).1).2.2.2.2.2.2.1) (x7 := ((lDec (((lEncode d0).1).take ((pickI d2 ((((lEncode d0).1).length : Nat) : Int)).toNat))).1).2.2.2.2.2.2.2) f18_0
        simp only [inK] at q18_0_0
        simp only [inK] at q18_0_1
        simp only [inK] at q18_0_2
        simp only [inK] at q18_0_3
        have q18_0_r4 := Rd.room (q18_0_4.rd (mle_refl _))
        simp only [inK] at q18_0_5
        simp only [inK] at q18_0_6
        have q18_0_r7 := Rd.room (q18_0_7.rd (mle_refl _))
        refine VO.inv _ (fun _ h => h.parts (i := 118) rfl q18_0_S [120, 121]) ?_
        refine VO.mv ?_
        refine VO.y rfl (.ext rfl rfl) ?_
        refine VO.y rfl (.ext rfl rfl) ?_
        refine VO.alloc 123 rfl tz26 (fun g22 => ?_)
        refine VO.store (k := 8) (c' := [Value.int .i64 (((lDec (((lEncode d0).1).take ((pickI d2 ((((lEncode d0).1).length : Nat) : Int)).toNat))).1).1), Value.int .i64 (((lDec (((lEncode d0).1).take ((pickI d2 ((((lEncode d0).1).length : Nat) : Int)).toNat))).1).2.1), Value.int .u8 (((lDec (((lEncode d0).1).take ((pickI d2 ((((lEncode d0).1).length : Nat) : Int)).toNat))).1).2.2.1), Value.int .i64 (((lDec (((lEncode d0).1).take ((pickI d2 ((((lEncode d0).1).length : Nat) : Int)).toNat))).1).2.2.2.1), Value.slice q18_0_A4 ((((lDec (((lEncode d0).1).take ((pickI d2 ((((lEncode d0).1).length : Nat) : Int)).toNat))).1).2.2.2.2.1).length) (q18_0_c4), Value.int .i64 (((lDec (((lEncode d0).1).take ((pickI d2 ((((lEncode d0).1).length : Nat) : Int)).toNat))).1).2.2.2.2.2.1), Value.int .i64 (((lDec (((lEncode d0).1).take ((pickI d2 ((((lEncode d0).1).length : Nat) : Int)).toNat))).1).2.2.2.2.2.2.1), Value.slice q18_0_A7 ((((lDec (((lEncode d0).1).take ((pickI d2 ((((lEncode d0).1).length : Nat) : Int)).toNat))).1).2.2.2.2.2.2.2).length) (q18_0_c7)]) 123 rfl rfl (.inl tk26) rfl rfl rfl rfl rfl ?_
        refine VO.as ?_
        refine VO.k14 0 1 2 3 4 6 7 8 9 10 12 16 24 36 ?_
        refine VC.rs ?_
        refine VO.mv ?_
        refine VO.callN 124 rfl fnOk28 rfl (fun W hW => CopyBytes_ok W (OwnL.rd (Ow.ownl f10_0 rfl mnil) (hW.at (i := 110) rfl) (mle_nil _)) (by first | omega | (simp only [List.length_append, List.length_nil, List.length_cons, List.length_take, List.length_drop] at *; omega) | (have h_ := enc_pos (Decidable.not_not.1 ‹¬ ¬ (lEncode d0).2 = 0›); omega) | (have h_ := pickI_bounds d2 ((lEncode d0).1.length : Int) (by have h_ := enc_pos (Decidable.not_not.1 ‹¬ ¬ (lEncode d0).2 = 0›); omega); omega))) (fun v24 m24 hv24 => ?_)
        obtain ⟨s24_0, rfl, f24_0⟩ := hv24
        obtain ⟨A24_0, c24_0, eq24_0, l24_0, k24_0⟩ := f24_0.slice
        subst eq24_0
        simp only [maxLen] at k24_0
        refine VO.bsl (cs := [Value.int .u8 (0)]) 126 rfl rfl tsl30 tz5 rfl rfl (fun g25 => ?_)
        obtain ⟨mo27, cs27, hM27, hA27, hC27⟩ := (Ow.ownl f24_0 rfl mnil)
        refine VO.app 124 rfl rfl rfl tsl30 tz5 rfl rfl hM27 hA27 (.row 126 _ _ _ 1 1 _ _ Try.underlying30 rfl (cellsAt_one rfl rfl)) (by simp [Value.oneCell']) (by simp only [maxLen]; (first | omega | (simp only [List.length_append, List.length_nil, List.length_cons, List.length_take, List.length_drop] at *; omega) | (have h_ := enc_pos (Decidable.not_not.1 ‹¬ ¬ (lEncode d0).2 = 0›); omega) | (have h_ := pickI_bounds d2 ((lEncode d0).1.length : Int) (by have h_ := enc_pos (Decidable.not_not.1 ‹¬ ¬ (lEncode d0).2 = 0›); omega); omega))) (by first | omega | (simp only [List.length_append, List.length_nil, List.length_cons, List.length_take, List.length_drop] at *; omega) | (have h_ := enc_pos (Decidable.not_not.1 ‹¬ ¬ (lEncode d0).2 = 0›); omega) | (have h_ := pickI_bounds d2 ((lEncode d0).1.length : Int) (by have h_ := enc_pos (Decidable.not_not.1 ‹¬ ¬ (lEncode d0).2 = 0›); omega); omega)) (by decide) (fun v27 m27 hN27 => ?_)
        have ho27 : OwnL .byte m27 mnil v27 (((lEncode d0).1) ++ [UInt8.ofNat 0]) := OwnL.one hC27 hN27 (rd_byteN (by first | omega | (simp only [List.length_append, List.length_nil, List.length_cons, List.length_take, List.length_drop] at *; omega) | (have h_ := enc_pos (Decidable.not_not.1 ‹¬ ¬ (lEncode d0).2 = 0›); omega) | (have h_ := pickI_bounds d2 ((lEncode d0).1.length : Int) (by have h_ := enc_pos (Decidable.not_not.1 ‹¬ ¬ (lEncode d0).2 = 0›); omega); omega)))
        obtain ⟨A27, c27, rfl, l27, k27⟩ := ho27.slice
        simp only [maxLen] at k27
        refine VO.callN 128 rfl fnOk20 rfl (fun W hW => lDec_ok W (OwnL.rd ho27 (hW.at (i := 124) rfl) (mle_nil _))) (fun v28 m28 hv28 => ?_)
        obtain ⟨s28_0, rfl, f28_0⟩ := hv28
        have hfa29 := lDec_fits (((lEncode d0).1) ++ [UInt8.ofNat 0])
        obtain ⟨q28_0_A4, q28_0_c4, q28_0_A7, q28_0_c7, q28_0_n4, q28_0_n7, rfl, q28_0_S, q28_0_0, q28_0_1, q28_0_2, q28_0_3, q28_0_4, q28_0_5, q28_0_6, q28_0_7⟩ := openO_Message (x0 := ((lDec (((lEncode d0).1) ++ [UInt8.ofNat 0])).1).1) (x1 := ((lDec (((lEncode d0).1) ++ [UInt8.ofNat 0])).1).2.1) (x2 := ((lDec (((lEncode d0).1) ++ [UInt8.ofNat 0])).1).2.2.1) (x3 := ((lDec (((lEncode d0).1) ++ [UInt8.ofNat 0])).1).2.2.2.1) (x4 := ((lDec (((lEncode d0).1) ++ [UInt8.ofNat 0])).1).2.2.2.2.1) (x5 := ((lDec (((lEncode d0).1) ++ [UInt8.ofNat 0])).1).2.2.2.2.2.1) (x6 := ((lDec (((lEncode d0).1) ++ [UInt8.ofNat 0])).1).2.2.2.2.2.2.1) (x7 := ((lDec (((lEncode d0).1) ++ [UInt8.ofNat 0])).1).2.2.2.2.2.2.2) f28_0
        simp only [inK] at q28_0_0
        simp only [inK] at q28_0_1
        simp only [inK] at q28_0_2
        simp only [inK] at q28_0_3
        have q28_0_r4 := Rd.room (q28_0_4.rd (mle_refl _))
        simp only [inK] at q28_0_5
        simp only [inK] at q28_0_6
        have q28_0_r7 := Rd.room (q28_0_7.rd (mle_refl _))
        refine VO.inv _ (fun _ h => h.parts (i := 128) rfl q28_0_S [130, 131]) ?_
        refine VO.mv ?_
        refine VO.y rfl (.ext rfl rfl) ?_
        refine VO.y rfl (.ext rfl rfl) ?_
        refine VO.alloc 133 rfl tz26 (fun g32 => ?_)
        refine VO.store (k := 8) (c' := [Value.int .i64 (((lDec (((lEncode d0).1) ++ [UInt8.ofNat 0])).1).1), Value.int .i64 (((lDec (((lEncode d0).1) ++ [UInt8.ofNat 0])).1).2.1), Value.int .u8 (((lDec (((lEncode d0).1) ++ [UInt8.ofNat 0])).1).2.2.1), Value.int .i64 (((lDec (((lEncode d0).1) ++ [UInt8.ofNat 0])).1).2.2.2.1), Value.slice q28_0_A4 ((((lDec (((lEncode d0).1) ++ [UInt8.ofNat 0])).1).2.2.2.2.1).length) (q28_0_c4), Value.int .i64 (((lDec (((lEncode d0).1) ++ [UInt8.ofNat 0])).1).2.2.2.2.2.1), Value.int .i64 (((lDec (((lEncode d0).1) ++ [UInt8.ofNat 0])).1).2.2.2.2.2.2.1), Value.slice q28_0_A7 ((((lDec (((lEncode d0).1) ++ [UInt8.ofNat 0])).1).2.2.2.2.2.2.2).length) (q28_0_c7)]) 133 rfl rfl (.inl tk26) rfl rfl rfl rfl rfl ?_
        refine VO.as ?_
        refine VO.keep [112, 110, 104, 102, 0] [(112, m12), (110, m10), (104, mone g3 (.cells [Value.int .i64 (d1.1), Value.int .i64 (d1.2.1), Value.int .u8 (d1.2.2.1), Value.int .i64 (d1.2.2.2.1), Value.slice p1_A4 (d1.2.2.2.2.1.length) (p1_c4), Value.int .i64 (d1.2.2.2.2.2.1), Value.int .i64 (d1.2.2.2.2.2.2.1), Value.slice p1_A7 (d1.2.2.2.2.2.2.2.length) (p1_c7)].toArray 26 (0, 0))), (102, mone g1 (.cells [Value.int .i64 (d0.1), Value.int .i64 (d0.2.1), Value.int .u8 (d0.2.2.1), Value.int .i64 (d0.2.2.2.1), Value.slice p0_A4 (d0.2.2.2.2.1.length) (p0_c4), Value.int .i64 (d0.2.2.2.2.2.1), Value.int .i64 (d0.2.2.2.2.2.2.1), Value.slice p0_A7 (d0.2.2.2.2.2.2.2.length) (p0_c7)].toArray 26 (0, 0))), (0, wm W)] (by kernel_rfl) ?_
        refine VO.k15 0 1 2 3 4 6 7 8 9 10 12 14 16 24 36 ?_
        refine VC.seq ?_
        refine VC.rs ?_
        refine VO.mv ?_
        refine VO.y rfl (.neq rfl rfl) ?_
        refine VO.mv ?_
        refine VO.dec (t := 60) rfl (fun hc34 => ?_) (fun hc34 => ?_)
        · -- FFFT
          exact absurd (by rw [cut_dead (Decidable.not_not.1 ‹¬ ¬ (lEncode d0).2 = 0›) (by have h_ := pickI_bounds d2 ((lEncode d0).1.length : Int) (by have h_ := enc_pos (Decidable.not_not.1 ‹¬ ¬ (lEncode d0).2 = 0›); omega); omega)]) hc34
        · -- FFFF
          refine VO.gy rfl ⟨_, rfl, rfl⟩ (.mv rfl) ?_
          refine VO.gy rfl ⟨_, rfl, rfl⟩ (.neq rfl rfl) ?_
          refine VO.y rfl (.pF rfl rfl) ?_
          refine VO.k16 0 1 2 3 4 6 7 8 9 10 12 14 16 24 36 63 ?_
          refine VC.cond rfl (fun hc35 => ?_) (fun hc35 => ?_)
          · -- FFFFT
            exact absurd (by rw [more_dead (Decidable.not_not.1 ‹¬ ¬ (lEncode d0).2 = 0›)]) hc35
          · -- FFFFF
            refine VC.skip ?_
            refine outN ?_
            refine VC.seq ?_
            refine VC.regD _ 8 [(0, true), (1, true), (2, true), (3, true), (4, true), (6, true), (7, true), (5, false)] follows (by kernel_rfl) (fun _ h => h.sub [112, 110, 104, 102, 0]) ?_
            refine VD.y rfl rfl (.inl rfl) (.mv rfl) ?_
            refine VD.y rfl rfl (.inl rfl) (.neq rfl rfl) ?_
            refine VD.y rfl rfl (.inl rfl) (.mv rfl) ?_
            refine VD.dec (s := 66) rfl (fun hc36 => ?_) (fun hc36 => ?_)
            · -- FFFFFT
              refine VD.gn rfl rfl (.inl ⟨_, rfl, rfl⟩) ?_
              refine VD.gn rfl rfl (.inl ⟨_, rfl, rfl⟩) ?_
              refine VD.gn rfl rfl (.inl ⟨_, rfl, rfl⟩) ?_
              refine VD.gn rfl rfl (.inl ⟨_, rfl, rfl⟩) ?_
              refine VD.gnF rfl rfl (.inl ⟨_, rfl, rfl⟩) ?_
              refine VD.nil rfl ?_ rfl
              refine VO.gN ?_
              refine VO.gN ?_
              refine VO.y rfl (.pT rfl rfl) ?_
              refine VO.as ?_
              refine VO.k16 0 1 2 3 4 6 7 8 9 10 12 14 16 24 36 63 ?_
              refine outN ?_
              refine VC.ret ?_
              refine ⟨_, _, res_run (rs := [.tmp 6]) rfl (.tmp rfl .nil), fun W_ hI => out_of (l := []) hI [] rfl rfl (mle_refl _) (fun hS_ => ?_)⟩
              dsimp only [packV]
              all_goals (first | rfl | (first | exact congrArg Value.bool (decide_eq_true (by rw [enc_none (by assumption)]; rfl)) | exact congrArg Value.bool (decide_eq_true (decide_eq_decide.2 (unlike (Decidable.not_not.1 ‹¬ ¬ (lEncode d0).2 = 0›) (Decidable.not_not.1 (by assumption)))))))
            · -- FFFFFF
              refine VD.y rfl rfl (.inr ⟨_, _, rfl, _, rfl, rfl⟩) (.mv rfl) ?_
              refine VD.y rfl rfl (.inr ⟨_, _, rfl, _, rfl, rfl⟩) (.mv rfl) ?_
              refine VD.y rfl rfl (.inr ⟨_, _, rfl, _, rfl, rfl⟩) (.ldA 102 rfl tk26 rfl (cellsAt_one rfl rfl)) ?_
              refine VD.y rfl rfl (.inr ⟨_, _, rfl, _, rfl, rfl⟩) (.ldA 104 rfl tk26 rfl (cellsAt_one rfl rfl)) ?_
              refine VD.callN 137 rfl rfl (.inr ⟨_, _, rfl, _, rfl, rfl⟩) fnOk15 rfl (fun _ h => h.sub [112, 110, 104, 102, 0]) (fun W hW => SameBytes_ok W (OwnL.rd (Ow.ownl f10_0 rfl mnil) (hW.at (i := 110) rfl) (mle_nil _)) (OwnL.rd (Ow.ownl f12_0 rfl mnil) (hW.at (i := 112) rfl) (mle_nil _))) (fun v37 m37 hv37 => ?_)
              subst hv37
              refine VD.nil rfl ?_ rfl
              refine VO.gcallN 138 rfl ⟨_, rfl, rfl⟩ fnOk16 rfl (fun W hW => lSame_ok W (Rd.mono h0 (hW.at (i := 0) rfl)) (Rd.mono h1 (hW.at (i := 0) rfl))) (fun v38 m38 hv38 => ?_)
              subst hv38
              refine VO.gy rfl ⟨_, rfl, rfl⟩ (.beql rfl rfl Try.underlying4) ?_
              refine VO.y rfl (.pF rfl rfl) ?_
              refine VO.as ?_
              refine VO.k16 0 1 2 3 4 6 7 8 9 10 12 14 16 24 36 63 ?_
              refine outN ?_
              refine VC.ret ?_
              refine ⟨_, _, res_run (rs := [.tmp 6]) rfl (.tmp rfl .nil), fun W_ hI => out_of (l := []) hI [] rfl rfl (mle_refl _) (fun hS_ => ?_)⟩
              dsimp only [packV]
              all_goals (first | rfl | (first | exact congrArg Value.bool (decide_eq_true (by rw [enc_none (by assumption)]; rfl)) | exact congrArg Value.bool (decide_eq_true (decide_eq_decide.2 (unlike (Decidable.not_not.1 ‹¬ ¬ (lEncode d0).2 = 0›) (Decidable.not_not.1 (by assumption)))))))
end
section
set_option linter.unusedVariables false
set_option maxRecDepth 4000
open Go.ChangeShapes Go.WideShapes Go.ChangeAt Go.RowKit
theorem letterUnlike_ok0 : tyOk Try.prog 60 TMessage (.inl 26) = true := by kernel_rfl
theorem letterUnlike_ok1 : tyOk Try.prog 60 TMessage (.inl 26) = true := by kernel_rfl
set_option maxRecDepth 100000 in
theorem letterUnlike_lifted (os : Os) (started : os.Started) (H : Type) (enc : TypeId × Value → H) :
    ReturnsInHanded {} Try.checked os 7 .any (Rows.letterUnlikeSpec.pre6 enc Try.prog Try.f7 Rows.letterUnlikeRow.domain false) (Rows.letterUnlikeSpec.post enc Try.prog Try.f7 false true false false) := by
  refine returnsInHanded_of_change (C := Try.checked) (by kernel_rfl) started (by kernel_rfl) Try.func7
    (ChangeSpec.witness6 (enc := enc) (C := Try.checked) false ⟨#[], #[.agg #[.int .i64 0, .int .i64 0, .int .u8 0, .int .i64 0, .slice none 0 0, .int .i64 0, .int .i64 0, .slice none 0 0], .agg #[.int .i64 0, .int .i64 0, .int .u8 0, .int .i64 0, .slice none 0 0, .int .i64 0, .int .i64 0, .slice none 0 0], .int .i64 0], []⟩ 8 (by kernel_rfl) (by kernel_rfl) (by kernel_rfl) (by kernel_rfl)) ?_
  intro W base args ds gs before hval0 hW hcnd _
  have hval : ∀ (j : Nat) t v, Try.f7.params[j]? = some t → args[j]? = some v → Value.okWide Try.prog W .any base t v := hval0
  have hW' := hW
  obtain ⟨p, q, hA0, hV, rfl, hfz, hnd⟩ := hW
  have hA : DataW.TrodAll enc Try.prog W 0 (fun _ => true) true Try.f7.params.toList args.toList ds p := hA0
  rw [Try.params7] at hA hval
  clear hA0 hval0
  obtain ⟨args⟩ := args
  obtain ⟨v0, r0, d0, e0, p0, q0, ha0, rfl, rfl, h0, hA0⟩ := trodAll_cons hA
  simp only at ha0; subst ha0
  obtain ⟨v1, r1, d1, e1, p1, q1, ha1, rfl, rfl, h1, hA1⟩ := trodAll_cons hA0
  subst ha1
  obtain ⟨v2, r2, d2, e2, p2, q2, ha2, rfl, rfl, h2, hA2⟩ := trodAll_cons hA1
  subst ha2
  obtain ⟨rfl, rfl, rfl⟩ := trodAll_nil hA2
  obtain ⟨c0, x0, rfl, hx0⟩ := arg_st 60 letterUnlike_ok0 Try.underlying26 (hval 0 26 v0 rfl rfl) h0
  obtain ⟨c1, x1, rfl, hx1⟩ := arg_st 60 letterUnlike_ok1 Try.underlying26 (hval 1 26 v1 rfl rfl) h1
  obtain ⟨x2, rfl, hx2⟩ := arg_int Try.underlying3 (hval 2 3 v2 rfl rfl) h2
  refine (calls_of (letterUnlike_ok W hx0 hx1 x2 hx2)).mono fun e W' ⟨he, hg⟩ => ?_
  subst he
  exact ⟨_, rfl, law_post hW' hg laidOut_ok (by kernel_rfl) rfl Try.underlying4 rfl rfl rfl rfl⟩
theorem letterUnlike_joined : joinedFacts Try.prog 7 Try.f7 Rows.letterUnlikeSpec Rows.letterUnlikeRow = true := by
  unfold joinedFacts
  rw [laidOut_ok, mapsRowed_ok, stopsHeard_ok, mayEnter_ok, lifts_ok, make_ok]
  kernel_rfl
theorem letterUnlike_proved : Rows.LetterUnlikeSaid :=
  OpenClaim.holds_of_wide 7 Try.f7 rfl rfl rfl rfl rfl rfl rfl ⟨rfl, rfl, rfl, rfl, rfl⟩ rfl rfl rfl rfl rfl (by kernel_rfl) Try.func7 letterUnlike_joined
    (of_decide_eq_true (by kernel_rfl)) (by unfold Func.isWrapper; first | (rw [if_pos (by decide +kernel)]; kernel_rfl) | (rw [if_neg (by decide +kernel)]; exact ⟨rfl, rfl⟩))
    (fun os started H enc _ => letterUnlike_lifted os started H enc)
#print axioms letterUnlike_proved
end
end Go.Proofs.Ytcikgnbpcombpaa
