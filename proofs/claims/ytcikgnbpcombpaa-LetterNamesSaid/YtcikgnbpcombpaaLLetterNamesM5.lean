/- Part 5 of the proof of LLetterNames: what it needs of the library, the walks and the plain laws. Conditions: those named in each theorem. -/
import Derived.Test.YtcikgnbpcombpaaLLetterNamesM4
namespace Go.Proofs.Ytcikgnbpcombpaa
section
set_option linter.unusedVariables false
def smallM (m : DMessage) : Prop := (∀ c ∈ m.2.2.2.2.2.2.2, c.2.2.length ≤ 40) ∧ m.2.2.2.2.1.length ≤ 40 ∧ m.2.2.2.2.2.2.2.length ≤ 40
instance (m : DMessage) : Decidable (smallM m) := by unfold smallM; infer_instance
theorem ex11a : lEncode (3, 2, 0, 7, [], 0, 0, []) = ([3, 2, 7], 0) := by
  rw [lEncode_ack (by decide) (by decide) (by decide)]; simp [venc_last]
theorem ex11b : lEncode (1, 2, 2, 3, [(1, 1), (2, 3)], 0, 0, []) = ([1, 2, 2, 3, 2, 1, 1, 2, 3], 0) := by
  rw [lEncode_hello (by decide) rfl]; simp [lHd, sEnc, venc_last]
theorem ex11c : lEncode (2, 1, 0, 0, [], 1, 0, []) = ([2, 1, 1, 0, 0], 0) := by
  rw [lEncode_ship (by decide) (by decide) rfl]; simp [lHs, csEnc, venc_last]
end
section
set_option linter.unusedVariables false
set_option linter.unusedSimpArgs false
set_option maxRecDepth 4000
theorem fnOk11 : fnOk Try.prog 11 = true := by kernel_rfl
theorem fnOk20 : fnOk Try.prog 20 = true := by kernel_rfl
theorem fnOk8 : fnOk Try.prog 8 = true := by kernel_rfl
theorem lives11_ok (W : World) : CallR Try.prog 8 [] W (mnil) (fun v m' => v = .bool true) := by
  refine CallR.ofA (n := 34) Try.func8 rfl rfl rfl ?_
  refine VC.rs ?_
  refine VO.as ?_
  refine VO.k1 0 ?_
  refine VC.rs ?_
  refine VO.y rfl (.bst (cs := [Value.int .i64 (3), Value.int .i64 (2), Value.int .u8 (0), Value.int .i64 (7), Value.slice none (0) (0), Value.int .i64 (0), Value.int .i64 (0), Value.slice none (0) (0)]) rfl tst26 tz26 rfl) ?_
  refine VO.callN 101 rfl fnOk11 rfl (fun W hW => lEncode_ok W (mk_Message (m := wm W) 3 2 0 7 [] 0 0 [] (by simp only [inK]; (first | omega | (simp only [List.length_append, List.length_nil, List.length_cons, List.length_take, List.length_drop] at *; omega) | (have : exC.length = 6 := rfl; omega) | decide)) (by simp only [inK]; (first | omega | (simp only [List.length_append, List.length_nil, List.length_cons, List.length_take, List.length_drop] at *; omega) | (have : exC.length = 6 := rfl; omega) | decide)) (by simp only [inK]; (first | omega | (simp only [List.length_append, List.length_nil, List.length_cons, List.length_take, List.length_drop] at *; omega) | (have : exC.length = 6 := rfl; omega) | decide)) (by simp only [inK]; (first | omega | (simp only [List.length_append, List.length_nil, List.length_cons, List.length_take, List.length_drop] at *; omega) | (have : exC.length = 6 := rfl; omega) | decide)) (Rd.nil _ _ none 0 (Nat.zero_le _)) (by simp only [inK]; (first | omega | (simp only [List.length_append, List.length_nil, List.length_cons, List.length_take, List.length_drop] at *; omega) | (have : exC.length = 6 := rfl; omega) | decide)) (by simp only [inK]; (first | omega | (simp only [List.length_append, List.length_nil, List.length_cons, List.length_take, List.length_drop] at *; omega) | (have : exC.length = 6 := rfl; omega) | decide)) (Rd.nil _ _ none 0 (Nat.zero_le _)))) (fun v1 m1 hv1 => ?_)
  try dsimp only at hv1
  obtain ⟨s1_0, rfl, f1_0⟩ := hv1
  have hfa2 := lEncode_len (3, 2, 0, 7, [], 0, 0, [])
  generalize hq1_0 : ((lEncode (3, 2, 0, 7, [], 0, 0, [])).1) = r1_0 at f1_0
  obtain ⟨A1_0, c1_0, eq1_0, l1_0, k1_0⟩ := f1_0.slice
  subst eq1_0
  simp only [maxLen] at k1_0
  refine VO.mv ?_
  refine VO.y rfl (.ext rfl rfl) ?_
  refine VO.y rfl (.ext rfl rfl) ?_
  refine VO.as ?_
  refine VO.as ?_
  refine VO.k3 0 1 2 ?_
  refine VC.rs ?_
  refine VO.y rfl (.bst (cs := [Value.int .i64 (1), Value.int .i64 (1)]) rfl tst57 tz57 rfl) ?_
  refine VO.y rfl (.bst (cs := [Value.int .i64 (2), Value.int .i64 (3)]) rfl tst57 tz57 rfl) ?_
  refine VO.bsl (cs := [Value.int .i64 (1), Value.int .i64 (1), Value.int .i64 (2), Value.int .i64 (3)]) 104 rfl rfl tsl23 tz57 rfl rfl (fun g3 => ?_)
  refine VO.y rfl (.bst (cs := [Value.int .i64 (1), Value.int .i64 (2), Value.int .u8 (2), Value.int .i64 (3), Value.slice (some ⟨g3, 0, none⟩) (2) (2), Value.int .i64 (0), Value.int .i64 (0), Value.slice none (0) (0)]) rfl tst26 tz26 rfl) ?_
  have ho6 : OwnL TStart (mone g3 (.cells [Value.int .i64 (1), Value.int .i64 (1), Value.int .i64 (2), Value.int .i64 (3)].toArray 57 (0, 0))) mnil (Value.slice (some ⟨g3, 0, none⟩) (2) (2)) [(1, 1), (2, 3)] := OwnL.lit 2 (All2c.cons (c1 := [Value.int .i64 (1), Value.int .i64 (1)]) (mk_Start (m := _) 1 1 (by simp only [inK]; (first | omega | (simp only [List.length_append, List.length_nil, List.length_cons, List.length_take, List.length_drop] at *; omega) | (have : exC.length = 6 := rfl; omega) | decide)) (by simp only [inK]; (first | omega | (simp only [List.length_append, List.length_nil, List.length_cons, List.length_take, List.length_drop] at *; omega) | (have : exC.length = 6 := rfl; omega) | decide))) (All2c.cons (c1 := [Value.int .i64 (2), Value.int .i64 (3)]) (mk_Start (m := _) 2 3 (by simp only [inK]; (first | omega | (simp only [List.length_append, List.length_nil, List.length_cons, List.length_take, List.length_drop] at *; omega) | (have : exC.length = 6 := rfl; omega) | decide)) (by simp only [inK]; (first | omega | (simp only [List.length_append, List.length_nil, List.length_cons, List.length_take, List.length_drop] at *; omega) | (have : exC.length = 6 := rfl; omega) | decide))) All2c.nil)) rfl rfl
  refine VO.callN 105 rfl fnOk11 rfl (fun W hW => lEncode_ok W (mk_Message (m := wm W) 1 2 2 3 ([(1, 1), (2, 3)]) 0 0 [] (by simp only [inK]; (first | omega | (simp only [List.length_append, List.length_nil, List.length_cons, List.length_take, List.length_drop] at *; omega) | (have : exC.length = 6 := rfl; omega) | decide)) (by simp only [inK]; (first | omega | (simp only [List.length_append, List.length_nil, List.length_cons, List.length_take, List.length_drop] at *; omega) | (have : exC.length = 6 := rfl; omega) | decide)) (by simp only [inK]; (first | omega | (simp only [List.length_append, List.length_nil, List.length_cons, List.length_take, List.length_drop] at *; omega) | (have : exC.length = 6 := rfl; omega) | decide)) (by simp only [inK]; (first | omega | (simp only [List.length_append, List.length_nil, List.length_cons, List.length_take, List.length_drop] at *; omega) | (have : exC.length = 6 := rfl; omega) | decide)) (OwnL.rd ho6 (hW.at (i := 104) rfl) (mle_nil _)) (by simp only [inK]; (first | omega | (simp only [List.length_append, List.length_nil, List.length_cons, List.length_take, List.length_drop] at *; omega) | (have : exC.length = 6 := rfl; omega) | decide)) (by simp only [inK]; (first | omega | (simp only [List.length_append, List.length_nil, List.length_cons, List.length_take, List.length_drop] at *; omega) | (have : exC.length = 6 := rfl; omega) | decide)) (Rd.nil _ _ none 0 (Nat.zero_le _)))) (fun v5 m5 hv5 => ?_)
  try dsimp only at hv5
  obtain ⟨s5_0, rfl, f5_0⟩ := hv5
  have hfa7 := lEncode_len (1, 2, 2, 3, [(1, 1), (2, 3)], 0, 0, [])
  generalize hq5_0 : ((lEncode (1, 2, 2, 3, [(1, 1), (2, 3)], 0, 0, [])).1) = r5_0 at f5_0
  obtain ⟨A5_0, c5_0, eq5_0, l5_0, k5_0⟩ := f5_0.slice
  subst eq5_0
  simp only [maxLen] at k5_0
  refine VO.mv ?_
  refine VO.y rfl (.ext rfl rfl) ?_
  refine VO.y rfl (.ext rfl rfl) ?_
  refine VO.as ?_
  refine VO.as ?_
  refine VO.keep [105, 101, 0] [(105, m5), (101, m1), (0, wm W)] (by kernel_rfl) ?_
  refine VO.k5 0 1 2 3 4 ?_
  refine VC.rs ?_
  refine VO.mv ?_
  refine VO.y rfl (.eql rfl rfl) ?_
  refine VO.mv ?_
  refine VO.dec (t := 20) rfl (fun hc8 => ?_) (fun hc8 => ?_)
  · -- T
    refine VO.gy rfl ⟨_, rfl, rfl⟩ (.mv rfl) ?_
    refine VO.gy rfl ⟨_, rfl, rfl⟩ (.eql rfl rfl) ?_
    refine VO.y rfl (.pT rfl rfl) ?_
    refine VO.mv ?_
    refine VO.dec (t := 24) rfl (fun hc9 => ?_) (fun hc9 => ?_)
    · -- TT
      refine VO.gy rfl ⟨_, rfl, rfl⟩ (.mv rfl) ?_
      refine VO.gbsl (cs := [Value.int .u8 (3), Value.int .u8 (2), Value.int .u8 (7)]) 111 rfl ⟨_, rfl, rfl⟩ rfl tsl30 tz5 rfl rfl (fun g10 => ?_)
      have ho13 : OwnL .byte (mone g10 (.cells [Value.int .u8 (3), Value.int .u8 (2), Value.int .u8 (7)].toArray 5 (0, 0))) mnil (Value.slice (some ⟨g10, 0, none⟩) (3) (3)) [UInt8.ofNat 3, UInt8.ofNat 2, UInt8.ofNat 7] := OwnL.lit 3 (All2c.cons (c1 := [Value.int .u8 (3)]) (rd_byteN (by first | omega | (simp only [List.length_append, List.length_nil, List.length_cons, List.length_take, List.length_drop] at *; omega) | (have : exC.length = 6 := rfl; omega) | decide)) (All2c.cons (c1 := [Value.int .u8 (2)]) (rd_byteN (by first | omega | (simp only [List.length_append, List.length_nil, List.length_cons, List.length_take, List.length_drop] at *; omega) | (have : exC.length = 6 := rfl; omega) | decide)) (All2c.cons (c1 := [Value.int .u8 (7)]) (rd_byteN (by first | omega | (simp only [List.length_append, List.length_nil, List.length_cons, List.length_take, List.length_drop] at *; omega) | (have : exC.length = 6 := rfl; omega) | decide)) All2c.nil))) rfl rfl
      refine VO.gcallN 112 rfl ⟨_, rfl, rfl⟩ fnOk15 rfl (fun W hW => SameBytes_ok W (OwnL.rd (Ow.ownl f1_0 rfl mnil) (hW.at (i := 101) rfl) (mle_nil _)) (OwnL.rd ho13 (hW.at (i := 111) rfl) (mle_nil _))) (fun v12 m12 hv12 => ?_)
      subst hv12
      refine VO.y rfl (.pT rfl rfl) ?_
      refine VO.mv ?_
      refine VO.dec (t := 29) rfl (fun hc14 => ?_) (fun hc14 => ?_)
      · -- TTT
        refine VO.gy rfl ⟨_, rfl, rfl⟩ (.mv rfl) ?_
        refine VO.gbsl (cs := [Value.int .u8 (1), Value.int .u8 (2), Value.int .u8 (2), Value.int .u8 (3), Value.int .u8 (2), Value.int .u8 (1), Value.int .u8 (1), Value.int .u8 (2), Value.int .u8 (3)]) 116 rfl ⟨_, rfl, rfl⟩ rfl tsl30 tz5 rfl rfl (fun g15 => ?_)
        have ho18 : OwnL .byte (mone g15 (.cells [Value.int .u8 (1), Value.int .u8 (2), Value.int .u8 (2), Value.int .u8 (3), Value.int .u8 (2), Value.int .u8 (1), Value.int .u8 (1), Value.int .u8 (2), Value.int .u8 (3)].toArray 5 (0, 0))) mnil (Value.slice (some ⟨g15, 0, none⟩) (9) (9)) [UInt8.ofNat 1, UInt8.ofNat 2, UInt8.ofNat 2, UInt8.ofNat 3, UInt8.ofNat 2, UInt8.ofNat 1, UInt8.ofNat 1, UInt8.ofNat 2, UInt8.ofNat 3] := OwnL.lit 9 (All2c.cons (c1 := [Value.int .u8 (1)]) (rd_byteN (by first | omega | (simp only [List.length_append, List.length_nil, List.length_cons, List.length_take, List.length_drop] at *; omega) | (have : exC.length = 6 := rfl; omega) | decide)) (All2c.cons (c1 := [Value.int .u8 (2)]) (rd_byteN (by first | omega | (simp only [List.length_append, List.length_nil, List.length_cons, List.length_take, List.length_drop] at *; omega) | (have : exC.length = 6 := rfl; omega) | decide)) (All2c.cons (c1 := [Value.int .u8 (2)]) (rd_byteN (by first | omega | (simp only [List.length_append, List.length_nil, List.length_cons, List.length_take, List.length_drop] at *; omega) | (have : exC.length = 6 := rfl; omega) | decide)) (All2c.cons (c1 := [Value.int .u8 (3)]) (rd_byteN (by first | omega | (simp only [List.length_append, List.length_nil, List.length_cons, List.length_take, List.length_drop] at *; omega) | (have : exC.length = 6 := rfl; omega) | decide)) (All2c.cons (c1 := [Value.int .u8 (2)]) (rd_byteN (by first | omega | (simp only [List.length_append, List.length_nil, List.length_cons, List.length_take, List.length_drop] at *; omega) | (have : exC.length = 6 := rfl; omega) | decide)) (All2c.cons (c1 := [Value.int .u8 (1)]) (rd_byteN (by first | omega | (simp only [List.length_append, List.length_nil, List.length_cons, List.length_take, List.length_drop] at *; omega) | (have : exC.length = 6 := rfl; omega) | decide)) (All2c.cons (c1 := [Value.int .u8 (1)]) (rd_byteN (by first | omega | (simp only [List.length_append, List.length_nil, List.length_cons, List.length_take, List.length_drop] at *; omega) | (have : exC.length = 6 := rfl; omega) | decide)) (All2c.cons (c1 := [Value.int .u8 (2)]) (rd_byteN (by first | omega | (simp only [List.length_append, List.length_nil, List.length_cons, List.length_take, List.length_drop] at *; omega) | (have : exC.length = 6 := rfl; omega) | decide)) (All2c.cons (c1 := [Value.int .u8 (3)]) (rd_byteN (by first | omega | (simp only [List.length_append, List.length_nil, List.length_cons, List.length_take, List.length_drop] at *; omega) | (have : exC.length = 6 := rfl; omega) | decide)) All2c.nil))))))))) rfl rfl
        refine VO.gcallN 117 rfl ⟨_, rfl, rfl⟩ fnOk15 rfl (fun W hW => SameBytes_ok W (OwnL.rd (Ow.ownl f5_0 rfl mnil) (hW.at (i := 105) rfl) (mle_nil _)) (OwnL.rd ho18 (hW.at (i := 116) rfl) (mle_nil _))) (fun v17 m17 hv17 => ?_)
        subst hv17
        refine VO.y rfl (.pT rfl rfl) ?_
        refine VO.as ?_
        refine VO.k5 0 1 2 3 4 ?_
        refine VC.ret ?_
        refine ⟨_, _, res_run (rs := [.tmp 0]) rfl (.tmp rfl .nil), fun W_ hI => out_of (l := []) hI [] rfl rfl (mle_refl _) (fun hS_ => ?_)⟩
        dsimp only [packV]
        all_goals (first | rfl | (exact congrArg Value.bool (decide_eq_true (by subst_vars; first | (simp only [ex11a, ex11b, ex11c]; done) | (simp only [ex11a, ex11b, ex11c]; first | rfl | decide) | rfl | decide))))
      · -- TTF
        exact absurd (by subst_vars; first | (simp only [ex11a, ex11b, ex11c]; done) | (simp only [ex11a, ex11b, ex11c]; first | rfl | decide) | rfl | decide) hc14
    · -- TF
      exact absurd (by subst_vars; first | (simp only [ex11a, ex11b, ex11c]; done) | (simp only [ex11a, ex11b, ex11c]; first | rfl | decide) | rfl | decide) hc9
  · -- F
    exact absurd (by subst_vars; first | (simp only [ex11a, ex11b, ex11c]; done) | (simp only [ex11a, ex11b, ex11c]; first | rfl | decide) | rfl | decide) hc8
end
section
set_option linter.unusedVariables false
def fiveTo : Nat → List DCommit
  | 0 => []
  | n + 1 => fiveTo n ++ [(1, ((n + 1 : Nat) : Int), [(false, [107], [])])]
theorem fiveTo_len : ∀ n, (fiveTo n).length = n
  | 0 => rfl
  | n + 1 => by rw [fiveTo, List.length_append, fiveTo_len n]; rfl
theorem five_next {i : Nat} {five : List DCommit} (h : five = fiveTo (i - 1)) (hi : 1 ≤ i) : five ++ [(1, ((i : Nat) : Int), [(false, [107], [])])] = fiveTo (i + 1 - 1) := by
  obtain ⟨j, rfl⟩ : ∃ j, i = j + 1 := ⟨i - 1, by omega⟩
  rw [h]; rfl
theorem wrong_dec {j : Nat} {x : Bytes} (h : ([[3, 2], [4, 1], [3, 2, 7, 0], []] : List Bytes)[j]? = some x) : (lDec x).2 = 5 := by
  match j, h with
  | 0, h => cases h; decide
  | 1, h => cases h; decide
  | 2, h => cases h; decide
  | 3, h => cases h; decide
theorem bad_check {j : Nat} {x : DMessage} (h : ([(2, 1, 0, 0, [], 1, 1, []), (3, 1, 2, 0, [], 0, 0, []), (2, 1, 0, 0, [], 1, 0, fiveTo 5), (0, 0, 0, 0, [], 0, 0, []), (4, 1, 0, 0, [], 0, 0, []), (3, 0, 0, 0, [], 0, 0, [])] : List DMessage)[j]? = some x) : lCheck x = 2 := by
  match j, h with
  | 0, h => cases h; decide
  | 1, h => cases h; decide
  | 2, h => cases h; decide
  | 3, h => cases h; decide
  | 4, h => cases h; decide
  | 5, h => cases h; decide
end
section
set_option linter.unusedVariables false
set_option linter.unusedSimpArgs false
set_option maxRecDepth 4000
theorem tsl44 : tsl Try.prog 44 = some (26, 8, 96) := by kernel_rfl
theorem letterNames_ok (W : World) : CallR Try.prog 4 [] W (mnil) (fun v m' => v = .bool true) := by
  refine CallR.ofA (n := 90) Try.func4 rfl rfl rfl ?_
  refine VC.rs ?_
  refine VO.as ?_
  refine VO.k1 0 ?_
  refine VC.rs ?_
  refine VO.as ?_
  refine VO.k2 0 1 ?_
  refine VC.rs ?_
  refine VO.y rfl (.bst (cs := [Value.int .i64 (2), Value.int .i64 (1), Value.int .u8 (0), Value.int .i64 (0), Value.slice none (0) (0), Value.int .i64 (1), Value.int .i64 (0), Value.slice none (0) (0)]) rfl tst26 tz26 rfl) ?_
  refine VO.callN 101 rfl fnOk11 rfl (fun W hW => lEncode_ok W (mk_Message (m := wm W) 2 1 0 0 [] 1 0 [] (by simp only [inK]; (first | omega | (simp only [List.length_append, List.length_nil, List.length_cons, List.length_take, List.length_drop] at *; omega) | decide)) (by simp only [inK]; (first | omega | (simp only [List.length_append, List.length_nil, List.length_cons, List.length_take, List.length_drop] at *; omega) | decide)) (by simp only [inK]; (first | omega | (simp only [List.length_append, List.length_nil, List.length_cons, List.length_take, List.length_drop] at *; omega) | decide)) (by simp only [inK]; (first | omega | (simp only [List.length_append, List.length_nil, List.length_cons, List.length_take, List.length_drop] at *; omega) | decide)) (Rd.nil _ _ none 0 (Nat.zero_le _)) (by simp only [inK]; (first | omega | (simp only [List.length_append, List.length_nil, List.length_cons, List.length_take, List.length_drop] at *; omega) | decide)) (by simp only [inK]; (first | omega | (simp only [List.length_append, List.length_nil, List.length_cons, List.length_take, List.length_drop] at *; omega) | decide)) (Rd.nil _ _ none 0 (Nat.zero_le _)))) (fun v1 m1 hv1 => ?_)
  try dsimp only at hv1
  obtain ⟨s1_0, rfl, f1_0⟩ := hv1
  have hfa2 := lEncode_len (2, 1, 0, 0, [], 1, 0, [])
  generalize hq1_0 : ((lEncode (2, 1, 0, 0, [], 1, 0, [])).1) = r1_0 at f1_0
  obtain ⟨A1_0, c1_0, eq1_0, l1_0, k1_0⟩ := f1_0.slice
  subst eq1_0
  simp only [maxLen] at k1_0
  refine VO.mv ?_
  refine VO.y rfl (.ext rfl rfl) ?_
  refine VO.y rfl (.ext rfl rfl) ?_
  refine VO.as ?_
  refine VO.as ?_
  refine VO.keep [101, 0] [(101, m1), (0, wm W)] (by kernel_rfl) ?_
  refine VO.k4 0 1 2 3 ?_
  refine VC.rs ?_
  refine VO.mv ?_
  refine VO.y rfl (.eql rfl rfl) ?_
  refine VO.mv ?_
  refine VO.dec (t := 20) rfl (fun hc3 => ?_) (fun hc3 => ?_)
  · -- T
    refine VO.gy rfl ⟨_, rfl, rfl⟩ (.mv rfl) ?_
    refine VO.gbsl (cs := [Value.int .u8 (2), Value.int .u8 (1), Value.int .u8 (1), Value.int .u8 (0), Value.int .u8 (0)]) 105 rfl ⟨_, rfl, rfl⟩ rfl tsl30 tz5 rfl rfl (fun g4 => ?_)
    have ho7 : OwnL .byte (mone g4 (.cells [Value.int .u8 (2), Value.int .u8 (1), Value.int .u8 (1), Value.int .u8 (0), Value.int .u8 (0)].toArray 5 (0, 0))) mnil (Value.slice (some ⟨g4, 0, none⟩) (5) (5)) [UInt8.ofNat 2, UInt8.ofNat 1, UInt8.ofNat 1, UInt8.ofNat 0, UInt8.ofNat 0] := OwnL.lit 5 (All2c.cons (c1 := [Value.int .u8 (2)]) (rd_byteN (by first | omega | (simp only [List.length_append, List.length_nil, List.length_cons, List.length_take, List.length_drop] at *; omega) | decide)) (All2c.cons (c1 := [Value.int .u8 (1)]) (rd_byteN (by first | omega | (simp only [List.length_append, List.length_nil, List.length_cons, List.length_take, List.length_drop] at *; omega) | decide)) (All2c.cons (c1 := [Value.int .u8 (1)]) (rd_byteN (by first | omega | (simp only [List.length_append, List.length_nil, List.length_cons, List.length_take, List.length_drop] at *; omega) | decide)) (All2c.cons (c1 := [Value.int .u8 (0)]) (rd_byteN (by first | omega | (simp only [List.length_append, List.length_nil, List.length_cons, List.length_take, List.length_drop] at *; omega) | decide)) (All2c.cons (c1 := [Value.int .u8 (0)]) (rd_byteN (by first | omega | (simp only [List.length_append, List.length_nil, List.length_cons, List.length_take, List.length_drop] at *; omega) | decide)) All2c.nil))))) rfl rfl
    refine VO.gcallN 106 rfl ⟨_, rfl, rfl⟩ fnOk15 rfl (fun W hW => SameBytes_ok W (OwnL.rd (Ow.ownl f1_0 rfl mnil) (hW.at (i := 101) rfl) (mle_nil _)) (OwnL.rd ho7 (hW.at (i := 105) rfl) (mle_nil _))) (fun v6 m6 hv6 => ?_)
    subst hv6
    refine VO.y rfl (.pT rfl rfl) ?_
    refine VO.as ?_
    refine VO.k5 0 1 2 3 4 ?_
    refine VC.rs ?_
    refine VO.as ?_
    refine VO.k6 0 1 2 3 4 5 ?_
    refine VC.seq ?_
    refine VC.rs ?_
    refine VO.as ?_
    refine VO.keep [101, 0] [(101, m1), (0, wm W)] (by kernel_rfl) ?_
    refine VO.k7 0 1 2 3 4 5 6 ?_
    refine VC.block ?_
    refine VC.inv ((108, mnil) :: _) (fun _ h => h.nilc 108) ?_
    refine VC.loop (G := Nat × (List DCommit) × (Option Addr) × Nat × Mem) (fun g => [(5, Value.slice (g.2.2.1) ((g.2.1).length) ((g.2.2.2.1))), (6, Value.int .i64 ((((g.1) : Nat) : Int))), (0, Value.bool false), (1, Value.bool true), (2, Value.slice A1_0 (r1_0.length) (c1_0)), (3, Value.int .i64 ((lEncode (2, 1, 0, 0, [], 1, 0, [])).2)), (4, Value.bool (decide (r1_0 = ([UInt8.ofNat 2, UInt8.ofNat 1, UInt8.ofNat 1, UInt8.ofNat 0, UInt8.ofNat 0]))))]) (fun g => [(108, (g.2.2.2.2)), (101, m1), (0, wm W)]) (fun g => (1 ≤ (g.1) ∧ (g.1) ≤ 6) ∧ ((g.2.1) = fiveTo ((g.1) - 1)) ∧ (Ow (.sl TCommit) (g.2.2.2.2) [.slice (g.2.2.1) (g.2.1).length (g.2.2.2.1)] (g.2.1))) (fun g => 6 - (g.1)) (1, [], none, 0, mnil) (⟨by omega, by rfl, (Ow.nil TCommit mnil)⟩) ⟨⟨rfl, rfl, rfl, rfl, rfl, rfl, rfl, trivial⟩, fun _ h => h.sub [108, 101, 0]⟩ ?_
    rintro ⟨i, five, five_A, five_c, five_m⟩ ⟨hi, hf, h_five⟩
    replace hi : 1 ≤ i ∧ i ≤ 6 := hi
    replace hf : five = fiveTo (i - 1) := hf
    replace h_five : Ow (.sl TCommit) five_m [.slice five_A five.length five_c] five := h_five
    show VC _ _ _ _ _ [(5, Value.slice five_A (five.length) (five_c)), (6, Value.int .i64 (((i : Nat) : Int))), (0, Value.bool false), (1, Value.bool true), (2, Value.slice A1_0 (r1_0.length) (c1_0)), (3, Value.int .i64 ((lEncode (2, 1, 0, 0, [], 1, 0, [])).2)), (4, Value.bool (decide (r1_0 = ([UInt8.ofNat 2, UInt8.ofNat 1, UInt8.ofNat 1, UInt8.ofNat 0, UInt8.ofNat 0]))))] [(108, five_m), (101, m1), (0, wm W)]
    have l_five : five.length ≤ five_c := by obtain ⟨_, _, he, hl, _⟩ := h_five.slice; simp only [Value.slice.injEq] at he; omega
    have k_five : five_c ≤ 9223372036854775807 := by obtain ⟨_, _, he, _, hl⟩ := h_five.slice; simp only [Value.slice.injEq, maxLen] at he hl; omega
    have hlf : five.length = i - 1 := (by rw [hf]; exact fiveTo_len _)
    refine VC.seq ?_
    refine VC.rs ?_
    refine VO.mv ?_
    refine VO.y rfl (.leq rfl rfl) ?_
    refine VO.k8 0 1 2 3 4 5 6 26 ?_
    refine VC.cond rfl (fun hc9 => ?_) (fun hc9 => ?_)
    · -- TT
      refine VC.skip ?_
      refine outN ?_
      refine VC.seq ?_
      refine VC.block ?_
      refine VC.reg ?_
      refine VO.mv ?_
      refine VO.mv ?_
      refine VO.y rfl (.bst (cs := [Value.bool false, str ([107]), str ([])]) rfl tst40 tz40 rfl) ?_
      refine VO.bsl (cs := [Value.bool false, str ([107]), str ([])]) 111 rfl rfl tsl41 tz40 rfl rfl (fun g10 => ?_)
      refine VO.y rfl (.bst (cs := [Value.int .i64 (1), Value.int .i64 (((i : Nat) : Int)), Value.slice (some ⟨g10, 0, none⟩) (1) (1)]) rfl tst43 tz43 rfl) ?_
      refine VO.bsl (cs := [Value.int .i64 (1), Value.int .i64 (((i : Nat) : Int)), Value.slice (some ⟨g10, 0, none⟩) (1) (1)]) 113 rfl rfl tsl24 tz43 rfl rfl (fun g12 => ?_)
      have ho15 : OwnL TOp (mone g10 (.cells [Value.bool false, str ([107]), str ([])].toArray 40 (0, 0))) mnil (Value.slice (some ⟨g10, 0, none⟩) (1) (1)) [(false, [107], [])] := OwnL.lit 1 (All2c.cons (c1 := [Value.bool false, str ([107]), str ([])]) (mk_Op (m := _) false ([107]) [] (by simp only [maxLen]; (first | omega | (simp only [List.length_append, List.length_nil, List.length_cons, List.length_take, List.length_drop] at *; omega) | decide)) (by simp only [maxLen]; (first | omega | (simp only [List.length_append, List.length_nil, List.length_cons, List.length_take, List.length_drop] at *; omega) | decide))) All2c.nil) rfl rfl
      refine VO.appO (e := TCommit) 108 111 113 rfl rfl rfl tsl24 tz43 rfl rfl rfl rfl h_five (mkO_Commit 1 ((i : Nat) : Int) ([(false, [107], [])]) (Seps.one (mle_refl _)) (by simp only [inK]; (first | omega | (simp only [List.length_append, List.length_nil, List.length_cons, List.length_take, List.length_drop] at *; omega) | decide)) (by simp only [inK]; (first | omega | (simp only [List.length_append, List.length_nil, List.length_cons, List.length_take, List.length_drop] at *; omega) | decide)) (OwnL.ow ho15 rfl)) Try.underlying24 (cellsAt_one rfl rfl) (by simp only [maxLen]; (first | omega | (simp only [List.length_append, List.length_nil, List.length_cons, List.length_take, List.length_drop] at *; omega) | decide)) (by first | omega | (simp only [List.length_append, List.length_nil, List.length_cons, List.length_take, List.length_drop] at *; omega) | decide) (by decide) (fun v14 m14 ho14 => ?_)
      obtain ⟨A14, c14, rfl, l14, k14⟩ := ho14.slice
      simp only [maxLen] at k14
      refine VO.as ?_
      refine VO.k8 0 1 2 3 4 5 6 26 ?_
      refine outBN ?_
      refine outN ?_
      refine VC.reg ?_
      refine VO.mv ?_
      refine VO.y rfl (.add (c := ((i + 1 : Nat) : Int)) rfl rfl (by omega) ⟨by first | omega | (simp only [List.length_append, List.length_nil, List.length_cons, List.length_take, List.length_drop] at *; omega) | decide, by first | omega | (simp only [List.length_append, List.length_nil, List.length_cons, List.length_take, List.length_drop] at *; omega) | decide⟩) ?_
      refine VO.as ?_
      refine VO.keep [108, 101, 0] [(108, m14), (101, m1), (0, wm W)] (by kernel_rfl) ?_
      refine VO.k8 0 1 2 3 4 5 6 26 ?_
      exact outN ⟨⟨i + 1, five ++ [(1, ((i : Nat) : Int), [(false, [107], [])])], A14, c14, m14⟩, ⟨by omega, by exact five_next hf hi.1, ho14⟩, by first | omega | (simp only [List.length_append, List.length_nil, List.length_cons, List.length_take, List.length_drop] at *; omega) | decide, ⟨⟨rfl, rfl, rfl, rfl, rfl, rfl, rfl, trivial⟩, fun _ h => Inv.sub h [108, 101, 0]⟩⟩
    · -- TF
      refine VC.exit ?_
      refine outE ?_
      refine outE ?_
      refine outBB ?_
      refine outN ?_
      refine VC.rs ?_
      refine VO.y rfl (.bst (cs := [Value.int .i64 (2), Value.int .i64 (1), Value.int .u8 (0), Value.int .i64 (0), Value.slice none (0) (0), Value.int .i64 (1), Value.int .i64 (1), Value.slice none (0) (0)]) rfl tst26 tz26 rfl) ?_
      refine VO.y rfl (.bst (cs := [Value.int .i64 (3), Value.int .i64 (1), Value.int .u8 (2), Value.int .i64 (0), Value.slice none (0) (0), Value.int .i64 (0), Value.int .i64 (0), Value.slice none (0) (0)]) rfl tst26 tz26 rfl) ?_
      refine VO.mv ?_
      refine VO.y rfl (.bst (cs := [Value.int .i64 (2), Value.int .i64 (1), Value.int .u8 (0), Value.int .i64 (0), Value.slice none (0) (0), Value.int .i64 (1), Value.int .i64 (0), Value.slice five_A (five.length) (five_c)]) rfl tst26 tz26 rfl) ?_
      refine VO.y rfl (.bst (cs := [Value.int .i64 (0), Value.int .i64 (0), Value.int .u8 (0), Value.int .i64 (0), Value.slice none (0) (0), Value.int .i64 (0), Value.int .i64 (0), Value.slice none (0) (0)]) rfl tst26 tz26 rfl) ?_
      refine VO.y rfl (.bst (cs := [Value.int .i64 (4), Value.int .i64 (1), Value.int .u8 (0), Value.int .i64 (0), Value.slice none (0) (0), Value.int .i64 (0), Value.int .i64 (0), Value.slice none (0) (0)]) rfl tst26 tz26 rfl) ?_
      refine VO.y rfl (.bst (cs := [Value.int .i64 (3), Value.int .i64 (0), Value.int .u8 (0), Value.int .i64 (0), Value.slice none (0) (0), Value.int .i64 (0), Value.int .i64 (0), Value.slice none (0) (0)]) rfl tst26 tz26 rfl) ?_
      refine VO.bsl (cs := [Value.int .i64 (2), Value.int .i64 (1), Value.int .u8 (0), Value.int .i64 (0), Value.slice none (0) (0), Value.int .i64 (1), Value.int .i64 (1), Value.slice none (0) (0), Value.int .i64 (3), Value.int .i64 (1), Value.int .u8 (2), Value.int .i64 (0), Value.slice none (0) (0), Value.int .i64 (0), Value.int .i64 (0), Value.slice none (0) (0), Value.int .i64 (2), Value.int .i64 (1), Value.int .u8 (0), Value.int .i64 (0), Value.slice none (0) (0), Value.int .i64 (1), Value.int .i64 (0), Value.slice five_A (five.length) (five_c), Value.int .i64 (0), Value.int .i64 (0), Value.int .u8 (0), Value.int .i64 (0), Value.slice none (0) (0), Value.int .i64 (0), Value.int .i64 (0), Value.slice none (0) (0), Value.int .i64 (4), Value.int .i64 (1), Value.int .u8 (0), Value.int .i64 (0), Value.slice none (0) (0), Value.int .i64 (0), Value.int .i64 (0), Value.slice none (0) (0), Value.int .i64 (3), Value.int .i64 (0), Value.int .u8 (0), Value.int .i64 (0), Value.slice none (0) (0), Value.int .i64 (0), Value.int .i64 (0), Value.slice none (0) (0)]) 117 rfl rfl tsl44 tz26 rfl rfl (fun g16 => ?_)
      refine VO.as ?_
      refine VO.k9 0 1 2 3 4 5 6 7 26 ?_
      refine VC.seq ?_
      refine VC.rs ?_
      refine VO.as ?_
      refine VO.keep [117, 108, 101, 0] [(117, mone g16 (.cells [Value.int .i64 (2), Value.int .i64 (1), Value.int .u8 (0), Value.int .i64 (0), Value.slice none (0) (0), Value.int .i64 (1), Value.int .i64 (1), Value.slice none (0) (0), Value.int .i64 (3), Value.int .i64 (1), Value.int .u8 (2), Value.int .i64 (0), Value.slice none (0) (0), Value.int .i64 (0), Value.int .i64 (0), Value.slice none (0) (0), Value.int .i64 (2), Value.int .i64 (1), Value.int .u8 (0), Value.int .i64 (0), Value.slice none (0) (0), Value.int .i64 (1), Value.int .i64 (0), Value.slice five_A (five.length) (five_c), Value.int .i64 (0), Value.int .i64 (0), Value.int .u8 (0), Value.int .i64 (0), Value.slice none (0) (0), Value.int .i64 (0), Value.int .i64 (0), Value.slice none (0) (0), Value.int .i64 (4), Value.int .i64 (1), Value.int .u8 (0), Value.int .i64 (0), Value.slice none (0) (0), Value.int .i64 (0), Value.int .i64 (0), Value.slice none (0) (0), Value.int .i64 (3), Value.int .i64 (0), Value.int .u8 (0), Value.int .i64 (0), Value.slice none (0) (0), Value.int .i64 (0), Value.int .i64 (0), Value.slice none (0) (0)].toArray 26 (0, 0))), (108, five_m), (101, m1), (0, wm W)] (by kernel_rfl) ?_
      refine VO.k10 0 1 2 3 4 5 6 7 8 26 ?_
      refine VC.block ?_
      refine VC.gather (l := [mone g16 (.cells [Value.int .i64 (2), Value.int .i64 (1), Value.int .u8 (0), Value.int .i64 (0), Value.slice none (0) (0), Value.int .i64 (1), Value.int .i64 (1), Value.slice none (0) (0), Value.int .i64 (3), Value.int .i64 (1), Value.int .u8 (2), Value.int .i64 (0), Value.slice none (0) (0), Value.int .i64 (0), Value.int .i64 (0), Value.slice none (0) (0), Value.int .i64 (2), Value.int .i64 (1), Value.int .u8 (0), Value.int .i64 (0), Value.slice none (0) (0), Value.int .i64 (1), Value.int .i64 (0), Value.slice five_A (five.length) (five_c), Value.int .i64 (0), Value.int .i64 (0), Value.int .u8 (0), Value.int .i64 (0), Value.slice none (0) (0), Value.int .i64 (0), Value.int .i64 (0), Value.slice none (0) (0), Value.int .i64 (4), Value.int .i64 (1), Value.int .u8 (0), Value.int .i64 (0), Value.slice none (0) (0), Value.int .i64 (0), Value.int .i64 (0), Value.slice none (0) (0), Value.int .i64 (3), Value.int .i64 (0), Value.int .u8 (0), Value.int .i64 (0), Value.slice none (0) (0), Value.int .i64 (0), Value.int .i64 (0), Value.slice none (0) (0)].toArray 26 (0, 0)), five_m]) 119 [117, 108] rfl (fun hg18 => ?_)
      have ho18 : Ow (.sl TMessage) (muns [mone g16 (.cells [Value.int .i64 (2), Value.int .i64 (1), Value.int .u8 (0), Value.int .i64 (0), Value.slice none (0) (0), Value.int .i64 (1), Value.int .i64 (1), Value.slice none (0) (0), Value.int .i64 (3), Value.int .i64 (1), Value.int .u8 (2), Value.int .i64 (0), Value.slice none (0) (0), Value.int .i64 (0), Value.int .i64 (0), Value.slice none (0) (0), Value.int .i64 (2), Value.int .i64 (1), Value.int .u8 (0), Value.int .i64 (0), Value.slice none (0) (0), Value.int .i64 (1), Value.int .i64 (0), Value.slice five_A (five.length) (five_c), Value.int .i64 (0), Value.int .i64 (0), Value.int .u8 (0), Value.int .i64 (0), Value.slice none (0) (0), Value.int .i64 (0), Value.int .i64 (0), Value.slice none (0) (0), Value.int .i64 (4), Value.int .i64 (1), Value.int .u8 (0), Value.int .i64 (0), Value.slice none (0) (0), Value.int .i64 (0), Value.int .i64 (0), Value.slice none (0) (0), Value.int .i64 (3), Value.int .i64 (0), Value.int .u8 (0), Value.int .i64 (0), Value.slice none (0) (0), Value.int .i64 (0), Value.int .i64 (0), Value.slice none (0) (0)].toArray 26 (0, 0)), five_m]) [Value.slice (some ⟨g16, 0, none⟩) (6) (6)] [(2, 1, 0, 0, [], 1, 1, []), (3, 1, 2, 0, [], 0, 0, []), (2, 1, 0, 0, [], 1, 0, five), (0, 0, 0, 0, [], 0, 0, []), (4, 1, 0, 0, [], 0, 0, []), (3, 0, 0, 0, [], 0, 0, [])] := Ow.lit 6 (Seps.grp1 (ls := [[], [], [five_m], [], [], []]) hg18) (OwAs.cons (m := muns []) (c1 := [Value.int .i64 (2), Value.int .i64 (1), Value.int .u8 (0), Value.int .i64 (0), Value.slice none (0) (0), Value.int .i64 (1), Value.int .i64 (1), Value.slice none (0) (0)]) (mkO_Message 2 1 0 0 [] 1 1 [] (Seps.nilAt 1 (Seps.nilAt 0 (Seps.self hg18 (List.Sublist.cons _ (List.Sublist.cons _ List.Sublist.slnil))))) (by simp only [inK]; (first | omega | (simp only [List.length_append, List.length_nil, List.length_cons, List.length_take, List.length_drop] at *; omega) | decide)) (by simp only [inK]; (first | omega | (simp only [List.length_append, List.length_nil, List.length_cons, List.length_take, List.length_drop] at *; omega) | decide)) (by simp only [inK]; (first | omega | (simp only [List.length_append, List.length_nil, List.length_cons, List.length_take, List.length_drop] at *; omega) | decide)) (by simp only [inK]; (first | omega | (simp only [List.length_append, List.length_nil, List.length_cons, List.length_take, List.length_drop] at *; omega) | decide)) (Ow.nil _ _) (by simp only [inK]; (first | omega | (simp only [List.length_append, List.length_nil, List.length_cons, List.length_take, List.length_drop] at *; omega) | decide)) (by simp only [inK]; (first | omega | (simp only [List.length_append, List.length_nil, List.length_cons, List.length_take, List.length_drop] at *; omega) | decide)) (Ow.nil _ _)) (OwAs.cons (m := muns []) (c1 := [Value.int .i64 (3), Value.int .i64 (1), Value.int .u8 (2), Value.int .i64 (0), Value.slice none (0) (0), Value.int .i64 (0), Value.int .i64 (0), Value.slice none (0) (0)]) (mkO_Message 3 1 2 0 [] 0 0 [] (Seps.nilAt 1 (Seps.nilAt 0 (Seps.self hg18 (List.Sublist.cons _ (List.Sublist.cons _ List.Sublist.slnil))))) (by simp only [inK]; (first | omega | (simp only [List.length_append, List.length_nil, List.length_cons, List.length_take, List.length_drop] at *; omega) | decide)) (by simp only [inK]; (first | omega | (simp only [List.length_append, List.length_nil, List.length_cons, List.length_take, List.length_drop] at *; omega) | decide)) (by simp only [inK]; (first | omega | (simp only [List.length_append, List.length_nil, List.length_cons, List.length_take, List.length_drop] at *; omega) | decide)) (by simp only [inK]; (first | omega | (simp only [List.length_append, List.length_nil, List.length_cons, List.length_take, List.length_drop] at *; omega) | decide)) (Ow.nil _ _) (by simp only [inK]; (first | omega | (simp only [List.length_append, List.length_nil, List.length_cons, List.length_take, List.length_drop] at *; omega) | decide)) (by simp only [inK]; (first | omega | (simp only [List.length_append, List.length_nil, List.length_cons, List.length_take, List.length_drop] at *; omega) | decide)) (Ow.nil _ _)) (OwAs.cons (m := muns [five_m]) (c1 := [Value.int .i64 (2), Value.int .i64 (1), Value.int .u8 (0), Value.int .i64 (0), Value.slice none (0) (0), Value.int .i64 (1), Value.int .i64 (0), Value.slice five_A (five.length) (five_c)]) (mkO_Message 2 1 0 0 [] 1 0 five (Seps.nilAt 0 (Seps.self hg18 (List.Sublist.cons _ (List.Sublist.cons_cons _ List.Sublist.slnil)))) (by simp only [inK]; (first | omega | (simp only [List.length_append, List.length_nil, List.length_cons, List.length_take, List.length_drop] at *; omega) | decide)) (by simp only [inK]; (first | omega | (simp only [List.length_append, List.length_nil, List.length_cons, List.length_take, List.length_drop] at *; omega) | decide)) (by simp only [inK]; (first | omega | (simp only [List.length_append, List.length_nil, List.length_cons, List.length_take, List.length_drop] at *; omega) | decide)) (by simp only [inK]; (first | omega | (simp only [List.length_append, List.length_nil, List.length_cons, List.length_take, List.length_drop] at *; omega) | decide)) (Ow.nil _ _) (by simp only [inK]; (first | omega | (simp only [List.length_append, List.length_nil, List.length_cons, List.length_take, List.length_drop] at *; omega) | decide)) (by simp only [inK]; (first | omega | (simp only [List.length_append, List.length_nil, List.length_cons, List.length_take, List.length_drop] at *; omega) | decide)) h_five) (OwAs.cons (m := muns []) (c1 := [Value.int .i64 (0), Value.int .i64 (0), Value.int .u8 (0), Value.int .i64 (0), Value.slice none (0) (0), Value.int .i64 (0), Value.int .i64 (0), Value.slice none (0) (0)]) (mkO_Message 0 0 0 0 [] 0 0 [] (Seps.nilAt 1 (Seps.nilAt 0 (Seps.self hg18 (List.Sublist.cons _ (List.Sublist.cons _ List.Sublist.slnil))))) (by simp only [inK]; (first | omega | (simp only [List.length_append, List.length_nil, List.length_cons, List.length_take, List.length_drop] at *; omega) | decide)) (by simp only [inK]; (first | omega | (simp only [List.length_append, List.length_nil, List.length_cons, List.length_take, List.length_drop] at *; omega) | decide)) (by simp only [inK]; (first | omega | (simp only [List.length_append, List.length_nil, List.length_cons, List.length_take, List.length_drop] at *; omega) | decide)) (by simp only [inK]; (first | omega | (simp only [List.length_append, List.length_nil, List.length_cons, List.length_take, List.length_drop] at *; omega) | decide)) (Ow.nil _ _) (by simp only [inK]; (first | omega | (simp only [List.length_append, List.length_nil, List.length_cons, List.length_take, List.length_drop] at *; omega) | decide)) (by simp only [inK]; (first | omega | (simp only [List.length_append, List.length_nil, List.length_cons, List.length_take, List.length_drop] at *; omega) | decide)) (Ow.nil _ _)) (OwAs.cons (m := muns []) (c1 := [Value.int .i64 (4), Value.int .i64 (1), Value.int .u8 (0), Value.int .i64 (0), Value.slice none (0) (0), Value.int .i64 (0), Value.int .i64 (0), Value.slice none (0) (0)]) (mkO_Message 4 1 0 0 [] 0 0 [] (Seps.nilAt 1 (Seps.nilAt 0 (Seps.self hg18 (List.Sublist.cons _ (List.Sublist.cons _ List.Sublist.slnil))))) (by simp only [inK]; (first | omega | (simp only [List.length_append, List.length_nil, List.length_cons, List.length_take, List.length_drop] at *; omega) | decide)) (by simp only [inK]; (first | omega | (simp only [List.length_append, List.length_nil, List.length_cons, List.length_take, List.length_drop] at *; omega) | decide)) (by simp only [inK]; (first | omega | (simp only [List.length_append, List.length_nil, List.length_cons, List.length_take, List.length_drop] at *; omega) | decide)) (by simp only [inK]; (first | omega | (simp only [List.length_append, List.length_nil, List.length_cons, List.length_take, List.length_drop] at *; omega) | decide)) (Ow.nil _ _) (by simp only [inK]; (first | omega | (simp only [List.length_append, List.length_nil, List.length_cons, List.length_take, List.length_drop] at *; omega) | decide)) (by simp only [inK]; (first | omega | (simp only [List.length_append, List.length_nil, List.length_cons, List.length_take, List.length_drop] at *; omega) | decide)) (Ow.nil _ _)) (OwAs.cons (m := muns []) (c1 := [Value.int .i64 (3), Value.int .i64 (0), Value.int .u8 (0), Value.int .i64 (0), Value.slice none (0) (0), Value.int .i64 (0), Value.int .i64 (0), Value.slice none (0) (0)]) (mkO_Message 3 0 0 0 [] 0 0 [] (Seps.nilAt 1 (Seps.nilAt 0 (Seps.self hg18 (List.Sublist.cons _ (List.Sublist.cons _ List.Sublist.slnil))))) (by simp only [inK]; (first | omega | (simp only [List.length_append, List.length_nil, List.length_cons, List.length_take, List.length_drop] at *; omega) | decide)) (by simp only [inK]; (first | omega | (simp only [List.length_append, List.length_nil, List.length_cons, List.length_take, List.length_drop] at *; omega) | decide)) (by simp only [inK]; (first | omega | (simp only [List.length_append, List.length_nil, List.length_cons, List.length_take, List.length_drop] at *; omega) | decide)) (by simp only [inK]; (first | omega | (simp only [List.length_append, List.length_nil, List.length_cons, List.length_take, List.length_drop] at *; omega) | decide)) (Ow.nil _ _) (by simp only [inK]; (first | omega | (simp only [List.length_append, List.length_nil, List.length_cons, List.length_take, List.length_drop] at *; omega) | decide)) (by simp only [inK]; (first | omega | (simp only [List.length_append, List.length_nil, List.length_cons, List.length_take, List.length_drop] at *; omega) | decide)) (Ow.nil _ _)) OwAs.nil)))))) rfl rfl
      have hle18_5 : Rd (.sl TCommit) (muns [mone g16 (.cells [Value.int .i64 (2), Value.int .i64 (1), Value.int .u8 (0), Value.int .i64 (0), Value.slice none (0) (0), Value.int .i64 (1), Value.int .i64 (1), Value.slice none (0) (0), Value.int .i64 (3), Value.int .i64 (1), Value.int .u8 (2), Value.int .i64 (0), Value.slice none (0) (0), Value.int .i64 (0), Value.int .i64 (0), Value.slice none (0) (0), Value.int .i64 (2), Value.int .i64 (1), Value.int .u8 (0), Value.int .i64 (0), Value.slice none (0) (0), Value.int .i64 (1), Value.int .i64 (0), Value.slice five_A (five.length) (five_c), Value.int .i64 (0), Value.int .i64 (0), Value.int .u8 (0), Value.int .i64 (0), Value.slice none (0) (0), Value.int .i64 (0), Value.int .i64 (0), Value.slice none (0) (0), Value.int .i64 (4), Value.int .i64 (1), Value.int .u8 (0), Value.int .i64 (0), Value.slice none (0) (0), Value.int .i64 (0), Value.int .i64 (0), Value.slice none (0) (0), Value.int .i64 (3), Value.int .i64 (0), Value.int .u8 (0), Value.int .i64 (0), Value.slice none (0) (0), Value.int .i64 (0), Value.int .i64 (0), Value.slice none (0) (0)].toArray 26 (0, 0)), five_m]) [Value.slice five_A (five.length) (five_c)] five := Ow.rd h_five (hg18.1 _ (.tail _ (.head _)))
      refine VC.loop (G := Nat) (fun k => [(8, Value.int .i64 (((k : Nat) : Int))), (1, Value.bool true), (2, Value.slice A1_0 (r1_0.length) (c1_0)), (3, Value.int .i64 ((lEncode (2, 1, 0, 0, [], 1, 0, [])).2)), (4, Value.bool (decide (r1_0 = ([UInt8.ofNat 2, UInt8.ofNat 1, UInt8.ofNat 1, UInt8.ofNat 0, UInt8.ofNat 0])))), (5, Value.slice five_A (five.length) (five_c)), (6, Value.int .i64 (((i : Nat) : Int))), (7, Value.slice (some ⟨g16, 0, none⟩) (6) (6)), (26, Value.bool (decide (((i : Nat) : Int) ≤ 5)))]) (fun k => [(119, muns [mone g16 (.cells [Value.int .i64 (2), Value.int .i64 (1), Value.int .u8 (0), Value.int .i64 (0), Value.slice none (0) (0), Value.int .i64 (1), Value.int .i64 (1), Value.slice none (0) (0), Value.int .i64 (3), Value.int .i64 (1), Value.int .u8 (2), Value.int .i64 (0), Value.slice none (0) (0), Value.int .i64 (0), Value.int .i64 (0), Value.slice none (0) (0), Value.int .i64 (2), Value.int .i64 (1), Value.int .u8 (0), Value.int .i64 (0), Value.slice none (0) (0), Value.int .i64 (1), Value.int .i64 (0), Value.slice five_A (five.length) (five_c), Value.int .i64 (0), Value.int .i64 (0), Value.int .u8 (0), Value.int .i64 (0), Value.slice none (0) (0), Value.int .i64 (0), Value.int .i64 (0), Value.slice none (0) (0), Value.int .i64 (4), Value.int .i64 (1), Value.int .u8 (0), Value.int .i64 (0), Value.slice none (0) (0), Value.int .i64 (0), Value.int .i64 (0), Value.slice none (0) (0), Value.int .i64 (3), Value.int .i64 (0), Value.int .u8 (0), Value.int .i64 (0), Value.slice none (0) (0), Value.int .i64 (0), Value.int .i64 (0), Value.slice none (0) (0)].toArray 26 (0, 0)), five_m]), (101, m1), (0, wm W)]) (fun k => (k ≤ 6)) (fun k => 6 - k) 0 (by omega) ⟨⟨rfl, rfl, rfl, rfl, rfl, rfl, rfl, rfl, rfl, trivial⟩, fun _ h => h.sub [119, 101, 0]⟩ ?_
      rintro k hk
      have hz5 : i = 6 := (by omega)
      refine VC.seq ?_
      refine VC.rs ?_
      refine VO.mv ?_
      refine VO.mv ?_
      refine VO.y rfl (.lenS rfl tsl44) ?_
      refine VO.y rfl (.lss rfl rfl) ?_
      refine VO.k10 1 2 3 4 5 6 7 8 26 47 ?_
      refine VC.cond rfl (fun hc20 => ?_) (fun hc20 => ?_)
      · -- TFT
        refine VC.skip ?_
        refine outN ?_
        refine VC.seq ?_
        refine VC.block ?_
        refine VC.rs ?_
        refine VO.mv ?_
        refine VO.mv ?_
        obtain ⟨x21, hx21⟩ : ∃ z_, ([(2, 1, 0, 0, [], 1, 1, []), (3, 1, 2, 0, [], 0, 0, []), (2, 1, 0, 0, [], 1, 0, five), (0, 0, 0, 0, [], 0, 0, []), (4, 1, 0, 0, [], 0, 0, []), (3, 0, 0, 0, [], 0, 0, [])] : List DMessage)[k]? = some z_ := ⟨_, List.getElem?_eq_getElem (by first | omega | (simp only [List.length_append, List.length_nil, List.length_cons, List.length_take, List.length_drop] at *; omega) | decide)⟩
        obtain ⟨gg21, oo21, ec21, ea21, hce21, hre21⟩ := (Ow.rd ho18 (mle_refl _)).elem hx21
        cases ea21
        obtain ⟨q21_A4, q21_c4, q21_A7, q21_c7, rfl, q21_0, q21_1, q21_2, q21_3, q21_4, q21_5, q21_6, q21_7⟩ := open_Message (x0 := x21.1) (x1 := x21.2.1) (x2 := x21.2.2.1) (x3 := x21.2.2.2.1) (x4 := x21.2.2.2.2.1) (x5 := x21.2.2.2.2.2.1) (x6 := x21.2.2.2.2.2.2.1) (x7 := x21.2.2.2.2.2.2.2) hre21
        simp only [inK] at q21_0
        simp only [inK] at q21_1
        simp only [inK] at q21_2
        simp only [inK] at q21_3
        have q21_r4 := Rd.room q21_4
        simp only [inK] at q21_5
        simp only [inK] at q21_6
        have q21_r7 := Rd.room q21_7
        refine VO.y rfl (.ixI k rfl rfl tsl44 rfl (by first | omega | (simp only [List.length_append, List.length_nil, List.length_cons, List.length_take, List.length_drop] at *; omega) | decide)) ?_
        refine VO.y rfl (.ldA 119 rfl tk26 rfl hce21) ?_
        refine VO.callN 122 rfl fnOk13 rfl (fun W hW => lCheck_ok W (Rd.mono hre21 (hW.at (i := 119) rfl))) (fun v22 m22 hv22 => ?_)
        subst hv22
        have hfa23 := lCheck_range x21
        refine VO.y rfl (.neq rfl rfl) ?_
        refine VO.k11 1 2 3 4 5 6 7 8 26 47 55 ?_
        refine VC.cond rfl (fun hc24 => ?_) (fun hc24 => ?_)
        · -- TFTT
          exact absurd (bad_check (by subst_vars; assumption)) hc24
        · -- TFTF
          refine VC.skip ?_
          refine outBN ?_
          refine outN ?_
          refine VC.reg ?_
          refine VO.mv ?_
          refine VO.y rfl (.add (c := ((k + 1 : Nat) : Int)) rfl rfl (by omega) ⟨by first | omega | (simp only [List.length_append, List.length_nil, List.length_cons, List.length_take, List.length_drop] at *; omega) | decide, by first | omega | (simp only [List.length_append, List.length_nil, List.length_cons, List.length_take, List.length_drop] at *; omega) | decide⟩) ?_
          refine VO.as ?_
          refine VO.keep [119, 101, 0] [(119, muns [mone g16 (.cells [Value.int .i64 (2), Value.int .i64 (1), Value.int .u8 (0), Value.int .i64 (0), Value.slice none (0) (0), Value.int .i64 (1), Value.int .i64 (1), Value.slice none (0) (0), Value.int .i64 (3), Value.int .i64 (1), Value.int .u8 (2), Value.int .i64 (0), Value.slice none (0) (0), Value.int .i64 (0), Value.int .i64 (0), Value.slice none (0) (0), Value.int .i64 (2), Value.int .i64 (1), Value.int .u8 (0), Value.int .i64 (0), Value.slice none (0) (0), Value.int .i64 (1), Value.int .i64 (0), Value.slice five_A (five.length) (five_c), Value.int .i64 (0), Value.int .i64 (0), Value.int .u8 (0), Value.int .i64 (0), Value.slice none (0) (0), Value.int .i64 (0), Value.int .i64 (0), Value.slice none (0) (0), Value.int .i64 (4), Value.int .i64 (1), Value.int .u8 (0), Value.int .i64 (0), Value.slice none (0) (0), Value.int .i64 (0), Value.int .i64 (0), Value.slice none (0) (0), Value.int .i64 (3), Value.int .i64 (0), Value.int .u8 (0), Value.int .i64 (0), Value.slice none (0) (0), Value.int .i64 (0), Value.int .i64 (0), Value.slice none (0) (0)].toArray 26 (0, 0)), five_m]), (101, m1), (0, wm W)] (by kernel_rfl) ?_
          refine VO.k11 1 2 3 4 5 6 7 8 26 47 55 ?_
          exact outN ⟨k + 1, by omega, by first | omega | (simp only [List.length_append, List.length_nil, List.length_cons, List.length_take, List.length_drop] at *; omega) | decide, ⟨⟨rfl, rfl, rfl, rfl, rfl, rfl, rfl, rfl, rfl, trivial⟩, fun _ h => Inv.sub h [119, 101, 0]⟩⟩
      · -- TFF
        refine VC.exit ?_
        refine outE ?_
        refine outE ?_
        refine outBB ?_
        refine outN ?_
        refine VC.rs ?_
        refine VO.bsl (cs := [Value.int .u8 (3), Value.int .u8 (2)]) 126 rfl rfl tsl30 tz5 rfl rfl (fun g25 => ?_)
        refine VO.bsl (cs := [Value.int .u8 (4), Value.int .u8 (1)]) 128 rfl rfl tsl30 tz5 rfl rfl (fun g27 => ?_)
        refine VO.bsl (cs := [Value.int .u8 (3), Value.int .u8 (2), Value.int .u8 (7), Value.int .u8 (0)]) 130 rfl rfl tsl30 tz5 rfl rfl (fun g29 => ?_)
        refine VO.bsl (cs := [Value.slice (some ⟨g25, 0, none⟩) (2) (2), Value.slice (some ⟨g27, 0, none⟩) (2) (2), Value.slice (some ⟨g29, 0, none⟩) (4) (4), Value.slice none (0) (0)]) 132 rfl rfl tsl38 tz30 rfl rfl (fun g31 => ?_)
        refine VO.as ?_
        refine VO.k11 1 2 3 4 5 6 7 8 9 26 47 ?_
        refine VC.seq ?_
        refine VC.rs ?_
        refine VO.as ?_
        refine VO.keep [132, 130, 128, 126, 119, 101, 0] [(132, mone g31 (.cells [Value.slice (some ⟨g25, 0, none⟩) (2) (2), Value.slice (some ⟨g27, 0, none⟩) (2) (2), Value.slice (some ⟨g29, 0, none⟩) (4) (4), Value.slice none (0) (0)].toArray 30 (0, 0))), (130, mone g29 (.cells [Value.int .u8 (3), Value.int .u8 (2), Value.int .u8 (7), Value.int .u8 (0)].toArray 5 (0, 0))), (128, mone g27 (.cells [Value.int .u8 (4), Value.int .u8 (1)].toArray 5 (0, 0))), (126, mone g25 (.cells [Value.int .u8 (3), Value.int .u8 (2)].toArray 5 (0, 0))), (119, muns [mone g16 (.cells [Value.int .i64 (2), Value.int .i64 (1), Value.int .u8 (0), Value.int .i64 (0), Value.slice none (0) (0), Value.int .i64 (1), Value.int .i64 (1), Value.slice none (0) (0), Value.int .i64 (3), Value.int .i64 (1), Value.int .u8 (2), Value.int .i64 (0), Value.slice none (0) (0), Value.int .i64 (0), Value.int .i64 (0), Value.slice none (0) (0), Value.int .i64 (2), Value.int .i64 (1), Value.int .u8 (0), Value.int .i64 (0), Value.slice none (0) (0), Value.int .i64 (1), Value.int .i64 (0), Value.slice five_A (five.length) (five_c), Value.int .i64 (0), Value.int .i64 (0), Value.int .u8 (0), Value.int .i64 (0), Value.slice none (0) (0), Value.int .i64 (0), Value.int .i64 (0), Value.slice none (0) (0), Value.int .i64 (4), Value.int .i64 (1), Value.int .u8 (0), Value.int .i64 (0), Value.slice none (0) (0), Value.int .i64 (0), Value.int .i64 (0), Value.slice none (0) (0), Value.int .i64 (3), Value.int .i64 (0), Value.int .u8 (0), Value.int .i64 (0), Value.slice none (0) (0), Value.int .i64 (0), Value.int .i64 (0), Value.slice none (0) (0)].toArray 26 (0, 0)), five_m]), (101, m1), (0, wm W)] (by kernel_rfl) ?_
        refine VO.k12 1 2 3 4 5 6 7 8 9 10 26 47 ?_
        refine VC.block ?_
        have ho34 : OwnL .byte (mone g25 (.cells [Value.int .u8 (3), Value.int .u8 (2)].toArray 5 (0, 0))) mnil (Value.slice (some ⟨g25, 0, none⟩) (2) (2)) [UInt8.ofNat 3, UInt8.ofNat 2] := OwnL.lit 2 (All2c.cons (c1 := [Value.int .u8 (3)]) (rd_byteN (by first | omega | (simp only [List.length_append, List.length_nil, List.length_cons, List.length_take, List.length_drop] at *; omega) | decide)) (All2c.cons (c1 := [Value.int .u8 (2)]) (rd_byteN (by first | omega | (simp only [List.length_append, List.length_nil, List.length_cons, List.length_take, List.length_drop] at *; omega) | decide)) All2c.nil)) rfl rfl
        have ho35 : OwnL .byte (mone g27 (.cells [Value.int .u8 (4), Value.int .u8 (1)].toArray 5 (0, 0))) mnil (Value.slice (some ⟨g27, 0, none⟩) (2) (2)) [UInt8.ofNat 4, UInt8.ofNat 1] := OwnL.lit 2 (All2c.cons (c1 := [Value.int .u8 (4)]) (rd_byteN (by first | omega | (simp only [List.length_append, List.length_nil, List.length_cons, List.length_take, List.length_drop] at *; omega) | decide)) (All2c.cons (c1 := [Value.int .u8 (1)]) (rd_byteN (by first | omega | (simp only [List.length_append, List.length_nil, List.length_cons, List.length_take, List.length_drop] at *; omega) | decide)) All2c.nil)) rfl rfl
        have ho36 : OwnL .byte (mone g29 (.cells [Value.int .u8 (3), Value.int .u8 (2), Value.int .u8 (7), Value.int .u8 (0)].toArray 5 (0, 0))) mnil (Value.slice (some ⟨g29, 0, none⟩) (4) (4)) [UInt8.ofNat 3, UInt8.ofNat 2, UInt8.ofNat 7, UInt8.ofNat 0] := OwnL.lit 4 (All2c.cons (c1 := [Value.int .u8 (3)]) (rd_byteN (by first | omega | (simp only [List.length_append, List.length_nil, List.length_cons, List.length_take, List.length_drop] at *; omega) | decide)) (All2c.cons (c1 := [Value.int .u8 (2)]) (rd_byteN (by first | omega | (simp only [List.length_append, List.length_nil, List.length_cons, List.length_take, List.length_drop] at *; omega) | decide)) (All2c.cons (c1 := [Value.int .u8 (7)]) (rd_byteN (by first | omega | (simp only [List.length_append, List.length_nil, List.length_cons, List.length_take, List.length_drop] at *; omega) | decide)) (All2c.cons (c1 := [Value.int .u8 (0)]) (rd_byteN (by first | omega | (simp only [List.length_append, List.length_nil, List.length_cons, List.length_take, List.length_drop] at *; omega) | decide)) All2c.nil)))) rfl rfl
        refine VC.gather (l := [mone g31 (.cells [Value.slice (some ⟨g25, 0, none⟩) (2) (2), Value.slice (some ⟨g27, 0, none⟩) (2) (2), Value.slice (some ⟨g29, 0, none⟩) (4) (4), Value.slice none (0) (0)].toArray 30 (0, 0)), mone g25 (.cells [Value.int .u8 (3), Value.int .u8 (2)].toArray 5 (0, 0)), mone g27 (.cells [Value.int .u8 (4), Value.int .u8 (1)].toArray 5 (0, 0)), mone g29 (.cells [Value.int .u8 (3), Value.int .u8 (2), Value.int .u8 (7), Value.int .u8 (0)].toArray 5 (0, 0))]) 137 [132, 126, 128, 130] rfl (fun hg33 => ?_)
        have ho33 : Ow (.sl (.sl .byte)) (muns [mone g31 (.cells [Value.slice (some ⟨g25, 0, none⟩) (2) (2), Value.slice (some ⟨g27, 0, none⟩) (2) (2), Value.slice (some ⟨g29, 0, none⟩) (4) (4), Value.slice none (0) (0)].toArray 30 (0, 0)), mone g25 (.cells [Value.int .u8 (3), Value.int .u8 (2)].toArray 5 (0, 0)), mone g27 (.cells [Value.int .u8 (4), Value.int .u8 (1)].toArray 5 (0, 0)), mone g29 (.cells [Value.int .u8 (3), Value.int .u8 (2), Value.int .u8 (7), Value.int .u8 (0)].toArray 5 (0, 0))]) [Value.slice (some ⟨g31, 0, none⟩) (4) (4)] [[UInt8.ofNat 3, UInt8.ofNat 2], [UInt8.ofNat 4, UInt8.ofNat 1], [UInt8.ofNat 3, UInt8.ofNat 2, UInt8.ofNat 7, UInt8.ofNat 0], []] := Ow.lit 4 (Seps.grp1 (ls := [[mone g25 (.cells [Value.int .u8 (3), Value.int .u8 (2)].toArray 5 (0, 0))], [mone g27 (.cells [Value.int .u8 (4), Value.int .u8 (1)].toArray 5 (0, 0))], [mone g29 (.cells [Value.int .u8 (3), Value.int .u8 (2), Value.int .u8 (7), Value.int .u8 (0)].toArray 5 (0, 0))], []]) hg33) (OwAs.cons (m := muns [mone g25 (.cells [Value.int .u8 (3), Value.int .u8 (2)].toArray 5 (0, 0))]) (c1 := [Value.slice (some ⟨g25, 0, none⟩) (2) (2)]) (Ow.up (OwnL.ow ho34 rfl) ((Seps.self hg33 (List.Sublist.cons _ (List.Sublist.cons_cons _ (List.Sublist.cons _ (List.Sublist.cons _ List.Sublist.slnil))))).1 _ (.head _))) (OwAs.cons (m := muns [mone g27 (.cells [Value.int .u8 (4), Value.int .u8 (1)].toArray 5 (0, 0))]) (c1 := [Value.slice (some ⟨g27, 0, none⟩) (2) (2)]) (Ow.up (OwnL.ow ho35 rfl) ((Seps.self hg33 (List.Sublist.cons _ (List.Sublist.cons _ (List.Sublist.cons_cons _ (List.Sublist.cons _ List.Sublist.slnil))))).1 _ (.head _))) (OwAs.cons (m := muns [mone g29 (.cells [Value.int .u8 (3), Value.int .u8 (2), Value.int .u8 (7), Value.int .u8 (0)].toArray 5 (0, 0))]) (c1 := [Value.slice (some ⟨g29, 0, none⟩) (4) (4)]) (Ow.up (OwnL.ow ho36 rfl) ((Seps.self hg33 (List.Sublist.cons _ (List.Sublist.cons _ (List.Sublist.cons _ (List.Sublist.cons_cons _ List.Sublist.slnil))))).1 _ (.head _))) (OwAs.cons (m := muns []) (c1 := [Value.slice none (0) (0)]) (Ow.nil _ _) OwAs.nil)))) rfl rfl
        refine VC.loop (G := Nat) (fun j => [(10, Value.int .i64 (((j : Nat) : Int))), (1, Value.bool true), (2, Value.slice A1_0 (r1_0.length) (c1_0)), (3, Value.int .i64 ((lEncode (2, 1, 0, 0, [], 1, 0, [])).2)), (4, Value.bool (decide (r1_0 = ([UInt8.ofNat 2, UInt8.ofNat 1, UInt8.ofNat 1, UInt8.ofNat 0, UInt8.ofNat 0])))), (5, Value.slice five_A (five.length) (five_c)), (6, Value.int .i64 (((i : Nat) : Int))), (7, Value.slice (some ⟨g16, 0, none⟩) (6) (6)), (8, Value.int .i64 (((k : Nat) : Int))), (9, Value.slice (some ⟨g31, 0, none⟩) (4) (4)), (26, Value.bool (decide (((i : Nat) : Int) ≤ 5))), (47, Value.bool (decide (((k : Nat) : Int) < ((6 : Nat) : Int))))]) (fun j => [(137, muns [mone g31 (.cells [Value.slice (some ⟨g25, 0, none⟩) (2) (2), Value.slice (some ⟨g27, 0, none⟩) (2) (2), Value.slice (some ⟨g29, 0, none⟩) (4) (4), Value.slice none (0) (0)].toArray 30 (0, 0)), mone g25 (.cells [Value.int .u8 (3), Value.int .u8 (2)].toArray 5 (0, 0)), mone g27 (.cells [Value.int .u8 (4), Value.int .u8 (1)].toArray 5 (0, 0)), mone g29 (.cells [Value.int .u8 (3), Value.int .u8 (2), Value.int .u8 (7), Value.int .u8 (0)].toArray 5 (0, 0))]), (119, muns [mone g16 (.cells [Value.int .i64 (2), Value.int .i64 (1), Value.int .u8 (0), Value.int .i64 (0), Value.slice none (0) (0), Value.int .i64 (1), Value.int .i64 (1), Value.slice none (0) (0), Value.int .i64 (3), Value.int .i64 (1), Value.int .u8 (2), Value.int .i64 (0), Value.slice none (0) (0), Value.int .i64 (0), Value.int .i64 (0), Value.slice none (0) (0), Value.int .i64 (2), Value.int .i64 (1), Value.int .u8 (0), Value.int .i64 (0), Value.slice none (0) (0), Value.int .i64 (1), Value.int .i64 (0), Value.slice five_A (five.length) (five_c), Value.int .i64 (0), Value.int .i64 (0), Value.int .u8 (0), Value.int .i64 (0), Value.slice none (0) (0), Value.int .i64 (0), Value.int .i64 (0), Value.slice none (0) (0), Value.int .i64 (4), Value.int .i64 (1), Value.int .u8 (0), Value.int .i64 (0), Value.slice none (0) (0), Value.int .i64 (0), Value.int .i64 (0), Value.slice none (0) (0), Value.int .i64 (3), Value.int .i64 (0), Value.int .u8 (0), Value.int .i64 (0), Value.slice none (0) (0), Value.int .i64 (0), Value.int .i64 (0), Value.slice none (0) (0)].toArray 26 (0, 0)), five_m]), (101, m1), (0, wm W)]) (fun j => (j ≤ 4)) (fun j => 4 - j) 0 (by omega) ⟨⟨rfl, rfl, rfl, rfl, rfl, rfl, rfl, rfl, rfl, rfl, rfl, rfl, trivial⟩, fun _ h => h.sub [137, 119, 101, 0]⟩ ?_
        rintro j hj
        refine VC.seq ?_
        refine VC.rs ?_
        refine VO.mv ?_
        refine VO.mv ?_
        refine VO.y rfl (.lenS rfl tsl38) ?_
        refine VO.y rfl (.lss rfl rfl) ?_
        refine VO.k13 1 2 3 4 5 6 7 8 9 10 26 47 63 ?_
        refine VC.cond rfl (fun hc38 => ?_) (fun hc38 => ?_)
        · -- TFFT
          refine VC.skip ?_
          refine outN ?_
          refine VC.seq ?_
          refine VC.block ?_
          refine VC.rs ?_
          refine VO.mv ?_
          refine VO.mv ?_
          obtain ⟨x39, hx39⟩ : ∃ z_, ([[UInt8.ofNat 3, UInt8.ofNat 2], [UInt8.ofNat 4, UInt8.ofNat 1], [UInt8.ofNat 3, UInt8.ofNat 2, UInt8.ofNat 7, UInt8.ofNat 0], []])[j]? = some z_ := ⟨_, List.getElem?_eq_getElem (by first | omega | (simp only [List.length_append, List.length_nil, List.length_cons, List.length_take, List.length_drop] at *; omega) | decide)⟩
          obtain ⟨gg39, oo39, ec39, ea39, hce39, hre39⟩ := (Ow.rd ho33 (mle_refl _)).elem hx39
          cases ea39
          have hr39 := hre39
          obtain ⟨A39_, c39_, rfl, _⟩ := hre39
          have rr39 := Rd.room hr39
          refine VO.y rfl (.ixI j rfl rfl tsl38 rfl (by first | omega | (simp only [List.length_append, List.length_nil, List.length_cons, List.length_take, List.length_drop] at *; omega) | decide)) ?_
          refine VO.y rfl (.ld1 137 rfl tk30 rfl hce39) ?_
          refine VO.callN 140 rfl fnOk20 rfl (fun W hW => lDec_ok W (Rd.mono hr39 (hW.at (i := 137) rfl))) (fun v40 m40 hv40 => ?_)
          obtain ⟨s40_0, rfl, f40_0⟩ := hv40
          have hfa41 := lDec_fits x39
          obtain ⟨q40_0_A4, q40_0_c4, q40_0_A7, q40_0_c7, q40_0_n4, q40_0_n7, rfl, q40_0_S, q40_0_0, q40_0_1, q40_0_2, q40_0_3, q40_0_4, q40_0_5, q40_0_6, q40_0_7⟩ := openO_Message (x0 := ((lDec x39).1).1) (x1 := ((lDec x39).1).2.1) (x2 := ((lDec x39).1).2.2.1) (x3 := ((lDec x39).1).2.2.2.1) (x4 := ((lDec x39).1).2.2.2.2.1) (x5 := ((lDec x39).1).2.2.2.2.2.1) (x6 := ((lDec x39).1).2.2.2.2.2.2.1) (x7 := ((lDec x39).1).2.2.2.2.2.2.2) f40_0
          simp only [inK] at q40_0_0
          simp only [inK] at q40_0_1
          simp only [inK] at q40_0_2
          simp only [inK] at q40_0_3
          have q40_0_r4 := Rd.room (q40_0_4.rd (mle_refl _))
          simp only [inK] at q40_0_5
          simp only [inK] at q40_0_6
          have q40_0_r7 := Rd.room (q40_0_7.rd (mle_refl _))
          refine VO.inv _ (fun _ h => h.parts (i := 140) rfl q40_0_S [142, 143]) ?_
          refine VO.mv ?_
          refine VO.y rfl (.ext rfl rfl) ?_
          refine VO.y rfl (.ext rfl rfl) ?_
          refine VO.alloc 145 rfl tz26 (fun g44 => ?_)
          refine VO.store (k := 8) (c' := [Value.int .i64 (((lDec x39).1).1), Value.int .i64 (((lDec x39).1).2.1), Value.int .u8 (((lDec x39).1).2.2.1), Value.int .i64 (((lDec x39).1).2.2.2.1), Value.slice q40_0_A4 ((((lDec x39).1).2.2.2.2.1).length) (q40_0_c4), Value.int .i64 (((lDec x39).1).2.2.2.2.2.1), Value.int .i64 (((lDec x39).1).2.2.2.2.2.2.1), Value.slice q40_0_A7 ((((lDec x39).1).2.2.2.2.2.2.2).length) (q40_0_c7)]) 145 rfl rfl (.inl tk26) rfl rfl rfl rfl rfl ?_
          refine VO.as ?_
          refine VO.k14 1 2 3 4 5 6 7 8 9 10 12 26 47 63 ?_
          refine VC.rs ?_
          refine VO.mv ?_
          refine VO.y rfl (.neq rfl rfl) ?_
          refine VO.keep [137, 119, 101, 0] [(137, muns [mone g31 (.cells [Value.slice (some ⟨g25, 0, none⟩) (2) (2), Value.slice (some ⟨g27, 0, none⟩) (2) (2), Value.slice (some ⟨g29, 0, none⟩) (4) (4), Value.slice none (0) (0)].toArray 30 (0, 0)), mone g25 (.cells [Value.int .u8 (3), Value.int .u8 (2)].toArray 5 (0, 0)), mone g27 (.cells [Value.int .u8 (4), Value.int .u8 (1)].toArray 5 (0, 0)), mone g29 (.cells [Value.int .u8 (3), Value.int .u8 (2), Value.int .u8 (7), Value.int .u8 (0)].toArray 5 (0, 0))]), (119, muns [mone g16 (.cells [Value.int .i64 (2), Value.int .i64 (1), Value.int .u8 (0), Value.int .i64 (0), Value.slice none (0) (0), Value.int .i64 (1), Value.int .i64 (1), Value.slice none (0) (0), Value.int .i64 (3), Value.int .i64 (1), Value.int .u8 (2), Value.int .i64 (0), Value.slice none (0) (0), Value.int .i64 (0), Value.int .i64 (0), Value.slice none (0) (0), Value.int .i64 (2), Value.int .i64 (1), Value.int .u8 (0), Value.int .i64 (0), Value.slice none (0) (0), Value.int .i64 (1), Value.int .i64 (0), Value.slice five_A (five.length) (five_c), Value.int .i64 (0), Value.int .i64 (0), Value.int .u8 (0), Value.int .i64 (0), Value.slice none (0) (0), Value.int .i64 (0), Value.int .i64 (0), Value.slice none (0) (0), Value.int .i64 (4), Value.int .i64 (1), Value.int .u8 (0), Value.int .i64 (0), Value.slice none (0) (0), Value.int .i64 (0), Value.int .i64 (0), Value.slice none (0) (0), Value.int .i64 (3), Value.int .i64 (0), Value.int .u8 (0), Value.int .i64 (0), Value.slice none (0) (0), Value.int .i64 (0), Value.int .i64 (0), Value.slice none (0) (0)].toArray 26 (0, 0)), five_m]), (101, m1), (0, wm W)] (by kernel_rfl) ?_
          refine VO.k15 1 2 3 4 5 6 7 8 9 10 12 26 47 63 75 ?_
          refine VC.cond rfl (fun hc46 => ?_) (fun hc46 => ?_)
          · -- TFFTT
            exact absurd (wrong_dec (by assumption)) hc46
          · -- TFFTF
            refine VC.skip ?_
            refine outBN ?_
            refine outN ?_
            refine VC.reg ?_
            refine VO.mv ?_
            refine VO.y rfl (.add (c := ((j + 1 : Nat) : Int)) rfl rfl (by omega) ⟨by first | omega | (simp only [List.length_append, List.length_nil, List.length_cons, List.length_take, List.length_drop] at *; omega) | decide, by first | omega | (simp only [List.length_append, List.length_nil, List.length_cons, List.length_take, List.length_drop] at *; omega) | decide⟩) ?_
            refine VO.as ?_
            refine VO.k15 1 2 3 4 5 6 7 8 9 10 12 26 47 63 75 ?_
            exact outN ⟨j + 1, by omega, by first | omega | (simp only [List.length_append, List.length_nil, List.length_cons, List.length_take, List.length_drop] at *; omega) | decide, ⟨⟨rfl, rfl, rfl, rfl, rfl, rfl, rfl, rfl, rfl, rfl, rfl, rfl, trivial⟩, fun _ h => Inv.sub h [137, 119, 101, 0]⟩⟩
        · -- TFFF
          refine VC.exit ?_
          refine outE ?_
          refine outE ?_
          refine outBB ?_
          refine outN ?_
          refine VC.rs ?_
          refine VO.mv ?_
          refine VO.mv ?_
          refine VO.gcallN 147 rfl ⟨_, rfl, rfl⟩ fnOk8 rfl (fun W hW => lives11_ok W ) (fun v47 m47 hv47 => ?_)
          subst hv47
          refine VO.y rfl (.pT rfl rfl) ?_
          refine VO.mv ?_
          refine VO.gy rfl ⟨_, rfl, rfl⟩ (.mv rfl) ?_
          refine VO.y rfl (.pT rfl rfl) ?_
          refine VO.mv ?_
          refine VO.dec (t := 83) rfl (fun hc48 => ?_) (fun hc48 => ?_)
          · -- TFFFT
            refine VO.gy rfl ⟨_, rfl, rfl⟩ (.mv rfl) ?_
            have hs49 := hle18_5.pre (j := 4) (by first | omega | (simp only [List.length_append, List.length_nil, List.length_cons, List.length_take, List.length_drop] at *; omega) | decide)
            refine VO.gy rfl ⟨_, rfl, rfl⟩ (.slHI 4 rfl rfl tsl24 rfl (by first | omega | (simp only [List.length_append, List.length_nil, List.length_cons, List.length_take, List.length_drop] at *; omega) | decide)) ?_
            refine VO.gy rfl ⟨_, rfl, rfl⟩ (.bst (cs := [Value.int .i64 (2), Value.int .i64 (1), Value.int .u8 (0), Value.int .i64 (0), Value.slice none (0) (0), Value.int .i64 (1), Value.int .i64 (0), Value.slice five_A (4) (five_c)]) rfl tst26 tz26 rfl) ?_
            refine VO.gcallN 150 rfl ⟨_, rfl, rfl⟩ fnOk13 rfl (fun W hW => lCheck_ok W (mk_Message (m := wm W) 2 1 0 0 [] 1 0 ((five).take 4) (by simp only [inK]; (first | omega | (simp only [List.length_append, List.length_nil, List.length_cons, List.length_take, List.length_drop] at *; omega) | decide)) (by simp only [inK]; (first | omega | (simp only [List.length_append, List.length_nil, List.length_cons, List.length_take, List.length_drop] at *; omega) | decide)) (by simp only [inK]; (first | omega | (simp only [List.length_append, List.length_nil, List.length_cons, List.length_take, List.length_drop] at *; omega) | decide)) (by simp only [inK]; (first | omega | (simp only [List.length_append, List.length_nil, List.length_cons, List.length_take, List.length_drop] at *; omega) | decide)) (Rd.nil _ _ none 0 (Nat.zero_le _)) (by simp only [inK]; (first | omega | (simp only [List.length_append, List.length_nil, List.length_cons, List.length_take, List.length_drop] at *; omega) | decide)) (by simp only [inK]; (first | omega | (simp only [List.length_append, List.length_nil, List.length_cons, List.length_take, List.length_drop] at *; omega) | decide)) (Rd.mono hs49 (hW.at (i := 119) rfl)))) (fun v50 m50 hv50 => ?_)
            try dsimp only at hv50
            subst hv50
            have hfa51 := lCheck_range (2, 1, 0, 0, [], 1, 0, (five).take 4)
            refine VO.gy rfl ⟨_, rfl, rfl⟩ (.eql rfl rfl) ?_
            refine VO.y rfl (.pT rfl rfl) ?_
            refine VO.as ?_
            refine VO.k14 0 1 2 3 4 5 6 7 8 9 10 26 47 63 ?_
            refine VC.ret ?_
            refine ⟨_, _, res_run (rs := [.tmp 0]) rfl (.tmp rfl .nil), fun W_ hI => out_of (l := []) hI [] rfl rfl (mle_refl _) (fun hS_ => ?_)⟩
            dsimp only [packV]
            all_goals (first | rfl | (exact congrArg Value.bool (decide_eq_true (by subst_vars; first | (simp only [ex11a, ex11b, ex11c]; done) | (simp only [ex11a, ex11b, ex11c]; first | rfl | decide) | rfl | decide))))
          · -- TFFFF
            exact absurd (by subst_vars; first | (simp only [ex11a, ex11b, ex11c]; done) | (simp only [ex11a, ex11b, ex11c]; first | rfl | decide) | rfl | decide) hc48
  · -- F
    exact absurd (by subst_vars; first | (simp only [ex11a, ex11b, ex11c]; done) | (simp only [ex11a, ex11b, ex11c]; first | rfl | decide) | rfl | decide) hc3
end
section
set_option linter.unusedVariables false
set_option maxRecDepth 4000
open Go.ChangeShapes Go.WideShapes Go.ChangeAt Go.RowKit
set_option maxRecDepth 100000 in
theorem letterNames_lifted (os : Os) (started : os.Started) (H : Type) (enc : TypeId × Value → H) :
    ReturnsInHanded {} Try.checked os 4 .any (Rows.letterNamesSpec.pre6 enc Try.prog Try.f4 Rows.letterNamesRow.domain false) (Rows.letterNamesSpec.post enc Try.prog Try.f4 false true false false) := by
  refine returnsInHanded_of_change (C := Try.checked) (by kernel_rfl) started (by kernel_rfl) Try.func4
    (ChangeSpec.witness6 (enc := enc) (C := Try.checked) false ⟨#[], #[], []⟩ 8 (by kernel_rfl) (by kernel_rfl) (by kernel_rfl) (by kernel_rfl)) ?_
  intro W base args ds gs before hval0 hW hcnd _
  have hval : ∀ (j : Nat) t v, Try.f4.params[j]? = some t → args[j]? = some v → Value.okWide Try.prog W .any base t v := hval0
  have hW' := hW
  obtain ⟨p, q, hA0, hV, rfl, hfz, hnd⟩ := hW
  have hA : DataW.TrodAll enc Try.prog W 0 (fun _ => true) true Try.f4.params.toList args.toList ds p := hA0
  rw [Try.params4] at hA hval
  clear hA0 hval0
  obtain ⟨args⟩ := args
  obtain ⟨ha, rfl, rfl⟩ := trodAll_nil hA; simp only at ha; subst ha
  refine (calls_of (letterNames_ok W )).mono fun e W' ⟨he, hg⟩ => ?_
  subst he
  exact ⟨_, rfl, law_post hW' hg laidOut_ok (by kernel_rfl) rfl Try.underlying4 rfl rfl rfl rfl⟩
theorem letterNames_joined : joinedFacts Try.prog 4 Try.f4 Rows.letterNamesSpec Rows.letterNamesRow = true := by
  unfold joinedFacts
  rw [laidOut_ok, mapsRowed_ok, stopsHeard_ok, mayEnter_ok, lifts_ok, make_ok]
  kernel_rfl
theorem letterNames_proved : Rows.LetterNamesSaid :=
  OpenClaim.holds_of_wide 4 Try.f4 rfl rfl rfl rfl rfl rfl rfl ⟨rfl, rfl, rfl, rfl, rfl⟩ rfl rfl rfl rfl rfl (by kernel_rfl) Try.func4 letterNames_joined
    (of_decide_eq_true (by kernel_rfl)) (by unfold Func.isWrapper; first | (rw [if_pos (by decide +kernel)]; kernel_rfl) | (rw [if_neg (by decide +kernel)]; exact ⟨rfl, rfl⟩))
    (fun os started H enc _ => letterNames_lifted os started H enc)
#print axioms letterNames_proved
end
end Go.Proofs.Ytcikgnbpcombpaa
