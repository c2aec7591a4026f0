/- Part 4 of the proof of LLetterUnlike: what it needs of the library, the walks and the plain laws. Conditions: those named in each theorem. -/
import Derived.Test.YtcikgnbpcombpaaLLetterUnlikeM3
namespace Go.Proofs.Ytcikgnbpcombpaa
section
set_option linter.unusedVariables false
set_option linter.unusedSimpArgs false
set_option maxRecDepth 4000
theorem fnOk13 : fnOk Try.prog 13 = true := by kernel_rfl
theorem fnOk31 : fnOk Try.prog 31 = true := by kernel_rfl
theorem fnOk33 : fnOk Try.prog 33 = true := by kernel_rfl
theorem fnOk43 : fnOk Try.prog 43 = true := by kernel_rfl
theorem fnOk44 : fnOk Try.prog 44 = true := by kernel_rfl
theorem fnOk45 : fnOk Try.prog 45 = true := by kernel_rfl
theorem teq57 (a0 : Int) (a1 : Int) : plainS Try.prog 57 [.int .i64 a0, .int .i64 a1] = true := by kernel_rfl
theorem tsl60 : tsl Try.prog 60 = some (3, 1, 8) := by kernel_rfl
theorem tz3 : tz Try.prog 3 = some [.int .i64 0] := by kernel_rfl
theorem lput_ok (W : World) {m1 : Mem} (hm : mle (m1) (wm W)) {v0 : Value} {d0 : List Int} (h0 : Rd (.sl (.int .i64)) (mout (wm W) (m1)) [v0] d0) {g1 : Nat} {d1 : DBuf} (h1 : Ow (.ptr TBuf) m1 [.pointer (some ⟨g1, 0, none⟩)] (g1, d1)) (e0 : ∀ x ∈ d0, 0 ≤ x) (e1 : d1.length + 10 * d0.length ≤ 140737488355000) : CallR Try.prog 31 [v0, .pointer (some ⟨g1, 0, none⟩)] W (m1) (fun v m' => v = .tuple #[] ∧ Ow (.ptr TBuf) m' [.pointer (some ⟨g1, 0, none⟩)] (g1, d1 ++ putAll d0)) := by
  obtain ⟨A0, c0, rfl, l0, k0⟩ := h0.slice
  simp only [maxLen] at k0
  refine CallR.ofB (n := 16) hm Try.func31 rfl rfl rfl ?_
  refine VC.rs ?_
  refine VO.mv ?_
  refine VO.y rfl (.lenS rfl tsl60) ?_
  refine VO.mv ?_
  refine VO.k5 0 1 5 6 7 ?_
  refine VC.block ?_
  refine VC.loop (G := Nat × DBuf × Mem) (fun g => [(7, Value.int .i64 ((((g.1) : Nat) : Int))), (0, Value.slice A0 (d0.length) (c0)), (1, Value.pointer (some ⟨g1, 0, none⟩)), (5, Value.slice A0 (d0.length) (c0)), (6, Value.int .i64 (((d0.length : Nat) : Int)))]) (fun g => [(0, mout (wm W) (m1)), (1, (g.2.2))]) (fun g => ((g.1) ≤ d0.length) ∧ ((g.2.1) = d1 ++ putAll (d0.take (g.1))) ∧ ((g.2.1).length ≤ d1.length + 10 * (g.1)) ∧ (Ow (.ptr TBuf) (g.2.2) [.pointer (some ⟨g1, 0, none⟩)] (g1, (g.2.1)))) (fun g => d0.length - (g.1)) (0, d1, m1) (⟨by omega, by simp [putAll], by (dsimp only; omega), h1⟩) ⟨⟨rfl, rfl, rfl, rfl, rfl, trivial⟩, fun _ h => h.sub [0, 1]⟩ ?_
  rintro ⟨k, b, b_m⟩ ⟨hk, hb, hlb, h_b⟩
  replace hk : k ≤ d0.length := hk
  replace hb : b = d1 ++ putAll (d0.take k) := hb
  replace hlb : b.length ≤ d1.length + 10 * k := hlb
  replace h_b : Ow (.ptr TBuf) b_m [.pointer (some ⟨g1, 0, none⟩)] (g1, b) := h_b
  show VC _ _ _ _ _ [(7, Value.int .i64 (((k : Nat) : Int))), (0, Value.slice A0 (d0.length) (c0)), (1, Value.pointer (some ⟨g1, 0, none⟩)), (5, Value.slice A0 (d0.length) (c0)), (6, Value.int .i64 (((d0.length : Nat) : Int)))] [(0, mout (wm W) (m1)), (1, b_m)]
  refine VC.rs ?_
  refine VO.y rfl (.lss rfl rfl) ?_
  refine VO.k6 0 1 5 6 7 8 ?_
  refine VC.seq ?_
  refine VC.cond rfl (fun hc1 => ?_) (fun hc1 => ?_)
  · -- T
    refine VC.skip ?_
    refine outN ?_
    refine VC.seq ?_
    refine VC.block ?_
    refine VC.rs ?_
    obtain ⟨x2, hx2⟩ : ∃ z_, (d0)[k]? = some z_ := ⟨_, List.getElem?_eq_getElem (by first | omega | (simp only [List.length_append, List.length_nil, List.length_cons, List.length_take, List.length_drop] at *; omega) | (have h_ := e0 _ (List.mem_of_getElem? ‹d0[k]? = some _›); omega))⟩
    obtain ⟨gg2, oo2, ec2, ea2, hce2, hre2⟩ := h0.elem hx2
    cases ea2
    obtain ⟨rfl, q2⟩ := hre2; simp only [inK] at q2
    refine VO.y rfl (.ixI k rfl rfl tsl60 rfl (by first | omega | (simp only [List.length_append, List.length_nil, List.length_cons, List.length_take, List.length_drop] at *; omega) | (have h_ := e0 _ (List.mem_of_getElem? ‹d0[k]? = some _›); omega))) ?_
    refine VO.y rfl (.ld1 0 rfl tk3 rfl hce2) ?_
    refine VO.as ?_
    refine VO.keep [0, 1] [(0, mout (wm W) (m1)), (1, b_m)] (by kernel_rfl) ?_
    refine VO.k7 0 1 4 5 6 7 8 ?_
    refine VC.reg ?_
    obtain ⟨q3_E, q3_A0, q3_c0, q3_n0, _, q3_S, q3_0⟩ := openP_Buf (x0 := b) h_b
    have q3_r0 := Rd.room (q3_0.rd (mle_refl _))
    refine VO.inv _ (fun _ h => h.parts (i := 1) rfl q3_S [105, 104]) ?_
    refine VO.y rfl (.ld1 105 rfl tk30 rfl (cellsAt_one rfl rfl)) ?_
    refine VO.mv ?_
    refine VO.y rfl (.cvI (c := ((x2).toNat : Int)) rfl ⟨_, Try.underlying3⟩ Try.underlying62 (by rw [IntWalk.u64_in _ (by first | omega | (simp only [List.length_append, List.length_nil, List.length_cons, List.length_take, List.length_drop] at *; omega) | (have h_ := e0 _ (List.mem_of_getElem? ‹d0[k]? = some _›); omega))]; first | omega | (first | omega | (simp only [List.length_append, List.length_nil, List.length_cons, List.length_take, List.length_drop] at *; omega) | (have h_ := e0 _ (List.mem_of_getElem? ‹d0[k]? = some _›); omega)))) ?_
    refine VO.callN 106 rfl fnOk32 rfl (fun W hW => vAppend_ok W (OwnL.rd (Ow.ownl q3_0 rfl mnil) (hW.at (i := 104) rfl) (mle_nil _)) ((x2).toNat) (by first | omega | (simp only [List.length_append, List.length_nil, List.length_cons, List.length_take, List.length_drop] at *; omega) | (have h_ := e0 _ (List.mem_of_getElem? ‹d0[k]? = some _›); omega)) (by first | omega | (simp only [List.length_append, List.length_nil, List.length_cons, List.length_take, List.length_drop] at *; omega) | (have h_ := e0 _ (List.mem_of_getElem? ‹d0[k]? = some _›); omega))) (fun v6 m6 hv6 => ?_)
    obtain ⟨s6_0, rfl, f6_0⟩ := hv6
    have hfa7 := venc_len (x := ((x2).toNat)) (by first | omega | exact or64 (by assumption) _)
    obtain ⟨A6_0, c6_0, eq6_0, l6_0, k6_0⟩ := f6_0.slice
    subst eq6_0
    simp only [maxLen] at k6_0
    refine VO.store (k := 1) (c' := [Value.slice A6_0 ((b ++ venc ((x2).toNat)).length) (c6_0)]) 105 rfl rfl (.inr ⟨tk30, rfl⟩) rfl rfl rfl rfl rfl ?_
    refine VO.gather (l := [mone g1 (.cells [Value.slice A6_0 ((b ++ venc ((x2).toNat)).length) (c6_0)].toArray q3_E (0, 0)), m6]) 108 [105, 106] rfl (fun hg8 => ?_)
    have ho8 : Ow (.ptr TBuf) (muns [mone g1 (.cells [Value.slice A6_0 ((b ++ venc ((x2).toNat)).length) (c6_0)].toArray q3_E (0, 0)), m6]) [.pointer (some ⟨g1, 0, none⟩)] (g1, b ++ venc ((x2).toNat)) := (mkP_Buf (b ++ venc ((x2).toNat)) hg8 (OwnL.ow (Ow.ownl f6_0 rfl mnil) rfl))
    refine VO.k7 0 1 4 5 6 7 8 ?_
    refine outBN ?_
    refine outN ?_
    refine VC.reg ?_
    refine VO.y rfl (.add (c := ((k + 1 : Nat) : Int)) rfl rfl (by omega) ⟨by first | omega | (simp only [List.length_append, List.length_nil, List.length_cons, List.length_take, List.length_drop] at *; omega) | (have h_ := e0 _ (List.mem_of_getElem? ‹d0[k]? = some _›); omega), by first | omega | (simp only [List.length_append, List.length_nil, List.length_cons, List.length_take, List.length_drop] at *; omega) | (have h_ := e0 _ (List.mem_of_getElem? ‹d0[k]? = some _›); omega)⟩) ?_
    refine VO.mv ?_
    refine VO.k7 0 1 4 5 6 7 8 ?_
    exact outN ⟨⟨k + 1, b ++ venc ((x2).toNat), muns [mone g1 (.cells [Value.slice A6_0 ((b ++ venc ((x2).toNat)).length) (c6_0)].toArray q3_E (0, 0)), m6]⟩, ⟨by omega, by exact putAll_next hb ‹d0[k]? = some _›, by (simp only [List.length_append] at *; omega), ho8⟩, by first | omega | (simp only [List.length_append, List.length_nil, List.length_cons, List.length_take, List.length_drop] at *; omega) | (have h_ := e0 _ (List.mem_of_getElem? ‹d0[k]? = some _›); omega), ⟨⟨rfl, rfl, rfl, rfl, rfl, trivial⟩, fun _ h => Inv.sub (Inv.num h 108 1 rfl) [0, 1]⟩⟩
  · -- F
    refine VC.exit ?_
    refine outE ?_
    refine outE ?_
    refine outBB ?_
    refine ⟨_, _, res_run (rs := []) rfl .nil, fun W_ hI => out_of (l := [b_m]) hI [1] rfl rfl (mle_refl _) (fun hS_ => ?_)⟩
    dsimp only [packV]
    have hm1_ : (d1 ++ putAll d0 : DBuf) = b := by first | rfl | (rw [hb, List.take_of_length_le (by omega)])
    refine ⟨?_, ?_⟩
    rotate_left
    · rw [hm1_]; exact (Ow.up h_b (hS_.1 _ (.head _)))
    all_goals (first | rfl | (simp [*]; done))
theorem lEncode_ok (W : World) {v0 : List Value} {d0 : DMessage} (h0 : Rd TMessage (wm W) v0 d0) : CallR Try.prog 11 [.agg v0.toArray] W (mnil) (fun v m' => ∃ (s0 : Value), v = .tuple #[s0, .int .i64 ((lEncode d0).2)] ∧ Ow (.sl .byte) m' [s0] ((lEncode d0).1)) := by
  obtain ⟨p0_A4, p0_c4, p0_A7, p0_c7, rfl, p0_0, p0_1, p0_2, p0_3, p0_4, p0_5, p0_6, p0_7⟩ := open_Message (x0 := d0.1) (x1 := d0.2.1) (x2 := d0.2.2.1) (x3 := d0.2.2.2.1) (x4 := d0.2.2.2.2.1) (x5 := d0.2.2.2.2.2.1) (x6 := d0.2.2.2.2.2.2.1) (x7 := d0.2.2.2.2.2.2.2) h0
  simp only [inK] at p0_0
  simp only [inK] at p0_1
  simp only [inK] at p0_2
  simp only [inK] at p0_3
  have p0_r4 := Rd.room p0_4
  simp only [inK] at p0_5
  simp only [inK] at p0_6
  have p0_r7 := Rd.room p0_7
  refine CallR.ofA (n := 97) Try.func11 rfl rfl rfl ?_
  refine VC.rs ?_
  refine VO.box (cs := [Value.int .i64 (d0.1), Value.int .i64 (d0.2.1), Value.int .u8 (d0.2.2.1), Value.int .i64 (d0.2.2.2.1), Value.slice p0_A4 (d0.2.2.2.2.1.length) (p0_c4), Value.int .i64 (d0.2.2.2.2.2.1), Value.int .i64 (d0.2.2.2.2.2.2.1), Value.slice p0_A7 (d0.2.2.2.2.2.2.2.length) (p0_c7)]) 102 rfl rfl rfl (fun g1 => ?_)
  refine VO.as ?_
  refine VO.as ?_
  refine VO.k4 0 1 2 3 ?_
  refine VC.seq ?_
  refine VC.rs ?_
  refine VO.y rfl (.ldA 102 rfl tk26 rfl (cellsAt_one rfl rfl)) ?_
  refine VO.callN 103 rfl fnOk13 rfl (fun W hW => lCheck_ok W (Rd.mono h0 (hW.at (i := 0) rfl))) (fun v3 m3 hv3 => ?_)
  subst hv3
  have hfa4 := lCheck_range d0
  refine VO.as ?_
  refine VO.k5 0 1 2 3 4 ?_
  refine VC.rs ?_
  refine VO.mv ?_
  refine VO.y rfl (.neq rfl rfl) ?_
  refine VO.keep [102, 0] [(102, mone g1 (.cells [Value.int .i64 (d0.1), Value.int .i64 (d0.2.1), Value.int .u8 (d0.2.2.1), Value.int .i64 (d0.2.2.2.1), Value.slice p0_A4 (d0.2.2.2.2.1.length) (p0_c4), Value.int .i64 (d0.2.2.2.2.2.1), Value.int .i64 (d0.2.2.2.2.2.2.1), Value.slice p0_A7 (d0.2.2.2.2.2.2.2.length) (p0_c7)].toArray 26 (0, 0))), (0, wm W)] (by kernel_rfl) ?_
  refine VO.k6 0 1 2 3 4 16 ?_
  refine VC.cond rfl (fun hc5 => ?_) (fun hc5 => ?_)
  · -- T
    refine VC.rs ?_
    refine VO.mv ?_
    refine VO.as ?_
    refine VO.as ?_
    refine VO.k6 0 1 2 3 4 16 ?_
    refine VC.ret ?_
    refine outR ?_
    refine ⟨_, _, res_run (rs := [.tmp 2, .tmp 3]) rfl (.tmp rfl (.tmp rfl .nil)), fun W_ hI => out_of (l := []) hI [] rfl rfl (mle_refl _) (fun hS_ => ?_)⟩
    dsimp only [packV]
    have he0 : ((lEncode d0).1 : Ty.Den (.sl .byte)) = [] := by first | rfl | (first | (rw [lEncode_bad (by assumption)]; done) | (rw [lEncode_hello (Decidable.not_not.1 ‹¬ ¬ lCheck d0 = 0›) (by assumption), hb, List.take_of_length_le (by omega)]; done) | (rw [lEncode_ship (Decidable.not_not.1 ‹¬ ¬ lCheck d0 = 0›) (by assumption) (by assumption), hb, List.take_of_length_le (by omega)]; done) | (rw [lEncode_ack (Decidable.not_not.1 ‹¬ ¬ lCheck d0 = 0›) (by omega) (by omega)]; simp [putAll]; done))
    refine ⟨Value.slice none (0) (0), ?_, ?_⟩
    rotate_left
    · rw [he0]; exact (Ow.nil _ _)
    all_goals (first | rfl | (first | (rw [lEncode_bad (by assumption)] <;> rfl) | (rw [lEncode_hello (Decidable.not_not.1 ‹¬ ¬ lCheck d0 = 0›) (by assumption)] <;> rfl) | (rw [lEncode_ship (Decidable.not_not.1 ‹¬ ¬ lCheck d0 = 0›) (by assumption) (by assumption)] <;> rfl) | (rw [lEncode_ack (Decidable.not_not.1 ‹¬ ¬ lCheck d0 = 0›) (by omega) (by omega)] <;> rfl)))
  · -- F
    refine VC.skip ?_
    refine outN ?_
    refine VC.rs ?_
    refine VO.alloc 107 rfl tz30 (fun g6 => ?_)
    refine VO.k7 0 1 2 3 4 5 16 ?_
    refine VC.rs ?_
    refine VO.y rfl (.mkf rfl) ?_
    refine VO.as ?_
    refine VO.k8 0 1 2 3 4 5 6 16 ?_
    refine VC.rs ?_
    refine VO.mv ?_
    refine VO.y rfl (.fa rfl tst26 rfl) ?_
    refine VO.y rfl (.ld1 102 rfl tk3 rfl (cellsAt_one rfl rfl)) ?_
    refine VO.y rfl (.fa rfl tst26 rfl) ?_
    refine VO.y rfl (.ld1 102 rfl tk3 rfl (cellsAt_one rfl rfl)) ?_
    refine VO.bsl (cs := [Value.int .i64 (d0.1), Value.int .i64 (d0.2.1)]) 109 rfl rfl tsl60 tz3 rfl rfl (fun g8 => ?_)
    have ho11 : OwnL (.int .i64) (mone g8 (.cells [Value.int .i64 (d0.1), Value.int .i64 (d0.2.1)].toArray 3 (0, 0))) mnil (Value.slice (some ⟨g8, 0, none⟩) (2) (2)) [d0.1, d0.2.1] := OwnL.lit 2 (All2c.cons (c1 := [Value.int .i64 (d0.1)]) (show Rd (.int .i64) _ [_] _ from ⟨rfl, by simp only [inK]; (first | omega | (simp only [List.length_append, List.length_nil, List.length_cons, List.length_take, List.length_drop] at *; omega) | (have n_ := lc_nums (Decidable.not_not.1 ‹¬ ¬ lCheck d0 = 0›); first | omega | (have q_ := lc_hello (Decidable.not_not.1 ‹¬ ¬ lCheck d0 = 0›) (by assumption); omega) | (have q_ := start_of (Decidable.not_not.1 ‹¬ ¬ lCheck d0 = 0›) (by assumption) ‹d0.2.2.2.2.1[k]? = some _›; omega) | (have q_ := ship_nums (Decidable.not_not.1 ‹¬ ¬ lCheck d0 = 0›) (by assumption); omega) | (have q_ := (lc_ack (Decidable.not_not.1 ‹¬ ¬ lCheck d0 = 0›) (by omega) (by omega)).1.1; omega) | (have q_ := cEnc_len (comm_of (Decidable.not_not.1 ‹¬ ¬ lCheck d0 = 0›) (by assumption) ‹d0.2.2.2.2.2.2.2[k]? = some _›); simp only [cEncode_is (comm_of (Decidable.not_not.1 ‹¬ ¬ lCheck d0 = 0›) (by assumption) ‹d0.2.2.2.2.2.2.2[k]? = some _›)] at *; omega) | (simp only [List.length_append, List.length_cons, List.length_nil] at *; omega)))⟩) (All2c.cons (c1 := [Value.int .i64 (d0.2.1)]) (show Rd (.int .i64) _ [_] _ from ⟨rfl, by simp only [inK]; (first | omega | (simp only [List.length_append, List.length_nil, List.length_cons, List.length_take, List.length_drop] at *; omega) | (have n_ := lc_nums (Decidable.not_not.1 ‹¬ ¬ lCheck d0 = 0›); first | omega | (have q_ := lc_hello (Decidable.not_not.1 ‹¬ ¬ lCheck d0 = 0›) (by assumption); omega) | (have q_ := start_of (Decidable.not_not.1 ‹¬ ¬ lCheck d0 = 0›) (by assumption) ‹d0.2.2.2.2.1[k]? = some _›; omega) | (have q_ := ship_nums (Decidable.not_not.1 ‹¬ ¬ lCheck d0 = 0›) (by assumption); omega) | (have q_ := (lc_ack (Decidable.not_not.1 ‹¬ ¬ lCheck d0 = 0›) (by omega) (by omega)).1.1; omega) | (have q_ := cEnc_len (comm_of (Decidable.not_not.1 ‹¬ ¬ lCheck d0 = 0›) (by assumption) ‹d0.2.2.2.2.2.2.2[k]? = some _›); simp only [cEncode_is (comm_of (Decidable.not_not.1 ‹¬ ¬ lCheck d0 = 0›) (by assumption) ‹d0.2.2.2.2.2.2.2[k]? = some _›)] at *; omega) | (simp only [List.length_append, List.length_cons, List.length_nil] at *; omega)))⟩) All2c.nil)) rfl rfl
    refine VO.gather (l := [mone g6 (.cells [Value.slice none (0) (0)].toArray 30 (0, 0))]) 112 [107] rfl (fun hg12 => ?_)
    have ho12 : Ow (.ptr TBuf) (muns [mone g6 (.cells [Value.slice none (0) (0)].toArray 30 (0, 0))]) [.pointer (some ⟨g6, 0, none⟩)] (g6, []) := (mkP_Buf [] (Seps.nilAt 1 hg12) (Ow.nil _ _))
    refine VO.callV 112 rfl rfl fnOk31 rfl rfl (fun W hW => lput_ok W (hW.at (i := 112) rfl) (OwnL.rd ho11 (hW.out (i := 112) (j := 109) rfl rfl) (mle_nil _)) ho12 (by intro x_ hx_; simp only [List.mem_cons, List.not_mem_nil, or_false] at hx_; have n_ := lc_nums (Decidable.not_not.1 ‹¬ ¬ lCheck d0 = 0›); first | omega | (have q_ := lc_hello (Decidable.not_not.1 ‹¬ ¬ lCheck d0 = 0›) (by assumption); omega) | (have q_ := start_of (Decidable.not_not.1 ‹¬ ¬ lCheck d0 = 0›) (by assumption) ‹d0.2.2.2.2.1[k]? = some _›; omega) | (have q_ := ship_nums (Decidable.not_not.1 ‹¬ ¬ lCheck d0 = 0›) (by assumption); omega) | (have q_ := (lc_ack (Decidable.not_not.1 ‹¬ ¬ lCheck d0 = 0›) (by omega) (by omega)).1.1; omega) | (have q_ := cEnc_len (comm_of (Decidable.not_not.1 ‹¬ ¬ lCheck d0 = 0›) (by assumption) ‹d0.2.2.2.2.2.2.2[k]? = some _›); simp only [cEncode_is (comm_of (Decidable.not_not.1 ‹¬ ¬ lCheck d0 = 0›) (by assumption) ‹d0.2.2.2.2.2.2.2[k]? = some _›)] at *; omega) | (simp only [List.length_append, List.length_cons, List.length_nil] at *; omega)) (by first | omega | (simp only [List.length_append, List.length_nil, List.length_cons, List.length_take, List.length_drop] at *; omega) | (have n_ := lc_nums (Decidable.not_not.1 ‹¬ ¬ lCheck d0 = 0›); first | omega | (have q_ := lc_hello (Decidable.not_not.1 ‹¬ ¬ lCheck d0 = 0›) (by assumption); omega) | (have q_ := start_of (Decidable.not_not.1 ‹¬ ¬ lCheck d0 = 0›) (by assumption) ‹d0.2.2.2.2.1[k]? = some _›; omega) | (have q_ := ship_nums (Decidable.not_not.1 ‹¬ ¬ lCheck d0 = 0›) (by assumption); omega) | (have q_ := (lc_ack (Decidable.not_not.1 ‹¬ ¬ lCheck d0 = 0›) (by omega) (by omega)).1.1; omega) | (have q_ := cEnc_len (comm_of (Decidable.not_not.1 ‹¬ ¬ lCheck d0 = 0›) (by assumption) ‹d0.2.2.2.2.2.2.2[k]? = some _›); simp only [cEncode_is (comm_of (Decidable.not_not.1 ‹¬ ¬ lCheck d0 = 0›) (by assumption) ‹d0.2.2.2.2.2.2.2[k]? = some _›)] at *; omega) | (simp only [List.length_append, List.length_cons, List.length_nil] at *; omega)))) (fun v10 m10 hv10 => ?_)
    obtain ⟨rfl, w10_1⟩ := hv10
    have hfa13 := (putAll_len (l := ([d0.1, d0.2.1])) (by intro x_ hx_; simp only [List.mem_cons, List.not_mem_nil, or_false] at hx_; omega))
    refine VO.keep [112, 102, 0] [(112, m10), (102, mone g1 (.cells [Value.int .i64 (d0.1), Value.int .i64 (d0.2.1), Value.int .u8 (d0.2.2.1), Value.int .i64 (d0.2.2.2.1), Value.slice p0_A4 (d0.2.2.2.2.1.length) (p0_c4), Value.int .i64 (d0.2.2.2.2.2.1), Value.int .i64 (d0.2.2.2.2.2.2.1), Value.slice p0_A7 (d0.2.2.2.2.2.2.2.length) (p0_c7)].toArray 26 (0, 0))), (0, wm W)] (by kernel_rfl) ?_
    refine VO.k8 0 1 2 3 4 5 6 16 ?_
    refine VC.seq ?_
    refine VC.rs ?_
    refine VO.y rfl (.fa rfl tst26 rfl) ?_
    refine VO.y rfl (.ld1 102 rfl tk3 rfl (cellsAt_one rfl rfl)) ?_
    refine VO.k9 0 1 2 3 4 5 6 16 27 ?_
    refine VC.block ?_
    refine VC.rs ?_
    refine VO.y rfl (.eql rfl rfl) ?_
    refine VO.as ?_
    refine VO.k10 0 1 2 3 4 5 6 16 27 28 ?_
    refine VC.cond rfl (fun hc14 => ?_) (fun hc14 => ?_)
    · -- FT
      refine VC.rs ?_
      refine VO.mv ?_
      refine VO.y rfl (.fa rfl tst26 rfl) ?_
      refine VO.y rfl (.ld1 102 rfl tk22 rfl (cellsAt_one rfl rfl)) ?_
      refine VO.y rfl (.cvI rfl ⟨_, Try.underlying22⟩ Try.underlying3 (IntWalk.i64_in _ (by first | omega | (simp only [List.length_append, List.length_nil, List.length_cons, List.length_take, List.length_drop] at *; omega) | (have n_ := lc_nums (Decidable.not_not.1 ‹¬ ¬ lCheck d0 = 0›); first | omega | (have q_ := lc_hello (Decidable.not_not.1 ‹¬ ¬ lCheck d0 = 0›) (by assumption); omega) | (have q_ := start_of (Decidable.not_not.1 ‹¬ ¬ lCheck d0 = 0›) (by assumption) ‹d0.2.2.2.2.1[k]? = some _›; omega) | (have q_ := ship_nums (Decidable.not_not.1 ‹¬ ¬ lCheck d0 = 0›) (by assumption); omega) | (have q_ := (lc_ack (Decidable.not_not.1 ‹¬ ¬ lCheck d0 = 0›) (by omega) (by omega)).1.1; omega) | (have q_ := cEnc_len (comm_of (Decidable.not_not.1 ‹¬ ¬ lCheck d0 = 0›) (by assumption) ‹d0.2.2.2.2.2.2.2[k]? = some _›); simp only [cEncode_is (comm_of (Decidable.not_not.1 ‹¬ ¬ lCheck d0 = 0›) (by assumption) ‹d0.2.2.2.2.2.2.2[k]? = some _›)] at *; omega) | (simp only [List.length_append, List.length_cons, List.length_nil] at *; omega))))) ?_
      refine VO.y rfl (.fa rfl tst26 rfl) ?_
      refine VO.y rfl (.ld1 102 rfl tk3 rfl (cellsAt_one rfl rfl)) ?_
      refine VO.y rfl (.fa rfl tst26 rfl) ?_
      refine VO.y rfl (.ld1 102 rfl tk23 rfl (cellsAt_one rfl rfl)) ?_
      refine VO.y rfl (.lenS rfl tsl23) ?_
      refine VO.bsl (cs := [Value.int .i64 (d0.2.2.1), Value.int .i64 (d0.2.2.2.1), Value.int .i64 (((d0.2.2.2.2.1.length : Nat) : Int))]) 116 rfl rfl tsl60 tz3 rfl rfl (fun g15 => ?_)
      have ho18 : OwnL (.int .i64) (mone g15 (.cells [Value.int .i64 (d0.2.2.1), Value.int .i64 (d0.2.2.2.1), Value.int .i64 (((d0.2.2.2.2.1.length : Nat) : Int))].toArray 3 (0, 0))) mnil (Value.slice (some ⟨g15, 0, none⟩) (3) (3)) [d0.2.2.1, d0.2.2.2.1, ((d0.2.2.2.2.1.length : Nat) : Int)] := OwnL.lit 3 (All2c.cons (c1 := [Value.int .i64 (d0.2.2.1)]) (show Rd (.int .i64) _ [_] _ from ⟨rfl, by simp only [inK]; (first | omega | (simp only [List.length_append, List.length_nil, List.length_cons, List.length_take, List.length_drop] at *; omega) | (have n_ := lc_nums (Decidable.not_not.1 ‹¬ ¬ lCheck d0 = 0›); first | omega | (have q_ := lc_hello (Decidable.not_not.1 ‹¬ ¬ lCheck d0 = 0›) (by assumption); omega) | (have q_ := start_of (Decidable.not_not.1 ‹¬ ¬ lCheck d0 = 0›) (by assumption) ‹d0.2.2.2.2.1[k]? = some _›; omega) | (have q_ := ship_nums (Decidable.not_not.1 ‹¬ ¬ lCheck d0 = 0›) (by assumption); omega) | (have q_ := (lc_ack (Decidable.not_not.1 ‹¬ ¬ lCheck d0 = 0›) (by omega) (by omega)).1.1; omega) | (have q_ := cEnc_len (comm_of (Decidable.not_not.1 ‹¬ ¬ lCheck d0 = 0›) (by assumption) ‹d0.2.2.2.2.2.2.2[k]? = some _›); simp only [cEncode_is (comm_of (Decidable.not_not.1 ‹¬ ¬ lCheck d0 = 0›) (by assumption) ‹d0.2.2.2.2.2.2.2[k]? = some _›)] at *; omega) | (simp only [List.length_append, List.length_cons, List.length_nil] at *; omega)))⟩) (All2c.cons (c1 := [Value.int .i64 (d0.2.2.2.1)]) (show Rd (.int .i64) _ [_] _ from ⟨rfl, by simp only [inK]; (first | omega | (simp only [List.length_append, List.length_nil, List.length_cons, List.length_take, List.length_drop] at *; omega) | (have n_ := lc_nums (Decidable.not_not.1 ‹¬ ¬ lCheck d0 = 0›); first | omega | (have q_ := lc_hello (Decidable.not_not.1 ‹¬ ¬ lCheck d0 = 0›) (by assumption); omega) | (have q_ := start_of (Decidable.not_not.1 ‹¬ ¬ lCheck d0 = 0›) (by assumption) ‹d0.2.2.2.2.1[k]? = some _›; omega) | (have q_ := ship_nums (Decidable.not_not.1 ‹¬ ¬ lCheck d0 = 0›) (by assumption); omega) | (have q_ := (lc_ack (Decidable.not_not.1 ‹¬ ¬ lCheck d0 = 0›) (by omega) (by omega)).1.1; omega) | (have q_ := cEnc_len (comm_of (Decidable.not_not.1 ‹¬ ¬ lCheck d0 = 0›) (by assumption) ‹d0.2.2.2.2.2.2.2[k]? = some _›); simp only [cEncode_is (comm_of (Decidable.not_not.1 ‹¬ ¬ lCheck d0 = 0›) (by assumption) ‹d0.2.2.2.2.2.2.2[k]? = some _›)] at *; omega) | (simp only [List.length_append, List.length_cons, List.length_nil] at *; omega)))⟩) (All2c.cons (c1 := [Value.int .i64 (((d0.2.2.2.2.1.length : Nat) : Int))]) (show Rd (.int .i64) _ [_] _ from ⟨rfl, by simp only [inK]; (first | omega | (simp only [List.length_append, List.length_nil, List.length_cons, List.length_take, List.length_drop] at *; omega) | (have n_ := lc_nums (Decidable.not_not.1 ‹¬ ¬ lCheck d0 = 0›); first | omega | (have q_ := lc_hello (Decidable.not_not.1 ‹¬ ¬ lCheck d0 = 0›) (by assumption); omega) | (have q_ := start_of (Decidable.not_not.1 ‹¬ ¬ lCheck d0 = 0›) (by assumption) ‹d0.2.2.2.2.1[k]? = some _›; omega) | (have q_ := ship_nums (Decidable.not_not.1 ‹¬ ¬ lCheck d0 = 0›) (by assumption); omega) | (have q_ := (lc_ack (Decidable.not_not.1 ‹¬ ¬ lCheck d0 = 0›) (by omega) (by omega)).1.1; omega) | (have q_ := cEnc_len (comm_of (Decidable.not_not.1 ‹¬ ¬ lCheck d0 = 0›) (by assumption) ‹d0.2.2.2.2.2.2.2[k]? = some _›); simp only [cEncode_is (comm_of (Decidable.not_not.1 ‹¬ ¬ lCheck d0 = 0›) (by assumption) ‹d0.2.2.2.2.2.2.2[k]? = some _›)] at *; omega) | (simp only [List.length_append, List.length_cons, List.length_nil] at *; omega)))⟩) All2c.nil))) rfl rfl
      refine VO.callV 112 rfl rfl fnOk31 rfl rfl (fun W hW => lput_ok W (hW.at (i := 112) rfl) (OwnL.rd ho18 (hW.out (i := 112) (j := 116) rfl rfl) (mle_nil _)) w10_1 (by intro x_ hx_; simp only [List.mem_cons, List.not_mem_nil, or_false] at hx_; have n_ := lc_nums (Decidable.not_not.1 ‹¬ ¬ lCheck d0 = 0›); first | omega | (have q_ := lc_hello (Decidable.not_not.1 ‹¬ ¬ lCheck d0 = 0›) (by assumption); omega) | (have q_ := start_of (Decidable.not_not.1 ‹¬ ¬ lCheck d0 = 0›) (by assumption) ‹d0.2.2.2.2.1[k]? = some _›; omega) | (have q_ := ship_nums (Decidable.not_not.1 ‹¬ ¬ lCheck d0 = 0›) (by assumption); omega) | (have q_ := (lc_ack (Decidable.not_not.1 ‹¬ ¬ lCheck d0 = 0›) (by omega) (by omega)).1.1; omega) | (have q_ := cEnc_len (comm_of (Decidable.not_not.1 ‹¬ ¬ lCheck d0 = 0›) (by assumption) ‹d0.2.2.2.2.2.2.2[k]? = some _›); simp only [cEncode_is (comm_of (Decidable.not_not.1 ‹¬ ¬ lCheck d0 = 0›) (by assumption) ‹d0.2.2.2.2.2.2.2[k]? = some _›)] at *; omega) | (simp only [List.length_append, List.length_cons, List.length_nil] at *; omega)) (by first | omega | (simp only [List.length_append, List.length_nil, List.length_cons, List.length_take, List.length_drop] at *; omega) | (have n_ := lc_nums (Decidable.not_not.1 ‹¬ ¬ lCheck d0 = 0›); first | omega | (have q_ := lc_hello (Decidable.not_not.1 ‹¬ ¬ lCheck d0 = 0›) (by assumption); omega) | (have q_ := start_of (Decidable.not_not.1 ‹¬ ¬ lCheck d0 = 0›) (by assumption) ‹d0.2.2.2.2.1[k]? = some _›; omega) | (have q_ := ship_nums (Decidable.not_not.1 ‹¬ ¬ lCheck d0 = 0›) (by assumption); omega) | (have q_ := (lc_ack (Decidable.not_not.1 ‹¬ ¬ lCheck d0 = 0›) (by omega) (by omega)).1.1; omega) | (have q_ := cEnc_len (comm_of (Decidable.not_not.1 ‹¬ ¬ lCheck d0 = 0›) (by assumption) ‹d0.2.2.2.2.2.2.2[k]? = some _›); simp only [cEncode_is (comm_of (Decidable.not_not.1 ‹¬ ¬ lCheck d0 = 0›) (by assumption) ‹d0.2.2.2.2.2.2.2[k]? = some _›)] at *; omega) | (simp only [List.length_append, List.length_cons, List.length_nil] at *; omega)))) (fun v17 m17 hv17 => ?_)
      obtain ⟨rfl, w17_1⟩ := hv17
      have hfa19 := (putAll_len (l := ([d0.2.2.1, d0.2.2.2.1, ((d0.2.2.2.2.1.length : Nat) : Int)])) (by intro x_ hx_; simp only [List.mem_cons, List.not_mem_nil, or_false] at hx_; omega))
      refine VO.keep [112, 102, 0] [(112, m17), (102, mone g1 (.cells [Value.int .i64 (d0.1), Value.int .i64 (d0.2.1), Value.int .u8 (d0.2.2.1), Value.int .i64 (d0.2.2.2.1), Value.slice p0_A4 (d0.2.2.2.2.1.length) (p0_c4), Value.int .i64 (d0.2.2.2.2.2.1), Value.int .i64 (d0.2.2.2.2.2.2.1), Value.slice p0_A7 (d0.2.2.2.2.2.2.2.length) (p0_c7)].toArray 26 (0, 0))), (0, wm W)] (by kernel_rfl) ?_
      refine VO.k10 0 1 2 3 4 5 6 16 27 28 ?_
      refine VC.rs ?_
      refine VO.y rfl (.fa rfl tst26 rfl) ?_
      refine VO.y rfl (.ld1 102 rfl tk23 rfl (cellsAt_one rfl rfl)) ?_
      refine VO.y rfl (.lenS rfl tsl23) ?_
      refine VO.mv ?_
      refine VO.k13 0 1 2 3 4 5 6 16 27 28 42 43 44 ?_
      refine VC.block ?_
      refine VC.loop (G := Nat × DBuf × Mem) (fun g => [(44, Value.int .i64 ((((g.1) : Nat) : Int))), (0, Value.agg [Value.int .i64 (d0.1), Value.int .i64 (d0.2.1), Value.int .u8 (d0.2.2.1), Value.int .i64 (d0.2.2.2.1), Value.slice p0_A4 (d0.2.2.2.2.1.length) (p0_c4), Value.int .i64 (d0.2.2.2.2.2.1), Value.int .i64 (d0.2.2.2.2.2.2.1), Value.slice p0_A7 (d0.2.2.2.2.2.2.2.length) (p0_c7)].toArray), (1, Value.pointer (some ⟨g1, 0, none⟩)), (2, Value.slice none (0) (0)), (3, Value.int .i64 (0)), (4, Value.int .i64 (lCheck d0)), (5, Value.pointer (some ⟨g6, 0, none⟩)), (6, Value.func (.func 31) #[] #[Value.pointer (some ⟨g6, 0, none⟩)]), (16, Value.bool (decide (¬ (lCheck d0) = 0))), (27, Value.int .i64 (d0.1)), (28, Value.bool (decide (d0.1 = 1))), (42, Value.slice p0_A4 (d0.2.2.2.2.1.length) (p0_c4)), (43, Value.int .i64 (((d0.2.2.2.2.1.length : Nat) : Int)))]) (fun g => [(112, (g.2.2)), (102, mone g1 (.cells [Value.int .i64 (d0.1), Value.int .i64 (d0.2.1), Value.int .u8 (d0.2.2.1), Value.int .i64 (d0.2.2.2.1), Value.slice p0_A4 (d0.2.2.2.2.1.length) (p0_c4), Value.int .i64 (d0.2.2.2.2.2.1), Value.int .i64 (d0.2.2.2.2.2.2.1), Value.slice p0_A7 (d0.2.2.2.2.2.2.2.length) (p0_c7)].toArray 26 (0, 0))), (0, wm W)]) (fun g => ((g.1) ≤ d0.2.2.2.2.1.length) ∧ ((g.2.1) = lHd d0 ++ sEnc (d0.2.2.2.2.1.take (g.1))) ∧ (Ow (.ptr TBuf) (g.2.2) [.pointer (some ⟨g6, 0, none⟩)] (g6, (g.2.1)))) (fun g => d0.2.2.2.2.1.length - (g.1)) (0, ([] ++ putAll ([d0.1, d0.2.1])) ++ putAll ([d0.2.2.1, d0.2.2.2.1, ((d0.2.2.2.2.1.length : Nat) : Int)]), m17) (⟨by omega, by (simp [putAll, lHd, sEnc]), w17_1⟩) ⟨⟨rfl, rfl, rfl, rfl, rfl, rfl, rfl, rfl, rfl, rfl, rfl, rfl, rfl, trivial⟩, fun _ h => h.sub [112, 102, 0]⟩ ?_
      rintro ⟨k, b, b_m⟩ ⟨hk, hb, h_b⟩
      replace hk : k ≤ d0.2.2.2.2.1.length := hk
      replace hb : b = lHd d0 ++ sEnc (d0.2.2.2.2.1.take k) := hb
      replace h_b : Ow (.ptr TBuf) b_m [.pointer (some ⟨g6, 0, none⟩)] (g6, b) := h_b
      show VC _ _ _ _ _ [(44, Value.int .i64 (((k : Nat) : Int))), (0, Value.agg [Value.int .i64 (d0.1), Value.int .i64 (d0.2.1), Value.int .u8 (d0.2.2.1), Value.int .i64 (d0.2.2.2.1), Value.slice p0_A4 (d0.2.2.2.2.1.length) (p0_c4), Value.int .i64 (d0.2.2.2.2.2.1), Value.int .i64 (d0.2.2.2.2.2.2.1), Value.slice p0_A7 (d0.2.2.2.2.2.2.2.length) (p0_c7)].toArray), (1, Value.pointer (some ⟨g1, 0, none⟩)), (2, Value.slice none (0) (0)), (3, Value.int .i64 (0)), (4, Value.int .i64 (lCheck d0)), (5, Value.pointer (some ⟨g6, 0, none⟩)), (6, Value.func (.func 31) #[] #[Value.pointer (some ⟨g6, 0, none⟩)]), (16, Value.bool (decide (¬ (lCheck d0) = 0))), (27, Value.int .i64 (d0.1)), (28, Value.bool (decide (d0.1 = 1))), (42, Value.slice p0_A4 (d0.2.2.2.2.1.length) (p0_c4)), (43, Value.int .i64 (((d0.2.2.2.2.1.length : Nat) : Int)))] [(112, b_m), (102, mone g1 (.cells [Value.int .i64 (d0.1), Value.int .i64 (d0.2.1), Value.int .u8 (d0.2.2.1), Value.int .i64 (d0.2.2.2.1), Value.slice p0_A4 (d0.2.2.2.2.1.length) (p0_c4), Value.int .i64 (d0.2.2.2.2.2.1), Value.int .i64 (d0.2.2.2.2.2.2.1), Value.slice p0_A7 (d0.2.2.2.2.2.2.2.length) (p0_c7)].toArray 26 (0, 0))), (0, wm W)]
      have hlb := hd_room (Decidable.not_not.1 ‹¬ ¬ lCheck d0 = 0›) (by assumption) hb
      have hln := (lc_hello (Decidable.not_not.1 ‹¬ ¬ lCheck d0 = 0›) (by assumption)).2.2.1
      refine VC.rs ?_
      refine VO.y rfl (.lss rfl rfl) ?_
      refine VO.k14 0 1 2 3 4 5 6 16 27 28 42 43 44 45 ?_
      refine VC.seq ?_
      refine VC.cond rfl (fun hc20 => ?_) (fun hc20 => ?_)
      · -- FTT
        refine VC.skip ?_
        refine outN ?_
        refine VC.seq ?_
        refine VC.block ?_
        refine VC.rs ?_
        obtain ⟨x21, hx21⟩ : ∃ z_, (d0.2.2.2.2.1)[k]? = some z_ := ⟨_, List.getElem?_eq_getElem (by first | omega | (simp only [List.length_append, List.length_nil, List.length_cons, List.length_take, List.length_drop] at *; omega) | (have n_ := lc_nums (Decidable.not_not.1 ‹¬ ¬ lCheck d0 = 0›); first | omega | (have q_ := lc_hello (Decidable.not_not.1 ‹¬ ¬ lCheck d0 = 0›) (by assumption); omega) | (have q_ := start_of (Decidable.not_not.1 ‹¬ ¬ lCheck d0 = 0›) (by assumption) ‹d0.2.2.2.2.1[k]? = some _›; omega) | (have q_ := ship_nums (Decidable.not_not.1 ‹¬ ¬ lCheck d0 = 0›) (by assumption); omega) | (have q_ := (lc_ack (Decidable.not_not.1 ‹¬ ¬ lCheck d0 = 0›) (by omega) (by omega)).1.1; omega) | (have q_ := cEnc_len (comm_of (Decidable.not_not.1 ‹¬ ¬ lCheck d0 = 0›) (by assumption) ‹d0.2.2.2.2.2.2.2[k]? = some _›); simp only [cEncode_is (comm_of (Decidable.not_not.1 ‹¬ ¬ lCheck d0 = 0›) (by assumption) ‹d0.2.2.2.2.2.2.2[k]? = some _›)] at *; omega) | (simp only [List.length_append, List.length_cons, List.length_nil] at *; omega)))⟩
        obtain ⟨gg21, oo21, ec21, ea21, hce21, hre21⟩ := p0_4.elem hx21
        cases ea21
        obtain ⟨rfl, q21_0, q21_1⟩ := open_Start (x0 := x21.1) (x1 := x21.2) hre21
        simp only [inK] at q21_0
        simp only [inK] at q21_1
        refine VO.y rfl (.ixI k rfl rfl tsl23 rfl (by first | omega | (simp only [List.length_append, List.length_nil, List.length_cons, List.length_take, List.length_drop] at *; omega) | (have n_ := lc_nums (Decidable.not_not.1 ‹¬ ¬ lCheck d0 = 0›); first | omega | (have q_ := lc_hello (Decidable.not_not.1 ‹¬ ¬ lCheck d0 = 0›) (by assumption); omega) | (have q_ := start_of (Decidable.not_not.1 ‹¬ ¬ lCheck d0 = 0›) (by assumption) ‹d0.2.2.2.2.1[k]? = some _›; omega) | (have q_ := ship_nums (Decidable.not_not.1 ‹¬ ¬ lCheck d0 = 0›) (by assumption); omega) | (have q_ := (lc_ack (Decidable.not_not.1 ‹¬ ¬ lCheck d0 = 0›) (by omega) (by omega)).1.1; omega) | (have q_ := cEnc_len (comm_of (Decidable.not_not.1 ‹¬ ¬ lCheck d0 = 0›) (by assumption) ‹d0.2.2.2.2.2.2.2[k]? = some _›); simp only [cEncode_is (comm_of (Decidable.not_not.1 ‹¬ ¬ lCheck d0 = 0›) (by assumption) ‹d0.2.2.2.2.2.2.2[k]? = some _›)] at *; omega) | (simp only [List.length_append, List.length_cons, List.length_nil] at *; omega)))) ?_
        refine VO.y rfl (.ldA 0 rfl tk57 rfl hce21) ?_
        refine VO.alloc 123 rfl tz57 (fun g22 => ?_)
        refine VO.store (k := 2) (c' := [Value.int .i64 (x21.1), Value.int .i64 (x21.2)]) 123 rfl rfl (.inl tk57) rfl rfl rfl rfl rfl ?_
        refine VO.keep [123, 112, 102, 0] [(123, mone g22 (.cells [Value.int .i64 (x21.1), Value.int .i64 (x21.2)].toArray 57 (0, 0))), (112, b_m), (102, mone g1 (.cells [Value.int .i64 (d0.1), Value.int .i64 (d0.2.1), Value.int .u8 (d0.2.2.1), Value.int .i64 (d0.2.2.2.1), Value.slice (some ⟨gg21, oo21, none⟩) (d0.2.2.2.2.1.length) (p0_c4), Value.int .i64 (d0.2.2.2.2.2.1), Value.int .i64 (d0.2.2.2.2.2.2.1), Value.slice p0_A7 (d0.2.2.2.2.2.2.2.length) (p0_c7)].toArray 26 (0, 0))), (0, wm W)] (by kernel_rfl) ?_
        refine VO.k15 0 1 2 3 4 5 6 8 16 27 28 42 43 44 45 ?_
        refine VC.reg ?_
        refine VO.mv ?_
        refine VO.y rfl (.fa rfl tst57 rfl) ?_
        refine VO.y rfl (.ld1 123 rfl tk3 rfl (cellsAt_one rfl rfl)) ?_
        refine VO.y rfl (.fa rfl tst57 rfl) ?_
        refine VO.y rfl (.ld1 123 rfl tk3 rfl (cellsAt_one rfl rfl)) ?_
        refine VO.bsl (cs := [Value.int .i64 (x21.1), Value.int .i64 (x21.2)]) 125 rfl rfl tsl60 tz3 rfl rfl (fun g24 => ?_)
        have ho27 : OwnL (.int .i64) (mone g24 (.cells [Value.int .i64 (x21.1), Value.int .i64 (x21.2)].toArray 3 (0, 0))) mnil (Value.slice (some ⟨g24, 0, none⟩) (2) (2)) [x21.1, x21.2] := OwnL.lit 2 (All2c.cons (c1 := [Value.int .i64 (x21.1)]) (show Rd (.int .i64) _ [_] _ from ⟨rfl, by simp only [inK]; (first | omega | (simp only [List.length_append, List.length_nil, List.length_cons, List.length_take, List.length_drop] at *; omega) | (have n_ := lc_nums (Decidable.not_not.1 ‹¬ ¬ lCheck d0 = 0›); first | omega | (have q_ := lc_hello (Decidable.not_not.1 ‹¬ ¬ lCheck d0 = 0›) (by assumption); omega) | (have q_ := start_of (Decidable.not_not.1 ‹¬ ¬ lCheck d0 = 0›) (by assumption) ‹d0.2.2.2.2.1[k]? = some _›; omega) | (have q_ := ship_nums (Decidable.not_not.1 ‹¬ ¬ lCheck d0 = 0›) (by assumption); omega) | (have q_ := (lc_ack (Decidable.not_not.1 ‹¬ ¬ lCheck d0 = 0›) (by omega) (by omega)).1.1; omega) | (have q_ := cEnc_len (comm_of (Decidable.not_not.1 ‹¬ ¬ lCheck d0 = 0›) (by assumption) ‹d0.2.2.2.2.2.2.2[k]? = some _›); simp only [cEncode_is (comm_of (Decidable.not_not.1 ‹¬ ¬ lCheck d0 = 0›) (by assumption) ‹d0.2.2.2.2.2.2.2[k]? = some _›)] at *; omega) | (simp only [List.length_append, List.length_cons, List.length_nil] at *; omega)))⟩) (All2c.cons (c1 := [Value.int .i64 (x21.2)]) (show Rd (.int .i64) _ [_] _ from ⟨rfl, by simp only [inK]; (first | omega | (simp only [List.length_append, List.length_nil, List.length_cons, List.length_take, List.length_drop] at *; omega) | (have n_ := lc_nums (Decidable.not_not.1 ‹¬ ¬ lCheck d0 = 0›); first | omega | (have q_ := lc_hello (Decidable.not_not.1 ‹¬ ¬ lCheck d0 = 0›) (by assumption); omega) | (have q_ := start_of (Decidable.not_not.1 ‹¬ ¬ lCheck d0 = 0›) (by assumption) ‹d0.2.2.2.2.1[k]? = some _›; omega) | (have q_ := ship_nums (Decidable.not_not.1 ‹¬ ¬ lCheck d0 = 0›) (by assumption); omega) | (have q_ := (lc_ack (Decidable.not_not.1 ‹¬ ¬ lCheck d0 = 0›) (by omega) (by omega)).1.1; omega) | (have q_ := cEnc_len (comm_of (Decidable.not_not.1 ‹¬ ¬ lCheck d0 = 0›) (by assumption) ‹d0.2.2.2.2.2.2.2[k]? = some _›); simp only [cEncode_is (comm_of (Decidable.not_not.1 ‹¬ ¬ lCheck d0 = 0›) (by assumption) ‹d0.2.2.2.2.2.2.2[k]? = some _›)] at *; omega) | (simp only [List.length_append, List.length_cons, List.length_nil] at *; omega)))⟩) All2c.nil)) rfl rfl
        refine VO.callV 112 rfl rfl fnOk31 rfl rfl (fun W hW => lput_ok W (hW.at (i := 112) rfl) (OwnL.rd ho27 (hW.out (i := 112) (j := 125) rfl rfl) (mle_nil _)) h_b (by intro x_ hx_; simp only [List.mem_cons, List.not_mem_nil, or_false] at hx_; have n_ := lc_nums (Decidable.not_not.1 ‹¬ ¬ lCheck d0 = 0›); first | omega | (have q_ := lc_hello (Decidable.not_not.1 ‹¬ ¬ lCheck d0 = 0›) (by assumption); omega) | (have q_ := start_of (Decidable.not_not.1 ‹¬ ¬ lCheck d0 = 0›) (by assumption) ‹d0.2.2.2.2.1[k]? = some _›; omega) | (have q_ := ship_nums (Decidable.not_not.1 ‹¬ ¬ lCheck d0 = 0›) (by assumption); omega) | (have q_ := (lc_ack (Decidable.not_not.1 ‹¬ ¬ lCheck d0 = 0›) (by omega) (by omega)).1.1; omega) | (have q_ := cEnc_len (comm_of (Decidable.not_not.1 ‹¬ ¬ lCheck d0 = 0›) (by assumption) ‹d0.2.2.2.2.2.2.2[k]? = some _›); simp only [cEncode_is (comm_of (Decidable.not_not.1 ‹¬ ¬ lCheck d0 = 0›) (by assumption) ‹d0.2.2.2.2.2.2.2[k]? = some _›)] at *; omega) | (simp only [List.length_append, List.length_cons, List.length_nil] at *; omega)) (by first | omega | (simp only [List.length_append, List.length_nil, List.length_cons, List.length_take, List.length_drop] at *; omega) | (have n_ := lc_nums (Decidable.not_not.1 ‹¬ ¬ lCheck d0 = 0›); first | omega | (have q_ := lc_hello (Decidable.not_not.1 ‹¬ ¬ lCheck d0 = 0›) (by assumption); omega) | (have q_ := start_of (Decidable.not_not.1 ‹¬ ¬ lCheck d0 = 0›) (by assumption) ‹d0.2.2.2.2.1[k]? = some _›; omega) | (have q_ := ship_nums (Decidable.not_not.1 ‹¬ ¬ lCheck d0 = 0›) (by assumption); omega) | (have q_ := (lc_ack (Decidable.not_not.1 ‹¬ ¬ lCheck d0 = 0›) (by omega) (by omega)).1.1; omega) | (have q_ := cEnc_len (comm_of (Decidable.not_not.1 ‹¬ ¬ lCheck d0 = 0›) (by assumption) ‹d0.2.2.2.2.2.2.2[k]? = some _›); simp only [cEncode_is (comm_of (Decidable.not_not.1 ‹¬ ¬ lCheck d0 = 0›) (by assumption) ‹d0.2.2.2.2.2.2.2[k]? = some _›)] at *; omega) | (simp only [List.length_append, List.length_cons, List.length_nil] at *; omega)))) (fun v26 m26 hv26 => ?_)
        obtain ⟨rfl, w26_1⟩ := hv26
        have hfa28 := (putAll_len (l := ([x21.1, x21.2])) (by intro x_ hx_; simp only [List.mem_cons, List.not_mem_nil, or_false] at hx_; omega))
        refine VO.k15 0 1 2 3 4 5 6 8 16 27 28 42 43 44 45 ?_
        refine outBN ?_
        refine outN ?_
        refine VC.reg ?_
        refine VO.y rfl (.add (c := ((k + 1 : Nat) : Int)) rfl rfl (by omega) ⟨by first | omega | (simp only [List.length_append, List.length_nil, List.length_cons, List.length_take, List.length_drop] at *; omega) | (have n_ := lc_nums (Decidable.not_not.1 ‹¬ ¬ lCheck d0 = 0›); first | omega | (have q_ := lc_hello (Decidable.not_not.1 ‹¬ ¬ lCheck d0 = 0›) (by assumption); omega) | (have q_ := start_of (Decidable.not_not.1 ‹¬ ¬ lCheck d0 = 0›) (by assumption) ‹d0.2.2.2.2.1[k]? = some _›; omega) | (have q_ := ship_nums (Decidable.not_not.1 ‹¬ ¬ lCheck d0 = 0›) (by assumption); omega) | (have q_ := (lc_ack (Decidable.not_not.1 ‹¬ ¬ lCheck d0 = 0›) (by omega) (by omega)).1.1; omega) | (have q_ := cEnc_len (comm_of (Decidable.not_not.1 ‹¬ ¬ lCheck d0 = 0›) (by assumption) ‹d0.2.2.2.2.2.2.2[k]? = some _›); simp only [cEncode_is (comm_of (Decidable.not_not.1 ‹¬ ¬ lCheck d0 = 0›) (by assumption) ‹d0.2.2.2.2.2.2.2[k]? = some _›)] at *; omega) | (simp only [List.length_append, List.length_cons, List.length_nil] at *; omega)), by first | omega | (simp only [List.length_append, List.length_nil, List.length_cons, List.length_take, List.length_drop] at *; omega) | (have n_ := lc_nums (Decidable.not_not.1 ‹¬ ¬ lCheck d0 = 0›); first | omega | (have q_ := lc_hello (Decidable.not_not.1 ‹¬ ¬ lCheck d0 = 0›) (by assumption); omega) | (have q_ := start_of (Decidable.not_not.1 ‹¬ ¬ lCheck d0 = 0›) (by assumption) ‹d0.2.2.2.2.1[k]? = some _›; omega) | (have q_ := ship_nums (Decidable.not_not.1 ‹¬ ¬ lCheck d0 = 0›) (by assumption); omega) | (have q_ := (lc_ack (Decidable.not_not.1 ‹¬ ¬ lCheck d0 = 0›) (by omega) (by omega)).1.1; omega) | (have q_ := cEnc_len (comm_of (Decidable.not_not.1 ‹¬ ¬ lCheck d0 = 0›) (by assumption) ‹d0.2.2.2.2.2.2.2[k]? = some _›); simp only [cEncode_is (comm_of (Decidable.not_not.1 ‹¬ ¬ lCheck d0 = 0›) (by assumption) ‹d0.2.2.2.2.2.2.2[k]? = some _›)] at *; omega) | (simp only [List.length_append, List.length_cons, List.length_nil] at *; omega))⟩) ?_
        refine VO.mv ?_
        refine VO.k15 0 1 2 3 4 5 6 8 16 27 28 42 43 44 45 ?_
        exact outN ⟨⟨k + 1, b ++ putAll ([x21.1, x21.2]), m26⟩, ⟨by omega, by (rw [hb, take_one ‹d0.2.2.2.2.1[k]? = some _›, sEnc_app]; simp [putAll, sEnc]), w26_1⟩, by first | omega | (simp only [List.length_append, List.length_nil, List.length_cons, List.length_take, List.length_drop] at *; omega) | (have n_ := lc_nums (Decidable.not_not.1 ‹¬ ¬ lCheck d0 = 0›); first | omega | (have q_ := lc_hello (Decidable.not_not.1 ‹¬ ¬ lCheck d0 = 0›) (by assumption); omega) | (have q_ := start_of (Decidable.not_not.1 ‹¬ ¬ lCheck d0 = 0›) (by assumption) ‹d0.2.2.2.2.1[k]? = some _›; omega) | (have q_ := ship_nums (Decidable.not_not.1 ‹¬ ¬ lCheck d0 = 0›) (by assumption); omega) | (have q_ := (lc_ack (Decidable.not_not.1 ‹¬ ¬ lCheck d0 = 0›) (by omega) (by omega)).1.1; omega) | (have q_ := cEnc_len (comm_of (Decidable.not_not.1 ‹¬ ¬ lCheck d0 = 0›) (by assumption) ‹d0.2.2.2.2.2.2.2[k]? = some _›); simp only [cEncode_is (comm_of (Decidable.not_not.1 ‹¬ ¬ lCheck d0 = 0›) (by assumption) ‹d0.2.2.2.2.2.2.2[k]? = some _›)] at *; omega) | (simp only [List.length_append, List.length_cons, List.length_nil] at *; omega)), ⟨⟨rfl, rfl, rfl, rfl, rfl, rfl, rfl, rfl, rfl, rfl, rfl, rfl, rfl, trivial⟩, fun _ h => Inv.sub h [112, 102, 0]⟩⟩
      · -- FTF
        refine VC.exit ?_
        refine outE ?_
        refine outE ?_
        refine outBB ?_
        refine outBN ?_
        refine outN ?_
        refine VC.rs ?_
        obtain ⟨q29_E, q29_A0, q29_c0, q29_n0, _, q29_S, q29_0⟩ := openP_Buf (x0 := b) h_b
        have q29_r0 := Rd.room (q29_0.rd (mle_refl _))
        refine VO.inv _ (fun _ h => h.parts (i := 112) rfl q29_S [131, 130]) ?_
        refine VO.y rfl (.ld1 131 rfl tk30 rfl (cellsAt_one rfl rfl)) ?_
        refine VO.as ?_
        refine VO.as ?_
        refine VO.keep [131, 130, 102, 0] [(131, mone g6 (.cells [Value.slice q29_A0 (b.length) (q29_c0)].toArray q29_E (0, 0))), (130, q29_n0), (102, mone g1 (.cells [Value.int .i64 (d0.1), Value.int .i64 (d0.2.1), Value.int .u8 (d0.2.2.1), Value.int .i64 (d0.2.2.2.1), Value.slice p0_A4 (d0.2.2.2.2.1.length) (p0_c4), Value.int .i64 (d0.2.2.2.2.2.1), Value.int .i64 (d0.2.2.2.2.2.2.1), Value.slice p0_A7 (d0.2.2.2.2.2.2.2.length) (p0_c7)].toArray 26 (0, 0))), (0, wm W)] (by kernel_rfl) ?_
        refine VO.k14 0 1 2 3 4 5 6 16 27 28 42 43 44 45 ?_
        refine VC.ret ?_
        refine ⟨_, _, res_run (rs := [.tmp 2, .tmp 3]) rfl (.tmp rfl (.tmp rfl .nil)), fun W_ hI => out_of (l := [q29_n0]) hI [130] rfl rfl (mle_refl _) (fun hS_ => ?_)⟩
        dsimp only [packV]
        have he0 : ((lEncode d0).1 : Ty.Den (.sl .byte)) = b := by first | rfl | (first | (rw [lEncode_bad (by assumption)]; done) | (rw [lEncode_hello (Decidable.not_not.1 ‹¬ ¬ lCheck d0 = 0›) (by assumption), hb, List.take_of_length_le (by omega)]; done) | (rw [lEncode_ship (Decidable.not_not.1 ‹¬ ¬ lCheck d0 = 0›) (by assumption) (by assumption), hb, List.take_of_length_le (by omega)]; done) | (rw [lEncode_ack (Decidable.not_not.1 ‹¬ ¬ lCheck d0 = 0›) (by omega) (by omega)]; simp [putAll]; done))
        refine ⟨Value.slice q29_A0 (b.length) (q29_c0), ?_, ?_⟩
        rotate_left
        · rw [he0]; exact (Ow.up (OwnL.ow (Ow.ownl q29_0 rfl mnil) rfl) (hS_.1 _ (.head _)))
        all_goals (first | rfl | (first | (rw [lEncode_bad (by assumption)] <;> rfl) | (rw [lEncode_hello (Decidable.not_not.1 ‹¬ ¬ lCheck d0 = 0›) (by assumption)] <;> rfl) | (rw [lEncode_ship (Decidable.not_not.1 ‹¬ ¬ lCheck d0 = 0›) (by assumption) (by assumption)] <;> rfl) | (rw [lEncode_ack (Decidable.not_not.1 ‹¬ ¬ lCheck d0 = 0›) (by omega) (by omega)] <;> rfl)))
    · -- FF
      refine VC.rs ?_
      refine VO.y rfl (.eql rfl rfl) ?_
      refine VO.as ?_
      refine VO.keep [112, 102, 0] [(112, m10), (102, mone g1 (.cells [Value.int .i64 (d0.1), Value.int .i64 (d0.2.1), Value.int .u8 (d0.2.2.1), Value.int .i64 (d0.2.2.2.1), Value.slice p0_A4 (d0.2.2.2.2.1.length) (p0_c4), Value.int .i64 (d0.2.2.2.2.2.1), Value.int .i64 (d0.2.2.2.2.2.2.1), Value.slice p0_A7 (d0.2.2.2.2.2.2.2.length) (p0_c7)].toArray 26 (0, 0))), (0, wm W)] (by kernel_rfl) ?_
      refine VO.k11 0 1 2 3 4 5 6 16 27 28 56 ?_
      refine VC.cond rfl (fun hc32 => ?_) (fun hc32 => ?_)
      · -- FFT
        refine VC.rs ?_
        refine VO.mv ?_
        refine VO.y rfl (.fa rfl tst26 rfl) ?_
        refine VO.y rfl (.ld1 102 rfl tk3 rfl (cellsAt_one rfl rfl)) ?_
        refine VO.y rfl (.fa rfl tst26 rfl) ?_
        refine VO.y rfl (.ld1 102 rfl tk3 rfl (cellsAt_one rfl rfl)) ?_
        refine VO.y rfl (.fa rfl tst26 rfl) ?_
        refine VO.y rfl (.ld1 102 rfl tk24 rfl (cellsAt_one rfl rfl)) ?_
        refine VO.y rfl (.lenS rfl tsl24) ?_
        refine VO.bsl (cs := [Value.int .i64 (d0.2.2.2.2.2.1), Value.int .i64 (d0.2.2.2.2.2.2.1), Value.int .i64 (((d0.2.2.2.2.2.2.2.length : Nat) : Int))]) 134 rfl rfl tsl60 tz3 rfl rfl (fun g33 => ?_)
        have ho36 : OwnL (.int .i64) (mone g33 (.cells [Value.int .i64 (d0.2.2.2.2.2.1), Value.int .i64 (d0.2.2.2.2.2.2.1), Value.int .i64 (((d0.2.2.2.2.2.2.2.length : Nat) : Int))].toArray 3 (0, 0))) mnil (Value.slice (some ⟨g33, 0, none⟩) (3) (3)) [d0.2.2.2.2.2.1, d0.2.2.2.2.2.2.1, ((d0.2.2.2.2.2.2.2.length : Nat) : Int)] := OwnL.lit 3 (All2c.cons (c1 := [Value.int .i64 (d0.2.2.2.2.2.1)]) (show Rd (.int .i64) _ [_] _ from ⟨rfl, by simp only [inK]; (first | omega | (simp only [List.length_append, List.length_nil, List.length_cons, List.length_take, List.length_drop] at *; omega) | (have n_ := lc_nums (Decidable.not_not.1 ‹¬ ¬ lCheck d0 = 0›); first | omega | (have q_ := lc_hello (Decidable.not_not.1 ‹¬ ¬ lCheck d0 = 0›) (by assumption); omega) | (have q_ := start_of (Decidable.not_not.1 ‹¬ ¬ lCheck d0 = 0›) (by assumption) ‹d0.2.2.2.2.1[k]? = some _›; omega) | (have q_ := ship_nums (Decidable.not_not.1 ‹¬ ¬ lCheck d0 = 0›) (by assumption); omega) | (have q_ := (lc_ack (Decidable.not_not.1 ‹¬ ¬ lCheck d0 = 0›) (by omega) (by omega)).1.1; omega) | (have q_ := cEnc_len (comm_of (Decidable.not_not.1 ‹¬ ¬ lCheck d0 = 0›) (by assumption) ‹d0.2.2.2.2.2.2.2[k]? = some _›); simp only [cEncode_is (comm_of (Decidable.not_not.1 ‹¬ ¬ lCheck d0 = 0›) (by assumption) ‹d0.2.2.2.2.2.2.2[k]? = some _›)] at *; omega) | (simp only [List.length_append, List.length_cons, List.length_nil] at *; omega)))⟩) (All2c.cons (c1 := [Value.int .i64 (d0.2.2.2.2.2.2.1)]) (show Rd (.int .i64) _ [_] _ from ⟨rfl, by simp only [inK]; (first | omega | (simp only [List.length_append, List.length_nil, List.length_cons, List.length_take, List.length_drop] at *; omega) | (have n_ := lc_nums (Decidable.not_not.1 ‹¬ ¬ lCheck d0 = 0›); first | omega | (have q_ := lc_hello (Decidable.not_not.1 ‹¬ ¬ lCheck d0 = 0›) (by assumption); omega) | (have q_ := start_of (Decidable.not_not.1 ‹¬ ¬ lCheck d0 = 0›) (by assumption) ‹d0.2.2.2.2.1[k]? = some _›; omega) | (have q_ := ship_nums (Decidable.not_not.1 ‹¬ ¬ lCheck d0 = 0›) (by assumption); omega) | (have q_ := (lc_ack (Decidable.not_not.1 ‹¬ ¬ lCheck d0 = 0›) (by omega) (by omega)).1.1; omega) | (have q_ := cEnc_len (comm_of (Decidable.not_not.1 ‹¬ ¬ lCheck d0 = 0›) (by assumption) ‹d0.2.2.2.2.2.2.2[k]? = some _›); simp only [cEncode_is (comm_of (Decidable.not_not.1 ‹¬ ¬ lCheck d0 = 0›) (by assumption) ‹d0.2.2.2.2.2.2.2[k]? = some _›)] at *; omega) | (simp only [List.length_append, List.length_cons, List.length_nil] at *; omega)))⟩) (All2c.cons (c1 := [Value.int .i64 (((d0.2.2.2.2.2.2.2.length : Nat) : Int))]) (show Rd (.int .i64) _ [_] _ from ⟨rfl, by simp only [inK]; (first | omega | (simp only [List.length_append, List.length_nil, List.length_cons, List.length_take, List.length_drop] at *; omega) | (have n_ := lc_nums (Decidable.not_not.1 ‹¬ ¬ lCheck d0 = 0›); first | omega | (have q_ := lc_hello (Decidable.not_not.1 ‹¬ ¬ lCheck d0 = 0›) (by assumption); omega) | (have q_ := start_of (Decidable.not_not.1 ‹¬ ¬ lCheck d0 = 0›) (by assumption) ‹d0.2.2.2.2.1[k]? = some _›; omega) | (have q_ := ship_nums (Decidable.not_not.1 ‹¬ ¬ lCheck d0 = 0›) (by assumption); omega) | (have q_ := (lc_ack (Decidable.not_not.1 ‹¬ ¬ lCheck d0 = 0›) (by omega) (by omega)).1.1; omega) | (have q_ := cEnc_len (comm_of (Decidable.not_not.1 ‹¬ ¬ lCheck d0 = 0›) (by assumption) ‹d0.2.2.2.2.2.2.2[k]? = some _›); simp only [cEncode_is (comm_of (Decidable.not_not.1 ‹¬ ¬ lCheck d0 = 0›) (by assumption) ‹d0.2.2.2.2.2.2.2[k]? = some _›)] at *; omega) | (simp only [List.length_append, List.length_cons, List.length_nil] at *; omega)))⟩) All2c.nil))) rfl rfl
        refine VO.callV 112 rfl rfl fnOk31 rfl rfl (fun W hW => lput_ok W (hW.at (i := 112) rfl) (OwnL.rd ho36 (hW.out (i := 112) (j := 134) rfl rfl) (mle_nil _)) w10_1 (by intro x_ hx_; simp only [List.mem_cons, List.not_mem_nil, or_false] at hx_; have n_ := lc_nums (Decidable.not_not.1 ‹¬ ¬ lCheck d0 = 0›); first | omega | (have q_ := lc_hello (Decidable.not_not.1 ‹¬ ¬ lCheck d0 = 0›) (by assumption); omega) | (have q_ := start_of (Decidable.not_not.1 ‹¬ ¬ lCheck d0 = 0›) (by assumption) ‹d0.2.2.2.2.1[k]? = some _›; omega) | (have q_ := ship_nums (Decidable.not_not.1 ‹¬ ¬ lCheck d0 = 0›) (by assumption); omega) | (have q_ := (lc_ack (Decidable.not_not.1 ‹¬ ¬ lCheck d0 = 0›) (by omega) (by omega)).1.1; omega) | (have q_ := cEnc_len (comm_of (Decidable.not_not.1 ‹¬ ¬ lCheck d0 = 0›) (by assumption) ‹d0.2.2.2.2.2.2.2[k]? = some _›); simp only [cEncode_is (comm_of (Decidable.not_not.1 ‹¬ ¬ lCheck d0 = 0›) (by assumption) ‹d0.2.2.2.2.2.2.2[k]? = some _›)] at *; omega) | (simp only [List.length_append, List.length_cons, List.length_nil] at *; omega)) (by first | omega | (simp only [List.length_append, List.length_nil, List.length_cons, List.length_take, List.length_drop] at *; omega) | (have n_ := lc_nums (Decidable.not_not.1 ‹¬ ¬ lCheck d0 = 0›); first | omega | (have q_ := lc_hello (Decidable.not_not.1 ‹¬ ¬ lCheck d0 = 0›) (by assumption); omega) | (have q_ := start_of (Decidable.not_not.1 ‹¬ ¬ lCheck d0 = 0›) (by assumption) ‹d0.2.2.2.2.1[k]? = some _›; omega) | (have q_ := ship_nums (Decidable.not_not.1 ‹¬ ¬ lCheck d0 = 0›) (by assumption); omega) | (have q_ := (lc_ack (Decidable.not_not.1 ‹¬ ¬ lCheck d0 = 0›) (by omega) (by omega)).1.1; omega) | (have q_ := cEnc_len (comm_of (Decidable.not_not.1 ‹¬ ¬ lCheck d0 = 0›) (by assumption) ‹d0.2.2.2.2.2.2.2[k]? = some _›); simp only [cEncode_is (comm_of (Decidable.not_not.1 ‹¬ ¬ lCheck d0 = 0›) (by assumption) ‹d0.2.2.2.2.2.2.2[k]? = some _›)] at *; omega) | (simp only [List.length_append, List.length_cons, List.length_nil] at *; omega)))) (fun v35 m35 hv35 => ?_)
        obtain ⟨rfl, w35_1⟩ := hv35
        have hfa37 := (putAll_len (l := ([d0.2.2.2.2.2.1, d0.2.2.2.2.2.2.1, ((d0.2.2.2.2.2.2.2.length : Nat) : Int)])) (by intro x_ hx_; simp only [List.mem_cons, List.not_mem_nil, or_false] at hx_; omega))
        refine VO.k11 0 1 2 3 4 5 6 16 27 28 56 ?_
        refine VC.rs ?_
        refine VO.y rfl (.fa rfl tst26 rfl) ?_
        refine VO.y rfl (.ld1 102 rfl tk24 rfl (cellsAt_one rfl rfl)) ?_
        refine VO.y rfl (.lenS rfl tsl24) ?_
        refine VO.mv ?_
        refine VO.k14 0 1 2 3 4 5 6 16 27 28 56 69 70 71 ?_
        refine VC.block ?_
        refine VC.loop (G := Nat × DBuf × Mem) (fun g => [(71, Value.int .i64 ((((g.1) : Nat) : Int))), (0, Value.agg [Value.int .i64 (d0.1), Value.int .i64 (d0.2.1), Value.int .u8 (d0.2.2.1), Value.int .i64 (d0.2.2.2.1), Value.slice p0_A4 (d0.2.2.2.2.1.length) (p0_c4), Value.int .i64 (d0.2.2.2.2.2.1), Value.int .i64 (d0.2.2.2.2.2.2.1), Value.slice p0_A7 (d0.2.2.2.2.2.2.2.length) (p0_c7)].toArray), (1, Value.pointer (some ⟨g1, 0, none⟩)), (2, Value.slice none (0) (0)), (3, Value.int .i64 (0)), (4, Value.int .i64 (lCheck d0)), (5, Value.pointer (some ⟨g6, 0, none⟩)), (6, Value.func (.func 31) #[] #[Value.pointer (some ⟨g6, 0, none⟩)]), (16, Value.bool (decide (¬ (lCheck d0) = 0))), (27, Value.int .i64 (d0.1)), (28, Value.bool (decide (d0.1 = 1))), (56, Value.bool (decide (d0.1 = 2))), (69, Value.slice p0_A7 (d0.2.2.2.2.2.2.2.length) (p0_c7)), (70, Value.int .i64 (((d0.2.2.2.2.2.2.2.length : Nat) : Int)))]) (fun g => [(112, (g.2.2)), (102, mone g1 (.cells [Value.int .i64 (d0.1), Value.int .i64 (d0.2.1), Value.int .u8 (d0.2.2.1), Value.int .i64 (d0.2.2.2.1), Value.slice p0_A4 (d0.2.2.2.2.1.length) (p0_c4), Value.int .i64 (d0.2.2.2.2.2.1), Value.int .i64 (d0.2.2.2.2.2.2.1), Value.slice p0_A7 (d0.2.2.2.2.2.2.2.length) (p0_c7)].toArray 26 (0, 0))), (0, wm W)]) (fun g => ((g.1) ≤ d0.2.2.2.2.2.2.2.length) ∧ ((g.2.1) = lHs d0 ++ csEnc (d0.2.2.2.2.2.2.2.take (g.1))) ∧ (Ow (.ptr TBuf) (g.2.2) [.pointer (some ⟨g6, 0, none⟩)] (g6, (g.2.1)))) (fun g => d0.2.2.2.2.2.2.2.length - (g.1)) (0, ([] ++ putAll ([d0.1, d0.2.1])) ++ putAll ([d0.2.2.2.2.2.1, d0.2.2.2.2.2.2.1, ((d0.2.2.2.2.2.2.2.length : Nat) : Int)]), m35) (⟨by omega, by (simp [putAll, lHs, csEnc]), w35_1⟩) ⟨⟨rfl, rfl, rfl, rfl, rfl, rfl, rfl, rfl, rfl, rfl, rfl, rfl, rfl, rfl, trivial⟩, fun _ h => h.sub [112, 102, 0]⟩ ?_
        rintro ⟨k, b, b_m⟩ ⟨hk, hb, h_b⟩
        replace hk : k ≤ d0.2.2.2.2.2.2.2.length := hk
        replace hb : b = lHs d0 ++ csEnc (d0.2.2.2.2.2.2.2.take k) := hb
        replace h_b : Ow (.ptr TBuf) b_m [.pointer (some ⟨g6, 0, none⟩)] (g6, b) := h_b
        show VC _ _ _ _ _ [(71, Value.int .i64 (((k : Nat) : Int))), (0, Value.agg [Value.int .i64 (d0.1), Value.int .i64 (d0.2.1), Value.int .u8 (d0.2.2.1), Value.int .i64 (d0.2.2.2.1), Value.slice p0_A4 (d0.2.2.2.2.1.length) (p0_c4), Value.int .i64 (d0.2.2.2.2.2.1), Value.int .i64 (d0.2.2.2.2.2.2.1), Value.slice p0_A7 (d0.2.2.2.2.2.2.2.length) (p0_c7)].toArray), (1, Value.pointer (some ⟨g1, 0, none⟩)), (2, Value.slice none (0) (0)), (3, Value.int .i64 (0)), (4, Value.int .i64 (lCheck d0)), (5, Value.pointer (some ⟨g6, 0, none⟩)), (6, Value.func (.func 31) #[] #[Value.pointer (some ⟨g6, 0, none⟩)]), (16, Value.bool (decide (¬ (lCheck d0) = 0))), (27, Value.int .i64 (d0.1)), (28, Value.bool (decide (d0.1 = 1))), (56, Value.bool (decide (d0.1 = 2))), (69, Value.slice p0_A7 (d0.2.2.2.2.2.2.2.length) (p0_c7)), (70, Value.int .i64 (((d0.2.2.2.2.2.2.2.length : Nat) : Int)))] [(112, b_m), (102, mone g1 (.cells [Value.int .i64 (d0.1), Value.int .i64 (d0.2.1), Value.int .u8 (d0.2.2.1), Value.int .i64 (d0.2.2.2.1), Value.slice p0_A4 (d0.2.2.2.2.1.length) (p0_c4), Value.int .i64 (d0.2.2.2.2.2.1), Value.int .i64 (d0.2.2.2.2.2.2.1), Value.slice p0_A7 (d0.2.2.2.2.2.2.2.length) (p0_c7)].toArray 26 (0, 0))), (0, wm W)]
        have hlb := hs_room (Decidable.not_not.1 ‹¬ ¬ lCheck d0 = 0›) (by assumption) hb
        have hln := (lCheck_ship (Decidable.not_not.1 ‹¬ ¬ lCheck d0 = 0›) (by assumption)).2.2.2.1
        refine VC.rs ?_
        refine VO.y rfl (.lss rfl rfl) ?_
        refine VO.keep [112, 102, 0] [(112, b_m), (102, mone g1 (.cells [Value.int .i64 (d0.1), Value.int .i64 (d0.2.1), Value.int .u8 (d0.2.2.1), Value.int .i64 (d0.2.2.2.1), Value.slice p0_A4 (d0.2.2.2.2.1.length) (p0_c4), Value.int .i64 (d0.2.2.2.2.2.1), Value.int .i64 (d0.2.2.2.2.2.2.1), Value.slice p0_A7 (d0.2.2.2.2.2.2.2.length) (p0_c7)].toArray 26 (0, 0))), (0, wm W)] (by kernel_rfl) ?_
        refine VO.k15 0 1 2 3 4 5 6 16 27 28 56 69 70 71 72 ?_
        refine VC.seq ?_
        refine VC.cond rfl (fun hc38 => ?_) (fun hc38 => ?_)
        · -- FFTT
          refine VC.skip ?_
          refine outN ?_
          refine VC.seq ?_
          refine VC.block ?_
          refine VC.rs ?_
          obtain ⟨x39, hx39⟩ : ∃ z_, (d0.2.2.2.2.2.2.2)[k]? = some z_ := ⟨_, List.getElem?_eq_getElem (by first | omega | (simp only [List.length_append, List.length_nil, List.length_cons, List.length_take, List.length_drop] at *; omega) | (have n_ := lc_nums (Decidable.not_not.1 ‹¬ ¬ lCheck d0 = 0›); first | omega | (have q_ := lc_hello (Decidable.not_not.1 ‹¬ ¬ lCheck d0 = 0›) (by assumption); omega) | (have q_ := start_of (Decidable.not_not.1 ‹¬ ¬ lCheck d0 = 0›) (by assumption) ‹d0.2.2.2.2.1[k]? = some _›; omega) | (have q_ := ship_nums (Decidable.not_not.1 ‹¬ ¬ lCheck d0 = 0›) (by assumption); omega) | (have q_ := (lc_ack (Decidable.not_not.1 ‹¬ ¬ lCheck d0 = 0›) (by omega) (by omega)).1.1; omega) | (have q_ := cEnc_len (comm_of (Decidable.not_not.1 ‹¬ ¬ lCheck d0 = 0›) (by assumption) ‹d0.2.2.2.2.2.2.2[k]? = some _›); simp only [cEncode_is (comm_of (Decidable.not_not.1 ‹¬ ¬ lCheck d0 = 0›) (by assumption) ‹d0.2.2.2.2.2.2.2[k]? = some _›)] at *; omega) | (simp only [List.length_append, List.length_cons, List.length_nil] at *; omega)))⟩
          obtain ⟨gg39, oo39, ec39, ea39, hce39, hre39⟩ := p0_7.elem hx39
          cases ea39
          obtain ⟨q39_A2, q39_c2, rfl, q39_0, q39_1, q39_2⟩ := open_Commit (x0 := x39.1) (x1 := x39.2.1) (x2 := x39.2.2) hre39
          simp only [inK] at q39_0
          simp only [inK] at q39_1
          have q39_r2 := Rd.room q39_2
          refine VO.y rfl (.ixI k rfl rfl tsl24 rfl (by first | omega | (simp only [List.length_append, List.length_nil, List.length_cons, List.length_take, List.length_drop] at *; omega) | (have n_ := lc_nums (Decidable.not_not.1 ‹¬ ¬ lCheck d0 = 0›); first | omega | (have q_ := lc_hello (Decidable.not_not.1 ‹¬ ¬ lCheck d0 = 0›) (by assumption); omega) | (have q_ := start_of (Decidable.not_not.1 ‹¬ ¬ lCheck d0 = 0›) (by assumption) ‹d0.2.2.2.2.1[k]? = some _›; omega) | (have q_ := ship_nums (Decidable.not_not.1 ‹¬ ¬ lCheck d0 = 0›) (by assumption); omega) | (have q_ := (lc_ack (Decidable.not_not.1 ‹¬ ¬ lCheck d0 = 0›) (by omega) (by omega)).1.1; omega) | (have q_ := cEnc_len (comm_of (Decidable.not_not.1 ‹¬ ¬ lCheck d0 = 0›) (by assumption) ‹d0.2.2.2.2.2.2.2[k]? = some _›); simp only [cEncode_is (comm_of (Decidable.not_not.1 ‹¬ ¬ lCheck d0 = 0›) (by assumption) ‹d0.2.2.2.2.2.2.2[k]? = some _›)] at *; omega) | (simp only [List.length_append, List.length_cons, List.length_nil] at *; omega)))) ?_
          refine VO.y rfl (.ldA 0 rfl tk43 rfl hce39) ?_
          refine VO.alloc 141 rfl tz43 (fun g40 => ?_)
          refine VO.store (k := 3) (c' := [Value.int .i64 (x39.1), Value.int .i64 (x39.2.1), Value.slice q39_A2 (x39.2.2.length) (q39_c2)]) 141 rfl rfl (.inl tk43) rfl rfl rfl rfl rfl ?_
          refine VO.k16 0 1 2 3 4 5 6 10 16 27 28 56 69 70 71 72 ?_
          refine VC.rs ?_
          refine VO.y rfl (.ldA 141 rfl tk43 rfl (cellsAt_one rfl rfl)) ?_
          refine VO.callN 142 rfl fnOk33 rfl (fun W hW => cEncode_ok_ W (Rd.mono hre39 (hW.at (i := 0) rfl))) (fun v42 m42 hv42 => ?_)
          obtain ⟨s42_0, rfl, f42_0⟩ := hv42
          have hfa43 := cEncode_len x39
          obtain ⟨A42_0, c42_0, eq42_0, l42_0, k42_0⟩ := f42_0.slice
          subst eq42_0
          simp only [maxLen] at k42_0
          refine VO.mv ?_
          refine VO.y rfl (.ext rfl rfl) ?_
          refine VO.y rfl (.ext rfl rfl) ?_
          refine VO.as ?_
          refine VO.as ?_
          refine VO.k17 0 1 2 3 4 5 6 10 11 16 27 28 56 69 70 71 72 ?_
          refine VC.rs ?_
          refine VO.mv ?_
          refine VO.mv ?_
          refine VO.y rfl (.lenS rfl tsl30) ?_
          refine VO.bsl (cs := [Value.int .i64 (((((cEncode x39).1).length : Nat) : Int))]) 145 rfl rfl tsl60 tz3 rfl rfl (fun g44 => ?_)
          have ho47 : OwnL (.int .i64) (mone g44 (.cells [Value.int .i64 (((((cEncode x39).1).length : Nat) : Int))].toArray 3 (0, 0))) mnil (Value.slice (some ⟨g44, 0, none⟩) (1) (1)) [((((cEncode x39).1).length : Nat) : Int)] := OwnL.lit 1 (All2c.cons (c1 := [Value.int .i64 (((((cEncode x39).1).length : Nat) : Int))]) (show Rd (.int .i64) _ [_] _ from ⟨rfl, by simp only [inK]; (first | omega | (simp only [List.length_append, List.length_nil, List.length_cons, List.length_take, List.length_drop] at *; omega) | (have n_ := lc_nums (Decidable.not_not.1 ‹¬ ¬ lCheck d0 = 0›); first | omega | (have q_ := lc_hello (Decidable.not_not.1 ‹¬ ¬ lCheck d0 = 0›) (by assumption); omega) | (have q_ := start_of (Decidable.not_not.1 ‹¬ ¬ lCheck d0 = 0›) (by assumption) ‹d0.2.2.2.2.1[k]? = some _›; omega) | (have q_ := ship_nums (Decidable.not_not.1 ‹¬ ¬ lCheck d0 = 0›) (by assumption); omega) | (have q_ := (lc_ack (Decidable.not_not.1 ‹¬ ¬ lCheck d0 = 0›) (by omega) (by omega)).1.1; omega) | (have q_ := cEnc_len (comm_of (Decidable.not_not.1 ‹¬ ¬ lCheck d0 = 0›) (by assumption) ‹d0.2.2.2.2.2.2.2[k]? = some _›); simp only [cEncode_is (comm_of (Decidable.not_not.1 ‹¬ ¬ lCheck d0 = 0›) (by assumption) ‹d0.2.2.2.2.2.2.2[k]? = some _›)] at *; omega) | (simp only [List.length_append, List.length_cons, List.length_nil] at *; omega)))⟩) All2c.nil) rfl rfl
          refine VO.callV 112 rfl rfl fnOk31 rfl rfl (fun W hW => lput_ok W (hW.at (i := 112) rfl) (OwnL.rd ho47 (hW.out (i := 112) (j := 145) rfl rfl) (mle_nil _)) h_b (by intro x_ hx_; simp only [List.mem_cons, List.not_mem_nil, or_false] at hx_; have n_ := lc_nums (Decidable.not_not.1 ‹¬ ¬ lCheck d0 = 0›); first | omega | (have q_ := lc_hello (Decidable.not_not.1 ‹¬ ¬ lCheck d0 = 0›) (by assumption); omega) | (have q_ := start_of (Decidable.not_not.1 ‹¬ ¬ lCheck d0 = 0›) (by assumption) ‹d0.2.2.2.2.1[k]? = some _›; omega) | (have q_ := ship_nums (Decidable.not_not.1 ‹¬ ¬ lCheck d0 = 0›) (by assumption); omega) | (have q_ := (lc_ack (Decidable.not_not.1 ‹¬ ¬ lCheck d0 = 0›) (by omega) (by omega)).1.1; omega) | (have q_ := cEnc_len (comm_of (Decidable.not_not.1 ‹¬ ¬ lCheck d0 = 0›) (by assumption) ‹d0.2.2.2.2.2.2.2[k]? = some _›); simp only [cEncode_is (comm_of (Decidable.not_not.1 ‹¬ ¬ lCheck d0 = 0›) (by assumption) ‹d0.2.2.2.2.2.2.2[k]? = some _›)] at *; omega) | (simp only [List.length_append, List.length_cons, List.length_nil] at *; omega)) (by first | omega | (simp only [List.length_append, List.length_nil, List.length_cons, List.length_take, List.length_drop] at *; omega) | (have n_ := lc_nums (Decidable.not_not.1 ‹¬ ¬ lCheck d0 = 0›); first | omega | (have q_ := lc_hello (Decidable.not_not.1 ‹¬ ¬ lCheck d0 = 0›) (by assumption); omega) | (have q_ := start_of (Decidable.not_not.1 ‹¬ ¬ lCheck d0 = 0›) (by assumption) ‹d0.2.2.2.2.1[k]? = some _›; omega) | (have q_ := ship_nums (Decidable.not_not.1 ‹¬ ¬ lCheck d0 = 0›) (by assumption); omega) | (have q_ := (lc_ack (Decidable.not_not.1 ‹¬ ¬ lCheck d0 = 0›) (by omega) (by omega)).1.1; omega) | (have q_ := cEnc_len (comm_of (Decidable.not_not.1 ‹¬ ¬ lCheck d0 = 0›) (by assumption) ‹d0.2.2.2.2.2.2.2[k]? = some _›); simp only [cEncode_is (comm_of (Decidable.not_not.1 ‹¬ ¬ lCheck d0 = 0›) (by assumption) ‹d0.2.2.2.2.2.2.2[k]? = some _›)] at *; omega) | (simp only [List.length_append, List.length_cons, List.length_nil] at *; omega)))) (fun v46 m46 hv46 => ?_)
          obtain ⟨rfl, w46_1⟩ := hv46
          have hfa48 := (putAll_len (l := ([((((cEncode x39).1).length : Nat) : Int)])) (by intro x_ hx_; simp only [List.mem_cons, List.not_mem_nil, or_false] at hx_; omega))
          refine VO.keep [112, 142, 141, 102, 0] [(112, m46), (142, m42), (141, mone g40 (.cells [Value.int .i64 (x39.1), Value.int .i64 (x39.2.1), Value.slice q39_A2 (x39.2.2.length) (q39_c2)].toArray 43 (0, 0))), (102, mone g1 (.cells [Value.int .i64 (d0.1), Value.int .i64 (d0.2.1), Value.int .u8 (d0.2.2.1), Value.int .i64 (d0.2.2.2.1), Value.slice p0_A4 (d0.2.2.2.2.1.length) (p0_c4), Value.int .i64 (d0.2.2.2.2.2.1), Value.int .i64 (d0.2.2.2.2.2.2.1), Value.slice (some ⟨gg39, oo39, none⟩) (d0.2.2.2.2.2.2.2.length) (p0_c7)].toArray 26 (0, 0))), (0, wm W)] (by kernel_rfl) ?_
          refine VO.k17 0 1 2 3 4 5 6 10 11 16 27 28 56 69 70 71 72 ?_
          refine VC.reg ?_
          obtain ⟨q49_E, q49_A0, q49_c0, q49_n0, _, q49_S, q49_0⟩ := openP_Buf (x0 := b ++ putAll ([((((cEncode x39).1).length : Nat) : Int)])) w46_1
          have q49_r0 := Rd.room (q49_0.rd (mle_refl _))
          refine VO.inv _ (fun _ h => h.parts (i := 112) rfl q49_S [151, 150]) ?_
          refine VO.y rfl (.ld1 151 rfl tk30 rfl (cellsAt_one rfl rfl)) ?_
          refine VO.mv ?_
          obtain ⟨mo52, cs52, hM52, hA52, hC52⟩ := (Ow.ownl q49_0 rfl mnil)
          obtain ⟨all52, hS52, hR52⟩ := Rd.srcI (P := Try.prog) ((OwnL.rd (Ow.ownl f42_0 rfl mnil) (mle_refl _) (mle_nil _))) Try.underlying30
          refine VO.app 150 rfl rfl rfl tsl30 tz5 rfl rfl hM52 hA52 (hS52 _ 142 rfl) hR52.nice (by simp only [maxLen]; (first | omega | (simp only [List.length_append, List.length_nil, List.length_cons, List.length_take, List.length_drop] at *; omega) | (have n_ := lc_nums (Decidable.not_not.1 ‹¬ ¬ lCheck d0 = 0›); first | omega | (have q_ := lc_hello (Decidable.not_not.1 ‹¬ ¬ lCheck d0 = 0›) (by assumption); omega) | (have q_ := start_of (Decidable.not_not.1 ‹¬ ¬ lCheck d0 = 0›) (by assumption) ‹d0.2.2.2.2.1[k]? = some _›; omega) | (have q_ := ship_nums (Decidable.not_not.1 ‹¬ ¬ lCheck d0 = 0›) (by assumption); omega) | (have q_ := (lc_ack (Decidable.not_not.1 ‹¬ ¬ lCheck d0 = 0›) (by omega) (by omega)).1.1; omega) | (have q_ := cEnc_len (comm_of (Decidable.not_not.1 ‹¬ ¬ lCheck d0 = 0›) (by assumption) ‹d0.2.2.2.2.2.2.2[k]? = some _›); simp only [cEncode_is (comm_of (Decidable.not_not.1 ‹¬ ¬ lCheck d0 = 0›) (by assumption) ‹d0.2.2.2.2.2.2.2[k]? = some _›)] at *; omega) | (simp only [List.length_append, List.length_cons, List.length_nil] at *; omega)))) (by first | omega | (simp only [List.length_append, List.length_nil, List.length_cons, List.length_take, List.length_drop] at *; omega) | (have n_ := lc_nums (Decidable.not_not.1 ‹¬ ¬ lCheck d0 = 0›); first | omega | (have q_ := lc_hello (Decidable.not_not.1 ‹¬ ¬ lCheck d0 = 0›) (by assumption); omega) | (have q_ := start_of (Decidable.not_not.1 ‹¬ ¬ lCheck d0 = 0›) (by assumption) ‹d0.2.2.2.2.1[k]? = some _›; omega) | (have q_ := ship_nums (Decidable.not_not.1 ‹¬ ¬ lCheck d0 = 0›) (by assumption); omega) | (have q_ := (lc_ack (Decidable.not_not.1 ‹¬ ¬ lCheck d0 = 0›) (by omega) (by omega)).1.1; omega) | (have q_ := cEnc_len (comm_of (Decidable.not_not.1 ‹¬ ¬ lCheck d0 = 0›) (by assumption) ‹d0.2.2.2.2.2.2.2[k]? = some _›); simp only [cEncode_is (comm_of (Decidable.not_not.1 ‹¬ ¬ lCheck d0 = 0›) (by assumption) ‹d0.2.2.2.2.2.2.2[k]? = some _›)] at *; omega) | (simp only [List.length_append, List.length_cons, List.length_nil] at *; omega))) (by decide) (fun v52 m52 hN52 => ?_)
          have ho52 : OwnL .byte m52 mnil v52 ((b ++ putAll ([((((cEncode x39).1).length : Nat) : Int)])) ++ ((cEncode x39).1)) := OwnL.more hC52 hN52 (All2c.mono hR52 fun _ _ h => Rd.flat rfl h _)
          obtain ⟨A52, c52, rfl, l52, k52⟩ := ho52.slice
          simp only [maxLen] at k52
          refine VO.store (k := 1) (c' := [Value.slice A52 (((b ++ putAll ([((((cEncode x39).1).length : Nat) : Int)])) ++ ((cEncode x39).1)).length) (c52)]) 151 rfl rfl (.inr ⟨tk30, rfl⟩) rfl rfl rfl rfl rfl ?_
          refine VO.gather (l := [mone g6 (.cells [Value.slice A52 (((b ++ putAll ([((((cEncode x39).1).length : Nat) : Int)])) ++ ((cEncode x39).1)).length) (c52)].toArray q49_E (0, 0)), m52]) 153 [151, 150] rfl (fun hg53 => ?_)
          have ho53 : Ow (.ptr TBuf) (muns [mone g6 (.cells [Value.slice A52 (((b ++ putAll ([((((cEncode x39).1).length : Nat) : Int)])) ++ ((cEncode x39).1)).length) (c52)].toArray q49_E (0, 0)), m52]) [.pointer (some ⟨g6, 0, none⟩)] (g6, (b ++ putAll ([((((cEncode x39).1).length : Nat) : Int)])) ++ ((cEncode x39).1)) := (mkP_Buf ((b ++ putAll ([((((cEncode x39).1).length : Nat) : Int)])) ++ ((cEncode x39).1)) hg53 (OwnL.ow ho52 rfl))
          refine VO.k17 0 1 2 3 4 5 6 10 11 16 27 28 56 69 70 71 72 ?_
          refine outBN ?_
          refine outN ?_
          refine VC.reg ?_
          refine VO.y rfl (.add (c := ((k + 1 : Nat) : Int)) rfl rfl (by omega) ⟨by first | omega | (simp only [List.length_append, List.length_nil, List.length_cons, List.length_take, List.length_drop] at *; omega) | (have n_ := lc_nums (Decidable.not_not.1 ‹¬ ¬ lCheck d0 = 0›); first | omega | (have q_ := lc_hello (Decidable.not_not.1 ‹¬ ¬ lCheck d0 = 0›) (by assumption); omega) | (have q_ := start_of (Decidable.not_not.1 ‹¬ ¬ lCheck d0 = 0›) (by assumption) ‹d0.2.2.2.2.1[k]? = some _›; omega) | (have q_ := ship_nums (Decidable.not_not.1 ‹¬ ¬ lCheck d0 = 0›) (by assumption); omega) | (have q_ := (lc_ack (Decidable.not_not.1 ‹¬ ¬ lCheck d0 = 0›) (by omega) (by omega)).1.1; omega) | (have q_ := cEnc_len (comm_of (Decidable.not_not.1 ‹¬ ¬ lCheck d0 = 0›) (by assumption) ‹d0.2.2.2.2.2.2.2[k]? = some _›); simp only [cEncode_is (comm_of (Decidable.not_not.1 ‹¬ ¬ lCheck d0 = 0›) (by assumption) ‹d0.2.2.2.2.2.2.2[k]? = some _›)] at *; omega) | (simp only [List.length_append, List.length_cons, List.length_nil] at *; omega)), by first | omega | (simp only [List.length_append, List.length_nil, List.length_cons, List.length_take, List.length_drop] at *; omega) | (have n_ := lc_nums (Decidable.not_not.1 ‹¬ ¬ lCheck d0 = 0›); first | omega | (have q_ := lc_hello (Decidable.not_not.1 ‹¬ ¬ lCheck d0 = 0›) (by assumption); omega) | (have q_ := start_of (Decidable.not_not.1 ‹¬ ¬ lCheck d0 = 0›) (by assumption) ‹d0.2.2.2.2.1[k]? = some _›; omega) | (have q_ := ship_nums (Decidable.not_not.1 ‹¬ ¬ lCheck d0 = 0›) (by assumption); omega) | (have q_ := (lc_ack (Decidable.not_not.1 ‹¬ ¬ lCheck d0 = 0›) (by omega) (by omega)).1.1; omega) | (have q_ := cEnc_len (comm_of (Decidable.not_not.1 ‹¬ ¬ lCheck d0 = 0›) (by assumption) ‹d0.2.2.2.2.2.2.2[k]? = some _›); simp only [cEncode_is (comm_of (Decidable.not_not.1 ‹¬ ¬ lCheck d0 = 0›) (by assumption) ‹d0.2.2.2.2.2.2.2[k]? = some _›)] at *; omega) | (simp only [List.length_append, List.length_cons, List.length_nil] at *; omega))⟩) ?_
          refine VO.mv ?_
          refine VO.k17 0 1 2 3 4 5 6 10 11 16 27 28 56 69 70 71 72 ?_
          exact outN ⟨⟨k + 1, (b ++ putAll ([((((cEncode x39).1).length : Nat) : Int)])) ++ ((cEncode x39).1), muns [mone g6 (.cells [Value.slice A52 (((b ++ putAll ([((((cEncode x39).1).length : Nat) : Int)])) ++ ((cEncode x39).1)).length) (c52)].toArray q49_E (0, 0)), m52]⟩, ⟨by omega, by (rw [hb, take_one ‹d0.2.2.2.2.2.2.2[k]? = some _›, csEnc_app]; simp [putAll, csEnc, cEncode_is (comm_of (Decidable.not_not.1 ‹¬ ¬ lCheck d0 = 0›) (by assumption) ‹d0.2.2.2.2.2.2.2[k]? = some _›)]), ho53⟩, by first | omega | (simp only [List.length_append, List.length_nil, List.length_cons, List.length_take, List.length_drop] at *; omega) | (have n_ := lc_nums (Decidable.not_not.1 ‹¬ ¬ lCheck d0 = 0›); first | omega | (have q_ := lc_hello (Decidable.not_not.1 ‹¬ ¬ lCheck d0 = 0›) (by assumption); omega) | (have q_ := start_of (Decidable.not_not.1 ‹¬ ¬ lCheck d0 = 0›) (by assumption) ‹d0.2.2.2.2.1[k]? = some _›; omega) | (have q_ := ship_nums (Decidable.not_not.1 ‹¬ ¬ lCheck d0 = 0›) (by assumption); omega) | (have q_ := (lc_ack (Decidable.not_not.1 ‹¬ ¬ lCheck d0 = 0›) (by omega) (by omega)).1.1; omega) | (have q_ := cEnc_len (comm_of (Decidable.not_not.1 ‹¬ ¬ lCheck d0 = 0›) (by assumption) ‹d0.2.2.2.2.2.2.2[k]? = some _›); simp only [cEncode_is (comm_of (Decidable.not_not.1 ‹¬ ¬ lCheck d0 = 0›) (by assumption) ‹d0.2.2.2.2.2.2.2[k]? = some _›)] at *; omega) | (simp only [List.length_append, List.length_cons, List.length_nil] at *; omega)), ⟨⟨rfl, rfl, rfl, rfl, rfl, rfl, rfl, rfl, rfl, rfl, rfl, rfl, rfl, rfl, trivial⟩, fun _ h => Inv.sub (Inv.num h 153 112 rfl) [112, 102, 0]⟩⟩
        · -- FFTF
          refine VC.exit ?_
          refine outE ?_
          refine outE ?_
          refine outBB ?_
          refine outBN ?_
          refine outN ?_
          refine VC.rs ?_
          obtain ⟨q54_E, q54_A0, q54_c0, q54_n0, _, q54_S, q54_0⟩ := openP_Buf (x0 := b) h_b
          have q54_r0 := Rd.room (q54_0.rd (mle_refl _))
          refine VO.inv _ (fun _ h => h.parts (i := 112) rfl q54_S [156, 155]) ?_
          refine VO.y rfl (.ld1 156 rfl tk30 rfl (cellsAt_one rfl rfl)) ?_
          refine VO.as ?_
          refine VO.as ?_
          refine VO.k15 0 1 2 3 4 5 6 16 27 28 56 69 70 71 72 ?_
          refine VC.ret ?_
          refine ⟨_, _, res_run (rs := [.tmp 2, .tmp 3]) rfl (.tmp rfl (.tmp rfl .nil)), fun W_ hI => out_of (l := [q54_n0]) hI [155] rfl rfl (mle_refl _) (fun hS_ => ?_)⟩
          dsimp only [packV]
          have he0 : ((lEncode d0).1 : Ty.Den (.sl .byte)) = b := by first | rfl | (first | (rw [lEncode_bad (by assumption)]; done) | (rw [lEncode_hello (Decidable.not_not.1 ‹¬ ¬ lCheck d0 = 0›) (by assumption), hb, List.take_of_length_le (by omega)]; done) | (rw [lEncode_ship (Decidable.not_not.1 ‹¬ ¬ lCheck d0 = 0›) (by assumption) (by assumption), hb, List.take_of_length_le (by omega)]; done) | (rw [lEncode_ack (Decidable.not_not.1 ‹¬ ¬ lCheck d0 = 0›) (by omega) (by omega)]; simp [putAll]; done))
          refine ⟨Value.slice q54_A0 (b.length) (q54_c0), ?_, ?_⟩
          rotate_left
          · rw [he0]; exact (Ow.up (OwnL.ow (Ow.ownl q54_0 rfl mnil) rfl) (hS_.1 _ (.head _)))
          all_goals (first | rfl | (first | (rw [lEncode_bad (by assumption)] <;> rfl) | (rw [lEncode_hello (Decidable.not_not.1 ‹¬ ¬ lCheck d0 = 0›) (by assumption)] <;> rfl) | (rw [lEncode_ship (Decidable.not_not.1 ‹¬ ¬ lCheck d0 = 0›) (by assumption) (by assumption)] <;> rfl) | (rw [lEncode_ack (Decidable.not_not.1 ‹¬ ¬ lCheck d0 = 0›) (by omega) (by omega)] <;> rfl)))
      · -- FFF
        refine VC.rs ?_
        refine VO.y rfl (.eql rfl rfl) ?_
        refine VO.as ?_
        refine VO.k12 0 1 2 3 4 5 6 16 27 28 56 89 ?_
        refine VC.cond rfl (fun hc57 => ?_) (fun hc57 => ?_)
        · -- FFFT
          refine VC.reg ?_
          refine VO.mv ?_
          refine VO.y rfl (.fa rfl tst26 rfl) ?_
          refine VO.y rfl (.ld1 102 rfl tk3 rfl (cellsAt_one rfl rfl)) ?_
          refine VO.bsl (cs := [Value.int .i64 (d0.2.2.2.1)]) 159 rfl rfl tsl60 tz3 rfl rfl (fun g58 => ?_)
          have ho61 : OwnL (.int .i64) (mone g58 (.cells [Value.int .i64 (d0.2.2.2.1)].toArray 3 (0, 0))) mnil (Value.slice (some ⟨g58, 0, none⟩) (1) (1)) [d0.2.2.2.1] := OwnL.lit 1 (All2c.cons (c1 := [Value.int .i64 (d0.2.2.2.1)]) (show Rd (.int .i64) _ [_] _ from ⟨rfl, by simp only [inK]; (first | omega | (simp only [List.length_append, List.length_nil, List.length_cons, List.length_take, List.length_drop] at *; omega) | (have n_ := lc_nums (Decidable.not_not.1 ‹¬ ¬ lCheck d0 = 0›); first | omega | (have q_ := lc_hello (Decidable.not_not.1 ‹¬ ¬ lCheck d0 = 0›) (by assumption); omega) | (have q_ := start_of (Decidable.not_not.1 ‹¬ ¬ lCheck d0 = 0›) (by assumption) ‹d0.2.2.2.2.1[k]? = some _›; omega) | (have q_ := ship_nums (Decidable.not_not.1 ‹¬ ¬ lCheck d0 = 0›) (by assumption); omega) | (have q_ := (lc_ack (Decidable.not_not.1 ‹¬ ¬ lCheck d0 = 0›) (by omega) (by omega)).1.1; omega) | (have q_ := cEnc_len (comm_of (Decidable.not_not.1 ‹¬ ¬ lCheck d0 = 0›) (by assumption) ‹d0.2.2.2.2.2.2.2[k]? = some _›); simp only [cEncode_is (comm_of (Decidable.not_not.1 ‹¬ ¬ lCheck d0 = 0›) (by assumption) ‹d0.2.2.2.2.2.2.2[k]? = some _›)] at *; omega) | (simp only [List.length_append, List.length_cons, List.length_nil] at *; omega)))⟩) All2c.nil) rfl rfl
          refine VO.callV 112 rfl rfl fnOk31 rfl rfl (fun W hW => lput_ok W (hW.at (i := 112) rfl) (OwnL.rd ho61 (hW.out (i := 112) (j := 159) rfl rfl) (mle_nil _)) w10_1 (by intro x_ hx_; simp only [List.mem_cons, List.not_mem_nil, or_false] at hx_; have n_ := lc_nums (Decidable.not_not.1 ‹¬ ¬ lCheck d0 = 0›); first | omega | (have q_ := lc_hello (Decidable.not_not.1 ‹¬ ¬ lCheck d0 = 0›) (by assumption); omega) | (have q_ := start_of (Decidable.not_not.1 ‹¬ ¬ lCheck d0 = 0›) (by assumption) ‹d0.2.2.2.2.1[k]? = some _›; omega) | (have q_ := ship_nums (Decidable.not_not.1 ‹¬ ¬ lCheck d0 = 0›) (by assumption); omega) | (have q_ := (lc_ack (Decidable.not_not.1 ‹¬ ¬ lCheck d0 = 0›) (by omega) (by omega)).1.1; omega) | (have q_ := cEnc_len (comm_of (Decidable.not_not.1 ‹¬ ¬ lCheck d0 = 0›) (by assumption) ‹d0.2.2.2.2.2.2.2[k]? = some _›); simp only [cEncode_is (comm_of (Decidable.not_not.1 ‹¬ ¬ lCheck d0 = 0›) (by assumption) ‹d0.2.2.2.2.2.2.2[k]? = some _›)] at *; omega) | (simp only [List.length_append, List.length_cons, List.length_nil] at *; omega)) (by first | omega | (simp only [List.length_append, List.length_nil, List.length_cons, List.length_take, List.length_drop] at *; omega) | (have n_ := lc_nums (Decidable.not_not.1 ‹¬ ¬ lCheck d0 = 0›); first | omega | (have q_ := lc_hello (Decidable.not_not.1 ‹¬ ¬ lCheck d0 = 0›) (by assumption); omega) | (have q_ := start_of (Decidable.not_not.1 ‹¬ ¬ lCheck d0 = 0›) (by assumption) ‹d0.2.2.2.2.1[k]? = some _›; omega) | (have q_ := ship_nums (Decidable.not_not.1 ‹¬ ¬ lCheck d0 = 0›) (by assumption); omega) | (have q_ := (lc_ack (Decidable.not_not.1 ‹¬ ¬ lCheck d0 = 0›) (by omega) (by omega)).1.1; omega) | (have q_ := cEnc_len (comm_of (Decidable.not_not.1 ‹¬ ¬ lCheck d0 = 0›) (by assumption) ‹d0.2.2.2.2.2.2.2[k]? = some _›); simp only [cEncode_is (comm_of (Decidable.not_not.1 ‹¬ ¬ lCheck d0 = 0›) (by assumption) ‹d0.2.2.2.2.2.2.2[k]? = some _›)] at *; omega) | (simp only [List.length_append, List.length_cons, List.length_nil] at *; omega)))) (fun v60 m60 hv60 => ?_)
          obtain ⟨rfl, w60_1⟩ := hv60
          have hfa62 := (putAll_len (l := ([d0.2.2.2.1])) (by intro x_ hx_; simp only [List.mem_cons, List.not_mem_nil, or_false] at hx_; omega))
          refine VO.k12 0 1 2 3 4 5 6 16 27 28 56 89 ?_
          refine outBN ?_
          refine outN ?_
          refine VC.rs ?_
          obtain ⟨q63_E, q63_A0, q63_c0, q63_n0, _, q63_S, q63_0⟩ := openP_Buf (x0 := ([] ++ putAll ([d0.1, d0.2.1])) ++ putAll ([d0.2.2.2.1])) w60_1
          have q63_r0 := Rd.room (q63_0.rd (mle_refl _))
          refine VO.inv _ (fun _ h => h.parts (i := 112) rfl q63_S [165, 164]) ?_
          refine VO.y rfl (.ld1 165 rfl tk30 rfl (cellsAt_one rfl rfl)) ?_
          refine VO.as ?_
          refine VO.as ?_
          refine VO.keep [165, 164, 102, 0] [(165, mone g6 (.cells [Value.slice q63_A0 ((([] ++ putAll ([d0.1, d0.2.1])) ++ putAll ([d0.2.2.2.1])).length) (q63_c0)].toArray q63_E (0, 0))), (164, q63_n0), (102, mone g1 (.cells [Value.int .i64 (d0.1), Value.int .i64 (d0.2.1), Value.int .u8 (d0.2.2.1), Value.int .i64 (d0.2.2.2.1), Value.slice p0_A4 (d0.2.2.2.2.1.length) (p0_c4), Value.int .i64 (d0.2.2.2.2.2.1), Value.int .i64 (d0.2.2.2.2.2.2.1), Value.slice p0_A7 (d0.2.2.2.2.2.2.2.length) (p0_c7)].toArray 26 (0, 0))), (0, wm W)] (by kernel_rfl) ?_
          refine VO.k12 0 1 2 3 4 5 6 16 27 28 56 89 ?_
          refine VC.ret ?_
          refine ⟨_, _, res_run (rs := [.tmp 2, .tmp 3]) rfl (.tmp rfl (.tmp rfl .nil)), fun W_ hI => out_of (l := [q63_n0]) hI [164] rfl rfl (mle_refl _) (fun hS_ => ?_)⟩
          dsimp only [packV]
          have he0 : ((lEncode d0).1 : Ty.Den (.sl .byte)) = ([] ++ putAll ([d0.1, d0.2.1])) ++ putAll ([d0.2.2.2.1]) := by first | rfl | (first | (rw [lEncode_bad (by assumption)]; done) | (rw [lEncode_hello (Decidable.not_not.1 ‹¬ ¬ lCheck d0 = 0›) (by assumption), hb, List.take_of_length_le (by omega)]; done) | (rw [lEncode_ship (Decidable.not_not.1 ‹¬ ¬ lCheck d0 = 0›) (by assumption) (by assumption), hb, List.take_of_length_le (by omega)]; done) | (rw [lEncode_ack (Decidable.not_not.1 ‹¬ ¬ lCheck d0 = 0›) (by omega) (by omega)]; simp [putAll]; done))
          refine ⟨Value.slice q63_A0 ((([] ++ putAll ([d0.1, d0.2.1])) ++ putAll ([d0.2.2.2.1])).length) (q63_c0), ?_, ?_⟩
          rotate_left
          · rw [he0]; exact (Ow.up (OwnL.ow (Ow.ownl q63_0 rfl mnil) rfl) (hS_.1 _ (.head _)))
          all_goals (first | rfl | (first | (rw [lEncode_bad (by assumption)] <;> rfl) | (rw [lEncode_hello (Decidable.not_not.1 ‹¬ ¬ lCheck d0 = 0›) (by assumption)] <;> rfl) | (rw [lEncode_ship (Decidable.not_not.1 ‹¬ ¬ lCheck d0 = 0›) (by assumption) (by assumption)] <;> rfl) | (rw [lEncode_ack (Decidable.not_not.1 ‹¬ ¬ lCheck d0 = 0›) (by omega) (by omega)] <;> rfl)))
        · -- FFFF
          have n_ := lc_nums (Decidable.not_not.1 ‹¬ ¬ lCheck d0 = 0›); omega
theorem eqStarts_ok (W : World) {v0 : Value} {d0 : List DStart} (h0 : Rd (.sl TStart) (wm W) [v0] d0) {v1 : Value} {d1 : List DStart} (h1 : Rd (.sl TStart) (wm W) [v1] d1) : CallR Try.prog 43 [v0, v1] W (mnil) (fun v m' => v = .bool (decide (d0 = d1))) := by
  obtain ⟨A0, c0, rfl, l0, k0⟩ := h0.slice
  simp only [maxLen] at k0
  obtain ⟨A1, c1, rfl, l1, k1⟩ := h1.slice
  simp only [maxLen] at k1
  refine CallR.ofA (n := 26) Try.func43 rfl rfl rfl ?_
  refine VC.rs ?_
  refine VO.as ?_
  refine VO.k3 0 1 4 ?_
  refine VC.seq ?_
  refine VC.rs ?_
  refine VO.mv ?_
  refine VO.y rfl (.lenS rfl tsl23) ?_
  refine VO.mv ?_
  refine VO.y rfl (.lenS rfl tsl23) ?_
  refine VO.y rfl (.neq rfl rfl) ?_
  refine VO.k4 0 1 4 10 ?_
  refine VC.cond rfl (fun hc1 => ?_) (fun hc1 => ?_)
  · -- T
    refine VC.rs ?_
    refine VO.as ?_
    refine VO.keep [0] [(0, wm W)] (by kernel_rfl) ?_
    refine VO.k4 0 1 4 10 ?_
    refine VC.ret ?_
    refine outR ?_
    refine ⟨_, _, res_run (rs := [.tmp 4]) rfl (.tmp rfl .nil), fun W_ hI => out_of (l := []) hI [] rfl rfl (mle_refl _) (fun hS_ => ?_)⟩
    dsimp only [packV]
    all_goals (first | rfl | (simp [len_ne hc1]))
  · -- F
    refine VC.skip ?_
    refine outN ?_
    refine VC.seq ?_
    refine VC.rs ?_
    refine VO.mv ?_
    refine VO.y rfl (.lenS rfl tsl23) ?_
    refine VO.mv ?_
    refine VO.keep [0] [(0, wm W)] (by kernel_rfl) ?_
    refine VO.k6 0 1 4 10 12 13 ?_
    refine VC.block ?_
    refine VC.loop (G := Nat) (fun k => [(13, Value.int .i64 (((k : Nat) : Int))), (0, Value.slice A0 (d0.length) (c0)), (1, Value.slice A1 (d1.length) (c1)), (10, Value.bool (decide (¬ ((d0.length : Nat) : Int) = ((d1.length : Nat) : Int)))), (12, Value.int .i64 (((d0.length : Nat) : Int)))]) (fun k => [(0, wm W)]) (fun k => (k ≤ d0.length) ∧ (d0.take k = d1.take k)) (fun k => d0.length - k) 0 (⟨by omega, by rfl⟩) ⟨⟨rfl, rfl, rfl, rfl, rfl, trivial⟩, fun _ h => h.sub [0]⟩ ?_
    rintro k ⟨hk, ht⟩
    refine VC.rs ?_
    refine VO.y rfl (.lss rfl rfl) ?_
    refine VO.k6 0 1 10 12 13 14 ?_
    refine VC.seq ?_
    refine VC.cond rfl (fun hc2 => ?_) (fun hc2 => ?_)
    · -- FT
      refine VC.skip ?_
      refine outN ?_
      refine VC.seq ?_
      refine VC.block ?_
      refine VC.rs ?_
      refine VO.mv ?_
      refine VO.as ?_
      refine VO.k7 0 1 5 10 12 13 14 ?_
      refine VC.seq ?_
      refine VC.regD _ 8 [(0, true), (1, true), (2, true), (3, true), (4, true), (5, true), (6, true), (7, true)] follows (by kernel_rfl) (fun _ h => h.sub [0]) ?_
      refine VD.y rfl rfl (.inl rfl) (.mv rfl) ?_
      refine VD.y rfl rfl (.inl rfl) (.mv rfl) ?_
      obtain ⟨x3, hx3⟩ : ∃ z_, (d0)[k]? = some z_ := ⟨_, List.getElem?_eq_getElem bd⟩
      obtain ⟨gg3, oo3, ec3, ea3, hce3, hre3⟩ := h0.elem hx3
      cases ea3
      obtain ⟨rfl, q3_0, q3_1⟩ := open_Start (x0 := x3.1) (x1 := x3.2) hre3
      simp only [inK] at q3_0
      simp only [inK] at q3_1
      refine VD.y rfl rfl (.inl rfl) (.ixI k rfl rfl tsl23 rfl bd) ?_
      refine VD.y rfl rfl (.inl rfl) (.ldA 0 rfl tk57 rfl hce3) ?_
      refine VD.y rfl rfl (.inl rfl) (.mv rfl) ?_
      refine VD.y rfl rfl (.inl rfl) (.mv rfl) ?_
      obtain ⟨x4, hx4⟩ : ∃ z_, (d1)[k]? = some z_ := ⟨_, List.getElem?_eq_getElem bd⟩
      obtain ⟨gg4, oo4, ec4, ea4, hce4, hre4⟩ := h1.elem hx4
      cases ea4
      obtain ⟨rfl, q4_0, q4_1⟩ := open_Start (x0 := x4.1) (x1 := x4.2) hre4
      simp only [inK] at q4_0
      simp only [inK] at q4_1
      refine VD.y rfl rfl (.inl rfl) (.ixI k rfl rfl tsl23 rfl bd) ?_
      refine VD.y rfl rfl (.inl rfl) (.ldA 0 rfl tk57 rfl hce4) ?_
      refine VD.nil rfl ?_ rfl
      refine VO.y rfl (.stneq (p := x3.1 = x4.1 ∧ x3.2 = x4.2) rfl rfl (teq57 x3.1 x3.2) (teq57 x4.1 x4.2) (by simp [ceq, ba_toList])) ?_
      refine VO.keep [0] [(0, wm W)] (by kernel_rfl) ?_
      refine VO.k8 0 1 5 10 12 13 14 24 ?_
      refine outN ?_
      refine VC.cond rfl (fun hc5 => ?_) (fun hc5 => ?_)
      · -- FTT
        refine VC.rs ?_
        refine VO.as ?_
        refine VO.k9 0 1 4 5 10 12 13 14 24 ?_
        refine VC.ret ?_
        refine outBR ?_
        refine outR ?_
        refine outR ?_
        refine outBR ?_
        refine outR ?_
        refine ⟨_, _, res_run (rs := [.tmp 4]) rfl (.tmp rfl .nil), fun W_ hI => out_of (l := []) hI [] rfl rfl (mle_refl _) (fun hS_ => ?_)⟩
        dsimp only [packV]
        all_goals (first | rfl | (simp [get_ne ‹d0[k]? = some _› ‹d1[k]? = some _› (start_ne ‹_›)]))
      · -- FTF
        refine VC.skip ?_
        refine outBN ?_
        refine outN ?_
        refine VC.reg ?_
        refine VO.y rfl (.add (c := ((k + 1 : Nat) : Int)) rfl rfl (by omega) ⟨bd, bd⟩) ?_
        refine VO.mv ?_
        refine VO.k8 0 1 5 10 12 13 14 24 ?_
        exact outN ⟨k + 1, ⟨by omega, by exact take_next ht ‹d0[k]? = some _› ‹d1[k]? = some _› (start_eq (by simpa using ‹¬ ¬ _›))⟩, bd, ⟨⟨rfl, rfl, rfl, rfl, rfl, trivial⟩, fun _ h => Inv.sub h [0]⟩⟩
    · -- FF
      refine VC.exit ?_
      refine outE ?_
      refine outE ?_
      refine outBB ?_
      refine outN ?_
      refine VC.rs ?_
      refine VO.as ?_
      refine VO.k7 0 1 4 10 12 13 14 ?_
      refine VC.ret ?_
      refine ⟨_, _, res_run (rs := [.tmp 4]) rfl (.tmp rfl .nil), fun W_ hI => out_of (l := []) hI [] rfl rfl (mle_refl _) (fun hS_ => ?_)⟩
      dsimp only [packV]
      all_goals (first | rfl | (simp [take_all ht (by omega) (by omega)]))
theorem eqComms_ok (W : World) {v0 : Value} {d0 : List DCommit} (h0 : Rd (.sl TCommit) (wm W) [v0] d0) {v1 : Value} {d1 : List DCommit} (h1 : Rd (.sl TCommit) (wm W) [v1] d1) : CallR Try.prog 44 [v0, v1, .func (.func 45) #[] #[]] W (mnil) (fun v m' => v = .bool (decide (d0 = d1))) := by
  obtain ⟨A0, c0, rfl, l0, k0⟩ := h0.slice
  simp only [maxLen] at k0
  obtain ⟨A1, c1, rfl, l1, k1⟩ := h1.slice
  simp only [maxLen] at k1
  refine CallR.ofA (n := 32) Try.func44 rfl rfl rfl ?_
  refine VC.rs ?_
  refine VO.as ?_
  refine VO.k4 0 1 2 6 ?_
  refine VC.seq ?_
  refine VC.rs ?_
  refine VO.mv ?_
  refine VO.y rfl (.lenS rfl tsl24) ?_
  refine VO.mv ?_
  refine VO.y rfl (.lenS rfl tsl24) ?_
  refine VO.y rfl (.neq rfl rfl) ?_
  refine VO.k5 0 1 2 6 14 ?_
  refine VC.cond rfl (fun hc1 => ?_) (fun hc1 => ?_)
  · -- T
    refine VC.rs ?_
    refine VO.as ?_
    refine VO.keep [0] [(0, wm W)] (by kernel_rfl) ?_
    refine VO.k5 0 1 2 6 14 ?_
    refine VC.ret ?_
    refine outR ?_
    refine ⟨_, _, res_run (rs := [.tmp 6]) rfl (.tmp rfl .nil), fun W_ hI => out_of (l := []) hI [] rfl rfl (mle_refl _) (fun hS_ => ?_)⟩
    dsimp only [packV]
    all_goals (first | rfl | (simp [len_ne hc1]))
  · -- F
    refine VC.skip ?_
    refine outN ?_
    refine VC.seq ?_
    refine VC.rs ?_
    refine VO.mv ?_
    refine VO.y rfl (.lenS rfl tsl24) ?_
    refine VO.mv ?_
    refine VO.keep [0] [(0, wm W)] (by kernel_rfl) ?_
    refine VO.k8 0 1 2 6 14 15 16 17 ?_
    refine VC.block ?_
    refine VC.loop (G := Nat) (fun k => [(17, Value.int .i64 (((k : Nat) : Int))), (0, Value.slice A0 (d0.length) (c0)), (1, Value.slice A1 (d1.length) (c1)), (2, Value.func (.func 45) #[] #[]), (14, Value.bool (decide (¬ ((d0.length : Nat) : Int) = ((d1.length : Nat) : Int)))), (15, Value.slice A0 (d0.length) (c0)), (16, Value.int .i64 (((d0.length : Nat) : Int)))]) (fun k => [(0, wm W)]) (fun k => (k ≤ d0.length) ∧ (d0.take k = d1.take k)) (fun k => d0.length - k) 0 (⟨by omega, by rfl⟩) ⟨⟨rfl, rfl, rfl, rfl, rfl, rfl, rfl, trivial⟩, fun _ h => h.sub [0]⟩ ?_
    rintro k ⟨hk, ht⟩
    refine VC.rs ?_
    refine VO.y rfl (.lss rfl rfl) ?_
    refine VO.k8 0 1 2 14 15 16 17 18 ?_
    refine VC.seq ?_
    refine VC.cond rfl (fun hc2 => ?_) (fun hc2 => ?_)
    · -- FT
      refine VC.skip ?_
      refine outN ?_
      refine VC.seq ?_
      refine VC.block ?_
      refine VC.rs ?_
      refine VO.mv ?_
      obtain ⟨x3, hx3⟩ : ∃ z_, (d0)[k]? = some z_ := ⟨_, List.getElem?_eq_getElem bd⟩
      obtain ⟨gg3, oo3, ec3, ea3, hce3, hre3⟩ := h0.elem hx3
      cases ea3
      obtain ⟨q3_A2, q3_c2, rfl, q3_0, q3_1, q3_2⟩ := open_Commit (x0 := x3.1) (x1 := x3.2.1) (x2 := x3.2.2) hre3
      simp only [inK] at q3_0
      simp only [inK] at q3_1
      have q3_r2 := Rd.room q3_2
      refine VO.y rfl (.ixI k rfl rfl tsl24 rfl bd) ?_
      refine VO.y rfl (.ldA 0 rfl tk43 rfl hce3) ?_
      refine VO.alloc 105 rfl tz43 (fun g4 => ?_)
      refine VO.as ?_
      refine VO.store (k := 3) (c' := [Value.int .i64 (x3.1), Value.int .i64 (x3.2.1), Value.slice q3_A2 (x3.2.2.length) (q3_c2)]) 105 rfl rfl (.inl tk43) rfl rfl rfl rfl rfl ?_
      refine VO.k10 0 1 2 7 8 14 15 16 17 18 ?_
      refine VC.rs ?_
      refine VO.mv ?_
      refine VO.mv ?_
      obtain ⟨x6, hx6⟩ : ∃ z_, (d1)[k]? = some z_ := ⟨_, List.getElem?_eq_getElem bd⟩
      obtain ⟨gg6, oo6, ec6, ea6, hce6, hre6⟩ := h1.elem hx6
      cases ea6
      obtain ⟨q6_A2, q6_c2, rfl, q6_0, q6_1, q6_2⟩ := open_Commit (x0 := x6.1) (x1 := x6.2.1) (x2 := x6.2.2) hre6
      simp only [inK] at q6_0
      simp only [inK] at q6_1
      have q6_r2 := Rd.room q6_2
      refine VO.y rfl (.ixI k rfl rfl tsl24 rfl bd) ?_
      refine VO.y rfl (.ldA 0 rfl tk43 rfl hce6) ?_
      refine VO.alloc 108 rfl tz43 (fun g7 => ?_)
      refine VO.store (k := 3) (c' := [Value.int .i64 (x6.1), Value.int .i64 (x6.2.1), Value.slice q6_A2 (x6.2.2.length) (q6_c2)]) 108 rfl rfl (.inl tk43) rfl rfl rfl rfl rfl ?_
      refine VO.keep [108, 105, 0] [(108, mone g7 (.cells [Value.int .i64 (x6.1), Value.int .i64 (x6.2.1), Value.slice q6_A2 (x6.2.2.length) (q6_c2)].toArray 43 (0, 0))), (105, mone g4 (.cells [Value.int .i64 (x3.1), Value.int .i64 (x3.2.1), Value.slice q3_A2 (x3.2.2.length) (q3_c2)].toArray 43 (0, 0))), (0, wm W)] (by kernel_rfl) ?_
      refine VO.k11 0 1 2 7 8 9 14 15 16 17 18 ?_
      refine VC.rs ?_
      refine VO.mv ?_
      refine VO.y rfl (.ldA 105 rfl tk43 rfl (cellsAt_one rfl rfl)) ?_
      refine VO.y rfl (.ldA 108 rfl tk43 rfl (cellsAt_one rfl rfl)) ?_
      refine VO.callVN 109 rfl rfl fnOk45 rfl (fun W hW => cSame_ok W (Rd.mono hre3 (hW.at (i := 0) rfl)) (Rd.mono hre6 (hW.at (i := 0) rfl))) (fun v9 m9 hv9 => ?_)
      subst hv9
      refine VO.y rfl (.notD rfl) ?_
      refine VO.k12 0 1 2 7 8 9 14 15 16 17 18 30 ?_
      refine VC.cond rfl (fun hc10 => ?_) (fun hc10 => ?_)
      · -- FTT
        refine VC.rs ?_
        refine VO.as ?_
        refine VO.k13 0 1 2 6 7 8 9 14 15 16 17 18 30 ?_
        refine VC.ret ?_
        refine outBR ?_
        refine outR ?_
        refine outR ?_
        refine outBR ?_
        refine outR ?_
        refine ⟨_, _, res_run (rs := [.tmp 6]) rfl (.tmp rfl .nil), fun W_ hI => out_of (l := []) hI [] rfl rfl (mle_refl _) (fun hS_ => ?_)⟩
        dsimp only [packV]
        all_goals (first | rfl | (simp [get_ne ‹d0[k]? = some _› ‹d1[k]? = some _› ‹¬ _ = _›]))
      · -- FTF
        refine VC.skip ?_
        refine outBN ?_
        refine outN ?_
        refine VC.reg ?_
        refine VO.y rfl (.add (c := ((k + 1 : Nat) : Int)) rfl rfl (by omega) ⟨bd, bd⟩) ?_
        refine VO.mv ?_
        refine VO.k12 0 1 2 7 8 9 14 15 16 17 18 30 ?_
        exact outN ⟨k + 1, ⟨by omega, by exact take_next ht ‹d0[k]? = some _› ‹d1[k]? = some _› (Decidable.not_not.1 ‹¬ ¬ _ = _›)⟩, bd, ⟨⟨rfl, rfl, rfl, rfl, rfl, rfl, rfl, trivial⟩, fun _ h => Inv.sub h [0]⟩⟩
    · -- FF
      refine VC.exit ?_
      refine outE ?_
      refine outE ?_
      refine outBB ?_
      refine outN ?_
      refine VC.rs ?_
      refine VO.as ?_
      refine VO.k9 0 1 2 6 14 15 16 17 18 ?_
      refine VC.ret ?_
      refine ⟨_, _, res_run (rs := [.tmp 6]) rfl (.tmp rfl .nil), fun W_ hI => out_of (l := []) hI [] rfl rfl (mle_refl _) (fun hS_ => ?_)⟩
      dsimp only [packV]
      all_goals (first | rfl | (simp [take_all ht (by omega) (by omega)]))
theorem lSame_ok (W : World) {v0 : List Value} {d0 : DMessage} (h0 : Rd TMessage (wm W) v0 d0) {v1 : List Value} {d1 : DMessage} (h1 : Rd TMessage (wm W) v1 d1) : CallR Try.prog 16 [.agg v0.toArray, .agg v1.toArray] W (mnil) (fun v m' => v = .bool (decide (d0 = d1))) := by
  obtain ⟨p0_A4, p0_c4, p0_A7, p0_c7, rfl, p0_0, p0_1, p0_2, p0_3, p0_4, p0_5, p0_6, p0_7⟩ := open_Message (x0 := d0.1) (x1 := d0.2.1) (x2 := d0.2.2.1) (x3 := d0.2.2.2.1) (x4 := d0.2.2.2.2.1) (x5 := d0.2.2.2.2.2.1) (x6 := d0.2.2.2.2.2.2.1) (x7 := d0.2.2.2.2.2.2.2) h0
  simp only [inK] at p0_0
  simp only [inK] at p0_1
  simp only [inK] at p0_2
  simp only [inK] at p0_3
  have p0_r4 := Rd.room p0_4
  simp only [inK] at p0_5
  simp only [inK] at p0_6
  have p0_r7 := Rd.room p0_7
  obtain ⟨p1_A4, p1_c4, p1_A7, p1_c7, rfl, p1_0, p1_1, p1_2, p1_3, p1_4, p1_5, p1_6, p1_7⟩ := open_Message (x0 := d1.1) (x1 := d1.2.1) (x2 := d1.2.2.1) (x3 := d1.2.2.2.1) (x4 := d1.2.2.2.2.1) (x5 := d1.2.2.2.2.2.1) (x6 := d1.2.2.2.2.2.2.1) (x7 := d1.2.2.2.2.2.2.2) h1
  simp only [inK] at p1_0
  simp only [inK] at p1_1
  simp only [inK] at p1_2
  simp only [inK] at p1_3
  have p1_r4 := Rd.room p1_4
  simp only [inK] at p1_5
  simp only [inK] at p1_6
  have p1_r7 := Rd.room p1_7
  refine CallR.ofA (n := 59) Try.func16 rfl rfl rfl ?_
  refine VC.rs ?_
  refine VO.box (cs := [Value.int .i64 (d0.1), Value.int .i64 (d0.2.1), Value.int .u8 (d0.2.2.1), Value.int .i64 (d0.2.2.2.1), Value.slice p0_A4 (d0.2.2.2.2.1.length) (p0_c4), Value.int .i64 (d0.2.2.2.2.2.1), Value.int .i64 (d0.2.2.2.2.2.2.1), Value.slice p0_A7 (d0.2.2.2.2.2.2.2.length) (p0_c7)]) 102 rfl rfl rfl (fun g1 => ?_)
  refine VO.box (cs := [Value.int .i64 (d1.1), Value.int .i64 (d1.2.1), Value.int .u8 (d1.2.2.1), Value.int .i64 (d1.2.2.2.1), Value.slice p1_A4 (d1.2.2.2.2.1.length) (p1_c4), Value.int .i64 (d1.2.2.2.2.2.1), Value.int .i64 (d1.2.2.2.2.2.2.1), Value.slice p1_A7 (d1.2.2.2.2.2.2.2.length) (p1_c7)]) 104 rfl rfl rfl (fun g3 => ?_)
  refine VO.as ?_
  refine VO.k5 0 1 2 3 4 ?_
  refine VC.rs ?_
  refine VO.y rfl (.fa rfl tst26 rfl) ?_
  refine VO.y rfl (.ld1 102 rfl tk3 rfl (cellsAt_one rfl rfl)) ?_
  refine VO.y rfl (.fa rfl tst26 rfl) ?_
  refine VO.y rfl (.ld1 104 rfl tk3 rfl (cellsAt_one rfl rfl)) ?_
  refine VO.y rfl (.eql rfl rfl) ?_
  refine VO.mv ?_
  refine VO.dec (t := 10) rfl (fun hc5 => ?_) (fun hc5 => ?_)
  · -- T
    refine VO.gy rfl ⟨_, rfl, rfl⟩ (.fa rfl tst26 rfl) ?_
    refine VO.gy rfl ⟨_, rfl, rfl⟩ (.ld1 102 rfl tk3 rfl (cellsAt_one rfl rfl)) ?_
    refine VO.gy rfl ⟨_, rfl, rfl⟩ (.fa rfl tst26 rfl) ?_
    refine VO.gy rfl ⟨_, rfl, rfl⟩ (.ld1 104 rfl tk3 rfl (cellsAt_one rfl rfl)) ?_
    refine VO.gy rfl ⟨_, rfl, rfl⟩ (.eql rfl rfl) ?_
    refine VO.y rfl (.pT rfl rfl) ?_
    refine VO.mv ?_
    refine VO.dec (t := 17) rfl (fun hc6 => ?_) (fun hc6 => ?_)
    · -- TT
      refine VO.gy rfl ⟨_, rfl, rfl⟩ (.fa rfl tst26 rfl) ?_
      refine VO.gy rfl ⟨_, rfl, rfl⟩ (.ld1 102 rfl tk22 rfl (cellsAt_one rfl rfl)) ?_
      refine VO.gy rfl ⟨_, rfl, rfl⟩ (.fa rfl tst26 rfl) ?_
      refine VO.gy rfl ⟨_, rfl, rfl⟩ (.ld1 104 rfl tk22 rfl (cellsAt_one rfl rfl)) ?_
      refine VO.gy rfl ⟨_, rfl, rfl⟩ (.eql rfl rfl) ?_
      refine VO.y rfl (.pT rfl rfl) ?_
      refine VO.mv ?_
      refine VO.dec (t := 24) rfl (fun hc7 => ?_) (fun hc7 => ?_)
      · -- TTT
        refine VO.gy rfl ⟨_, rfl, rfl⟩ (.fa rfl tst26 rfl) ?_
        refine VO.gy rfl ⟨_, rfl, rfl⟩ (.ld1 102 rfl tk3 rfl (cellsAt_one rfl rfl)) ?_
        refine VO.gy rfl ⟨_, rfl, rfl⟩ (.fa rfl tst26 rfl) ?_
        refine VO.gy rfl ⟨_, rfl, rfl⟩ (.ld1 104 rfl tk3 rfl (cellsAt_one rfl rfl)) ?_
        refine VO.gy rfl ⟨_, rfl, rfl⟩ (.eql rfl rfl) ?_
        refine VO.y rfl (.pT rfl rfl) ?_
        refine VO.mv ?_
        refine VO.dec (t := 31) rfl (fun hc8 => ?_) (fun hc8 => ?_)
        · -- TTTT
          refine VO.gy rfl ⟨_, rfl, rfl⟩ (.fa rfl tst26 rfl) ?_
          refine VO.gy rfl ⟨_, rfl, rfl⟩ (.ld1 102 rfl tk23 rfl (cellsAt_one rfl rfl)) ?_
          refine VO.gy rfl ⟨_, rfl, rfl⟩ (.fa rfl tst26 rfl) ?_
          refine VO.gy rfl ⟨_, rfl, rfl⟩ (.ld1 104 rfl tk23 rfl (cellsAt_one rfl rfl)) ?_
          refine VO.gcallN 109 rfl ⟨_, rfl, rfl⟩ fnOk43 rfl (fun W hW => eqStarts_ok W (Rd.mono p0_4 (hW.at (i := 0) rfl)) (Rd.mono p1_4 (hW.at (i := 0) rfl))) (fun v9 m9 hv9 => ?_)
          subst hv9
          refine VO.y rfl (.pT rfl rfl) ?_
          refine VO.mv ?_
          refine VO.dec (t := 38) rfl (fun hc10 => ?_) (fun hc10 => ?_)
          · -- TTTTT
            refine VO.gy rfl ⟨_, rfl, rfl⟩ (.fa rfl tst26 rfl) ?_
            refine VO.gy rfl ⟨_, rfl, rfl⟩ (.ld1 102 rfl tk3 rfl (cellsAt_one rfl rfl)) ?_
            refine VO.gy rfl ⟨_, rfl, rfl⟩ (.fa rfl tst26 rfl) ?_
            refine VO.gy rfl ⟨_, rfl, rfl⟩ (.ld1 104 rfl tk3 rfl (cellsAt_one rfl rfl)) ?_
            refine VO.gy rfl ⟨_, rfl, rfl⟩ (.eql rfl rfl) ?_
            refine VO.y rfl (.pT rfl rfl) ?_
            refine VO.mv ?_
            refine VO.dec (t := 45) rfl (fun hc11 => ?_) (fun hc11 => ?_)
            · -- TTTTTT
              refine VO.gy rfl ⟨_, rfl, rfl⟩ (.fa rfl tst26 rfl) ?_
              refine VO.gy rfl ⟨_, rfl, rfl⟩ (.ld1 102 rfl tk3 rfl (cellsAt_one rfl rfl)) ?_
              refine VO.gy rfl ⟨_, rfl, rfl⟩ (.fa rfl tst26 rfl) ?_
              refine VO.gy rfl ⟨_, rfl, rfl⟩ (.ld1 104 rfl tk3 rfl (cellsAt_one rfl rfl)) ?_
              refine VO.gy rfl ⟨_, rfl, rfl⟩ (.eql rfl rfl) ?_
              refine VO.y rfl (.pT rfl rfl) ?_
              refine VO.mv ?_
              refine VO.dec (t := 52) rfl (fun hc12 => ?_) (fun hc12 => ?_)
              · -- TTTTTTT
                refine VO.gy rfl ⟨_, rfl, rfl⟩ (.fa rfl tst26 rfl) ?_
                refine VO.gy rfl ⟨_, rfl, rfl⟩ (.ld1 102 rfl tk24 rfl (cellsAt_one rfl rfl)) ?_
                refine VO.gy rfl ⟨_, rfl, rfl⟩ (.fa rfl tst26 rfl) ?_
                refine VO.gy rfl ⟨_, rfl, rfl⟩ (.ld1 104 rfl tk24 rfl (cellsAt_one rfl rfl)) ?_
                refine VO.gcallN 113 rfl ⟨_, rfl, rfl⟩ fnOk44 rfl (fun W hW => eqComms_ok W (Rd.mono p0_7 (hW.at (i := 0) rfl)) (Rd.mono p1_7 (hW.at (i := 0) rfl))) (fun v13 m13 hv13 => ?_)
                subst hv13
                refine VO.y rfl (.pT rfl rfl) ?_
                refine VO.as ?_
                refine VO.k5 0 1 2 3 4 ?_
                refine VC.ret ?_
                refine ⟨_, _, res_run (rs := [.tmp 4]) rfl (.tmp rfl .nil), fun W_ hI => out_of (l := []) hI [] rfl rfl (mle_refl _) (fun hS_ => ?_)⟩
                dsimp only [packV]
                all_goals (first | rfl | (first | exact congrArg Value.bool (decide_eq_false (fun e => by subst e; exact absurd rfl (by assumption))).symm | exact congrArg Value.bool (decide_eq_decide.2 ⟨fun h => message_ext (by first | assumption | (apply Decidable.not_not.1; assumption)) (by first | assumption | (apply Decidable.not_not.1; assumption)) (by first | assumption | (apply Decidable.not_not.1; assumption)) (by first | assumption | (apply Decidable.not_not.1; assumption)) (by first | assumption | exact start_all ht (by omega) (by omega)) (by first | assumption | (apply Decidable.not_not.1; assumption)) (by first | assumption | (apply Decidable.not_not.1; assumption)) h, fun e => by rw [e]⟩)))
              · -- TTTTTTF
                refine VO.gN ?_
                refine VO.gN ?_
                refine VO.gN ?_
                refine VO.gN ?_
                refine VO.gN ?_
                refine VO.y rfl (.pF rfl rfl) ?_
                refine VO.as ?_
                refine VO.k5 0 1 2 3 4 ?_
                refine VC.ret ?_
                refine ⟨_, _, res_run (rs := [.tmp 4]) rfl (.tmp rfl .nil), fun W_ hI => out_of (l := []) hI [] rfl rfl (mle_refl _) (fun hS_ => ?_)⟩
                dsimp only [packV]
                all_goals (first | rfl | (first | exact congrArg Value.bool (decide_eq_false (fun e => by subst e; exact absurd rfl (by assumption))).symm | exact congrArg Value.bool (decide_eq_decide.2 ⟨fun h => message_ext (by first | assumption | (apply Decidable.not_not.1; assumption)) (by first | assumption | (apply Decidable.not_not.1; assumption)) (by first | assumption | (apply Decidable.not_not.1; assumption)) (by first | assumption | (apply Decidable.not_not.1; assumption)) (by first | assumption | exact start_all ht (by omega) (by omega)) (by first | assumption | (apply Decidable.not_not.1; assumption)) (by first | assumption | (apply Decidable.not_not.1; assumption)) h, fun e => by rw [e]⟩)))
            · -- TTTTTF
              refine VO.gN ?_
              refine VO.gN ?_
              refine VO.gN ?_
              refine VO.gN ?_
              refine VO.gN ?_
              refine VO.y rfl (.pF rfl rfl) ?_
              refine VO.mv ?_
              refine VO.gN ?_
              refine VO.gN ?_
              refine VO.gN ?_
              refine VO.gN ?_
              refine VO.gN ?_
              refine VO.y rfl (.pF rfl rfl) ?_
              refine VO.as ?_
              refine VO.k5 0 1 2 3 4 ?_
              refine VC.ret ?_
              refine ⟨_, _, res_run (rs := [.tmp 4]) rfl (.tmp rfl .nil), fun W_ hI => out_of (l := []) hI [] rfl rfl (mle_refl _) (fun hS_ => ?_)⟩
              dsimp only [packV]
              all_goals (first | rfl | (first | exact congrArg Value.bool (decide_eq_false (fun e => by subst e; exact absurd rfl (by assumption))).symm | exact congrArg Value.bool (decide_eq_decide.2 ⟨fun h => message_ext (by first | assumption | (apply Decidable.not_not.1; assumption)) (by first | assumption | (apply Decidable.not_not.1; assumption)) (by first | assumption | (apply Decidable.not_not.1; assumption)) (by first | assumption | (apply Decidable.not_not.1; assumption)) (by first | assumption | exact start_all ht (by omega) (by omega)) (by first | assumption | (apply Decidable.not_not.1; assumption)) (by first | assumption | (apply Decidable.not_not.1; assumption)) h, fun e => by rw [e]⟩)))
          · -- TTTTF
            refine VO.gN ?_
            refine VO.gN ?_
            refine VO.gN ?_
            refine VO.gN ?_
            refine VO.gN ?_
            refine VO.y rfl (.pF rfl rfl) ?_
            refine VO.mv ?_
            refine VO.gN ?_
            refine VO.gN ?_
            refine VO.gN ?_
            refine VO.gN ?_
            refine VO.gN ?_
            refine VO.y rfl (.pF rfl rfl) ?_
            refine VO.mv ?_
            refine VO.gN ?_
            refine VO.gN ?_
            refine VO.gN ?_
            refine VO.gN ?_
            refine VO.gN ?_
            refine VO.y rfl (.pF rfl rfl) ?_
            refine VO.as ?_
            refine VO.k5 0 1 2 3 4 ?_
            refine VC.ret ?_
            refine ⟨_, _, res_run (rs := [.tmp 4]) rfl (.tmp rfl .nil), fun W_ hI => out_of (l := []) hI [] rfl rfl (mle_refl _) (fun hS_ => ?_)⟩
            dsimp only [packV]
            all_goals (first | rfl | (first | exact congrArg Value.bool (decide_eq_false (fun e => by subst e; exact absurd rfl (by assumption))).symm | exact congrArg Value.bool (decide_eq_decide.2 ⟨fun h => message_ext (by first | assumption | (apply Decidable.not_not.1; assumption)) (by first | assumption | (apply Decidable.not_not.1; assumption)) (by first | assumption | (apply Decidable.not_not.1; assumption)) (by first | assumption | (apply Decidable.not_not.1; assumption)) (by first | assumption | exact start_all ht (by omega) (by omega)) (by first | assumption | (apply Decidable.not_not.1; assumption)) (by first | assumption | (apply Decidable.not_not.1; assumption)) h, fun e => by rw [e]⟩)))
        · -- TTTF
          refine VO.gN ?_
          refine VO.gN ?_
          refine VO.gN ?_
          refine VO.gN ?_
          refine VO.gN ?_
          refine VO.y rfl (.pF rfl rfl) ?_
          refine VO.mv ?_
          refine VO.gN ?_
          refine VO.gN ?_
          refine VO.gN ?_
          refine VO.gN ?_
          refine VO.gN ?_
          refine VO.y rfl (.pF rfl rfl) ?_
          refine VO.mv ?_
          refine VO.gN ?_
          refine VO.gN ?_
          refine VO.gN ?_
          refine VO.gN ?_
          refine VO.gN ?_
          refine VO.y rfl (.pF rfl rfl) ?_
          refine VO.mv ?_
          refine VO.gN ?_
          refine VO.gN ?_
          refine VO.gN ?_
          refine VO.gN ?_
          refine VO.gN ?_
          refine VO.y rfl (.pF rfl rfl) ?_
          refine VO.as ?_
          refine VO.k5 0 1 2 3 4 ?_
          refine VC.ret ?_
          refine ⟨_, _, res_run (rs := [.tmp 4]) rfl (.tmp rfl .nil), fun W_ hI => out_of (l := []) hI [] rfl rfl (mle_refl _) (fun hS_ => ?_)⟩
          dsimp only [packV]
          all_goals (first | rfl | (first | exact congrArg Value.bool (decide_eq_false (fun e => by subst e; exact absurd rfl (by assumption))).symm | exact congrArg Value.bool (decide_eq_decide.2 ⟨fun h => message_ext (by first | assumption | (apply Decidable.not_not.1; assumption)) (by first | assumption | (apply Decidable.not_not.1; assumption)) (by first | assumption | (apply Decidable.not_not.1; assumption)) (by first | assumption | (apply Decidable.not_not.1; assumption)) (by first | assumption | exact start_all ht (by omega) (by omega)) (by first | assumption | (apply Decidable.not_not.1; assumption)) (by first | assumption | (apply Decidable.not_not.1; assumption)) h, fun e => by rw [e]⟩)))
      · -- TTF
        refine VO.gN ?_
        refine VO.gN ?_
        refine VO.gN ?_
        refine VO.gN ?_
        refine VO.gN ?_
        refine VO.y rfl (.pF rfl rfl) ?_
        refine VO.mv ?_
        refine VO.gN ?_
        refine VO.gN ?_
        refine VO.gN ?_
        refine VO.gN ?_
        refine VO.gN ?_
        refine VO.y rfl (.pF rfl rfl) ?_
        refine VO.mv ?_
        refine VO.gN ?_
        refine VO.gN ?_
        refine VO.gN ?_
        refine VO.gN ?_
        refine VO.gN ?_
        refine VO.y rfl (.pF rfl rfl) ?_
        refine VO.mv ?_
        refine VO.gN ?_
        refine VO.gN ?_
        refine VO.gN ?_
        refine VO.gN ?_
        refine VO.gN ?_
        refine VO.y rfl (.pF rfl rfl) ?_
        refine VO.mv ?_
        refine VO.gN ?_
        refine VO.gN ?_
        refine VO.gN ?_
        refine VO.gN ?_
        refine VO.gN ?_
        refine VO.y rfl (.pF rfl rfl) ?_
        refine VO.as ?_
        refine VO.k5 0 1 2 3 4 ?_
        refine VC.ret ?_
        refine ⟨_, _, res_run (rs := [.tmp 4]) rfl (.tmp rfl .nil), fun W_ hI => out_of (l := []) hI [] rfl rfl (mle_refl _) (fun hS_ => ?_)⟩
        dsimp only [packV]
        all_goals (first | rfl | (first | exact congrArg Value.bool (decide_eq_false (fun e => by subst e; exact absurd rfl (by assumption))).symm | exact congrArg Value.bool (decide_eq_decide.2 ⟨fun h => message_ext (by first | assumption | (apply Decidable.not_not.1; assumption)) (by first | assumption | (apply Decidable.not_not.1; assumption)) (by first | assumption | (apply Decidable.not_not.1; assumption)) (by first | assumption | (apply Decidable.not_not.1; assumption)) (by first | assumption | exact start_all ht (by omega) (by omega)) (by first | assumption | (apply Decidable.not_not.1; assumption)) (by first | assumption | (apply Decidable.not_not.1; assumption)) h, fun e => by rw [e]⟩)))
    · -- TF
      refine VO.gN ?_
      refine VO.gN ?_
      refine VO.gN ?_
      refine VO.gN ?_
      refine VO.gN ?_
      refine VO.y rfl (.pF rfl rfl) ?_
      refine VO.mv ?_
      refine VO.gN ?_
      refine VO.gN ?_
      refine VO.gN ?_
      refine VO.gN ?_
      refine VO.gN ?_
      refine VO.y rfl (.pF rfl rfl) ?_
      refine VO.mv ?_
      refine VO.gN ?_
      refine VO.gN ?_
      refine VO.gN ?_
      refine VO.gN ?_
      refine VO.gN ?_
      refine VO.y rfl (.pF rfl rfl) ?_
      refine VO.mv ?_
      refine VO.gN ?_
      refine VO.gN ?_
      refine VO.gN ?_
      refine VO.gN ?_
      refine VO.gN ?_
      refine VO.y rfl (.pF rfl rfl) ?_
      refine VO.mv ?_
      refine VO.gN ?_
      refine VO.gN ?_
      refine VO.gN ?_
      refine VO.gN ?_
      refine VO.gN ?_
      refine VO.y rfl (.pF rfl rfl) ?_
      refine VO.mv ?_
      refine VO.gN ?_
      refine VO.gN ?_
      refine VO.gN ?_
      refine VO.gN ?_
      refine VO.gN ?_
      refine VO.y rfl (.pF rfl rfl) ?_
      refine VO.as ?_
      refine VO.k5 0 1 2 3 4 ?_
      refine VC.ret ?_
      refine ⟨_, _, res_run (rs := [.tmp 4]) rfl (.tmp rfl .nil), fun W_ hI => out_of (l := []) hI [] rfl rfl (mle_refl _) (fun hS_ => ?_)⟩
      dsimp only [packV]
      all_goals (first | rfl | (first | exact congrArg Value.bool (decide_eq_false (fun e => by subst e; exact absurd rfl (by assumption))).symm | exact congrArg Value.bool (decide_eq_decide.2 ⟨fun h => message_ext (by first | assumption | (apply Decidable.not_not.1; assumption)) (by first | assumption | (apply Decidable.not_not.1; assumption)) (by first | assumption | (apply Decidable.not_not.1; assumption)) (by first | assumption | (apply Decidable.not_not.1; assumption)) (by first | assumption | exact start_all ht (by omega) (by omega)) (by first | assumption | (apply Decidable.not_not.1; assumption)) (by first | assumption | (apply Decidable.not_not.1; assumption)) h, fun e => by rw [e]⟩)))
  · -- F
    refine VO.gN ?_
    refine VO.gN ?_
    refine VO.gN ?_
    refine VO.gN ?_
    refine VO.gN ?_
    refine VO.y rfl (.pF rfl rfl) ?_
    refine VO.mv ?_
    refine VO.gN ?_
    refine VO.gN ?_
    refine VO.gN ?_
    refine VO.gN ?_
    refine VO.gN ?_
    refine VO.y rfl (.pF rfl rfl) ?_
    refine VO.mv ?_
    refine VO.gN ?_
    refine VO.gN ?_
    refine VO.gN ?_
    refine VO.gN ?_
    refine VO.gN ?_
    refine VO.y rfl (.pF rfl rfl) ?_
    refine VO.mv ?_
    refine VO.gN ?_
    refine VO.gN ?_
    refine VO.gN ?_
    refine VO.gN ?_
    refine VO.gN ?_
    refine VO.y rfl (.pF rfl rfl) ?_
    refine VO.mv ?_
    refine VO.gN ?_
    refine VO.gN ?_
    refine VO.gN ?_
    refine VO.gN ?_
    refine VO.gN ?_
    refine VO.y rfl (.pF rfl rfl) ?_
    refine VO.mv ?_
    refine VO.gN ?_
    refine VO.gN ?_
    refine VO.gN ?_
    refine VO.gN ?_
    refine VO.gN ?_
    refine VO.y rfl (.pF rfl rfl) ?_
    refine VO.mv ?_
    refine VO.gN ?_
    refine VO.gN ?_
    refine VO.gN ?_
    refine VO.gN ?_
    refine VO.gN ?_
    refine VO.y rfl (.pF rfl rfl) ?_
    refine VO.as ?_
    refine VO.k5 0 1 2 3 4 ?_
    refine VC.ret ?_
    refine ⟨_, _, res_run (rs := [.tmp 4]) rfl (.tmp rfl .nil), fun W_ hI => out_of (l := []) hI [] rfl rfl (mle_refl _) (fun hS_ => ?_)⟩
    dsimp only [packV]
    all_goals (first | rfl | (first | exact congrArg Value.bool (decide_eq_false (fun e => by subst e; exact absurd rfl (by assumption))).symm | exact congrArg Value.bool (decide_eq_decide.2 ⟨fun h => message_ext (by first | assumption | (apply Decidable.not_not.1; assumption)) (by first | assumption | (apply Decidable.not_not.1; assumption)) (by first | assumption | (apply Decidable.not_not.1; assumption)) (by first | assumption | (apply Decidable.not_not.1; assumption)) (by first | assumption | exact start_all ht (by omega) (by omega)) (by first | assumption | (apply Decidable.not_not.1; assumption)) (by first | assumption | (apply Decidable.not_not.1; assumption)) h, fun e => by rw [e]⟩)))
end
section
set_option linter.unusedVariables false
set_option linter.unusedSimpArgs false
set_option maxRecDepth 4000
theorem tst74 : tst Try.prog 74 = some [(0, 1), (1, 1)] := by kernel_rfl
theorem lNum_ok (W : World) {B_ : Bytes} {at_ : Int} {g0 : Nat} {E0 : TypeId} {d0 : Dletterreader} {b0_0 : Value} (hm : mle (mone g0 (.cells [(b0_0 : Value), .bool d0.2].toArray E0 (0, 0))) (wm W)) (h0_0 : Rd (.sl .byte) (mout (wm W) (mone g0 (.cells [(b0_0 : Value), .bool d0.2].toArray E0 (0, 0)))) [b0_0] d0.1) (d1 : Int) (h1 : inK .i64 d1) (e0 : d0.1 = B_.drop at_.toNat) (e1 : rOk B_ (at_, d0.2)) : CallR Try.prog 50 [.pointer (some ⟨g0, 0, none⟩), .int .i64 d1] W (mone g0 (.cells [(b0_0 : Value), .bool d0.2].toArray E0 (0, 0))) (fun v m' => v = .int .i64 ((rNum B_ d1 (at_, d0.2)).1) ∧ m' = mone g0 (.cells [(dropV b0_0 (((rNum B_ d1 (at_, d0.2)).2.1 - at_).toNat) 1 : Value), .bool ((rNum B_ d1 (at_, d0.2)).2.2)].toArray E0 (0, 0))) := by
  have e1_ := e1; obtain ⟨e1a, e1b⟩ := e1_
  obtain ⟨A0_0, c0_0, rfl, l0_0, k0_0⟩ := h0_0.slice
  simp only [maxLen] at k0_0
  have h1' := h1; simp only [inK] at h1'
  refine CallR.ofB (n := 39) hm Try.func50 rfl rfl rfl ?_
  refine VC.rs ?_
  refine VO.as ?_
  refine VO.k3 0 1 4 ?_
  refine VC.rs ?_
  refine VO.mv ?_
  refine VO.y rfl (.nilp rfl) ?_
  refine VO.y rfl (.fa rfl tst74 rfl) ?_
  refine VO.y rfl (.ld1 1 rfl tk30 rfl (cellsAt_one rfl rfl)) ?_
  refine VO.mv ?_
  refine VO.callN 101 rfl fnOk78 rfl (fun W hW => vSmall_ok W (Rd.mono h0_0 (hW.at (i := 0) rfl)) d1 bdk) (fun v1 m1 hv1 => ?_)
  subst hv1
  have hfa2 := s_bounds d0.1 d1 (by omega)
  refine VO.mv ?_
  refine VO.y rfl (.ext rfl rfl) ?_
  refine VO.y rfl (.ext rfl rfl) ?_
  refine VO.y rfl (.ext rfl rfl) ?_
  refine VO.as ?_
  refine VO.as ?_
  refine VO.as ?_
  refine VO.k6 0 1 4 5 6 7 ?_
  refine VC.seq ?_
  refine VC.rs ?_
  refine VO.mv ?_
  refine VO.y rfl (.nilp rfl) ?_
  refine VO.y rfl (.fa rfl tst74 rfl) ?_
  refine VO.y rfl (.ld1 1 rfl tk4 rfl (cellsAt_one rfl rfl)) ?_
  refine VO.mv ?_
  refine VO.decB (t := 22) rfl (fun hc3 => ?_) (fun hc3 => ?_)
  · -- T
    refine VO.gN ?_
    refine VO.gN ?_
    refine VO.y rfl (.pT rfl rfl) ?_
    refine VO.keep [0, 1] [(0, mout (wm W) (mone g0 (.cells [Value.slice A0_0 (d0.1.length) (c0_0), Value.bool d0.2].toArray E0 (0, 0)))), (1, mone g0 (.cells [Value.slice A0_0 (d0.1.length) (c0_0), Value.bool d0.2].toArray E0 (0, 0)))] (by kernel_rfl) ?_
    refine VO.k7 0 1 4 5 6 7 25 ?_
    refine VC.condT rfl ?_
    refine VC.rs ?_
    refine VO.mv ?_
    refine VO.y rfl (.nilp rfl) ?_
    refine VO.y rfl (.fa rfl tst74 rfl) ?_
    refine VO.store (k := 1) (c' := [Value.slice A0_0 (d0.1.length) (c0_0), Value.bool true]) 1 rfl rfl (.inr ⟨tk4, rfl⟩) rfl rfl rfl rfl rfl ?_
    refine VO.k7 0 1 4 5 6 7 25 ?_
    refine VC.rs ?_
    refine VO.as ?_
    refine VO.k7 0 1 4 5 6 7 25 ?_
    refine VC.ret ?_
    refine outR ?_
    refine ⟨_, _, res_run (rs := [.tmp 4]) rfl (.tmp rfl .nil), fun W_ hI => out_of (l := [mone g0 (.cells [Value.slice A0_0 (d0.1.length) (c0_0), Value.bool true].toArray E0 (0, 0))]) hI [1] rfl rfl (mle_refl _) (fun hS_ => ?_)⟩
    dsimp only [packV]
    have hm0_1 : ((rNum B_ d1 (at_, d0.2)).2.2 : Bool) = true := by first | rfl | (first | (rw [rNum_bad (by assumption)]; assumption) | (rw [rNum_none (by assumption) (by rw [← e0]; assumption)]; done) | (rw [rNum_some (by assumption) (by rw [← e0]; exact Decidable.not_not.1 (by assumption))]; symm; assumption))
    refine ⟨?_, ?_⟩
    rotate_left
    · (rw [hm0_1, muns_one]; (first | done | (first | (rw [rNum_bad (by assumption)]; simp only [Int.sub_self, Int.toNat_zero, dropV_zero]; done) | (rw [rNum_none (by assumption) (by rw [← e0]; assumption)]; simp only [Int.sub_self, Int.toNat_zero, dropV_zero]; done) | (rw [rNum_some (by assumption) (by rw [← e0]; exact Decidable.not_not.1 (by assumption))]; dsimp only; rw [show (at_ + (sN (B_.drop at_.toNat) d1 : Int) - at_).toNat = sN d0.1 d1 by rw [← e0]; omega]; simp only [dropV]; done))))
    all_goals (first | rfl | (first | (rw [rNum_bad (by assumption)] <;> rfl) | (rw [rNum_none (by assumption) (by rw [← e0]; assumption)] <;> rfl) | (rw [rNum_some (by assumption) (by rw [← e0]; exact Decidable.not_not.1 (by assumption))]; dsimp only; rw [← e0]; rfl)))
  · -- F
    refine VO.gy rfl ⟨_, rfl, rfl⟩ (.mv rfl) ?_
    refine VO.gy rfl ⟨_, rfl, rfl⟩ (.neq rfl rfl) ?_
    refine VO.y rfl (.pF rfl rfl) ?_
    refine VO.keep [0, 1] [(0, mout (wm W) (mone g0 (.cells [Value.slice A0_0 (d0.1.length) (c0_0), Value.bool d0.2].toArray E0 (0, 0)))), (1, mone g0 (.cells [Value.slice A0_0 (d0.1.length) (c0_0), Value.bool d0.2].toArray E0 (0, 0)))] (by kernel_rfl) ?_
    refine VO.k7 0 1 4 5 6 7 25 ?_
    refine VC.cond rfl (fun hc4 => ?_) (fun hc4 => ?_)
    · -- FT
      refine VC.rs ?_
      refine VO.mv ?_
      refine VO.y rfl (.nilp rfl) ?_
      refine VO.y rfl (.fa rfl tst74 rfl) ?_
      refine VO.store (k := 1) (c' := [Value.slice A0_0 (d0.1.length) (c0_0), Value.bool true]) 1 rfl rfl (.inr ⟨tk4, rfl⟩) rfl rfl rfl rfl rfl ?_
      refine VO.k7 0 1 4 5 6 7 25 ?_
      refine VC.rs ?_
      refine VO.as ?_
      refine VO.k7 0 1 4 5 6 7 25 ?_
      refine VC.ret ?_
      refine outR ?_
      refine ⟨_, _, res_run (rs := [.tmp 4]) rfl (.tmp rfl .nil), fun W_ hI => out_of (l := [mone g0 (.cells [Value.slice A0_0 (d0.1.length) (c0_0), Value.bool true].toArray E0 (0, 0))]) hI [1] rfl rfl (mle_refl _) (fun hS_ => ?_)⟩
      dsimp only [packV]
      have hm0_1 : ((rNum B_ d1 (at_, d0.2)).2.2 : Bool) = true := by first | rfl | (first | (rw [rNum_bad (by assumption)]; assumption) | (rw [rNum_none (by assumption) (by rw [← e0]; assumption)]; done) | (rw [rNum_some (by assumption) (by rw [← e0]; exact Decidable.not_not.1 (by assumption))]; symm; assumption))
      refine ⟨?_, ?_⟩
      rotate_left
      · (rw [hm0_1, muns_one]; (first | done | (first | (rw [rNum_bad (by assumption)]; simp only [Int.sub_self, Int.toNat_zero, dropV_zero]; done) | (rw [rNum_none (by assumption) (by rw [← e0]; assumption)]; simp only [Int.sub_self, Int.toNat_zero, dropV_zero]; done) | (rw [rNum_some (by assumption) (by rw [← e0]; exact Decidable.not_not.1 (by assumption))]; dsimp only; rw [show (at_ + (sN (B_.drop at_.toNat) d1 : Int) - at_).toNat = sN d0.1 d1 by rw [← e0]; omega]; simp only [dropV]; done))))
      all_goals (first | rfl | (first | (rw [rNum_bad (by assumption)] <;> rfl) | (rw [rNum_none (by assumption) (by rw [← e0]; assumption)] <;> rfl) | (rw [rNum_some (by assumption) (by rw [← e0]; exact Decidable.not_not.1 (by assumption))]; dsimp only; rw [← e0]; rfl)))
    · -- FF
      refine VC.skip ?_
      refine outN ?_
      refine VC.rs ?_
      refine VO.mv ?_
      refine VO.mv ?_
      refine VO.y rfl (.nilp rfl) ?_
      refine VO.y rfl (.fa rfl tst74 rfl) ?_
      refine VO.y rfl (.ld1 1 rfl tk30 rfl (cellsAt_one rfl rfl)) ?_
      refine VO.mv ?_
      obtain ⟨A5, hA5, hs5⟩ := h0_0.drop 1 (sN d0.1 d1) rfl bd
      refine VO.y rfl (.slLI (sN d0.1 d1) A5 rfl rfl tsl30 rfl hA5 bd) ?_
      refine VO.y rfl (.nilp rfl) ?_
      refine VO.y rfl (.fa rfl tst74 rfl) ?_
      refine VO.store (k := 1) (c' := [Value.slice A5 (d0.1.length - (sN d0.1 d1)) (c0_0 - (sN d0.1 d1)), Value.bool d0.2]) 1 rfl rfl (.inr ⟨tk30, rfl⟩) rfl rfl rfl rfl rfl ?_
      refine VO.k7 0 1 4 5 6 7 25 ?_
      refine VC.rs ?_
      refine VO.mv ?_
      refine VO.as ?_
      refine VO.k7 0 1 4 5 6 7 25 ?_
      refine VC.ret ?_
      refine ⟨_, _, res_run (rs := [.tmp 4]) rfl (.tmp rfl .nil), fun W_ hI => out_of (l := [mone g0 (.cells [Value.slice A5 (d0.1.length - (sN d0.1 d1)) (c0_0 - (sN d0.1 d1)), Value.bool d0.2].toArray E0 (0, 0))]) hI [1] rfl rfl (mle_refl _) (fun hS_ => ?_)⟩
      dsimp only [packV]
      have hm0_1 : ((rNum B_ d1 (at_, d0.2)).2.2 : Bool) = d0.2 := by first | rfl | (first | (rw [rNum_bad (by assumption)]; assumption) | (rw [rNum_none (by assumption) (by rw [← e0]; assumption)]; done) | (rw [rNum_some (by assumption) (by rw [← e0]; exact Decidable.not_not.1 (by assumption))]; symm; assumption))
      refine ⟨?_, ?_⟩
      rotate_left
      · (rw [hm0_1, muns_one]; (first | done | (first | (rw [rNum_bad (by assumption)]; simp only [Int.sub_self, Int.toNat_zero, dropV_zero]; done) | (rw [rNum_none (by assumption) (by rw [← e0]; assumption)]; simp only [Int.sub_self, Int.toNat_zero, dropV_zero]; done) | (rw [rNum_some (by assumption) (by rw [← e0]; exact Decidable.not_not.1 (by assumption))]; dsimp only; rw [show (at_ + (sN (B_.drop at_.toNat) d1 : Int) - at_).toNat = sN d0.1 d1 by rw [← e0]; omega]; simp only [dropV, hA5]; done))))
      all_goals (first | rfl | (first | (rw [rNum_bad (by assumption)] <;> rfl) | (rw [rNum_none (by assumption) (by rw [← e0]; assumption)] <;> rfl) | (rw [rNum_some (by assumption) (by rw [← e0]; exact Decidable.not_not.1 (by assumption))]; dsimp only; rw [← e0]; rfl)))
end
section
set_option linter.unusedVariables false
set_option linter.unusedSimpArgs false
set_option maxRecDepth 4000
theorem fnOk50 : fnOk Try.prog 50 = true := by kernel_rfl
theorem fnOk79 : fnOk Try.prog 79 = true := by kernel_rfl
theorem lComm_ok (W : World) {B_ : Bytes} {at_ : Int} {g0 : Nat} {E0 : TypeId} {d0 : Dletterreader} {b0_0 : Value} (hm : mle (mone g0 (.cells [(b0_0 : Value), .bool d0.2].toArray E0 (0, 0))) (wm W)) (h0_0 : Rd (.sl .byte) (mout (wm W) (mone g0 (.cells [(b0_0 : Value), .bool d0.2].toArray E0 (0, 0)))) [b0_0] d0.1) (e0 : d0.1 = B_.drop at_.toNat) (e1 : rOk B_ (at_, d0.2)) (e2 : B_.length ≤ 9223372036854775807) : CallR Try.prog 51 [.pointer (some ⟨g0, 0, none⟩)] W (mone g0 (.cells [(b0_0 : Value), .bool d0.2].toArray E0 (0, 0))) (fun v m' => ∃ (s0 : List Value), ∃ (p0 : Mem), v = .agg s0.toArray ∧ Seps m' [p0, mone g0 (.cells [(dropV (dropV b0_0 (((rNum B_ ((B_.length : Int) - at_) (at_, d0.2)).2.1 - at_).toNat) 1) (((lComm B_ (at_, d0.2)).2.1 - (rNum B_ ((B_.length : Int) - at_) (at_, d0.2)).2.1).toNat) 1 : Value), .bool ((lComm B_ (at_, d0.2)).2.2)].toArray E0 (0, 0))] ∧ Ow TCommit p0 s0 ((lComm B_ (at_, d0.2)).1)) := by
  have e1_ := e1; obtain ⟨e1a, e1b⟩ := e1_
  have ez : d0.1.length = B_.length - at_.toNat := by rw [e0, List.length_drop]
  have hz : ((d0.1.length : Nat) : Int) = (B_.length : Int) - at_ := by omega
  obtain ⟨A0_0, c0_0, rfl, l0_0, k0_0⟩ := h0_0.slice
  simp only [maxLen] at k0_0
  refine CallR.ofB (n := 55) hm Try.func51 rfl rfl rfl ?_
  have h0x : Rd (.sl .byte) (mout (wm W) (mone g0 (.cells [Value.slice A0_0 (d0.1.length) (c0_0), Value.bool d0.2].toArray E0 (0, 0)))) [Value.slice A0_0 (d0.1.length) (c0_0)] (B_.drop at_.toNat) := by have h_ := h0_0; rw [← e0]; exact h_
  refine VC.rs ?_
  refine VO.alloc 102 rfl tz43 (fun g1 => ?_)
  refine VO.k2 0 2 ?_
  refine VC.rs ?_
  refine VO.mv ?_
  refine VO.mv ?_
  refine VO.y rfl (.nilp rfl) ?_
  refine VO.y rfl (.fa rfl tst74 rfl) ?_
  refine VO.y rfl (.ld1 1 rfl tk30 rfl (cellsAt_one rfl rfl)) ?_
  refine VO.y rfl (.lenS rfl tsl30) ?_
  refine VO.call 1 rfl fnOk50 rfl rfl (fun W hW => lNum_ok W (B_ := B_) (at_ := at_) (d0 := (B_.drop at_.toNat, d0.2)) (hW.at (i := 1) rfl) (Rd.mono h0x (hW.out (i := 1) (j := 0) rfl rfl)) ((d0.1.length : Nat) : Int) bdk (by rfl) (by first | assumption | exact ⟨by omega, by omega⟩ | exact ⟨by (simp; done), by (simp; done)⟩)) (fun v3 m3 hv3 => ?_)
  try dsimp only at hv3
  obtain ⟨rfl, rfl⟩ := hv3
  have hfa4 := (rNum_ok (B := B_) (m := ((d0.1.length : Nat) : Int)) (s := (at_, d0.2)) (by first | assumption | exact ⟨by omega, by omega⟩ | exact ⟨by (simp; done), by (simp; done)⟩) (by omega)).1
  try dsimp only at hfa4
  have hfa5 := (rNum_ok (B := B_) (m := ((d0.1.length : Nat) : Int)) (s := (at_, d0.2)) (by first | assumption | exact ⟨by omega, by omega⟩ | exact ⟨by (simp; done), by (simp; done)⟩) (by omega)).1.1
  try dsimp only at hfa5
  have hfa6 := (rNum_ok (B := B_) (m := ((d0.1.length : Nat) : Int)) (s := (at_, d0.2)) (by first | assumption | exact ⟨by omega, by omega⟩ | exact ⟨by (simp; done), by (simp; done)⟩) (by omega)).1.2
  try dsimp only at hfa6
  have hfa7 := (rNum_ok (B := B_) (m := ((d0.1.length : Nat) : Int)) (s := (at_, d0.2)) (by first | assumption | exact ⟨by omega, by omega⟩ | exact ⟨by (simp; done), by (simp; done)⟩) (by omega)).2
  try dsimp only at hfa7
  obtain ⟨A8, hA8, hs8⟩ := h0x.drop 1 (((rNum B_ ((d0.1.length : Nat) : Int) (at_, d0.2)).2.1 - at_).toNat) rfl bd
  simp only [dropV, hA8]
  have hl8 : d0.1.length - (((rNum B_ ((d0.1.length : Nat) : Int) (at_, d0.2)).2.1 - at_).toNat) = (B_.drop (rNum B_ ((d0.1.length : Nat) : Int) (at_, d0.2)).2.1.toNat).length := by simp only [List.length_drop] at *; omega
  have hd8 : Rd (.sl .byte) (mout (wm W) (mone g0 (.cells [Value.slice A0_0 (d0.1.length) (c0_0), Value.bool d0.2].toArray E0 (0, 0)))) [Value.slice A8 (B_.drop (rNum B_ ((d0.1.length : Nat) : Int) (at_, d0.2)).2.1.toNat).length (c0_0 - (((rNum B_ ((d0.1.length : Nat) : Int) (at_, d0.2)).2.1 - at_).toNat))] (B_.drop (rNum B_ ((d0.1.length : Nat) : Int) (at_, d0.2)).2.1.toNat) := Rd.relen (by have h_ : Rd (.sl .byte) (mout (wm W) (mone g0 (.cells [Value.slice A0_0 (d0.1.length) (c0_0), Value.bool d0.2].toArray E0 (0, 0)))) [Value.slice A8 ((B_.drop at_.toNat).length - (((rNum B_ ((d0.1.length : Nat) : Int) (at_, d0.2)).2.1 - at_).toNat)) (c0_0 - (((rNum B_ ((d0.1.length : Nat) : Int) (at_, d0.2)).2.1 - at_).toNat))] ((B_.drop at_.toNat).drop (((rNum B_ ((d0.1.length : Nat) : Int) (at_, d0.2)).2.1 - at_).toNat)) := hs8; rw [drop_at (by omega) (by omega)] at h_; exact h_) rfl
  rw [hl8]
  refine VO.as ?_
  refine VO.k3 0 2 3 ?_
  refine VC.seq ?_
  refine VC.rs ?_
  refine VO.mv ?_
  refine VO.y rfl (.nilp rfl) ?_
  refine VO.y rfl (.fa rfl tst74 rfl) ?_
  refine VO.y rfl (.ld1 1 rfl tk4 rfl (cellsAt_one rfl rfl)) ?_
  refine VO.mv ?_
  refine VO.decB (t := 17) rfl (fun hc9 => ?_) (fun hc9 => ?_)
  · -- T
    refine VO.gN ?_
    refine VO.gN ?_
    refine VO.gN ?_
    refine VO.gN ?_
    refine VO.gN ?_
    refine VO.gN ?_
    refine VO.gN ?_
    refine VO.y rfl (.pT rfl rfl) ?_
    refine VO.keep [1, 102, 0] [(1, mone g0 (.cells [Value.slice A8 ((B_.drop (rNum B_ ((d0.1.length : Nat) : Int) (at_, d0.2)).2.1.toNat).length) (c0_0 - (((rNum B_ ((d0.1.length : Nat) : Int) (at_, d0.2)).2.1 - at_).toNat)), Value.bool ((rNum B_ ((d0.1.length : Nat) : Int) (at_, d0.2)).2.2)].toArray E0 (0, 0))), (102, mone g1 (.cells [Value.int .i64 (0), Value.int .i64 (0), Value.slice none (0) (0)].toArray 43 (0, 0))), (0, mout (wm W) (mone g0 (.cells [Value.slice A0_0 (d0.1.length) (c0_0), Value.bool d0.2].toArray E0 (0, 0))))] (by kernel_rfl) ?_
    refine VO.k4 0 2 3 25 ?_
    refine VC.condT rfl ?_
    refine VC.rs ?_
    refine VO.mv ?_
    refine VO.y rfl (.nilp rfl) ?_
    refine VO.y rfl (.fa rfl tst74 rfl) ?_
    refine VO.store (k := 1) (c' := [Value.slice A8 ((B_.drop (rNum B_ ((d0.1.length : Nat) : Int) (at_, d0.2)).2.1.toNat).length) (c0_0 - (((rNum B_ ((d0.1.length : Nat) : Int) (at_, d0.2)).2.1 - at_).toNat)), Value.bool true]) 1 rfl rfl (.inr ⟨tk4, rfl⟩) rfl rfl rfl rfl rfl ?_
    refine VO.k4 0 2 3 25 ?_
    refine VC.rs ?_
    refine VO.y rfl (.bst (cs := [Value.int .i64 (0), Value.int .i64 (0), Value.slice none (0) (0)]) rfl tst43 tz43 rfl) ?_
    refine VO.store (k := 3) (c' := [Value.int .i64 (0), Value.int .i64 (0), Value.slice none (0) (0)]) 102 rfl rfl (.inl tk43) rfl rfl rfl rfl rfl ?_
    refine VO.k4 0 2 3 25 ?_
    refine VC.ret ?_
    refine outR ?_
    refine ⟨_, _, res_run (rs := [.cell 2 43]) rfl (.agg 102 rfl tk43 rfl ⟨_, _, _, mone_self _ _, Nat.le_of_ble_eq_true rfl, rfl⟩ .nil), fun W_ hI => out_of (l := [mone g0 (.cells [Value.slice A8 ((B_.drop (rNum B_ ((d0.1.length : Nat) : Int) (at_, d0.2)).2.1.toNat).length) (c0_0 - (((rNum B_ ((d0.1.length : Nat) : Int) (at_, d0.2)).2.1 - at_).toNat)), Value.bool true].toArray E0 (0, 0))]) hI [1] rfl rfl (mle_refl _) (fun hS_ => ?_)⟩
    dsimp only [packV]
    have he0 : ((lComm B_ (at_, d0.2)).1 : Ty.Den TCommit) = (0, 0, []) := by first | rfl | (first | (rw [lComm_1 hz (by assumption)] <;> rfl) | (rw [lComm_2 hz (by assumption) (by omega)] <;> rfl) | (rw [lComm_3 hz (by assumption) (by omega)] <;> rfl))
    have hm0_1 : ((lComm B_ (at_, d0.2)).2.2 : Bool) = true := by first | rfl | (first | (rw [lComm_1 hz (by assumption)] <;> rfl) | (rw [lComm_2 hz (by assumption) (by omega)] <;> rfl) | (rw [lComm_3 hz (by assumption) (by omega)] <;> rfl))
    refine ⟨[Value.int .i64 (0), Value.int .i64 (0), Value.slice none (0) (0)], muns [], ?_, ?_, ?_⟩
    rotate_left
    · have hbx : mone g0 (.cells [(dropV (dropV (Value.slice A0_0 d0.1.length c0_0) (((rNum B_ ((B_.length : Int) - at_) (at_, d0.2)).2.1 - at_).toNat) 1) (((lComm B_ (at_, d0.2)).2.1 - (rNum B_ ((B_.length : Int) - at_) (at_, d0.2)).2.1).toNat) 1 : Value), .bool ((lComm B_ (at_, d0.2)).2.2)].toArray E0 (0, 0)) = mone g0 (.cells [Value.slice A8 ((B_.drop (rNum B_ ((d0.1.length : Nat) : Int) (at_, d0.2)).2.1.toNat).length) (c0_0 - (((rNum B_ ((d0.1.length : Nat) : Int) (at_, d0.2)).2.1 - at_).toNat)), Value.bool true].toArray E0 (0, 0)) := (by rw [hm0_1]; first | rfl | (first | (rw [lComm_1 hz (by assumption)]; dsimp only; rw [← hz]; simp only [Int.sub_self, Int.toNat_zero, dropV_zero2]; simp only [dropV, hA8, hl8]; done) | (rw [lComm_2 hz (by assumption) (by omega)]; dsimp only; rw [← hz]; simp only [Int.sub_self, Int.toNat_zero, dropV_zero2]; simp only [dropV, hA8, hl8]; done) | (rw [lComm_3 hz (by assumption) (by omega)]; dsimp only; rw [← hz]; simp only [add_sub_it]; simp only [dropV, hA8, hl8]; done)))
      show Seps _ [muns [], mone g0 (.cells [(dropV (dropV (Value.slice A0_0 d0.1.length c0_0) (((rNum B_ ((B_.length : Int) - at_) (at_, d0.2)).2.1 - at_).toNat) 1) (((lComm B_ (at_, d0.2)).2.1 - (rNum B_ ((B_.length : Int) - at_) (at_, d0.2)).2.1).toNat) 1 : Value), .bool ((lComm B_ (at_, d0.2)).2.2)].toArray E0 (0, 0))]
      rw [hbx]
      exact Seps.grpM (ls := [[], [mone g0 (.cells [Value.slice A8 ((B_.drop (rNum B_ ((d0.1.length : Nat) : Int) (at_, d0.2)).2.1.toNat).length) (c0_0 - (((rNum B_ ((d0.1.length : Nat) : Int) (at_, d0.2)).2.1 - at_).toNat)), Value.bool true].toArray E0 (0, 0))]]) hS_ (by simp only [List.map, muns_one])
    · rw [he0]; exact (mkO_Commit 0 0 [] (Seps.nilAt 0 (Seps.self hS_ (List.Sublist.cons _ List.Sublist.slnil))) bdk bdk (Ow.nil _ _))
    all_goals (first | rfl | (simp [*]; done))
  · -- F
    refine VO.gy rfl ⟨_, rfl, rfl⟩ (.mv rfl) ?_
    refine VO.gy rfl ⟨_, rfl, rfl⟩ (.mv rfl) ?_
    refine VO.gy rfl ⟨_, rfl, rfl⟩ (.nilp rfl) ?_
    refine VO.gy rfl ⟨_, rfl, rfl⟩ (.fa rfl tst74 rfl) ?_
    refine VO.gy rfl ⟨_, rfl, rfl⟩ (.ld1 1 rfl tk30 rfl (cellsAt_one rfl rfl)) ?_
    refine VO.gy rfl ⟨_, rfl, rfl⟩ (.lenS rfl tsl30) ?_
    refine VO.gy rfl ⟨_, rfl, rfl⟩ (.gtr rfl rfl) ?_
    refine VO.y rfl (.pF rfl rfl) ?_
    refine VO.keep [1, 102, 0] [(1, mone g0 (.cells [Value.slice A8 ((B_.drop (rNum B_ ((d0.1.length : Nat) : Int) (at_, d0.2)).2.1.toNat).length) (c0_0 - (((rNum B_ ((d0.1.length : Nat) : Int) (at_, d0.2)).2.1 - at_).toNat)), Value.bool ((rNum B_ ((d0.1.length : Nat) : Int) (at_, d0.2)).2.2)].toArray E0 (0, 0))), (102, mone g1 (.cells [Value.int .i64 (0), Value.int .i64 (0), Value.slice none (0) (0)].toArray 43 (0, 0))), (0, mout (wm W) (mone g0 (.cells [Value.slice A0_0 (d0.1.length) (c0_0), Value.bool d0.2].toArray E0 (0, 0))))] (by kernel_rfl) ?_
    refine VO.k4 0 2 3 25 ?_
    refine VC.cond rfl (fun hc10 => ?_) (fun hc10 => ?_)
    · -- FT
      refine VC.rs ?_
      refine VO.mv ?_
      refine VO.y rfl (.nilp rfl) ?_
      refine VO.y rfl (.fa rfl tst74 rfl) ?_
      refine VO.store (k := 1) (c' := [Value.slice A8 ((B_.drop (rNum B_ ((d0.1.length : Nat) : Int) (at_, d0.2)).2.1.toNat).length) (c0_0 - (((rNum B_ ((d0.1.length : Nat) : Int) (at_, d0.2)).2.1 - at_).toNat)), Value.bool true]) 1 rfl rfl (.inr ⟨tk4, rfl⟩) rfl rfl rfl rfl rfl ?_
      refine VO.k4 0 2 3 25 ?_
      refine VC.rs ?_
      refine VO.y rfl (.bst (cs := [Value.int .i64 (0), Value.int .i64 (0), Value.slice none (0) (0)]) rfl tst43 tz43 rfl) ?_
      refine VO.store (k := 3) (c' := [Value.int .i64 (0), Value.int .i64 (0), Value.slice none (0) (0)]) 102 rfl rfl (.inl tk43) rfl rfl rfl rfl rfl ?_
      refine VO.k4 0 2 3 25 ?_
      refine VC.ret ?_
      refine outR ?_
      refine ⟨_, _, res_run (rs := [.cell 2 43]) rfl (.agg 102 rfl tk43 rfl ⟨_, _, _, mone_self _ _, Nat.le_of_ble_eq_true rfl, rfl⟩ .nil), fun W_ hI => out_of (l := [mone g0 (.cells [Value.slice A8 ((B_.drop (rNum B_ ((d0.1.length : Nat) : Int) (at_, d0.2)).2.1.toNat).length) (c0_0 - (((rNum B_ ((d0.1.length : Nat) : Int) (at_, d0.2)).2.1 - at_).toNat)), Value.bool true].toArray E0 (0, 0))]) hI [1] rfl rfl (mle_refl _) (fun hS_ => ?_)⟩
      dsimp only [packV]
      have he0 : ((lComm B_ (at_, d0.2)).1 : Ty.Den TCommit) = (0, 0, []) := by first | rfl | (first | (rw [lComm_1 hz (by assumption)] <;> rfl) | (rw [lComm_2 hz (by assumption) (by omega)] <;> rfl) | (rw [lComm_3 hz (by assumption) (by omega)] <;> rfl))
      have hm0_1 : ((lComm B_ (at_, d0.2)).2.2 : Bool) = true := by first | rfl | (first | (rw [lComm_1 hz (by assumption)] <;> rfl) | (rw [lComm_2 hz (by assumption) (by omega)] <;> rfl) | (rw [lComm_3 hz (by assumption) (by omega)] <;> rfl))
      refine ⟨[Value.int .i64 (0), Value.int .i64 (0), Value.slice none (0) (0)], muns [], ?_, ?_, ?_⟩
      rotate_left
      · have hbx : mone g0 (.cells [(dropV (dropV (Value.slice A0_0 d0.1.length c0_0) (((rNum B_ ((B_.length : Int) - at_) (at_, d0.2)).2.1 - at_).toNat) 1) (((lComm B_ (at_, d0.2)).2.1 - (rNum B_ ((B_.length : Int) - at_) (at_, d0.2)).2.1).toNat) 1 : Value), .bool ((lComm B_ (at_, d0.2)).2.2)].toArray E0 (0, 0)) = mone g0 (.cells [Value.slice A8 ((B_.drop (rNum B_ ((d0.1.length : Nat) : Int) (at_, d0.2)).2.1.toNat).length) (c0_0 - (((rNum B_ ((d0.1.length : Nat) : Int) (at_, d0.2)).2.1 - at_).toNat)), Value.bool true].toArray E0 (0, 0)) := (by rw [hm0_1]; first | rfl | (first | (rw [lComm_1 hz (by assumption)]; dsimp only; rw [← hz]; simp only [Int.sub_self, Int.toNat_zero, dropV_zero2]; simp only [dropV, hA8, hl8]; done) | (rw [lComm_2 hz (by assumption) (by omega)]; dsimp only; rw [← hz]; simp only [Int.sub_self, Int.toNat_zero, dropV_zero2]; simp only [dropV, hA8, hl8]; done) | (rw [lComm_3 hz (by assumption) (by omega)]; dsimp only; rw [← hz]; simp only [add_sub_it]; simp only [dropV, hA8, hl8]; done)))
        show Seps _ [muns [], mone g0 (.cells [(dropV (dropV (Value.slice A0_0 d0.1.length c0_0) (((rNum B_ ((B_.length : Int) - at_) (at_, d0.2)).2.1 - at_).toNat) 1) (((lComm B_ (at_, d0.2)).2.1 - (rNum B_ ((B_.length : Int) - at_) (at_, d0.2)).2.1).toNat) 1 : Value), .bool ((lComm B_ (at_, d0.2)).2.2)].toArray E0 (0, 0))]
        rw [hbx]
        exact Seps.grpM (ls := [[], [mone g0 (.cells [Value.slice A8 ((B_.drop (rNum B_ ((d0.1.length : Nat) : Int) (at_, d0.2)).2.1.toNat).length) (c0_0 - (((rNum B_ ((d0.1.length : Nat) : Int) (at_, d0.2)).2.1 - at_).toNat)), Value.bool true].toArray E0 (0, 0))]]) hS_ (by simp only [List.map, muns_one])
      · rw [he0]; exact (mkO_Commit 0 0 [] (Seps.nilAt 0 (Seps.self hS_ (List.Sublist.cons _ List.Sublist.slnil))) bdk bdk (Ow.nil _ _))
      all_goals (first | rfl | (simp [*]; done))
    · -- FF
      refine VC.skip ?_
      refine outN ?_
      refine VC.rs ?_
      refine VO.mv ?_
      refine VO.y rfl (.nilp rfl) ?_
      refine VO.y rfl (.fa rfl tst74 rfl) ?_
      refine VO.y rfl (.ld1 1 rfl tk30 rfl (cellsAt_one rfl rfl)) ?_
      refine VO.mv ?_
      have hs11 := hd8.pre (j := (((rNum B_ ((d0.1.length : Nat) : Int) (at_, d0.2)).1).toNat)) bd
      refine VO.y rfl (.slHI (((rNum B_ ((d0.1.length : Nat) : Int) (at_, d0.2)).1).toNat) rfl rfl tsl30 bd bd) ?_
      refine VO.callN 112 rfl fnOk79 rfl (fun W hW => cDecode_ok_ W (Rd.mono hs11 (hW.at (i := 0) rfl))) (fun v12 m12 hv12 => ?_)
      obtain ⟨s12_0, rfl, f12_0⟩ := hv12
      have hfa13 := cDecode_fits ((B_.drop (rNum B_ ((d0.1.length : Nat) : Int) (at_, d0.2)).2.1.toNat).take (((rNum B_ ((d0.1.length : Nat) : Int) (at_, d0.2)).1).toNat))
      obtain ⟨q12_0_A2, q12_0_c2, q12_0_n2, rfl, q12_0_S, q12_0_0, q12_0_1, q12_0_2⟩ := openO_Commit (x0 := ((cDecode ((B_.drop (rNum B_ ((d0.1.length : Nat) : Int) (at_, d0.2)).2.1.toNat).take (((rNum B_ ((d0.1.length : Nat) : Int) (at_, d0.2)).1).toNat))).1).1) (x1 := ((cDecode ((B_.drop (rNum B_ ((d0.1.length : Nat) : Int) (at_, d0.2)).2.1.toNat).take (((rNum B_ ((d0.1.length : Nat) : Int) (at_, d0.2)).1).toNat))).1).2.1) (x2 := ((cDecode ((B_.drop (rNum B_ ((d0.1.length : Nat) : Int) (at_, d0.2)).2.1.toNat).take (((rNum B_ ((d0.1.length : Nat) : Int) (at_, d0.2)).1).toNat))).1).2.2) f12_0
      simp only [inK] at q12_0_0
      simp only [inK] at q12_0_1
      have q12_0_r2 := Rd.room (q12_0_2.rd (mle_refl _))
      refine VO.inv _ (fun _ h => h.parts (i := 112) rfl q12_0_S [114]) ?_
      refine VO.mv ?_
      refine VO.y rfl (.ext rfl rfl) ?_
      refine VO.y rfl (.ext rfl rfl) ?_
      refine VO.alloc 116 rfl tz43 (fun g15 => ?_)
      refine VO.store (k := 3) (c' := [Value.int .i64 (((cDecode ((B_.drop (rNum B_ ((d0.1.length : Nat) : Int) (at_, d0.2)).2.1.toNat).take (((rNum B_ ((d0.1.length : Nat) : Int) (at_, d0.2)).1).toNat))).1).1), Value.int .i64 (((cDecode ((B_.drop (rNum B_ ((d0.1.length : Nat) : Int) (at_, d0.2)).2.1.toNat).take (((rNum B_ ((d0.1.length : Nat) : Int) (at_, d0.2)).1).toNat))).1).2.1), Value.slice q12_0_A2 ((((cDecode ((B_.drop (rNum B_ ((d0.1.length : Nat) : Int) (at_, d0.2)).2.1.toNat).take (((rNum B_ ((d0.1.length : Nat) : Int) (at_, d0.2)).1).toNat))).1).2.2).length) (q12_0_c2)]) 116 rfl rfl (.inl tk43) rfl rfl rfl rfl rfl ?_
      refine VO.as ?_
      refine VO.k6 0 2 3 4 5 25 ?_
      refine VC.rs ?_
      refine VO.mv ?_
      refine VO.mv ?_
      refine VO.y rfl (.neq rfl rfl) ?_
      refine VO.y rfl (.nilp rfl) ?_
      refine VO.y rfl (.fa rfl tst74 rfl) ?_
      refine VO.store (k := 1) (c' := [Value.slice A8 ((B_.drop (rNum B_ ((d0.1.length : Nat) : Int) (at_, d0.2)).2.1.toNat).length) (c0_0 - (((rNum B_ ((d0.1.length : Nat) : Int) (at_, d0.2)).2.1 - at_).toNat)), Value.bool (decide (¬ ((cDecode ((B_.drop (rNum B_ ((d0.1.length : Nat) : Int) (at_, d0.2)).2.1.toNat).take (((rNum B_ ((d0.1.length : Nat) : Int) (at_, d0.2)).1).toNat))).2) = 0))]) 1 rfl rfl (.inr ⟨tk4, rfl⟩) rfl rfl rfl rfl rfl ?_
      refine VO.k6 0 2 3 4 5 25 ?_
      refine VC.rs ?_
      refine VO.mv ?_
      refine VO.mv ?_
      refine VO.y rfl (.nilp rfl) ?_
      refine VO.y rfl (.fa rfl tst74 rfl) ?_
      refine VO.y rfl (.ld1 1 rfl tk30 rfl (cellsAt_one rfl rfl)) ?_
      refine VO.mv ?_
      obtain ⟨A17, hA17, hs17⟩ := hd8.drop 1 (((rNum B_ ((d0.1.length : Nat) : Int) (at_, d0.2)).1).toNat) rfl bd
      refine VO.y rfl (.slLI (((rNum B_ ((d0.1.length : Nat) : Int) (at_, d0.2)).1).toNat) A17 rfl rfl tsl30 bd hA17 bd) ?_
      refine VO.y rfl (.nilp rfl) ?_
      refine VO.y rfl (.fa rfl tst74 rfl) ?_
      refine VO.store (k := 1) (c' := [Value.slice A17 (((B_.drop (rNum B_ ((d0.1.length : Nat) : Int) (at_, d0.2)).2.1.toNat).length) - (((rNum B_ ((d0.1.length : Nat) : Int) (at_, d0.2)).1).toNat)) ((c0_0 - (((rNum B_ ((d0.1.length : Nat) : Int) (at_, d0.2)).2.1 - at_).toNat)) - (((rNum B_ ((d0.1.length : Nat) : Int) (at_, d0.2)).1).toNat)), Value.bool (decide (¬ ((cDecode ((B_.drop (rNum B_ ((d0.1.length : Nat) : Int) (at_, d0.2)).2.1.toNat).take (((rNum B_ ((d0.1.length : Nat) : Int) (at_, d0.2)).1).toNat))).2) = 0))]) 1 rfl rfl (.inr ⟨tk30, rfl⟩) rfl rfl rfl rfl rfl ?_
      refine VO.keep [116, 114, 1, 102, 0] [(116, mone g15 (.cells [Value.int .i64 (((cDecode ((B_.drop (rNum B_ ((d0.1.length : Nat) : Int) (at_, d0.2)).2.1.toNat).take (((rNum B_ ((d0.1.length : Nat) : Int) (at_, d0.2)).1).toNat))).1).1), Value.int .i64 (((cDecode ((B_.drop (rNum B_ ((d0.1.length : Nat) : Int) (at_, d0.2)).2.1.toNat).take (((rNum B_ ((d0.1.length : Nat) : Int) (at_, d0.2)).1).toNat))).1).2.1), Value.slice q12_0_A2 ((((cDecode ((B_.drop (rNum B_ ((d0.1.length : Nat) : Int) (at_, d0.2)).2.1.toNat).take (((rNum B_ ((d0.1.length : Nat) : Int) (at_, d0.2)).1).toNat))).1).2.2).length) (q12_0_c2)].toArray 43 (0, 0))), (114, q12_0_n2), (1, mone g0 (.cells [Value.slice A17 (((B_.drop (rNum B_ ((d0.1.length : Nat) : Int) (at_, d0.2)).2.1.toNat).length) - (((rNum B_ ((d0.1.length : Nat) : Int) (at_, d0.2)).1).toNat)) ((c0_0 - (((rNum B_ ((d0.1.length : Nat) : Int) (at_, d0.2)).2.1 - at_).toNat)) - (((rNum B_ ((d0.1.length : Nat) : Int) (at_, d0.2)).1).toNat)), Value.bool (decide (¬ ((cDecode ((B_.drop (rNum B_ ((d0.1.length : Nat) : Int) (at_, d0.2)).2.1.toNat).take (((rNum B_ ((d0.1.length : Nat) : Int) (at_, d0.2)).1).toNat))).2) = 0))].toArray E0 (0, 0))), (102, mone g1 (.cells [Value.int .i64 (0), Value.int .i64 (0), Value.slice none (0) (0)].toArray 43 (0, 0))), (0, mout (wm W) (mone g0 (.cells [Value.slice A0_0 (d0.1.length) (c0_0), Value.bool d0.2].toArray E0 (0, 0))))] (by kernel_rfl) ?_
      refine VO.k6 0 2 3 4 5 25 ?_
      refine VC.rs ?_
      refine VO.y rfl (.ldA 116 rfl tk43 rfl (cellsAt_one rfl rfl)) ?_
      refine VO.store (k := 3) (c' := [Value.int .i64 (((cDecode ((B_.drop (rNum B_ ((d0.1.length : Nat) : Int) (at_, d0.2)).2.1.toNat).take (((rNum B_ ((d0.1.length : Nat) : Int) (at_, d0.2)).1).toNat))).1).1), Value.int .i64 (((cDecode ((B_.drop (rNum B_ ((d0.1.length : Nat) : Int) (at_, d0.2)).2.1.toNat).take (((rNum B_ ((d0.1.length : Nat) : Int) (at_, d0.2)).1).toNat))).1).2.1), Value.slice q12_0_A2 ((((cDecode ((B_.drop (rNum B_ ((d0.1.length : Nat) : Int) (at_, d0.2)).2.1.toNat).take (((rNum B_ ((d0.1.length : Nat) : Int) (at_, d0.2)).1).toNat))).1).2.2).length) (q12_0_c2)]) 102 rfl rfl (.inl tk43) rfl rfl rfl rfl rfl ?_
      refine VO.k6 0 2 3 4 5 25 ?_
      refine VC.ret ?_
      refine ⟨_, _, res_run (rs := [.cell 2 43]) rfl (.agg 102 rfl tk43 rfl ⟨_, _, _, mone_self _ _, Nat.le_of_ble_eq_true rfl, rfl⟩ .nil), fun W_ hI => out_of (l := [q12_0_n2, mone g0 (.cells [Value.slice A17 (((B_.drop (rNum B_ ((d0.1.length : Nat) : Int) (at_, d0.2)).2.1.toNat).length) - (((rNum B_ ((d0.1.length : Nat) : Int) (at_, d0.2)).1).toNat)) ((c0_0 - (((rNum B_ ((d0.1.length : Nat) : Int) (at_, d0.2)).2.1 - at_).toNat)) - (((rNum B_ ((d0.1.length : Nat) : Int) (at_, d0.2)).1).toNat)), Value.bool (decide (¬ ((cDecode ((B_.drop (rNum B_ ((d0.1.length : Nat) : Int) (at_, d0.2)).2.1.toNat).take (((rNum B_ ((d0.1.length : Nat) : Int) (at_, d0.2)).1).toNat))).2) = 0))].toArray E0 (0, 0))]) hI [114, 1] rfl rfl (mle_refl _) (fun hS_ => ?_)⟩
      dsimp only [packV]
      have he0 : ((lComm B_ (at_, d0.2)).1 : Ty.Den TCommit) = ((cDecode ((B_.drop (rNum B_ ((d0.1.length : Nat) : Int) (at_, d0.2)).2.1.toNat).take (((rNum B_ ((d0.1.length : Nat) : Int) (at_, d0.2)).1).toNat))).1) := by first | rfl | (first | (rw [lComm_1 hz (by assumption)] <;> rfl) | (rw [lComm_2 hz (by assumption) (by omega)] <;> rfl) | (rw [lComm_3 hz (by assumption) (by omega)] <;> rfl))
      have hm0_1 : ((lComm B_ (at_, d0.2)).2.2 : Bool) = decide (¬ ((cDecode ((B_.drop (rNum B_ ((d0.1.length : Nat) : Int) (at_, d0.2)).2.1.toNat).take (((rNum B_ ((d0.1.length : Nat) : Int) (at_, d0.2)).1).toNat))).2) = 0) := by first | rfl | (first | (rw [lComm_1 hz (by assumption)] <;> rfl) | (rw [lComm_2 hz (by assumption) (by omega)] <;> rfl) | (rw [lComm_3 hz (by assumption) (by omega)] <;> rfl))
      refine ⟨[Value.int .i64 (((cDecode ((B_.drop (rNum B_ ((d0.1.length : Nat) : Int) (at_, d0.2)).2.1.toNat).take (((rNum B_ ((d0.1.length : Nat) : Int) (at_, d0.2)).1).toNat))).1).1), Value.int .i64 (((cDecode ((B_.drop (rNum B_ ((d0.1.length : Nat) : Int) (at_, d0.2)).2.1.toNat).take (((rNum B_ ((d0.1.length : Nat) : Int) (at_, d0.2)).1).toNat))).1).2.1), Value.slice q12_0_A2 ((((cDecode ((B_.drop (rNum B_ ((d0.1.length : Nat) : Int) (at_, d0.2)).2.1.toNat).take (((rNum B_ ((d0.1.length : Nat) : Int) (at_, d0.2)).1).toNat))).1).2.2).length) (q12_0_c2)], muns [q12_0_n2], ?_, ?_, ?_⟩
      rotate_left
      · have hbx : mone g0 (.cells [(dropV (dropV (Value.slice A0_0 d0.1.length c0_0) (((rNum B_ ((B_.length : Int) - at_) (at_, d0.2)).2.1 - at_).toNat) 1) (((lComm B_ (at_, d0.2)).2.1 - (rNum B_ ((B_.length : Int) - at_) (at_, d0.2)).2.1).toNat) 1 : Value), .bool ((lComm B_ (at_, d0.2)).2.2)].toArray E0 (0, 0)) = mone g0 (.cells [Value.slice A17 (((B_.drop (rNum B_ ((d0.1.length : Nat) : Int) (at_, d0.2)).2.1.toNat).length) - (((rNum B_ ((d0.1.length : Nat) : Int) (at_, d0.2)).1).toNat)) ((c0_0 - (((rNum B_ ((d0.1.length : Nat) : Int) (at_, d0.2)).2.1 - at_).toNat)) - (((rNum B_ ((d0.1.length : Nat) : Int) (at_, d0.2)).1).toNat)), Value.bool (decide (¬ ((cDecode ((B_.drop (rNum B_ ((d0.1.length : Nat) : Int) (at_, d0.2)).2.1.toNat).take (((rNum B_ ((d0.1.length : Nat) : Int) (at_, d0.2)).1).toNat))).2) = 0))].toArray E0 (0, 0)) := (by rw [hm0_1]; first | rfl | (first | (rw [lComm_1 hz (by assumption)]; dsimp only; rw [← hz]; simp only [Int.sub_self, Int.toNat_zero, dropV_zero2]; simp only [dropV, hA8, hl8, hA17]; done) | (rw [lComm_2 hz (by assumption) (by omega)]; dsimp only; rw [← hz]; simp only [Int.sub_self, Int.toNat_zero, dropV_zero2]; simp only [dropV, hA8, hl8, hA17]; done) | (rw [lComm_3 hz (by assumption) (by omega)]; dsimp only; rw [← hz]; simp only [add_sub_it]; simp only [dropV, hA8, hl8, hA17]; done)))
        show Seps _ [muns [q12_0_n2], mone g0 (.cells [(dropV (dropV (Value.slice A0_0 d0.1.length c0_0) (((rNum B_ ((B_.length : Int) - at_) (at_, d0.2)).2.1 - at_).toNat) 1) (((lComm B_ (at_, d0.2)).2.1 - (rNum B_ ((B_.length : Int) - at_) (at_, d0.2)).2.1).toNat) 1 : Value), .bool ((lComm B_ (at_, d0.2)).2.2)].toArray E0 (0, 0))]
        rw [hbx]
        exact Seps.grpM (ls := [[q12_0_n2], [mone g0 (.cells [Value.slice A17 (((B_.drop (rNum B_ ((d0.1.length : Nat) : Int) (at_, d0.2)).2.1.toNat).length) - (((rNum B_ ((d0.1.length : Nat) : Int) (at_, d0.2)).1).toNat)) ((c0_0 - (((rNum B_ ((d0.1.length : Nat) : Int) (at_, d0.2)).2.1 - at_).toNat)) - (((rNum B_ ((d0.1.length : Nat) : Int) (at_, d0.2)).1).toNat)), Value.bool (decide (¬ ((cDecode ((B_.drop (rNum B_ ((d0.1.length : Nat) : Int) (at_, d0.2)).2.1.toNat).take (((rNum B_ ((d0.1.length : Nat) : Int) (at_, d0.2)).1).toNat))).2) = 0))].toArray E0 (0, 0))]]) hS_ (by simp only [List.map, muns_one])
      · rw [he0]; exact (show Ow TCommit _ _ ((cDecode ((B_.drop (rNum B_ ((d0.1.length : Nat) : Int) (at_, d0.2)).2.1.toNat).take (((rNum B_ ((d0.1.length : Nat) : Int) (at_, d0.2)).1).toNat))).1) from (mkO_Commit (((cDecode ((B_.drop (rNum B_ ((d0.1.length : Nat) : Int) (at_, d0.2)).2.1.toNat).take (((rNum B_ ((d0.1.length : Nat) : Int) (at_, d0.2)).1).toNat))).1).1) (((cDecode ((B_.drop (rNum B_ ((d0.1.length : Nat) : Int) (at_, d0.2)).2.1.toNat).take (((rNum B_ ((d0.1.length : Nat) : Int) (at_, d0.2)).1).toNat))).1).2.1) (((cDecode ((B_.drop (rNum B_ ((d0.1.length : Nat) : Int) (at_, d0.2)).2.1.toNat).take (((rNum B_ ((d0.1.length : Nat) : Int) (at_, d0.2)).1).toNat))).1).2.2) (Seps.self hS_ (List.Sublist.cons_cons _ (List.Sublist.cons _ List.Sublist.slnil))) bdk bdk (OwnL.ow (Ow.ownl q12_0_2 rfl mnil) rfl)))
      all_goals (first | rfl | (simp [*]; done))
end
end Go.Proofs.Ytcikgnbpcombpaa
