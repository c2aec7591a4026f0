/- Walks, printed by program: what ship Next compute. Conditions: those named in each theorem. -/
import Derived.Test.YtfaknkkaegjdaaaW3
set_option linter.unusedVariables false
set_option linter.unusedSimpArgs false
set_option maxRecDepth 4000
namespace Go.Proofs.Ytfaknkkaegjdaaa
theorem fnOk60 : fnOk Try.prog 60 = true := by kernel_rfl
theorem next_ok (W : World) (d0 : Int) (h0 : inK .i64 d0) {v1 : Value} {d1 : List DCommit} (h1 : Rd (.sl TCommit) (wm W) [v1] d1) (d2 : Int) (h2 : inK .i64 d2) : CallR Try.prog 65 [.int .i64 d0, v1, .int .i64 d2] W (mnil) (fun v m' => ∃ (s0 : List Value), v = .tuple #[.agg s0.toArray, .int .i64 ((shipNext d0 d1 d2).2)] ∧ Ow TMessage m' s0 ((shipNext d0 d1 d2).1)) := by
  have h0' := h0; simp only [inK] at h0'
  obtain ⟨A1, c1, rfl, l1, k1⟩ := h1.slice
  simp only [maxLen] at k1
  have h2' := h2; simp only [inK] at h2'
  refine CallR.ofA (n := 67) Try.func65 rfl rfl rfl ?_
  refine VC.rs ?_
  refine VO.alloc 102 rfl tz72 (fun g1 => ?_)
  refine VO.y rfl (.as rfl) ?_
  refine VO.esub [(0, _), (1, _), (2, _), (6, _), (7, _)] ⟨rfl, rfl, rfl, rfl, rfl, trivial⟩ (VO.nil ?_)
  refine VC.seq ?_
  refine VC.rs ?_
  refine VO.y rfl (.mv rfl) ?_
  refine VO.y rfl (.mv rfl) ?_
  refine VO.callN 103 rfl fnOk112 rfl (fun W hW => wrong_ok W d0 (by simp only [inK]; (first | omega | (simp only [List.length_append, List.length_nil, List.length_cons, List.length_take, List.length_drop] at *; omega) | (have := wrong_len ‹¬ ¬ shipWrong d0 d1 = 0›; omega) | exact next_room ‹¬ ¬ shipWrong d0 d1 = 0› ‹_›)) (Rd.mono h1 (hW.at (i := 0) rfl))) (fun v3 m3 hv3 => ?_)
  subst hv3
  have hfa4 := shipWrong_range d0 d1
  refine VO.y rfl (.as rfl) ?_
  refine VO.esub [(0, _), (1, _), (2, _), (6, _), (7, _), (8, _)] ⟨rfl, rfl, rfl, rfl, rfl, rfl, trivial⟩ (VO.nil ?_)
  refine VC.rs ?_
  refine VO.y rfl (.mv rfl) ?_
  refine VO.y rfl (.neq rfl rfl) ?_
  refine VO.esub [(0, _), (1, _), (2, _), (6, _), (7, _), (8, _), (16, _)] ⟨rfl, rfl, rfl, rfl, rfl, rfl, rfl, trivial⟩ (VO.nil ?_)
  refine VC.cond rfl (fun hc5 => ?_) (fun hc5 => ?_)
  · -- T
    refine VC.rs ?_
    refine VO.y rfl (.bst (cs := [Value.int .i64 (0), Value.int .i64 (0), Value.int .u8 (0), Value.int .i64 (0), Value.slice none (0) (0), Value.int .i64 (0), Value.int .i64 (0), Value.slice none (0) (0)]) rfl tst72 tz72 rfl) ?_
    refine VO.y rfl (.mv rfl) ?_
    refine VO.store (k := 8) (c' := [Value.int .i64 (0), Value.int .i64 (0), Value.int .u8 (0), Value.int .i64 (0), Value.slice none (0) (0), Value.int .i64 (0), Value.int .i64 (0), Value.slice none (0) (0)]) 102 rfl rfl (.inl tk72) rfl rfl rfl rfl rfl ?_
    refine VO.y rfl (.as rfl) ?_
    refine VO.esub [(0, _), (1, _), (2, _), (6, _), (7, _), (8, _), (16, _)] ⟨rfl, rfl, rfl, rfl, rfl, rfl, rfl, trivial⟩ (VO.nil ?_)
    refine VC.ret ?_
    refine outR ?_
    refine ⟨_, _, res_run (rs := [.cell 6 72, .tmp 7]) rfl (.agg 102 rfl tk72 rfl ⟨_, _, _, mone_self _ _, Nat.le_of_ble_eq_true rfl, rfl⟩ (.tmp rfl .nil)), fun W_ hI => out_of (l := []) hI [] rfl rfl (mle_refl _) (fun hS_ => ?_)⟩
    dsimp only [packV]
    have he0 : ((shipNext d0 d1 d2).1 : Ty.Den TMessage) = (0, 0, 0, 0, [], 0, 0, []) := by first | rfl | (first | (rw [next_wrong ‹_›]; rfl) | (rw [next_arg ‹¬ ¬ _› (by omega)]; rfl) | (have hcs2 := hcs.trans ((List.take_of_length_le (by omega)).trans (next_list _ _ ‹_› ‹_›)); rw [next_good ‹¬ ¬ _› ‹_› ‹_› ‹_›, ← hcs2]; first | rw [prevOf_pos ‹0 < d2› ‹_›] | rw [prevOf_zero ‹_›]))
    refine ⟨[Value.int .i64 (0), Value.int .i64 (0), Value.int .u8 (0), Value.int .i64 (0), Value.slice none (0) (0), Value.int .i64 (0), Value.int .i64 (0), Value.slice none (0) (0)], ?_, ?_⟩
    rotate_left
    · rw [he0]; exact (mkO_Message 0 0 0 0 ([]) 0 0 ([]) (Seps.nilAt 1 (Seps.nilAt 0 hS_)) (by simp only [inK]; (first | omega | (simp only [List.length_append, List.length_nil, List.length_cons, List.length_take, List.length_drop] at *; omega) | (have := wrong_len ‹¬ ¬ shipWrong d0 d1 = 0›; omega) | exact next_room ‹¬ ¬ shipWrong d0 d1 = 0› ‹_›)) (by simp only [inK]; (first | omega | (simp only [List.length_append, List.length_nil, List.length_cons, List.length_take, List.length_drop] at *; omega) | (have := wrong_len ‹¬ ¬ shipWrong d0 d1 = 0›; omega) | exact next_room ‹¬ ¬ shipWrong d0 d1 = 0› ‹_›)) (by simp only [inK]; (first | omega | (simp only [List.length_append, List.length_nil, List.length_cons, List.length_take, List.length_drop] at *; omega) | (have := wrong_len ‹¬ ¬ shipWrong d0 d1 = 0›; omega) | exact next_room ‹¬ ¬ shipWrong d0 d1 = 0› ‹_›)) (by simp only [inK]; (first | omega | (simp only [List.length_append, List.length_nil, List.length_cons, List.length_take, List.length_drop] at *; omega) | (have := wrong_len ‹¬ ¬ shipWrong d0 d1 = 0›; omega) | exact next_room ‹¬ ¬ shipWrong d0 d1 = 0› ‹_›)) (Ow.nil _ _) (by simp only [inK]; (first | omega | (simp only [List.length_append, List.length_nil, List.length_cons, List.length_take, List.length_drop] at *; omega) | (have := wrong_len ‹¬ ¬ shipWrong d0 d1 = 0›; omega) | exact next_room ‹¬ ¬ shipWrong d0 d1 = 0› ‹_›)) (by simp only [inK]; (first | omega | (simp only [List.length_append, List.length_nil, List.length_cons, List.length_take, List.length_drop] at *; omega) | (have := wrong_len ‹¬ ¬ shipWrong d0 d1 = 0›; omega) | exact next_room ‹¬ ¬ shipWrong d0 d1 = 0› ‹_›)) (Ow.nil _ _))
    all_goals (first | rfl | (first | (rw [next_wrong ‹_›]; rfl) | (rw [next_arg ‹¬ ¬ _› (by omega)]; rfl) | (rw [next_good ‹¬ ¬ _› ‹_› ‹_› ‹_›]; rfl)))
  · -- F
    refine VC.skip ?_
    refine outN ?_
    refine VC.seq ?_
    refine VC.rs ?_
    refine VO.y rfl (.mv rfl) ?_
    refine VO.y rfl (.lss rfl rfl) ?_
    refine VO.y rfl (.mv rfl) ?_
    refine VO.dec (t := 21) rfl (fun hc6 => ?_) (fun hc6 => ?_)
    · -- FT
      refine VO.gn rfl (.inl ⟨_, rfl, rfl⟩) ?_
      refine VO.gn rfl (.inl ⟨_, rfl, rfl⟩) ?_
      refine VO.gn rfl (.inl ⟨_, rfl, rfl⟩) ?_
      refine VO.gn rfl (.inl ⟨_, rfl, rfl⟩) ?_
      refine VO.y rfl (.pT rfl rfl) ?_
      refine VO.y rfl (.mv rfl) ?_
      refine VO.gn rfl (.inl ⟨_, rfl, rfl⟩) ?_
      refine VO.gn rfl (.inl ⟨_, rfl, rfl⟩) ?_
      refine VO.y rfl (.pT rfl rfl) ?_
      refine VO.esub [(0, _), (1, _), (2, _), (6, _), (7, _), (8, _), (16, _), (30, _)] ⟨rfl, rfl, rfl, rfl, rfl, rfl, rfl, rfl, trivial⟩ (VO.nil ?_)
      refine VC.condT rfl ?_
      refine VC.rs ?_
      refine VO.y rfl (.bst (cs := [Value.int .i64 (0), Value.int .i64 (0), Value.int .u8 (0), Value.int .i64 (0), Value.slice none (0) (0), Value.int .i64 (0), Value.int .i64 (0), Value.slice none (0) (0)]) rfl tst72 tz72 rfl) ?_
      refine VO.store (k := 8) (c' := [Value.int .i64 (0), Value.int .i64 (0), Value.int .u8 (0), Value.int .i64 (0), Value.slice none (0) (0), Value.int .i64 (0), Value.int .i64 (0), Value.slice none (0) (0)]) 102 rfl rfl (.inl tk72) rfl rfl rfl rfl rfl ?_
      refine VO.y rfl (.as rfl) ?_
      refine VO.esub [(0, _), (1, _), (2, _), (6, _), (7, _), (8, _), (16, _), (30, _)] ⟨rfl, rfl, rfl, rfl, rfl, rfl, rfl, rfl, trivial⟩ (VO.nil ?_)
      refine VC.ret ?_
      refine outR ?_
      refine ⟨_, _, res_run (rs := [.cell 6 72, .tmp 7]) rfl (.agg 102 rfl tk72 rfl ⟨_, _, _, mone_self _ _, Nat.le_of_ble_eq_true rfl, rfl⟩ (.tmp rfl .nil)), fun W_ hI => out_of (l := []) hI [] rfl rfl (mle_refl _) (fun hS_ => ?_)⟩
      dsimp only [packV]
      have he0 : ((shipNext d0 d1 d2).1 : Ty.Den TMessage) = (0, 0, 0, 0, [], 0, 0, []) := by first | rfl | (first | (rw [next_wrong ‹_›]; rfl) | (rw [next_arg ‹¬ ¬ _› (by omega)]; rfl) | (have hcs2 := hcs.trans ((List.take_of_length_le (by omega)).trans (next_list _ _ ‹_› ‹_›)); rw [next_good ‹¬ ¬ _› ‹_› ‹_› ‹_›, ← hcs2]; first | rw [prevOf_pos ‹0 < d2› ‹_›] | rw [prevOf_zero ‹_›]))
      refine ⟨[Value.int .i64 (0), Value.int .i64 (0), Value.int .u8 (0), Value.int .i64 (0), Value.slice none (0) (0), Value.int .i64 (0), Value.int .i64 (0), Value.slice none (0) (0)], ?_, ?_⟩
      rotate_left
      · rw [he0]; exact (mkO_Message 0 0 0 0 ([]) 0 0 ([]) (Seps.nilAt 1 (Seps.nilAt 0 hS_)) (by simp only [inK]; (first | omega | (simp only [List.length_append, List.length_nil, List.length_cons, List.length_take, List.length_drop] at *; omega) | (have := wrong_len ‹¬ ¬ shipWrong d0 d1 = 0›; omega) | exact next_room ‹¬ ¬ shipWrong d0 d1 = 0› ‹_›)) (by simp only [inK]; (first | omega | (simp only [List.length_append, List.length_nil, List.length_cons, List.length_take, List.length_drop] at *; omega) | (have := wrong_len ‹¬ ¬ shipWrong d0 d1 = 0›; omega) | exact next_room ‹¬ ¬ shipWrong d0 d1 = 0› ‹_›)) (by simp only [inK]; (first | omega | (simp only [List.length_append, List.length_nil, List.length_cons, List.length_take, List.length_drop] at *; omega) | (have := wrong_len ‹¬ ¬ shipWrong d0 d1 = 0›; omega) | exact next_room ‹¬ ¬ shipWrong d0 d1 = 0› ‹_›)) (by simp only [inK]; (first | omega | (simp only [List.length_append, List.length_nil, List.length_cons, List.length_take, List.length_drop] at *; omega) | (have := wrong_len ‹¬ ¬ shipWrong d0 d1 = 0›; omega) | exact next_room ‹¬ ¬ shipWrong d0 d1 = 0› ‹_›)) (Ow.nil _ _) (by simp only [inK]; (first | omega | (simp only [List.length_append, List.length_nil, List.length_cons, List.length_take, List.length_drop] at *; omega) | (have := wrong_len ‹¬ ¬ shipWrong d0 d1 = 0›; omega) | exact next_room ‹¬ ¬ shipWrong d0 d1 = 0› ‹_›)) (by simp only [inK]; (first | omega | (simp only [List.length_append, List.length_nil, List.length_cons, List.length_take, List.length_drop] at *; omega) | (have := wrong_len ‹¬ ¬ shipWrong d0 d1 = 0›; omega) | exact next_room ‹¬ ¬ shipWrong d0 d1 = 0› ‹_›)) (Ow.nil _ _))
      all_goals (first | rfl | (first | (rw [next_wrong ‹_›]; rfl) | (rw [next_arg ‹¬ ¬ _› (by omega)]; rfl) | (rw [next_good ‹¬ ¬ _› ‹_› ‹_› ‹_›]; rfl)))
    · -- FF
      refine VO.gy rfl ⟨_, rfl, rfl⟩ (.mv rfl) ?_
      refine VO.gy rfl ⟨_, rfl, rfl⟩ (.mv rfl) ?_
      refine VO.gy rfl ⟨_, rfl, rfl⟩ (.lenS rfl tsl61) ?_
      refine VO.gy rfl ⟨_, rfl, rfl⟩ (.gtr rfl rfl) ?_
      refine VO.y rfl (.pF rfl rfl) ?_
      refine VO.y rfl (.mv rfl) ?_
      refine VO.dec (t := 27) rfl (fun hc7 => ?_) (fun hc7 => ?_)
      · -- FFT
        refine VO.gn rfl (.inl ⟨_, rfl, rfl⟩) ?_
        refine VO.gn rfl (.inl ⟨_, rfl, rfl⟩) ?_
        refine VO.y rfl (.pT rfl rfl) ?_
        refine VO.esub [(0, _), (1, _), (2, _), (6, _), (7, _), (8, _), (16, _), (30, _)] ⟨rfl, rfl, rfl, rfl, rfl, rfl, rfl, rfl, trivial⟩ (VO.nil ?_)
        refine VC.condT rfl ?_
        refine VC.rs ?_
        refine VO.y rfl (.bst (cs := [Value.int .i64 (0), Value.int .i64 (0), Value.int .u8 (0), Value.int .i64 (0), Value.slice none (0) (0), Value.int .i64 (0), Value.int .i64 (0), Value.slice none (0) (0)]) rfl tst72 tz72 rfl) ?_
        refine VO.store (k := 8) (c' := [Value.int .i64 (0), Value.int .i64 (0), Value.int .u8 (0), Value.int .i64 (0), Value.slice none (0) (0), Value.int .i64 (0), Value.int .i64 (0), Value.slice none (0) (0)]) 102 rfl rfl (.inl tk72) rfl rfl rfl rfl rfl ?_
        refine VO.y rfl (.as rfl) ?_
        refine VO.esub [(0, _), (1, _), (2, _), (6, _), (7, _), (8, _), (16, _), (30, _)] ⟨rfl, rfl, rfl, rfl, rfl, rfl, rfl, rfl, trivial⟩ (VO.nil ?_)
        refine VC.ret ?_
        refine outR ?_
        refine ⟨_, _, res_run (rs := [.cell 6 72, .tmp 7]) rfl (.agg 102 rfl tk72 rfl ⟨_, _, _, mone_self _ _, Nat.le_of_ble_eq_true rfl, rfl⟩ (.tmp rfl .nil)), fun W_ hI => out_of (l := []) hI [] rfl rfl (mle_refl _) (fun hS_ => ?_)⟩
        dsimp only [packV]
        have he0 : ((shipNext d0 d1 d2).1 : Ty.Den TMessage) = (0, 0, 0, 0, [], 0, 0, []) := by first | rfl | (first | (rw [next_wrong ‹_›]; rfl) | (rw [next_arg ‹¬ ¬ _› (by omega)]; rfl) | (have hcs2 := hcs.trans ((List.take_of_length_le (by omega)).trans (next_list _ _ ‹_› ‹_›)); rw [next_good ‹¬ ¬ _› ‹_› ‹_› ‹_›, ← hcs2]; first | rw [prevOf_pos ‹0 < d2› ‹_›] | rw [prevOf_zero ‹_›]))
        refine ⟨[Value.int .i64 (0), Value.int .i64 (0), Value.int .u8 (0), Value.int .i64 (0), Value.slice none (0) (0), Value.int .i64 (0), Value.int .i64 (0), Value.slice none (0) (0)], ?_, ?_⟩
        rotate_left
        · rw [he0]; exact (mkO_Message 0 0 0 0 ([]) 0 0 ([]) (Seps.nilAt 1 (Seps.nilAt 0 hS_)) (by simp only [inK]; (first | omega | (simp only [List.length_append, List.length_nil, List.length_cons, List.length_take, List.length_drop] at *; omega) | (have := wrong_len ‹¬ ¬ shipWrong d0 d1 = 0›; omega) | exact next_room ‹¬ ¬ shipWrong d0 d1 = 0› ‹_›)) (by simp only [inK]; (first | omega | (simp only [List.length_append, List.length_nil, List.length_cons, List.length_take, List.length_drop] at *; omega) | (have := wrong_len ‹¬ ¬ shipWrong d0 d1 = 0›; omega) | exact next_room ‹¬ ¬ shipWrong d0 d1 = 0› ‹_›)) (by simp only [inK]; (first | omega | (simp only [List.length_append, List.length_nil, List.length_cons, List.length_take, List.length_drop] at *; omega) | (have := wrong_len ‹¬ ¬ shipWrong d0 d1 = 0›; omega) | exact next_room ‹¬ ¬ shipWrong d0 d1 = 0› ‹_›)) (by simp only [inK]; (first | omega | (simp only [List.length_append, List.length_nil, List.length_cons, List.length_take, List.length_drop] at *; omega) | (have := wrong_len ‹¬ ¬ shipWrong d0 d1 = 0›; omega) | exact next_room ‹¬ ¬ shipWrong d0 d1 = 0› ‹_›)) (Ow.nil _ _) (by simp only [inK]; (first | omega | (simp only [List.length_append, List.length_nil, List.length_cons, List.length_take, List.length_drop] at *; omega) | (have := wrong_len ‹¬ ¬ shipWrong d0 d1 = 0›; omega) | exact next_room ‹¬ ¬ shipWrong d0 d1 = 0› ‹_›)) (by simp only [inK]; (first | omega | (simp only [List.length_append, List.length_nil, List.length_cons, List.length_take, List.length_drop] at *; omega) | (have := wrong_len ‹¬ ¬ shipWrong d0 d1 = 0›; omega) | exact next_room ‹¬ ¬ shipWrong d0 d1 = 0› ‹_›)) (Ow.nil _ _))
        all_goals (first | rfl | (first | (rw [next_wrong ‹_›]; rfl) | (rw [next_arg ‹¬ ¬ _› (by omega)]; rfl) | (rw [next_good ‹¬ ¬ _› ‹_› ‹_› ‹_›]; rfl)))
      · -- FFF
        refine VO.gy rfl ⟨_, rfl, rfl⟩ (.mv rfl) ?_
        refine VO.gy rfl ⟨_, rfl, rfl⟩ (.eql rfl rfl) ?_
        refine VO.y rfl (.pF rfl rfl) ?_
        refine VO.esub [(0, _), (1, _), (2, _), (6, _), (7, _), (8, _), (16, _), (30, _)] ⟨rfl, rfl, rfl, rfl, rfl, rfl, rfl, rfl, trivial⟩ (VO.nil ?_)
        refine VC.cond rfl (fun hc8 => ?_) (fun hc8 => ?_)
        · -- FFFT
          refine VC.rs ?_
          refine VO.y rfl (.bst (cs := [Value.int .i64 (0), Value.int .i64 (0), Value.int .u8 (0), Value.int .i64 (0), Value.slice none (0) (0), Value.int .i64 (0), Value.int .i64 (0), Value.slice none (0) (0)]) rfl tst72 tz72 rfl) ?_
          refine VO.store (k := 8) (c' := [Value.int .i64 (0), Value.int .i64 (0), Value.int .u8 (0), Value.int .i64 (0), Value.slice none (0) (0), Value.int .i64 (0), Value.int .i64 (0), Value.slice none (0) (0)]) 102 rfl rfl (.inl tk72) rfl rfl rfl rfl rfl ?_
          refine VO.y rfl (.as rfl) ?_
          refine VO.esub [(0, _), (1, _), (2, _), (6, _), (7, _), (8, _), (16, _), (30, _)] ⟨rfl, rfl, rfl, rfl, rfl, rfl, rfl, rfl, trivial⟩ (VO.nil ?_)
          refine VC.ret ?_
          refine outR ?_
          refine ⟨_, _, res_run (rs := [.cell 6 72, .tmp 7]) rfl (.agg 102 rfl tk72 rfl ⟨_, _, _, mone_self _ _, Nat.le_of_ble_eq_true rfl, rfl⟩ (.tmp rfl .nil)), fun W_ hI => out_of (l := []) hI [] rfl rfl (mle_refl _) (fun hS_ => ?_)⟩
          dsimp only [packV]
          have he0 : ((shipNext d0 d1 d2).1 : Ty.Den TMessage) = (0, 0, 0, 0, [], 0, 0, []) := by first | rfl | (first | (rw [next_wrong ‹_›]; rfl) | (rw [next_arg ‹¬ ¬ _› (by omega)]; rfl) | (have hcs2 := hcs.trans ((List.take_of_length_le (by omega)).trans (next_list _ _ ‹_› ‹_›)); rw [next_good ‹¬ ¬ _› ‹_› ‹_› ‹_›, ← hcs2]; first | rw [prevOf_pos ‹0 < d2› ‹_›] | rw [prevOf_zero ‹_›]))
          refine ⟨[Value.int .i64 (0), Value.int .i64 (0), Value.int .u8 (0), Value.int .i64 (0), Value.slice none (0) (0), Value.int .i64 (0), Value.int .i64 (0), Value.slice none (0) (0)], ?_, ?_⟩
          rotate_left
          · rw [he0]; exact (mkO_Message 0 0 0 0 ([]) 0 0 ([]) (Seps.nilAt 1 (Seps.nilAt 0 hS_)) (by simp only [inK]; (first | omega | (simp only [List.length_append, List.length_nil, List.length_cons, List.length_take, List.length_drop] at *; omega) | (have := wrong_len ‹¬ ¬ shipWrong d0 d1 = 0›; omega) | exact next_room ‹¬ ¬ shipWrong d0 d1 = 0› ‹_›)) (by simp only [inK]; (first | omega | (simp only [List.length_append, List.length_nil, List.length_cons, List.length_take, List.length_drop] at *; omega) | (have := wrong_len ‹¬ ¬ shipWrong d0 d1 = 0›; omega) | exact next_room ‹¬ ¬ shipWrong d0 d1 = 0› ‹_›)) (by simp only [inK]; (first | omega | (simp only [List.length_append, List.length_nil, List.length_cons, List.length_take, List.length_drop] at *; omega) | (have := wrong_len ‹¬ ¬ shipWrong d0 d1 = 0›; omega) | exact next_room ‹¬ ¬ shipWrong d0 d1 = 0› ‹_›)) (by simp only [inK]; (first | omega | (simp only [List.length_append, List.length_nil, List.length_cons, List.length_take, List.length_drop] at *; omega) | (have := wrong_len ‹¬ ¬ shipWrong d0 d1 = 0›; omega) | exact next_room ‹¬ ¬ shipWrong d0 d1 = 0› ‹_›)) (Ow.nil _ _) (by simp only [inK]; (first | omega | (simp only [List.length_append, List.length_nil, List.length_cons, List.length_take, List.length_drop] at *; omega) | (have := wrong_len ‹¬ ¬ shipWrong d0 d1 = 0›; omega) | exact next_room ‹¬ ¬ shipWrong d0 d1 = 0› ‹_›)) (by simp only [inK]; (first | omega | (simp only [List.length_append, List.length_nil, List.length_cons, List.length_take, List.length_drop] at *; omega) | (have := wrong_len ‹¬ ¬ shipWrong d0 d1 = 0›; omega) | exact next_room ‹¬ ¬ shipWrong d0 d1 = 0› ‹_›)) (Ow.nil _ _))
          all_goals (first | rfl | (first | (rw [next_wrong ‹_›]; rfl) | (rw [next_arg ‹¬ ¬ _› (by omega)]; rfl) | (rw [next_good ‹¬ ¬ _› ‹_› ‹_› ‹_›]; rfl)))
        · -- FFFF
          refine VC.skip ?_
          refine outN ?_
          refine VC.rs ?_
          refine VO.y rfl (.mv rfl) ?_
          refine VO.y rfl (.mv rfl) ?_
          refine VO.y rfl (.add rfl rfl rfl ⟨by first | omega | (simp only [List.length_append, List.length_nil, List.length_cons, List.length_take, List.length_drop] at *; omega) | (have := wrong_len ‹¬ ¬ shipWrong d0 d1 = 0›; omega) | exact next_room ‹¬ ¬ shipWrong d0 d1 = 0› ‹_›, by first | omega | (simp only [List.length_append, List.length_nil, List.length_cons, List.length_take, List.length_drop] at *; omega) | (have := wrong_len ‹¬ ¬ shipWrong d0 d1 = 0›; omega) | exact next_room ‹¬ ¬ shipWrong d0 d1 = 0› ‹_›⟩) ?_
          refine VO.y rfl (.bst (cs := [Value.int .i64 (2), Value.int .i64 (d0), Value.int .u8 (0), Value.int .i64 (0), Value.slice none (0) (0), Value.int .i64 (d2 + 1), Value.int .i64 (0), Value.slice none (0) (0)]) rfl tst72 tz72 rfl) ?_
          refine VO.alloc 110 rfl tz72 (fun g9 => ?_)
          refine VO.store (k := 8) (c' := [Value.int .i64 (2), Value.int .i64 (d0), Value.int .u8 (0), Value.int .i64 (0), Value.slice none (0) (0), Value.int .i64 (d2 + 1), Value.int .i64 (0), Value.slice none (0) (0)]) 110 rfl rfl (.inl tk72) rfl rfl rfl rfl rfl ?_
          refine VO.esub [(0, _), (1, _), (2, _), (6, _), (7, _), (8, _), (9, _), (16, _), (30, _)] ⟨rfl, rfl, rfl, rfl, rfl, rfl, rfl, rfl, rfl, trivial⟩ (VO.nil ?_)
          refine VC.seq ?_
          refine VC.rs ?_
          refine VO.y rfl (.mv rfl) ?_
          refine VO.y rfl (.gtr rfl rfl) ?_
          refine VO.esub [(0, _), (1, _), (2, _), (6, _), (7, _), (8, _), (9, _), (16, _), (30, _), (37, _)] ⟨rfl, rfl, rfl, rfl, rfl, rfl, rfl, rfl, rfl, rfl, trivial⟩ (VO.nil ?_)
          refine VC.cond rfl (fun hc11 => ?_) (fun hc11 => ?_)
          · -- FFFFT
            refine VC.reg ?_
            refine VO.y rfl (.mv rfl) ?_
            refine VO.y rfl (.mv rfl) ?_
            refine VO.y rfl (.sub rfl rfl rfl ⟨by first | omega | (simp only [List.length_append, List.length_nil, List.length_cons, List.length_take, List.length_drop] at *; omega) | (have := wrong_len ‹¬ ¬ shipWrong d0 d1 = 0›; omega) | exact next_room ‹¬ ¬ shipWrong d0 d1 = 0› ‹_›, by first | omega | (simp only [List.length_append, List.length_nil, List.length_cons, List.length_take, List.length_drop] at *; omega) | (have := wrong_len ‹¬ ¬ shipWrong d0 d1 = 0›; omega) | exact next_room ‹¬ ¬ shipWrong d0 d1 = 0› ‹_›⟩) ?_
            obtain ⟨x12, hx12⟩ : ∃ x, (d1)[(d2 - 1).toNat]? = some x := ⟨_, List.getElem?_eq_getElem (by first | omega | (simp only [List.length_append, List.length_nil, List.length_cons, List.length_take, List.length_drop] at *; omega) | (have := wrong_len ‹¬ ¬ shipWrong d0 d1 = 0›; omega) | exact next_room ‹¬ ¬ shipWrong d0 d1 = 0› ‹_›)⟩
            obtain ⟨gg12, oo12, ec12, ea12, hce12, hre12⟩ := h1.elem hx12
            cases ea12
            obtain ⟨q12_A2, q12_c2, rfl, q12_0, q12_1, q12_2⟩ := open_Commit (x0 := x12.1) (x1 := x12.2.1) (x2 := x12.2.2) hre12
            simp only [inK] at q12_0
            simp only [inK] at q12_1
            have q12_r2 := Rd.room q12_2
            refine VO.y rfl (.ixI ((d2 - 1).toNat) rfl rfl tsl61 (by first | omega | (simp only [List.length_append, List.length_nil, List.length_cons, List.length_take, List.length_drop] at *; omega) | (have := wrong_len ‹¬ ¬ shipWrong d0 d1 = 0›; omega) | exact next_room ‹¬ ¬ shipWrong d0 d1 = 0› ‹_›) (by first | omega | (simp only [List.length_append, List.length_nil, List.length_cons, List.length_take, List.length_drop] at *; omega) | (have := wrong_len ‹¬ ¬ shipWrong d0 d1 = 0›; omega) | exact next_room ‹¬ ¬ shipWrong d0 d1 = 0› ‹_›)) ?_
            refine VO.y rfl (.fa rfl tst52 rfl) ?_
            refine VO.y rfl (.ld1 0 rfl tk3 rfl (hce12.at1 (j := 0) rfl)) ?_
            refine VO.y rfl (.fa rfl tst72 rfl) ?_
            refine VO.store (k := 1) (c' := [Value.int .i64 (2), Value.int .i64 (d0), Value.int .u8 (0), Value.int .i64 (0), Value.slice none (0) (0), Value.int .i64 (d2 + 1), Value.int .i64 (x12.1), Value.slice none (0) (0)]) 110 rfl rfl (.inr ⟨tk3, rfl⟩) rfl rfl rfl rfl rfl ?_
            refine VO.esub [(0, _), (1, _), (2, _), (6, _), (7, _), (8, _), (9, _), (16, _), (30, _), (37, _)] ⟨rfl, rfl, rfl, rfl, rfl, rfl, rfl, rfl, rfl, rfl, trivial⟩ (VO.nil ?_)
            refine outN ?_
            refine VC.seq ?_
            refine VC.rs ?_
            refine VO.y rfl (.mv rfl) ?_
            refine VO.y rfl (.mv rfl) ?_
            refine VO.y rfl (.mv rfl) ?_
            refine VO.y rfl (.add rfl rfl rfl ⟨by first | omega | (simp only [List.length_append, List.length_nil, List.length_cons, List.length_take, List.length_drop] at *; omega) | (have := wrong_len ‹¬ ¬ shipWrong d0 d1 = 0›; omega) | exact next_room ‹¬ ¬ shipWrong d0 d1 = 0› ‹_›, by first | omega | (simp only [List.length_append, List.length_nil, List.length_cons, List.length_take, List.length_drop] at *; omega) | (have := wrong_len ‹¬ ¬ shipWrong d0 d1 = 0›; omega) | exact next_room ‹¬ ¬ shipWrong d0 d1 = 0› ‹_›⟩) ?_
            refine VO.y rfl (.mv rfl) ?_
            refine VO.y rfl (.lenS rfl tsl61) ?_
            refine VO.y rfl (.minM rfl rfl) ?_
            obtain ⟨A13, hA13, hs13⟩ := h1.sub' 3 ((d2).toNat) ((min (d2 + 4) ((d1.length : Nat) : Int)).toNat) rfl (by first | omega | (simp only [List.length_append, List.length_nil, List.length_cons, List.length_take, List.length_drop] at *; omega) | (have := wrong_len ‹¬ ¬ shipWrong d0 d1 = 0›; omega) | exact next_room ‹¬ ¬ shipWrong d0 d1 = 0› ‹_›) (by first | omega | (simp only [List.length_append, List.length_nil, List.length_cons, List.length_take, List.length_drop] at *; omega) | (have := wrong_len ‹¬ ¬ shipWrong d0 d1 = 0›; omega) | exact next_room ‹¬ ¬ shipWrong d0 d1 = 0› ‹_›)
            refine VO.y rfl (.slI ((d2).toNat) ((min (d2 + 4) ((d1.length : Nat) : Int)).toNat) A13 rfl rfl rfl tsl61 (by first | omega | (simp only [List.length_append, List.length_nil, List.length_cons, List.length_take, List.length_drop] at *; omega) | (have := wrong_len ‹¬ ¬ shipWrong d0 d1 = 0›; omega) | exact next_room ‹¬ ¬ shipWrong d0 d1 = 0› ‹_›) (by first | omega | (simp only [List.length_append, List.length_nil, List.length_cons, List.length_take, List.length_drop] at *; omega) | (have := wrong_len ‹¬ ¬ shipWrong d0 d1 = 0›; omega) | exact next_room ‹¬ ¬ shipWrong d0 d1 = 0› ‹_›) hA13 (by first | omega | (simp only [List.length_append, List.length_nil, List.length_cons, List.length_take, List.length_drop] at *; omega) | (have := wrong_len ‹¬ ¬ shipWrong d0 d1 = 0›; omega) | exact next_room ‹¬ ¬ shipWrong d0 d1 = 0› ‹_›) (by first | omega | (simp only [List.length_append, List.length_nil, List.length_cons, List.length_take, List.length_drop] at *; omega) | (have := wrong_len ‹¬ ¬ shipWrong d0 d1 = 0›; omega) | exact next_room ‹¬ ¬ shipWrong d0 d1 = 0› ‹_›)) ?_
            refine VO.y rfl (.lenS rfl tsl61) ?_
            refine VO.y rfl (.mv rfl) ?_
            refine VO.esub [(0, _), (1, _), (2, _), (6, _), (7, _), (8, _), (9, _), (16, _), (30, _), (37, _), (52, _), (53, _), (54, _)] ⟨rfl, rfl, rfl, rfl, rfl, rfl, rfl, rfl, rfl, rfl, rfl, rfl, rfl, trivial⟩ (VO.nil ?_)
            refine VC.block ?_
            refine VC.inv ((114, mnil) :: _) (fun _ h => h.nilc 114) ?_
            refine VC.loop (G := Nat × (List DCommit) × (Option Addr) × Nat × Mem) (fun g => [(54, Value.int .i64 ((((g.1) : Nat) : Int))), (0, Value.int .i64 (d0)), (1, Value.slice (some ⟨gg12, oo12, none⟩) (d1.length) (c1)), (2, Value.int .i64 (d2)), (6, Value.pointer (some ⟨g1, 0, none⟩)), (7, Value.int .i64 (0)), (8, Value.int .i64 (shipWrong d0 d1)), (9, Value.pointer (some ⟨g9, 0, none⟩)), (16, Value.bool (decide (¬ (shipWrong d0 d1) = 0))), (30, Value.bool (decide (d2 = 1048576))), (37, Value.bool (decide (0 < d2))), (52, Value.slice A13 (((min (d2 + 4) ((d1.length : Nat) : Int)).toNat) - ((d2).toNat)) (c1 - ((d2).toNat))), (53, Value.int .i64 (((((min (d2 + 4) ((d1.length : Nat) : Int)).toNat) - ((d2).toNat) : Nat) : Int)))]) (fun g => [(114, (g.2.2.2.2)), (110, mone g9 (.cells [Value.int .i64 (2), Value.int .i64 (d0), Value.int .u8 (0), Value.int .i64 (0), Value.slice none (0) (0), Value.int .i64 (d2 + 1), Value.int .i64 (x12.1), Value.slice (g.2.2.1) ((g.2.1).length) ((g.2.2.2.1))].toArray 72 (0, 0))), (102, mone g1 (.cells [Value.int .i64 (0), Value.int .i64 (0), Value.int .u8 (0), Value.int .i64 (0), Value.slice none (0) (0), Value.int .i64 (0), Value.int .i64 (0), Value.slice none (0) (0)].toArray 72 (0, 0))), (0, wm W)]) (fun g => ((g.1) ≤ ((d1.take (min (d2 + 4) (d1.length : Int)).toNat).drop d2.toNat).length) ∧ ((g.2.1) = ((d1.take (min (d2 + 4) (d1.length : Int)).toNat).drop d2.toNat).take (g.1)) ∧ (Ow (.sl TCommit) (g.2.2.2.2) [.slice (g.2.2.1) (g.2.1).length (g.2.2.2.1)] (g.2.1))) (fun g => ((d1.take (min (d2 + 4) (d1.length : Int)).toNat).drop d2.toNat).length - (g.1)) (0, [], none, 0, mnil) (⟨by simp, by rfl, (Ow.nil TCommit mnil)⟩) ⟨⟨rfl, rfl, rfl, rfl, rfl, rfl, rfl, rfl, rfl, rfl, rfl, rfl, rfl, trivial⟩, fun _ h => h.sub [114, 110, 102, 0]⟩ ?_
            rintro ⟨k, cs, cs_A, cs_c, cs_m⟩ ⟨hk, hcs, h_cs⟩
            replace hk : k ≤ ((d1.take (min (d2 + 4) (d1.length : Int)).toNat).drop d2.toNat).length := hk
            replace hcs : cs = ((d1.take (min (d2 + 4) (d1.length : Int)).toNat).drop d2.toNat).take k := hcs
            replace h_cs : Ow (.sl TCommit) cs_m [.slice cs_A cs.length cs_c] cs := h_cs
            show VC _ _ _ _ _ [(54, Value.int .i64 (((k : Nat) : Int))), (0, Value.int .i64 (d0)), (1, Value.slice (some ⟨gg12, oo12, none⟩) (d1.length) (c1)), (2, Value.int .i64 (d2)), (6, Value.pointer (some ⟨g1, 0, none⟩)), (7, Value.int .i64 (0)), (8, Value.int .i64 (shipWrong d0 d1)), (9, Value.pointer (some ⟨g9, 0, none⟩)), (16, Value.bool (decide (¬ (shipWrong d0 d1) = 0))), (30, Value.bool (decide (d2 = 1048576))), (37, Value.bool (decide (0 < d2))), (52, Value.slice A13 (((min (d2 + 4) ((d1.length : Nat) : Int)).toNat) - ((d2).toNat)) (c1 - ((d2).toNat))), (53, Value.int .i64 (((((min (d2 + 4) ((d1.length : Nat) : Int)).toNat) - ((d2).toNat) : Nat) : Int)))] [(114, cs_m), (110, mone g9 (.cells [Value.int .i64 (2), Value.int .i64 (d0), Value.int .u8 (0), Value.int .i64 (0), Value.slice none (0) (0), Value.int .i64 (d2 + 1), Value.int .i64 (x12.1), Value.slice cs_A (cs.length) (cs_c)].toArray 72 (0, 0))), (102, mone g1 (.cells [Value.int .i64 (0), Value.int .i64 (0), Value.int .u8 (0), Value.int .i64 (0), Value.slice none (0) (0), Value.int .i64 (0), Value.int .i64 (0), Value.slice none (0) (0)].toArray 72 (0, 0))), (0, wm W)]
            have l_cs : cs.length ≤ cs_c := by obtain ⟨_, _, he, hl, _⟩ := h_cs.slice; simp only [Value.slice.injEq] at he; omega
            have k_cs : cs_c ≤ 9223372036854775807 := by obtain ⟨_, _, he, _, hl⟩ := h_cs.slice; simp only [Value.slice.injEq, maxLen] at he hl; omega
            have hl0 : ((d1.take (min (d2 + 4) (d1.length : Int)).toNat).drop d2.toNat).length = min (d2.toNat + 4) d1.length - d2.toNat := by simp only [List.length_drop, List.length_take]; omega
            have hlc : cs.length ≤ k := by rw [hcs]; simp; omega
            refine VC.rs ?_
            refine VO.y rfl (.lss rfl rfl) ?_
            refine VO.esub [(0, _), (1, _), (2, _), (6, _), (7, _), (8, _), (9, _), (16, _), (30, _), (37, _), (52, _), (53, _), (54, _), (55, _)] ⟨rfl, rfl, rfl, rfl, rfl, rfl, rfl, rfl, rfl, rfl, rfl, rfl, rfl, rfl, trivial⟩ (VO.nil ?_)
            refine VC.seq ?_
            refine VC.cond rfl (fun hc15 => ?_) (fun hc15 => ?_)
            · -- FFFFTT
              refine VC.skip ?_
              refine outN ?_
              refine VC.seq ?_
              refine VC.block ?_
              refine VC.rs ?_
              obtain ⟨x16, hx16⟩ : ∃ x, ((d1.take ((min (d2 + 4) ((d1.length : Nat) : Int)).toNat)).drop ((d2).toNat))[k]? = some x := ⟨_, List.getElem?_eq_getElem (by first | omega | (simp only [List.length_append, List.length_nil, List.length_cons, List.length_take, List.length_drop] at *; omega) | (have := wrong_len ‹¬ ¬ shipWrong d0 d1 = 0›; omega) | exact next_room ‹¬ ¬ shipWrong d0 d1 = 0› ‹_›)⟩
              obtain ⟨gg16, oo16, ec16, ea16, hce16, hre16⟩ := hs13.elem hx16
              cases ea16
              obtain ⟨q16_A2, q16_c2, rfl, q16_0, q16_1, q16_2⟩ := open_Commit (x0 := x16.1) (x1 := x16.2.1) (x2 := x16.2.2) hre16
              simp only [inK] at q16_0
              simp only [inK] at q16_1
              have q16_r2 := Rd.room q16_2
              refine VO.y rfl (.ixI k rfl rfl tsl61 rfl (by first | omega | (simp only [List.length_append, List.length_nil, List.length_cons, List.length_take, List.length_drop] at *; omega) | (have := wrong_len ‹¬ ¬ shipWrong d0 d1 = 0›; omega) | exact next_room ‹¬ ¬ shipWrong d0 d1 = 0› ‹_›)) ?_
              refine VO.y rfl (.ldA 0 rfl tk52 rfl hce16) ?_
              refine VO.alloc 118 rfl tz52 (fun g17 => ?_)
              refine VO.store (k := 3) (c' := [Value.int .i64 (x16.1), Value.int .i64 (x16.2.1), Value.slice q16_A2 (x16.2.2.length) (q16_c2)]) 118 rfl rfl (.inl tk52) rfl rfl rfl rfl rfl ?_
              refine VO.esub [(0, _), (1, _), (2, _), (6, _), (7, _), (8, _), (9, _), (11, _), (16, _), (30, _), (37, _), (52, _), (53, _), (54, _), (55, _)] ⟨rfl, rfl, rfl, rfl, rfl, rfl, rfl, rfl, rfl, rfl, rfl, rfl, rfl, rfl, rfl, trivial⟩ (VO.nil ?_)
              refine VC.regD _ 5 [(0, true), (1, true), (2, true), (3, false), (4, false)] follows (by kernel_rfl) (fun _ h => h.sub [118, 114, 110, 102, 0]) ?_
              refine VD.y rfl rfl (.inl rfl) (.fa rfl tst72 rfl) ?_
              refine VD.y rfl rfl (.inl rfl) (.ld1 110 rfl tk61 rfl (cellsAt_one rfl rfl)) ?_
              refine VD.y rfl rfl (.inl rfl) (.ldA 118 rfl tk52 rfl (cellsAt_one rfl rfl)) ?_
              refine VD.callN 119 rfl rfl (.inl rfl) fnOk60 rfl (fun _ h => h.sub [118, 114, 110, 102, 0]) (fun W hW => cCopy_ok W (Rd.mono hre16 (hW.at (i := 0) rfl)) (by first | omega | (simp only [List.length_append, List.length_nil, List.length_cons, List.length_take, List.length_drop] at *; omega) | (have := wrong_len ‹¬ ¬ shipWrong d0 d1 = 0›; omega) | exact next_room ‹¬ ¬ shipWrong d0 d1 = 0› ‹_›)) (fun v19 m19 hv19 => ?_)
              obtain ⟨s19_0, rfl, f19_0⟩ := hv19
              obtain ⟨q19_0_A2, q19_0_c2, q19_0_n2, rfl, q19_0_S, q19_0_0, q19_0_1, q19_0_2⟩ := openO_Commit (x0 := x16.1) (x1 := x16.2.1) (x2 := x16.2.2) f19_0
              simp only [inK] at q19_0_0
              simp only [inK] at q19_0_1
              have q19_0_r2 := Rd.room (q19_0_2.rd (mle_refl _))
              refine VD.inv _ (fun _ h => h.parts (i := 119) rfl q19_0_S [120]) ?_
              refine VD.bsl (cs := [Value.int .i64 (x16.1), Value.int .i64 (x16.2.1), Value.slice q19_0_A2 (x16.2.2.length) (q19_0_c2)]) 122 rfl rfl rfl tsl61 tz52 rfl rfl (fun _ h => h.sub [118, 114, 110, 102, 0]) (fun g21 => ?_)
              refine VD.nil rfl ?_ rfl
              refine VO.appO (e := TCommit) 114 120 122 rfl rfl rfl tsl61 tz52 rfl rfl rfl rfl h_cs (mkO_Commit x16.1 x16.2.1 x16.2.2 (Seps.one (mle_refl _)) (by simp only [inK]; (first | omega | (simp only [List.length_append, List.length_nil, List.length_cons, List.length_take, List.length_drop] at *; omega) | (have := wrong_len ‹¬ ¬ shipWrong d0 d1 = 0›; omega) | exact next_room ‹¬ ¬ shipWrong d0 d1 = 0› ‹_›)) (by simp only [inK]; (first | omega | (simp only [List.length_append, List.length_nil, List.length_cons, List.length_take, List.length_drop] at *; omega) | (have := wrong_len ‹¬ ¬ shipWrong d0 d1 = 0›; omega) | exact next_room ‹¬ ¬ shipWrong d0 d1 = 0› ‹_›)) (OwnL.ow (Ow.ownl q19_0_2 rfl mnil) rfl)) Try.underlying61 (cellsAt_one rfl rfl) (by simp only [maxLen]; (first | omega | (simp only [List.length_append, List.length_nil, List.length_cons, List.length_take, List.length_drop] at *; omega) | (have := wrong_len ‹¬ ¬ shipWrong d0 d1 = 0›; omega) | exact next_room ‹¬ ¬ shipWrong d0 d1 = 0› ‹_›)) (by first | omega | (simp only [List.length_append, List.length_nil, List.length_cons, List.length_take, List.length_drop] at *; omega) | (have := wrong_len ‹¬ ¬ shipWrong d0 d1 = 0›; omega) | exact next_room ‹¬ ¬ shipWrong d0 d1 = 0› ‹_›) (by decide) (fun v23 m23 ho23 => ?_)
              obtain ⟨A23, c23, rfl, l23, k23⟩ := ho23.slice
              simp only [maxLen] at k23
              refine VO.y rfl (.fa rfl tst72 rfl) ?_
              refine VO.store (k := 1) (c' := [Value.int .i64 (2), Value.int .i64 (d0), Value.int .u8 (0), Value.int .i64 (0), Value.slice none (0) (0), Value.int .i64 (d2 + 1), Value.int .i64 (x12.1), Value.slice A23 ((cs ++ [(x16.1, x16.2.1, x16.2.2)]).length) (c23)]) 110 rfl rfl (.inr ⟨tk61, rfl⟩) rfl rfl rfl rfl rfl ?_
              refine VO.esub [(0, _), (1, _), (2, _), (6, _), (7, _), (8, _), (9, _), (11, _), (16, _), (30, _), (37, _), (52, _), (53, _), (54, _), (55, _)] ⟨rfl, rfl, rfl, rfl, rfl, rfl, rfl, rfl, rfl, rfl, rfl, rfl, rfl, rfl, rfl, trivial⟩ (VO.nil ?_)
              refine outBN ?_
              refine outN ?_
              refine VC.reg ?_
              refine VO.y rfl (.add (c := ((k + 1 : Nat) : Int)) rfl rfl (by omega) ⟨by first | omega | (simp only [List.length_append, List.length_nil, List.length_cons, List.length_take, List.length_drop] at *; omega) | (have := wrong_len ‹¬ ¬ shipWrong d0 d1 = 0›; omega) | exact next_room ‹¬ ¬ shipWrong d0 d1 = 0› ‹_›, by first | omega | (simp only [List.length_append, List.length_nil, List.length_cons, List.length_take, List.length_drop] at *; omega) | (have := wrong_len ‹¬ ¬ shipWrong d0 d1 = 0›; omega) | exact next_room ‹¬ ¬ shipWrong d0 d1 = 0› ‹_›⟩) ?_
              refine VO.y rfl (.mv rfl) ?_
              refine VO.inv [(114, _), (118, _), (110, _), (102, _), (0, _)] (fun _ h => h.sub [114, 118, 110, 102, 0]) ?_
              refine VO.esub [(0, _), (1, _), (2, _), (6, _), (7, _), (8, _), (9, _), (11, _), (16, _), (30, _), (37, _), (52, _), (53, _), (54, _), (55, _)] ⟨rfl, rfl, rfl, rfl, rfl, rfl, rfl, rfl, rfl, rfl, rfl, rfl, rfl, rfl, rfl, trivial⟩ (VO.nil ?_)
              exact outN ⟨⟨k + 1, cs ++ [(x16.1, x16.2.1, x16.2.2)], A23, c23, m23⟩, ⟨by simp only [List.length_drop, List.length_take]; omega, by rw [hcs]; exact (take_one ‹_›).symm, ho23⟩, by first | omega | (simp only [List.length_append, List.length_nil, List.length_cons, List.length_take, List.length_drop] at *; omega) | (have := wrong_len ‹¬ ¬ shipWrong d0 d1 = 0›; omega) | exact next_room ‹¬ ¬ shipWrong d0 d1 = 0› ‹_›, ⟨⟨rfl, rfl, rfl, rfl, rfl, rfl, rfl, rfl, rfl, rfl, rfl, rfl, rfl, trivial⟩, fun _ h => Inv.sub h [114, 110, 102, 0]⟩⟩
            · -- FFFFTF
              refine VC.exit ?_
              refine outE ?_
              refine outE ?_
              refine outBB ?_
              refine outN ?_
              refine VC.rs ?_
              refine VO.y rfl (.ldA 110 rfl tk72 rfl (cellsAt_one rfl rfl)) ?_
              refine VO.store (k := 8) (c' := [Value.int .i64 (2), Value.int .i64 (d0), Value.int .u8 (0), Value.int .i64 (0), Value.slice none (0) (0), Value.int .i64 (d2 + 1), Value.int .i64 (x12.1), Value.slice cs_A (cs.length) (cs_c)]) 102 rfl rfl (.inl tk72) rfl rfl rfl rfl rfl ?_
              refine VO.y rfl (.as rfl) ?_
              refine VO.esub [(0, _), (1, _), (2, _), (6, _), (7, _), (8, _), (9, _), (16, _), (30, _), (37, _), (52, _), (53, _), (54, _), (55, _)] ⟨rfl, rfl, rfl, rfl, rfl, rfl, rfl, rfl, rfl, rfl, rfl, rfl, rfl, rfl, trivial⟩ (VO.nil ?_)
              refine VC.ret ?_
              refine ⟨_, _, res_run (rs := [.cell 6 72, .tmp 7]) rfl (.agg 102 rfl tk72 rfl ⟨_, _, _, mone_self _ _, Nat.le_of_ble_eq_true rfl, rfl⟩ (.tmp rfl .nil)), fun W_ hI => out_of (l := [cs_m]) hI [114] rfl rfl (mle_refl _) (fun hS_ => ?_)⟩
              dsimp only [packV]
              have he0 : ((shipNext d0 d1 d2).1 : Ty.Den TMessage) = (2, d0, 0, 0, [], d2 + 1, x12.1, cs) := by first | rfl | (first | (rw [next_wrong ‹_›]; rfl) | (rw [next_arg ‹¬ ¬ _› (by omega)]; rfl) | (have hcs2 := hcs.trans ((List.take_of_length_le (by omega)).trans (next_list _ _ ‹_› ‹_›)); rw [next_good ‹¬ ¬ _› ‹_› ‹_› ‹_›, ← hcs2]; first | rw [prevOf_pos ‹0 < d2› ‹_›] | rw [prevOf_zero ‹_›]))
              refine ⟨[Value.int .i64 (2), Value.int .i64 (d0), Value.int .u8 (0), Value.int .i64 (0), Value.slice none (0) (0), Value.int .i64 (d2 + 1), Value.int .i64 (x12.1), Value.slice cs_A (cs.length) (cs_c)], ?_, ?_⟩
              rotate_left
              · rw [he0]; exact (mkO_Message 2 d0 0 0 ([]) (d2 + 1) x12.1 cs (Seps.nilAt 0 hS_) (by simp only [inK]; (first | omega | (simp only [List.length_append, List.length_nil, List.length_cons, List.length_take, List.length_drop] at *; omega) | (have := wrong_len ‹¬ ¬ shipWrong d0 d1 = 0›; omega) | exact next_room ‹¬ ¬ shipWrong d0 d1 = 0› ‹_›)) (by simp only [inK]; (first | omega | (simp only [List.length_append, List.length_nil, List.length_cons, List.length_take, List.length_drop] at *; omega) | (have := wrong_len ‹¬ ¬ shipWrong d0 d1 = 0›; omega) | exact next_room ‹¬ ¬ shipWrong d0 d1 = 0› ‹_›)) (by simp only [inK]; (first | omega | (simp only [List.length_append, List.length_nil, List.length_cons, List.length_take, List.length_drop] at *; omega) | (have := wrong_len ‹¬ ¬ shipWrong d0 d1 = 0›; omega) | exact next_room ‹¬ ¬ shipWrong d0 d1 = 0› ‹_›)) (by simp only [inK]; (first | omega | (simp only [List.length_append, List.length_nil, List.length_cons, List.length_take, List.length_drop] at *; omega) | (have := wrong_len ‹¬ ¬ shipWrong d0 d1 = 0›; omega) | exact next_room ‹¬ ¬ shipWrong d0 d1 = 0› ‹_›)) (Ow.nil _ _) (by simp only [inK]; (first | omega | (simp only [List.length_append, List.length_nil, List.length_cons, List.length_take, List.length_drop] at *; omega) | (have := wrong_len ‹¬ ¬ shipWrong d0 d1 = 0›; omega) | exact next_room ‹¬ ¬ shipWrong d0 d1 = 0› ‹_›)) (by simp only [inK]; (first | omega | (simp only [List.length_append, List.length_nil, List.length_cons, List.length_take, List.length_drop] at *; omega) | (have := wrong_len ‹¬ ¬ shipWrong d0 d1 = 0›; omega) | exact next_room ‹¬ ¬ shipWrong d0 d1 = 0› ‹_›)) h_cs)
              all_goals (first | rfl | (first | (rw [next_wrong ‹_›]; rfl) | (rw [next_arg ‹¬ ¬ _› (by omega)]; rfl) | (rw [next_good ‹¬ ¬ _› ‹_› ‹_› ‹_›]; rfl)))
          · -- FFFFF
            refine VC.skip ?_
            refine outN ?_
            refine VC.seq ?_
            refine VC.rs ?_
            refine VO.y rfl (.mv rfl) ?_
            refine VO.y rfl (.mv rfl) ?_
            refine VO.y rfl (.mv rfl) ?_
            refine VO.y rfl (.add rfl rfl rfl ⟨by first | omega | (simp only [List.length_append, List.length_nil, List.length_cons, List.length_take, List.length_drop] at *; omega) | (have := wrong_len ‹¬ ¬ shipWrong d0 d1 = 0›; omega) | exact next_room ‹¬ ¬ shipWrong d0 d1 = 0› ‹_›, by first | omega | (simp only [List.length_append, List.length_nil, List.length_cons, List.length_take, List.length_drop] at *; omega) | (have := wrong_len ‹¬ ¬ shipWrong d0 d1 = 0›; omega) | exact next_room ‹¬ ¬ shipWrong d0 d1 = 0› ‹_›⟩) ?_
            refine VO.y rfl (.mv rfl) ?_
            refine VO.y rfl (.lenS rfl tsl61) ?_
            refine VO.y rfl (.minM rfl rfl) ?_
            obtain ⟨A24, hA24, hs24⟩ := h1.sub' 3 ((d2).toNat) ((min (d2 + 4) ((d1.length : Nat) : Int)).toNat) rfl (by first | omega | (simp only [List.length_append, List.length_nil, List.length_cons, List.length_take, List.length_drop] at *; omega) | (have := wrong_len ‹¬ ¬ shipWrong d0 d1 = 0›; omega) | exact next_room ‹¬ ¬ shipWrong d0 d1 = 0› ‹_›) (by first | omega | (simp only [List.length_append, List.length_nil, List.length_cons, List.length_take, List.length_drop] at *; omega) | (have := wrong_len ‹¬ ¬ shipWrong d0 d1 = 0›; omega) | exact next_room ‹¬ ¬ shipWrong d0 d1 = 0› ‹_›)
            refine VO.y rfl (.slI ((d2).toNat) ((min (d2 + 4) ((d1.length : Nat) : Int)).toNat) A24 rfl rfl rfl tsl61 (by first | omega | (simp only [List.length_append, List.length_nil, List.length_cons, List.length_take, List.length_drop] at *; omega) | (have := wrong_len ‹¬ ¬ shipWrong d0 d1 = 0›; omega) | exact next_room ‹¬ ¬ shipWrong d0 d1 = 0› ‹_›) (by first | omega | (simp only [List.length_append, List.length_nil, List.length_cons, List.length_take, List.length_drop] at *; omega) | (have := wrong_len ‹¬ ¬ shipWrong d0 d1 = 0›; omega) | exact next_room ‹¬ ¬ shipWrong d0 d1 = 0› ‹_›) hA24 (by first | omega | (simp only [List.length_append, List.length_nil, List.length_cons, List.length_take, List.length_drop] at *; omega) | (have := wrong_len ‹¬ ¬ shipWrong d0 d1 = 0›; omega) | exact next_room ‹¬ ¬ shipWrong d0 d1 = 0› ‹_›) (by first | omega | (simp only [List.length_append, List.length_nil, List.length_cons, List.length_take, List.length_drop] at *; omega) | (have := wrong_len ‹¬ ¬ shipWrong d0 d1 = 0›; omega) | exact next_room ‹¬ ¬ shipWrong d0 d1 = 0› ‹_›)) ?_
            refine VO.y rfl (.lenS rfl tsl61) ?_
            refine VO.y rfl (.mv rfl) ?_
            refine VO.esub [(0, _), (1, _), (2, _), (6, _), (7, _), (8, _), (9, _), (16, _), (30, _), (37, _), (52, _), (53, _), (54, _)] ⟨rfl, rfl, rfl, rfl, rfl, rfl, rfl, rfl, rfl, rfl, rfl, rfl, rfl, trivial⟩ (VO.nil ?_)
            refine VC.block ?_
            refine VC.inv ((125, mnil) :: _) (fun _ h => h.nilc 125) ?_
            refine VC.loop (G := Nat × (List DCommit) × (Option Addr) × Nat × Mem) (fun g => [(54, Value.int .i64 ((((g.1) : Nat) : Int))), (0, Value.int .i64 (d0)), (1, Value.slice A1 (d1.length) (c1)), (2, Value.int .i64 (d2)), (6, Value.pointer (some ⟨g1, 0, none⟩)), (7, Value.int .i64 (0)), (8, Value.int .i64 (shipWrong d0 d1)), (9, Value.pointer (some ⟨g9, 0, none⟩)), (16, Value.bool (decide (¬ (shipWrong d0 d1) = 0))), (30, Value.bool (decide (d2 = 1048576))), (37, Value.bool (decide (0 < d2))), (52, Value.slice A24 (((min (d2 + 4) ((d1.length : Nat) : Int)).toNat) - ((d2).toNat)) (c1 - ((d2).toNat))), (53, Value.int .i64 (((((min (d2 + 4) ((d1.length : Nat) : Int)).toNat) - ((d2).toNat) : Nat) : Int)))]) (fun g => [(125, (g.2.2.2.2)), (110, mone g9 (.cells [Value.int .i64 (2), Value.int .i64 (d0), Value.int .u8 (0), Value.int .i64 (0), Value.slice none (0) (0), Value.int .i64 (d2 + 1), Value.int .i64 (0), Value.slice (g.2.2.1) ((g.2.1).length) ((g.2.2.2.1))].toArray 72 (0, 0))), (102, mone g1 (.cells [Value.int .i64 (0), Value.int .i64 (0), Value.int .u8 (0), Value.int .i64 (0), Value.slice none (0) (0), Value.int .i64 (0), Value.int .i64 (0), Value.slice none (0) (0)].toArray 72 (0, 0))), (0, wm W)]) (fun g => ((g.1) ≤ ((d1.take (min (d2 + 4) (d1.length : Int)).toNat).drop d2.toNat).length) ∧ ((g.2.1) = ((d1.take (min (d2 + 4) (d1.length : Int)).toNat).drop d2.toNat).take (g.1)) ∧ (Ow (.sl TCommit) (g.2.2.2.2) [.slice (g.2.2.1) (g.2.1).length (g.2.2.2.1)] (g.2.1))) (fun g => ((d1.take (min (d2 + 4) (d1.length : Int)).toNat).drop d2.toNat).length - (g.1)) (0, [], none, 0, mnil) (⟨by simp, by rfl, (Ow.nil TCommit mnil)⟩) ⟨⟨rfl, rfl, rfl, rfl, rfl, rfl, rfl, rfl, rfl, rfl, rfl, rfl, rfl, trivial⟩, fun _ h => h.sub [125, 110, 102, 0]⟩ ?_
            rintro ⟨k, cs, cs_A, cs_c, cs_m⟩ ⟨hk, hcs, h_cs⟩
            replace hk : k ≤ ((d1.take (min (d2 + 4) (d1.length : Int)).toNat).drop d2.toNat).length := hk
            replace hcs : cs = ((d1.take (min (d2 + 4) (d1.length : Int)).toNat).drop d2.toNat).take k := hcs
            replace h_cs : Ow (.sl TCommit) cs_m [.slice cs_A cs.length cs_c] cs := h_cs
            show VC _ _ _ _ _ [(54, Value.int .i64 (((k : Nat) : Int))), (0, Value.int .i64 (d0)), (1, Value.slice A1 (d1.length) (c1)), (2, Value.int .i64 (d2)), (6, Value.pointer (some ⟨g1, 0, none⟩)), (7, Value.int .i64 (0)), (8, Value.int .i64 (shipWrong d0 d1)), (9, Value.pointer (some ⟨g9, 0, none⟩)), (16, Value.bool (decide (¬ (shipWrong d0 d1) = 0))), (30, Value.bool (decide (d2 = 1048576))), (37, Value.bool (decide (0 < d2))), (52, Value.slice A24 (((min (d2 + 4) ((d1.length : Nat) : Int)).toNat) - ((d2).toNat)) (c1 - ((d2).toNat))), (53, Value.int .i64 (((((min (d2 + 4) ((d1.length : Nat) : Int)).toNat) - ((d2).toNat) : Nat) : Int)))] [(125, cs_m), (110, mone g9 (.cells [Value.int .i64 (2), Value.int .i64 (d0), Value.int .u8 (0), Value.int .i64 (0), Value.slice none (0) (0), Value.int .i64 (d2 + 1), Value.int .i64 (0), Value.slice cs_A (cs.length) (cs_c)].toArray 72 (0, 0))), (102, mone g1 (.cells [Value.int .i64 (0), Value.int .i64 (0), Value.int .u8 (0), Value.int .i64 (0), Value.slice none (0) (0), Value.int .i64 (0), Value.int .i64 (0), Value.slice none (0) (0)].toArray 72 (0, 0))), (0, wm W)]
            have l_cs : cs.length ≤ cs_c := by obtain ⟨_, _, he, hl, _⟩ := h_cs.slice; simp only [Value.slice.injEq] at he; omega
            have k_cs : cs_c ≤ 9223372036854775807 := by obtain ⟨_, _, he, _, hl⟩ := h_cs.slice; simp only [Value.slice.injEq, maxLen] at he hl; omega
            have hl0 : ((d1.take (min (d2 + 4) (d1.length : Int)).toNat).drop d2.toNat).length = min (d2.toNat + 4) d1.length - d2.toNat := by simp only [List.length_drop, List.length_take]; omega
            have hlc : cs.length ≤ k := by rw [hcs]; simp; omega
            refine VC.rs ?_
            refine VO.y rfl (.lss rfl rfl) ?_
            refine VO.esub [(0, _), (1, _), (2, _), (6, _), (7, _), (8, _), (9, _), (16, _), (30, _), (37, _), (52, _), (53, _), (54, _), (55, _)] ⟨rfl, rfl, rfl, rfl, rfl, rfl, rfl, rfl, rfl, rfl, rfl, rfl, rfl, rfl, trivial⟩ (VO.nil ?_)
            refine VC.seq ?_
            refine VC.cond rfl (fun hc26 => ?_) (fun hc26 => ?_)
            · -- FFFFFT
              refine VC.skip ?_
              refine outN ?_
              refine VC.seq ?_
              refine VC.block ?_
              refine VC.rs ?_
              obtain ⟨x27, hx27⟩ : ∃ x, ((d1.take ((min (d2 + 4) ((d1.length : Nat) : Int)).toNat)).drop ((d2).toNat))[k]? = some x := ⟨_, List.getElem?_eq_getElem (by first | omega | (simp only [List.length_append, List.length_nil, List.length_cons, List.length_take, List.length_drop] at *; omega) | (have := wrong_len ‹¬ ¬ shipWrong d0 d1 = 0›; omega) | exact next_room ‹¬ ¬ shipWrong d0 d1 = 0› ‹_›)⟩
              obtain ⟨gg27, oo27, ec27, ea27, hce27, hre27⟩ := hs24.elem hx27
              cases ea27
              obtain ⟨q27_A2, q27_c2, rfl, q27_0, q27_1, q27_2⟩ := open_Commit (x0 := x27.1) (x1 := x27.2.1) (x2 := x27.2.2) hre27
              simp only [inK] at q27_0
              simp only [inK] at q27_1
              have q27_r2 := Rd.room q27_2
              refine VO.y rfl (.ixI k rfl rfl tsl61 rfl (by first | omega | (simp only [List.length_append, List.length_nil, List.length_cons, List.length_take, List.length_drop] at *; omega) | (have := wrong_len ‹¬ ¬ shipWrong d0 d1 = 0›; omega) | exact next_room ‹¬ ¬ shipWrong d0 d1 = 0› ‹_›)) ?_
              refine VO.y rfl (.ldA 0 rfl tk52 rfl hce27) ?_
              refine VO.alloc 129 rfl tz52 (fun g28 => ?_)
              refine VO.store (k := 3) (c' := [Value.int .i64 (x27.1), Value.int .i64 (x27.2.1), Value.slice q27_A2 (x27.2.2.length) (q27_c2)]) 129 rfl rfl (.inl tk52) rfl rfl rfl rfl rfl ?_
              refine VO.esub [(0, _), (1, _), (2, _), (6, _), (7, _), (8, _), (9, _), (11, _), (16, _), (30, _), (37, _), (52, _), (53, _), (54, _), (55, _)] ⟨rfl, rfl, rfl, rfl, rfl, rfl, rfl, rfl, rfl, rfl, rfl, rfl, rfl, rfl, rfl, trivial⟩ (VO.nil ?_)
              refine VC.regD _ 5 [(0, true), (1, true), (2, true), (3, false), (4, false)] follows (by kernel_rfl) (fun _ h => h.sub [129, 125, 110, 102, 0]) ?_
              refine VD.y rfl rfl (.inl rfl) (.fa rfl tst72 rfl) ?_
              refine VD.y rfl rfl (.inl rfl) (.ld1 110 rfl tk61 rfl (cellsAt_one rfl rfl)) ?_
              refine VD.y rfl rfl (.inl rfl) (.ldA 129 rfl tk52 rfl (cellsAt_one rfl rfl)) ?_
              refine VD.callN 130 rfl rfl (.inl rfl) fnOk60 rfl (fun _ h => h.sub [129, 125, 110, 102, 0]) (fun W hW => cCopy_ok W (Rd.mono hre27 (hW.at (i := 0) rfl)) (by first | omega | (simp only [List.length_append, List.length_nil, List.length_cons, List.length_take, List.length_drop] at *; omega) | (have := wrong_len ‹¬ ¬ shipWrong d0 d1 = 0›; omega) | exact next_room ‹¬ ¬ shipWrong d0 d1 = 0› ‹_›)) (fun v30 m30 hv30 => ?_)
              obtain ⟨s30_0, rfl, f30_0⟩ := hv30
              obtain ⟨q30_0_A2, q30_0_c2, q30_0_n2, rfl, q30_0_S, q30_0_0, q30_0_1, q30_0_2⟩ := openO_Commit (x0 := x27.1) (x1 := x27.2.1) (x2 := x27.2.2) f30_0
              simp only [inK] at q30_0_0
              simp only [inK] at q30_0_1
              have q30_0_r2 := Rd.room (q30_0_2.rd (mle_refl _))
              refine VD.inv _ (fun _ h => h.parts (i := 130) rfl q30_0_S [131]) ?_
              refine VD.bsl (cs := [Value.int .i64 (x27.1), Value.int .i64 (x27.2.1), Value.slice q30_0_A2 (x27.2.2.length) (q30_0_c2)]) 133 rfl rfl rfl tsl61 tz52 rfl rfl (fun _ h => h.sub [129, 125, 110, 102, 0]) (fun g32 => ?_)
              refine VD.nil rfl ?_ rfl
              refine VO.appO (e := TCommit) 125 131 133 rfl rfl rfl tsl61 tz52 rfl rfl rfl rfl h_cs (mkO_Commit x27.1 x27.2.1 x27.2.2 (Seps.one (mle_refl _)) (by simp only [inK]; (first | omega | (simp only [List.length_append, List.length_nil, List.length_cons, List.length_take, List.length_drop] at *; omega) | (have := wrong_len ‹¬ ¬ shipWrong d0 d1 = 0›; omega) | exact next_room ‹¬ ¬ shipWrong d0 d1 = 0› ‹_›)) (by simp only [inK]; (first | omega | (simp only [List.length_append, List.length_nil, List.length_cons, List.length_take, List.length_drop] at *; omega) | (have := wrong_len ‹¬ ¬ shipWrong d0 d1 = 0›; omega) | exact next_room ‹¬ ¬ shipWrong d0 d1 = 0› ‹_›)) (OwnL.ow (Ow.ownl q30_0_2 rfl mnil) rfl)) Try.underlying61 (cellsAt_one rfl rfl) (by simp only [maxLen]; (first | omega | (simp only [List.length_append, List.length_nil, List.length_cons, List.length_take, List.length_drop] at *; omega) | (have := wrong_len ‹¬ ¬ shipWrong d0 d1 = 0›; omega) | exact next_room ‹¬ ¬ shipWrong d0 d1 = 0› ‹_›)) (by first | omega | (simp only [List.length_append, List.length_nil, List.length_cons, List.length_take, List.length_drop] at *; omega) | (have := wrong_len ‹¬ ¬ shipWrong d0 d1 = 0›; omega) | exact next_room ‹¬ ¬ shipWrong d0 d1 = 0› ‹_›) (by decide) (fun v34 m34 ho34 => ?_)
              obtain ⟨A34, c34, rfl, l34, k34⟩ := ho34.slice
              simp only [maxLen] at k34
              refine VO.y rfl (.fa rfl tst72 rfl) ?_
              refine VO.store (k := 1) (c' := [Value.int .i64 (2), Value.int .i64 (d0), Value.int .u8 (0), Value.int .i64 (0), Value.slice none (0) (0), Value.int .i64 (d2 + 1), Value.int .i64 (0), Value.slice A34 ((cs ++ [(x27.1, x27.2.1, x27.2.2)]).length) (c34)]) 110 rfl rfl (.inr ⟨tk61, rfl⟩) rfl rfl rfl rfl rfl ?_
              refine VO.esub [(0, _), (1, _), (2, _), (6, _), (7, _), (8, _), (9, _), (11, _), (16, _), (30, _), (37, _), (52, _), (53, _), (54, _), (55, _)] ⟨rfl, rfl, rfl, rfl, rfl, rfl, rfl, rfl, rfl, rfl, rfl, rfl, rfl, rfl, rfl, trivial⟩ (VO.nil ?_)
              refine outBN ?_
              refine outN ?_
              refine VC.reg ?_
              refine VO.y rfl (.add (c := ((k + 1 : Nat) : Int)) rfl rfl (by omega) ⟨by first | omega | (simp only [List.length_append, List.length_nil, List.length_cons, List.length_take, List.length_drop] at *; omega) | (have := wrong_len ‹¬ ¬ shipWrong d0 d1 = 0›; omega) | exact next_room ‹¬ ¬ shipWrong d0 d1 = 0› ‹_›, by first | omega | (simp only [List.length_append, List.length_nil, List.length_cons, List.length_take, List.length_drop] at *; omega) | (have := wrong_len ‹¬ ¬ shipWrong d0 d1 = 0›; omega) | exact next_room ‹¬ ¬ shipWrong d0 d1 = 0› ‹_›⟩) ?_
              refine VO.y rfl (.mv rfl) ?_
              refine VO.esub [(0, _), (1, _), (2, _), (6, _), (7, _), (8, _), (9, _), (11, _), (16, _), (30, _), (37, _), (52, _), (53, _), (54, _), (55, _)] ⟨rfl, rfl, rfl, rfl, rfl, rfl, rfl, rfl, rfl, rfl, rfl, rfl, rfl, rfl, rfl, trivial⟩ (VO.nil ?_)
              exact outN ⟨⟨k + 1, cs ++ [(x27.1, x27.2.1, x27.2.2)], A34, c34, m34⟩, ⟨by simp only [List.length_drop, List.length_take]; omega, by rw [hcs]; exact (take_one ‹_›).symm, ho34⟩, by first | omega | (simp only [List.length_append, List.length_nil, List.length_cons, List.length_take, List.length_drop] at *; omega) | (have := wrong_len ‹¬ ¬ shipWrong d0 d1 = 0›; omega) | exact next_room ‹¬ ¬ shipWrong d0 d1 = 0› ‹_›, ⟨⟨rfl, rfl, rfl, rfl, rfl, rfl, rfl, rfl, rfl, rfl, rfl, rfl, rfl, trivial⟩, fun _ h => Inv.sub h [125, 110, 102, 0]⟩⟩
            · -- FFFFFF
              refine VC.exit ?_
              refine outE ?_
              refine outE ?_
              refine outBB ?_
              refine outN ?_
              refine VC.rs ?_
              refine VO.y rfl (.ldA 110 rfl tk72 rfl (cellsAt_one rfl rfl)) ?_
              refine VO.store (k := 8) (c' := [Value.int .i64 (2), Value.int .i64 (d0), Value.int .u8 (0), Value.int .i64 (0), Value.slice none (0) (0), Value.int .i64 (d2 + 1), Value.int .i64 (0), Value.slice cs_A (cs.length) (cs_c)]) 102 rfl rfl (.inl tk72) rfl rfl rfl rfl rfl ?_
              refine VO.y rfl (.as rfl) ?_
              refine VO.esub [(0, _), (1, _), (2, _), (6, _), (7, _), (8, _), (9, _), (16, _), (30, _), (37, _), (52, _), (53, _), (54, _), (55, _)] ⟨rfl, rfl, rfl, rfl, rfl, rfl, rfl, rfl, rfl, rfl, rfl, rfl, rfl, rfl, trivial⟩ (VO.nil ?_)
              refine VC.ret ?_
              refine ⟨_, _, res_run (rs := [.cell 6 72, .tmp 7]) rfl (.agg 102 rfl tk72 rfl ⟨_, _, _, mone_self _ _, Nat.le_of_ble_eq_true rfl, rfl⟩ (.tmp rfl .nil)), fun W_ hI => out_of (l := [cs_m]) hI [125] rfl rfl (mle_refl _) (fun hS_ => ?_)⟩
              dsimp only [packV]
              have he0 : ((shipNext d0 d1 d2).1 : Ty.Den TMessage) = (2, d0, 0, 0, [], d2 + 1, 0, cs) := by first | rfl | (first | (rw [next_wrong ‹_›]; rfl) | (rw [next_arg ‹¬ ¬ _› (by omega)]; rfl) | (have hcs2 := hcs.trans ((List.take_of_length_le (by omega)).trans (next_list _ _ ‹_› ‹_›)); rw [next_good ‹¬ ¬ _› ‹_› ‹_› ‹_›, ← hcs2]; first | rw [prevOf_pos ‹0 < d2› ‹_›] | rw [prevOf_zero ‹_›]))
              refine ⟨[Value.int .i64 (2), Value.int .i64 (d0), Value.int .u8 (0), Value.int .i64 (0), Value.slice none (0) (0), Value.int .i64 (d2 + 1), Value.int .i64 (0), Value.slice cs_A (cs.length) (cs_c)], ?_, ?_⟩
              rotate_left
              · rw [he0]; exact (mkO_Message 2 d0 0 0 ([]) (d2 + 1) 0 cs (Seps.nilAt 0 hS_) (by simp only [inK]; (first | omega | (simp only [List.length_append, List.length_nil, List.length_cons, List.length_take, List.length_drop] at *; omega) | (have := wrong_len ‹¬ ¬ shipWrong d0 d1 = 0›; omega) | exact next_room ‹¬ ¬ shipWrong d0 d1 = 0› ‹_›)) (by simp only [inK]; (first | omega | (simp only [List.length_append, List.length_nil, List.length_cons, List.length_take, List.length_drop] at *; omega) | (have := wrong_len ‹¬ ¬ shipWrong d0 d1 = 0›; omega) | exact next_room ‹¬ ¬ shipWrong d0 d1 = 0› ‹_›)) (by simp only [inK]; (first | omega | (simp only [List.length_append, List.length_nil, List.length_cons, List.length_take, List.length_drop] at *; omega) | (have := wrong_len ‹¬ ¬ shipWrong d0 d1 = 0›; omega) | exact next_room ‹¬ ¬ shipWrong d0 d1 = 0› ‹_›)) (by simp only [inK]; (first | omega | (simp only [List.length_append, List.length_nil, List.length_cons, List.length_take, List.length_drop] at *; omega) | (have := wrong_len ‹¬ ¬ shipWrong d0 d1 = 0›; omega) | exact next_room ‹¬ ¬ shipWrong d0 d1 = 0› ‹_›)) (Ow.nil _ _) (by simp only [inK]; (first | omega | (simp only [List.length_append, List.length_nil, List.length_cons, List.length_take, List.length_drop] at *; omega) | (have := wrong_len ‹¬ ¬ shipWrong d0 d1 = 0›; omega) | exact next_room ‹¬ ¬ shipWrong d0 d1 = 0› ‹_›)) (by simp only [inK]; (first | omega | (simp only [List.length_append, List.length_nil, List.length_cons, List.length_take, List.length_drop] at *; omega) | (have := wrong_len ‹¬ ¬ shipWrong d0 d1 = 0›; omega) | exact next_room ‹¬ ¬ shipWrong d0 d1 = 0› ‹_›)) h_cs)
              all_goals (first | rfl | (first | (rw [next_wrong ‹_›]; rfl) | (rw [next_arg ‹¬ ¬ _› (by omega)]; rfl) | (rw [next_good ‹¬ ¬ _› ‹_› ‹_› ‹_›]; rfl)))
end Go.Proofs.Ytfaknkkaegjdaaa
