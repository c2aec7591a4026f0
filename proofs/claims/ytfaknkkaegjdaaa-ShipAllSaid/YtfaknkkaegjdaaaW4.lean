/- Walks, printed by program: what ship Next compute. Conditions: those named in each theorem. -/
import Derived.Test.YtfaknkkaegjdaaaW3
set_option linter.unusedVariables false
set_option linter.unusedSimpArgs false
set_option maxRecDepth 4000
namespace Go.Proofs.Ytfaknkkaegjdaaa
theorem fnOk60 : fnOk Try.prog 60 = true := by kernel_rfl
theorem next_ok (W : World) (d0 : Int) (h0 : inK .i64 d0) {v1 : Value} {d1 : List DCommit} (h1 : Rd (.sl TCommit) (wm W) [v1] d1) (d2 : Int) (h2 : inK .i64 d2) : CallR Try.prog 65 [.int .i64 d0, v1, .int .i64 d2] W mnil (fun v m' => ∃ (s0 : List Value), v = .tuple #[.agg s0.toArray, .int .i64 ((shipNext d0 d1 d2).2)] ∧ Rd TMessage m' s0 ((shipNext d0 d1 d2).1)) := by
  have h0' := h0; simp only [inK] at h0'
  have h2' := h2; simp only [inK] at h2'
  obtain ⟨A1, c1, rfl, l1, k1⟩ := h1.slice
  simp only [maxLen] at k1
  refine CallR.ofA (n := 67) Try.func65 rfl rfl rfl ?_
  refine VC.rs ?_
  refine VO.alloc 102 rfl tz72 (fun g1 => ?_)
  refine VO.y rfl (.as rfl) ?_
  refine VO.esub [(0, _), (1, _), (2, _), (6, _), (7, _)] ⟨rfl, rfl, rfl, rfl, rfl, trivial⟩ (VO.nil ?_)
  refine VC.seq ?_
  refine VC.rs ?_
  refine VO.y rfl (.mv rfl) ?_
  refine VO.y rfl (.mv rfl) ?_
  refine VO.callN 103 rfl fnOk112 rfl (fun W hW => wrong_ok W d0 (by simp only [inK]; (first | omega | (simp only [List.length_append, List.length_nil, List.length_cons, List.length_take, List.length_drop] at *; omega) | (have := wrong_len ‹¬ ¬ shipWrong d0 d1 = 0›; omega) | exact next_room ‹¬ ¬ shipWrong d0 d1 = 0› ‹_›)) (Rd.mono h1 (hW.at (i := 0) rfl))) (fun v3 m3 hv3 => ?_)
  subst hv3
  have hfa4 := shipWrong_range d0 d1
  refine VO.y rfl (.as rfl) ?_
  refine VO.esub [(0, _), (1, _), (2, _), (6, _), (7, _), (8, _)] ⟨rfl, rfl, rfl, rfl, rfl, rfl, trivial⟩ (VO.nil ?_)
  refine VC.rs ?_
  refine VO.y rfl (.mv rfl) ?_
  refine VO.y rfl (.neq rfl rfl) ?_
  refine VO.esub [(0, _), (1, _), (2, _), (6, _), (7, _), (8, _), (16, _)] ⟨rfl, rfl, rfl, rfl, rfl, rfl, rfl, trivial⟩ (VO.nil ?_)
  refine VC.cond rfl (fun hc5 => ?_) (fun hc5 => ?_)
  · -- T
    refine VC.rs ?_
    refine VO.y rfl (.bst (cs := [Value.int .i64 (0), Value.int .i64 (0), Value.int .u8 (0), Value.int .i64 (0), Value.slice none (0) (0), Value.int .i64 (0), Value.int .i64 (0), Value.slice none (0) (0)]) rfl tst72 tz72 rfl) ?_
    refine VO.y rfl (.mv rfl) ?_
    refine VO.store (k := 8) (c' := [Value.int .i64 (0), Value.int .i64 (0), Value.int .u8 (0), Value.int .i64 (0), Value.slice none (0) (0), Value.int .i64 (0), Value.int .i64 (0), Value.slice none (0) (0)]) 102 rfl rfl (.inl tk72) rfl rfl rfl rfl rfl ?_
    refine VO.y rfl (.as rfl) ?_
    refine VO.esub [(0, _), (1, _), (2, _), (6, _), (7, _), (8, _), (16, _)] ⟨rfl, rfl, rfl, rfl, rfl, rfl, rfl, trivial⟩ (VO.nil ?_)
    refine VC.ret ?_
    refine outR ?_
    refine ⟨_, mnil, res_run (rs := [.cell 6 72, .tmp 7]) rfl (.agg 102 rfl tk72 rfl ⟨_, _, _, mone_self _ _, Nat.le_of_ble_eq_true rfl, rfl⟩ (.tmp rfl .nil)), fun W_ hI => ⟨?_, own_nil rfl _ hI⟩⟩
    dsimp only [packV]
    have he0 : ((shipNext d0 d1 d2).1 : Ty.Den TMessage) = (0, 0, 0, 0, [], 0, 0, []) := by first | rfl | (first | (rw [next_wrong ‹_›]; rfl) | (rw [next_arg ‹¬ ¬ _› (by omega)]; rfl) | (have hcs2 := hcs.trans ((List.take_of_length_le (by omega)).trans (next_list _ _ ‹_› ‹_›)); rw [next_good ‹¬ ¬ _› ‹_› ‹_› ‹_›, ← hcs2]; first | rw [prevOf_pos ‹0 < d2› ‹_›] | rw [prevOf_zero ‹_›]))
    refine ⟨[Value.int .i64 (0), Value.int .i64 (0), Value.int .u8 (0), Value.int .i64 (0), Value.slice none (0) (0), Value.int .i64 (0), Value.int .i64 (0), Value.slice none (0) (0)], ?_, ?_⟩
    rotate_left
    · rw [he0]; exact (mk_Message (m := _) (0, 0, 0, 0, [], 0, 0, []) (by simp only [inK]; (first | omega | (simp only [List.length_append, List.length_nil, List.length_cons, List.length_take, List.length_drop] at *; omega) | (have := wrong_len ‹¬ ¬ shipWrong d0 d1 = 0›; omega) | exact next_room ‹¬ ¬ shipWrong d0 d1 = 0› ‹_›)) (by simp only [inK]; (first | omega | (simp only [List.length_append, List.length_nil, List.length_cons, List.length_take, List.length_drop] at *; omega) | (have := wrong_len ‹¬ ¬ shipWrong d0 d1 = 0›; omega) | exact next_room ‹¬ ¬ shipWrong d0 d1 = 0› ‹_›)) (by simp only [inK]; (first | omega | (simp only [List.length_append, List.length_nil, List.length_cons, List.length_take, List.length_drop] at *; omega) | (have := wrong_len ‹¬ ¬ shipWrong d0 d1 = 0›; omega) | exact next_room ‹¬ ¬ shipWrong d0 d1 = 0› ‹_›)) (by simp only [inK]; (first | omega | (simp only [List.length_append, List.length_nil, List.length_cons, List.length_take, List.length_drop] at *; omega) | (have := wrong_len ‹¬ ¬ shipWrong d0 d1 = 0›; omega) | exact next_room ‹¬ ¬ shipWrong d0 d1 = 0› ‹_›)) (Rd.nil _ _ none 0 (Nat.zero_le _)) (by simp only [inK]; (first | omega | (simp only [List.length_append, List.length_nil, List.length_cons, List.length_take, List.length_drop] at *; omega) | (have := wrong_len ‹¬ ¬ shipWrong d0 d1 = 0›; omega) | exact next_room ‹¬ ¬ shipWrong d0 d1 = 0› ‹_›)) (by simp only [inK]; (first | omega | (simp only [List.length_append, List.length_nil, List.length_cons, List.length_take, List.length_drop] at *; omega) | (have := wrong_len ‹¬ ¬ shipWrong d0 d1 = 0›; omega) | exact next_room ‹¬ ¬ shipWrong d0 d1 = 0› ‹_›)) (Rd.nil _ _ none 0 (Nat.zero_le _)))
    all_goals (first | rfl | (first | (rw [next_wrong ‹_›]; rfl) | (rw [next_arg ‹¬ ¬ _› (by omega)]; rfl) | (rw [next_good ‹¬ ¬ _› ‹_› ‹_› ‹_›]; rfl)))
  · -- F
    refine VC.skip ?_
    refine outN ?_
    refine VC.seq ?_
    refine VC.rs ?_
    refine VO.y rfl (.mv rfl) ?_
    refine VO.y rfl (.lss rfl rfl) ?_
    refine VO.y rfl (.mv rfl) ?_
    refine VO.dec (t := 21) rfl (fun hc6 => ?_) (fun hc6 => ?_)
    · -- FT
      refine VO.gn rfl (.inl ⟨_, rfl, rfl⟩) ?_
      refine VO.gn rfl (.inl ⟨_, rfl, rfl⟩) ?_
      refine VO.gn rfl (.inl ⟨_, rfl, rfl⟩) ?_
      refine VO.gn rfl (.inl ⟨_, rfl, rfl⟩) ?_
      refine VO.y rfl (.pT rfl rfl) ?_
      refine VO.y rfl (.mv rfl) ?_
      refine VO.gn rfl (.inl ⟨_, rfl, rfl⟩) ?_
      refine VO.gn rfl (.inl ⟨_, rfl, rfl⟩) ?_
      refine VO.y rfl (.pT rfl rfl) ?_
      refine VO.esub [(0, _), (1, _), (2, _), (6, _), (7, _), (8, _), (16, _), (30, _)] ⟨rfl, rfl, rfl, rfl, rfl, rfl, rfl, rfl, trivial⟩ (VO.nil ?_)
      refine VC.condT rfl ?_
      refine VC.rs ?_
      refine VO.y rfl (.bst (cs := [Value.int .i64 (0), Value.int .i64 (0), Value.int .u8 (0), Value.int .i64 (0), Value.slice none (0) (0), Value.int .i64 (0), Value.int .i64 (0), Value.slice none (0) (0)]) rfl tst72 tz72 rfl) ?_
      refine VO.store (k := 8) (c' := [Value.int .i64 (0), Value.int .i64 (0), Value.int .u8 (0), Value.int .i64 (0), Value.slice none (0) (0), Value.int .i64 (0), Value.int .i64 (0), Value.slice none (0) (0)]) 102 rfl rfl (.inl tk72) rfl rfl rfl rfl rfl ?_
      refine VO.y rfl (.as rfl) ?_
      refine VO.esub [(0, _), (1, _), (2, _), (6, _), (7, _), (8, _), (16, _), (30, _)] ⟨rfl, rfl, rfl, rfl, rfl, rfl, rfl, rfl, trivial⟩ (VO.nil ?_)
      refine VC.ret ?_
      refine outR ?_
      refine ⟨_, mnil, res_run (rs := [.cell 6 72, .tmp 7]) rfl (.agg 102 rfl tk72 rfl ⟨_, _, _, mone_self _ _, Nat.le_of_ble_eq_true rfl, rfl⟩ (.tmp rfl .nil)), fun W_ hI => ⟨?_, own_nil rfl _ hI⟩⟩
      dsimp only [packV]
      have he0 : ((shipNext d0 d1 d2).1 : Ty.Den TMessage) = (0, 0, 0, 0, [], 0, 0, []) := by first | rfl | (first | (rw [next_wrong ‹_›]; rfl) | (rw [next_arg ‹¬ ¬ _› (by omega)]; rfl) | (have hcs2 := hcs.trans ((List.take_of_length_le (by omega)).trans (next_list _ _ ‹_› ‹_›)); rw [next_good ‹¬ ¬ _› ‹_› ‹_› ‹_›, ← hcs2]; first | rw [prevOf_pos ‹0 < d2› ‹_›] | rw [prevOf_zero ‹_›]))
      refine ⟨[Value.int .i64 (0), Value.int .i64 (0), Value.int .u8 (0), Value.int .i64 (0), Value.slice none (0) (0), Value.int .i64 (0), Value.int .i64 (0), Value.slice none (0) (0)], ?_, ?_⟩
      rotate_left
      · rw [he0]; exact (mk_Message (m := _) (0, 0, 0, 0, [], 0, 0, []) (by simp only [inK]; (first | omega | (simp only [List.length_append, List.length_nil, List.length_cons, List.length_take, List.length_drop] at *; omega) | (have := wrong_len ‹¬ ¬ shipWrong d0 d1 = 0›; omega) | exact next_room ‹¬ ¬ shipWrong d0 d1 = 0› ‹_›)) (by simp only [inK]; (first | omega | (simp only [List.length_append, List.length_nil, List.length_cons, List.length_take, List.length_drop] at *; omega) | (have := wrong_len ‹¬ ¬ shipWrong d0 d1 = 0›; omega) | exact next_room ‹¬ ¬ shipWrong d0 d1 = 0› ‹_›)) (by simp only [inK]; (first | omega | (simp only [List.length_append, List.length_nil, List.length_cons, List.length_take, List.length_drop] at *; omega) | (have := wrong_len ‹¬ ¬ shipWrong d0 d1 = 0›; omega) | exact next_room ‹¬ ¬ shipWrong d0 d1 = 0› ‹_›)) (by simp only [inK]; (first | omega | (simp only [List.length_append, List.length_nil, List.length_cons, List.length_take, List.length_drop] at *; omega) | (have := wrong_len ‹¬ ¬ shipWrong d0 d1 = 0›; omega) | exact next_room ‹¬ ¬ shipWrong d0 d1 = 0› ‹_›)) (Rd.nil _ _ none 0 (Nat.zero_le _)) (by simp only [inK]; (first | omega | (simp only [List.length_append, List.length_nil, List.length_cons, List.length_take, List.length_drop] at *; omega) | (have := wrong_len ‹¬ ¬ shipWrong d0 d1 = 0›; omega) | exact next_room ‹¬ ¬ shipWrong d0 d1 = 0› ‹_›)) (by simp only [inK]; (first | omega | (simp only [List.length_append, List.length_nil, List.length_cons, List.length_take, List.length_drop] at *; omega) | (have := wrong_len ‹¬ ¬ shipWrong d0 d1 = 0›; omega) | exact next_room ‹¬ ¬ shipWrong d0 d1 = 0› ‹_›)) (Rd.nil _ _ none 0 (Nat.zero_le _)))
      all_goals (first | rfl | (first | (rw [next_wrong ‹_›]; rfl) | (rw [next_arg ‹¬ ¬ _› (by omega)]; rfl) | (rw [next_good ‹¬ ¬ _› ‹_› ‹_› ‹_›]; rfl)))
    · -- FF
      refine VO.gy rfl ⟨_, rfl, rfl⟩ (.mv rfl) ?_
      refine VO.gy rfl ⟨_, rfl, rfl⟩ (.mv rfl) ?_
      refine VO.gy rfl ⟨_, rfl, rfl⟩ (.lenS rfl tsl61) ?_
      refine VO.gy rfl ⟨_, rfl, rfl⟩ (.gtr rfl rfl) ?_
      refine VO.y rfl (.pF rfl rfl) ?_
      refine VO.y rfl (.mv rfl) ?_
      refine VO.dec (t := 27) rfl (fun hc7 => ?_) (fun hc7 => ?_)
      · -- FFT
        refine VO.gn rfl (.inl ⟨_, rfl, rfl⟩) ?_
        refine VO.gn rfl (.inl ⟨_, rfl, rfl⟩) ?_
        refine VO.y rfl (.pT rfl rfl) ?_
        refine VO.esub [(0, _), (1, _), (2, _), (6, _), (7, _), (8, _), (16, _), (30, _)] ⟨rfl, rfl, rfl, rfl, rfl, rfl, rfl, rfl, trivial⟩ (VO.nil ?_)
        refine VC.condT rfl ?_
        refine VC.rs ?_
        refine VO.y rfl (.bst (cs := [Value.int .i64 (0), Value.int .i64 (0), Value.int .u8 (0), Value.int .i64 (0), Value.slice none (0) (0), Value.int .i64 (0), Value.int .i64 (0), Value.slice none (0) (0)]) rfl tst72 tz72 rfl) ?_
        refine VO.store (k := 8) (c' := [Value.int .i64 (0), Value.int .i64 (0), Value.int .u8 (0), Value.int .i64 (0), Value.slice none (0) (0), Value.int .i64 (0), Value.int .i64 (0), Value.slice none (0) (0)]) 102 rfl rfl (.inl tk72) rfl rfl rfl rfl rfl ?_
        refine VO.y rfl (.as rfl) ?_
        refine VO.esub [(0, _), (1, _), (2, _), (6, _), (7, _), (8, _), (16, _), (30, _)] ⟨rfl, rfl, rfl, rfl, rfl, rfl, rfl, rfl, trivial⟩ (VO.nil ?_)
        refine VC.ret ?_
        refine outR ?_
        refine ⟨_, mnil, res_run (rs := [.cell 6 72, .tmp 7]) rfl (.agg 102 rfl tk72 rfl ⟨_, _, _, mone_self _ _, Nat.le_of_ble_eq_true rfl, rfl⟩ (.tmp rfl .nil)), fun W_ hI => ⟨?_, own_nil rfl _ hI⟩⟩
        dsimp only [packV]
        have he0 : ((shipNext d0 d1 d2).1 : Ty.Den TMessage) = (0, 0, 0, 0, [], 0, 0, []) := by first | rfl | (first | (rw [next_wrong ‹_›]; rfl) | (rw [next_arg ‹¬ ¬ _› (by omega)]; rfl) | (have hcs2 := hcs.trans ((List.take_of_length_le (by omega)).trans (next_list _ _ ‹_› ‹_›)); rw [next_good ‹¬ ¬ _› ‹_› ‹_› ‹_›, ← hcs2]; first | rw [prevOf_pos ‹0 < d2› ‹_›] | rw [prevOf_zero ‹_›]))
        refine ⟨[Value.int .i64 (0), Value.int .i64 (0), Value.int .u8 (0), Value.int .i64 (0), Value.slice none (0) (0), Value.int .i64 (0), Value.int .i64 (0), Value.slice none (0) (0)], ?_, ?_⟩
        rotate_left
        · rw [he0]; exact (mk_Message (m := _) (0, 0, 0, 0, [], 0, 0, []) (by simp only [inK]; (first | omega | (simp only [List.length_append, List.length_nil, List.length_cons, List.length_take, List.length_drop] at *; omega) | (have := wrong_len ‹¬ ¬ shipWrong d0 d1 = 0›; omega) | exact next_room ‹¬ ¬ shipWrong d0 d1 = 0› ‹_›)) (by simp only [inK]; (first | omega | (simp only [List.length_append, List.length_nil, List.length_cons, List.length_take, List.length_drop] at *; omega) | (have := wrong_len ‹¬ ¬ shipWrong d0 d1 = 0›; omega) | exact next_room ‹¬ ¬ shipWrong d0 d1 = 0› ‹_›)) (by simp only [inK]; (first | omega | (simp only [List.length_append, List.length_nil, List.length_cons, List.length_take, List.length_drop] at *; omega) | (have := wrong_len ‹¬ ¬ shipWrong d0 d1 = 0›; omega) | exact next_room ‹¬ ¬ shipWrong d0 d1 = 0› ‹_›)) (by simp only [inK]; (first | omega | (simp only [List.length_append, List.length_nil, List.length_cons, List.length_take, List.length_drop] at *; omega) | (have := wrong_len ‹¬ ¬ shipWrong d0 d1 = 0›; omega) | exact next_room ‹¬ ¬ shipWrong d0 d1 = 0› ‹_›)) (Rd.nil _ _ none 0 (Nat.zero_le _)) (by simp only [inK]; (first | omega | (simp only [List.length_append, List.length_nil, List.length_cons, List.length_take, List.length_drop] at *; omega) | (have := wrong_len ‹¬ ¬ shipWrong d0 d1 = 0›; omega) | exact next_room ‹¬ ¬ shipWrong d0 d1 = 0› ‹_›)) (by simp only [inK]; (first | omega | (simp only [List.length_append, List.length_nil, List.length_cons, List.length_take, List.length_drop] at *; omega) | (have := wrong_len ‹¬ ¬ shipWrong d0 d1 = 0›; omega) | exact next_room ‹¬ ¬ shipWrong d0 d1 = 0› ‹_›)) (Rd.nil _ _ none 0 (Nat.zero_le _)))
        all_goals (first | rfl | (first | (rw [next_wrong ‹_›]; rfl) | (rw [next_arg ‹¬ ¬ _› (by omega)]; rfl) | (rw [next_good ‹¬ ¬ _› ‹_› ‹_› ‹_›]; rfl)))
      · -- FFF
        refine VO.gy rfl ⟨_, rfl, rfl⟩ (.mv rfl) ?_
        refine VO.gy rfl ⟨_, rfl, rfl⟩ (.eql rfl rfl) ?_
        refine VO.y rfl (.pF rfl rfl) ?_
        refine VO.esub [(0, _), (1, _), (2, _), (6, _), (7, _), (8, _), (16, _), (30, _)] ⟨rfl, rfl, rfl, rfl, rfl, rfl, rfl, rfl, trivial⟩ (VO.nil ?_)
        refine VC.cond rfl (fun hc8 => ?_) (fun hc8 => ?_)
        · -- FFFT
          refine VC.rs ?_
          refine VO.y rfl (.bst (cs := [Value.int .i64 (0), Value.int .i64 (0), Value.int .u8 (0), Value.int .i64 (0), Value.slice none (0) (0), Value.int .i64 (0), Value.int .i64 (0), Value.slice none (0) (0)]) rfl tst72 tz72 rfl) ?_
          refine VO.store (k := 8) (c' := [Value.int .i64 (0), Value.int .i64 (0), Value.int .u8 (0), Value.int .i64 (0), Value.slice none (0) (0), Value.int .i64 (0), Value.int .i64 (0), Value.slice none (0) (0)]) 102 rfl rfl (.inl tk72) rfl rfl rfl rfl rfl ?_
          refine VO.y rfl (.as rfl) ?_
          refine VO.esub [(0, _), (1, _), (2, _), (6, _), (7, _), (8, _), (16, _), (30, _)] ⟨rfl, rfl, rfl, rfl, rfl, rfl, rfl, rfl, trivial⟩ (VO.nil ?_)
          refine VC.ret ?_
          refine outR ?_
          refine ⟨_, mnil, res_run (rs := [.cell 6 72, .tmp 7]) rfl (.agg 102 rfl tk72 rfl ⟨_, _, _, mone_self _ _, Nat.le_of_ble_eq_true rfl, rfl⟩ (.tmp rfl .nil)), fun W_ hI => ⟨?_, own_nil rfl _ hI⟩⟩
          dsimp only [packV]
          have he0 : ((shipNext d0 d1 d2).1 : Ty.Den TMessage) = (0, 0, 0, 0, [], 0, 0, []) := by first | rfl | (first | (rw [next_wrong ‹_›]; rfl) | (rw [next_arg ‹¬ ¬ _› (by omega)]; rfl) | (have hcs2 := hcs.trans ((List.take_of_length_le (by omega)).trans (next_list _ _ ‹_› ‹_›)); rw [next_good ‹¬ ¬ _› ‹_› ‹_› ‹_›, ← hcs2]; first | rw [prevOf_pos ‹0 < d2› ‹_›] | rw [prevOf_zero ‹_›]))
          refine ⟨[Value.int .i64 (0), Value.int .i64 (0), Value.int .u8 (0), Value.int .i64 (0), Value.slice none (0) (0), Value.int .i64 (0), Value.int .i64 (0), Value.slice none (0) (0)], ?_, ?_⟩
          rotate_left
          · rw [he0]; exact (mk_Message (m := _) (0, 0, 0, 0, [], 0, 0, []) (by simp only [inK]; (first | omega | (simp only [List.length_append, List.length_nil, List.length_cons, List.length_take, List.length_drop] at *; omega) | (have := wrong_len ‹¬ ¬ shipWrong d0 d1 = 0›; omega) | exact next_room ‹¬ ¬ shipWrong d0 d1 = 0› ‹_›)) (by simp only [inK]; (first | omega | (simp only [List.length_append, List.length_nil, List.length_cons, List.length_take, List.length_drop] at *; omega) | (have := wrong_len ‹¬ ¬ shipWrong d0 d1 = 0›; omega) | exact next_room ‹¬ ¬ shipWrong d0 d1 = 0› ‹_›)) (by simp only [inK]; (first | omega | (simp only [List.length_append, List.length_nil, List.length_cons, List.length_take, List.length_drop] at *; omega) | (have := wrong_len ‹¬ ¬ shipWrong d0 d1 = 0›; omega) | exact next_room ‹¬ ¬ shipWrong d0 d1 = 0› ‹_›)) (by simp only [inK]; (first | omega | (simp only [List.length_append, List.length_nil, List.length_cons, List.length_take, List.length_drop] at *; omega) | (have := wrong_len ‹¬ ¬ shipWrong d0 d1 = 0›; omega) | exact next_room ‹¬ ¬ shipWrong d0 d1 = 0› ‹_›)) (Rd.nil _ _ none 0 (Nat.zero_le _)) (by simp only [inK]; (first | omega | (simp only [List.length_append, List.length_nil, List.length_cons, List.length_take, List.length_drop] at *; omega) | (have := wrong_len ‹¬ ¬ shipWrong d0 d1 = 0›; omega) | exact next_room ‹¬ ¬ shipWrong d0 d1 = 0› ‹_›)) (by simp only [inK]; (first | omega | (simp only [List.length_append, List.length_nil, List.length_cons, List.length_take, List.length_drop] at *; omega) | (have := wrong_len ‹¬ ¬ shipWrong d0 d1 = 0›; omega) | exact next_room ‹¬ ¬ shipWrong d0 d1 = 0› ‹_›)) (Rd.nil _ _ none 0 (Nat.zero_le _)))
          all_goals (first | rfl | (first | (rw [next_wrong ‹_›]; rfl) | (rw [next_arg ‹¬ ¬ _› (by omega)]; rfl) | (rw [next_good ‹¬ ¬ _› ‹_› ‹_› ‹_›]; rfl)))
        · -- FFFF
          refine VC.skip ?_
          refine outN ?_
          refine VC.rs ?_
          refine VO.y rfl (.mv rfl) ?_
          refine VO.y rfl (.mv rfl) ?_
          refine VO.y rfl (.add rfl rfl rfl ⟨by first | omega | (simp only [List.length_append, List.length_nil, List.length_cons, List.length_take, List.length_drop] at *; omega) | (have := wrong_len ‹¬ ¬ shipWrong d0 d1 = 0›; omega) | exact next_room ‹¬ ¬ shipWrong d0 d1 = 0› ‹_›, by first | omega | (simp only [List.length_append, List.length_nil, List.length_cons, List.length_take, List.length_drop] at *; omega) | (have := wrong_len ‹¬ ¬ shipWrong d0 d1 = 0›; omega) | exact next_room ‹¬ ¬ shipWrong d0 d1 = 0› ‹_›⟩) ?_
          refine VO.y rfl (.bst (cs := [Value.int .i64 (2), Value.int .i64 (d0), Value.int .u8 (0), Value.int .i64 (0), Value.slice none (0) (0), Value.int .i64 (d2 + 1), Value.int .i64 (0), Value.slice none (0) (0)]) rfl tst72 tz72 rfl) ?_
          refine VO.alloc 110 rfl tz72 (fun g9 => ?_)
          refine VO.store (k := 8) (c' := [Value.int .i64 (2), Value.int .i64 (d0), Value.int .u8 (0), Value.int .i64 (0), Value.slice none (0) (0), Value.int .i64 (d2 + 1), Value.int .i64 (0), Value.slice none (0) (0)]) 110 rfl rfl (.inl tk72) rfl rfl rfl rfl rfl ?_
          refine VO.esub [(0, _), (1, _), (2, _), (6, _), (7, _), (8, _), (9, _), (16, _), (30, _)] ⟨rfl, rfl, rfl, rfl, rfl, rfl, rfl, rfl, rfl, trivial⟩ (VO.nil ?_)
          refine VC.seq ?_
          refine VC.rs ?_
          refine VO.y rfl (.mv rfl) ?_
          refine VO.y rfl (.gtr rfl rfl) ?_
          refine VO.esub [(0, _), (1, _), (2, _), (6, _), (7, _), (8, _), (9, _), (16, _), (30, _), (37, _)] ⟨rfl, rfl, rfl, rfl, rfl, rfl, rfl, rfl, rfl, rfl, trivial⟩ (VO.nil ?_)
          refine VC.cond rfl (fun hc11 => ?_) (fun hc11 => ?_)
          · -- FFFFT
            refine VC.reg ?_
            refine VO.y rfl (.mv rfl) ?_
            refine VO.y rfl (.mv rfl) ?_
            refine VO.y rfl (.sub rfl rfl rfl ⟨by first | omega | (simp only [List.length_append, List.length_nil, List.length_cons, List.length_take, List.length_drop] at *; omega) | (have := wrong_len ‹¬ ¬ shipWrong d0 d1 = 0›; omega) | exact next_room ‹¬ ¬ shipWrong d0 d1 = 0› ‹_›, by first | omega | (simp only [List.length_append, List.length_nil, List.length_cons, List.length_take, List.length_drop] at *; omega) | (have := wrong_len ‹¬ ¬ shipWrong d0 d1 = 0›; omega) | exact next_room ‹¬ ¬ shipWrong d0 d1 = 0› ‹_›⟩) ?_
            obtain ⟨x12, hx12⟩ : ∃ x, (d1)[(d2 - 1).toNat]? = some x := ⟨_, List.getElem?_eq_getElem (by first | omega | (simp only [List.length_append, List.length_nil, List.length_cons, List.length_take, List.length_drop] at *; omega) | (have := wrong_len ‹¬ ¬ shipWrong d0 d1 = 0›; omega) | exact next_room ‹¬ ¬ shipWrong d0 d1 = 0› ‹_›)⟩
            obtain ⟨gg12, oo12, ec12, ea12, hce12, hre12⟩ := h1.elem hx12
            cases ea12
            obtain ⟨q12_A2, q12_c2, rfl, q12_0, q12_1, q12_2⟩ := open_Commit hre12
            simp only [inK] at q12_0
            simp only [inK] at q12_1
            have q12_r2 := Rd.room q12_2
            refine VO.y rfl (.ixI ((d2 - 1).toNat) rfl rfl tsl61 (by first | omega | (simp only [List.length_append, List.length_nil, List.length_cons, List.length_take, List.length_drop] at *; omega) | (have := wrong_len ‹¬ ¬ shipWrong d0 d1 = 0›; omega) | exact next_room ‹¬ ¬ shipWrong d0 d1 = 0› ‹_›) (by first | omega | (simp only [List.length_append, List.length_nil, List.length_cons, List.length_take, List.length_drop] at *; omega) | (have := wrong_len ‹¬ ¬ shipWrong d0 d1 = 0›; omega) | exact next_room ‹¬ ¬ shipWrong d0 d1 = 0› ‹_›)) ?_
            refine VO.y rfl (.fa rfl tst52 rfl) ?_
            refine VO.y rfl (.ld1 0 rfl tk3 rfl (hce12.at1 (j := 0) rfl)) ?_
            refine VO.y rfl (.fa rfl tst72 rfl) ?_
            refine VO.store (k := 1) (c' := [Value.int .i64 (2), Value.int .i64 (d0), Value.int .u8 (0), Value.int .i64 (0), Value.slice none (0) (0), Value.int .i64 (d2 + 1), Value.int .i64 (x12.1), Value.slice none (0) (0)]) 110 rfl rfl (.inr ⟨tk3, rfl⟩) rfl rfl rfl rfl rfl ?_
            refine VO.esub [(0, _), (1, _), (2, _), (6, _), (7, _), (8, _), (9, _), (16, _), (30, _), (37, _)] ⟨rfl, rfl, rfl, rfl, rfl, rfl, rfl, rfl, rfl, rfl, trivial⟩ (VO.nil ?_)
            refine outN ?_
            refine VC.seq ?_
            refine VC.rs ?_
            refine VO.y rfl (.mv rfl) ?_
            refine VO.y rfl (.mv rfl) ?_
            refine VO.y rfl (.mv rfl) ?_
            refine VO.y rfl (.add rfl rfl rfl ⟨by first | omega | (simp only [List.length_append, List.length_nil, List.length_cons, List.length_take, List.length_drop] at *; omega) | (have := wrong_len ‹¬ ¬ shipWrong d0 d1 = 0›; omega) | exact next_room ‹¬ ¬ shipWrong d0 d1 = 0› ‹_›, by first | omega | (simp only [List.length_append, List.length_nil, List.length_cons, List.length_take, List.length_drop] at *; omega) | (have := wrong_len ‹¬ ¬ shipWrong d0 d1 = 0›; omega) | exact next_room ‹¬ ¬ shipWrong d0 d1 = 0› ‹_›⟩) ?_
            refine VO.y rfl (.mv rfl) ?_
            refine VO.y rfl (.lenS rfl tsl61) ?_
            refine VO.y rfl (.minM rfl rfl) ?_
            obtain ⟨A13, hA13, hs13⟩ := h1.sub' 3 ((d2).toNat) ((min (d2 + 4) ((d1.length : Nat) : Int)).toNat) rfl (by first | omega | (simp only [List.length_append, List.length_nil, List.length_cons, List.length_take, List.length_drop] at *; omega) | (have := wrong_len ‹¬ ¬ shipWrong d0 d1 = 0›; omega) | exact next_room ‹¬ ¬ shipWrong d0 d1 = 0› ‹_›) (by first | omega | (simp only [List.length_append, List.length_nil, List.length_cons, List.length_take, List.length_drop] at *; omega) | (have := wrong_len ‹¬ ¬ shipWrong d0 d1 = 0›; omega) | exact next_room ‹¬ ¬ shipWrong d0 d1 = 0› ‹_›)
            refine VO.y rfl (.slI ((d2).toNat) ((min (d2 + 4) ((d1.length : Nat) : Int)).toNat) A13 rfl rfl rfl tsl61 (by first | omega | (simp only [List.length_append, List.length_nil, List.length_cons, List.length_take, List.length_drop] at *; omega) | (have := wrong_len ‹¬ ¬ shipWrong d0 d1 = 0›; omega) | exact next_room ‹¬ ¬ shipWrong d0 d1 = 0› ‹_›) (by first | omega | (simp only [List.length_append, List.length_nil, List.length_cons, List.length_take, List.length_drop] at *; omega) | (have := wrong_len ‹¬ ¬ shipWrong d0 d1 = 0›; omega) | exact next_room ‹¬ ¬ shipWrong d0 d1 = 0› ‹_›) hA13 (by first | omega | (simp only [List.length_append, List.length_nil, List.length_cons, List.length_take, List.length_drop] at *; omega) | (have := wrong_len ‹¬ ¬ shipWrong d0 d1 = 0›; omega) | exact next_room ‹¬ ¬ shipWrong d0 d1 = 0› ‹_›) (by first | omega | (simp only [List.length_append, List.length_nil, List.length_cons, List.length_take, List.length_drop] at *; omega) | (have := wrong_len ‹¬ ¬ shipWrong d0 d1 = 0›; omega) | exact next_room ‹¬ ¬ shipWrong d0 d1 = 0› ‹_›)) ?_
            refine VO.y rfl (.lenS rfl tsl61) ?_
            refine VO.y rfl (.mv rfl) ?_
            refine VO.esub [(0, _), (1, _), (2, _), (6, _), (7, _), (8, _), (9, _), (16, _), (30, _), (37, _), (52, _), (53, _), (54, _)] ⟨rfl, rfl, rfl, rfl, rfl, rfl, rfl, rfl, rfl, rfl, rfl, rfl, rfl, trivial⟩ (VO.nil ?_)
            refine VC.block ?_
            refine VC.inv ((114, mnil) :: _) (fun _ h => h.nilc 114) ?_
            have ho114 : OwnL TCommit 52 mnil mnil (.slice none 0 0) [] := .nil _ _ _
            refine VC.inv ((115, mnil) :: _) (fun _ h => h.nilc 115) ?_
            refine VC.loop (G := Nat × (List DCommit) × (Option Addr) × Nat × Mem × Mem) (fun g => [(54, Value.int .i64 ((((g.1) : Nat) : Int))), (0, Value.int .i64 (d0)), (1, Value.slice (some ⟨gg12, oo12, none⟩) (d1.length) (c1)), (2, Value.int .i64 (d2)), (6, Value.pointer (some ⟨g1, 0, none⟩)), (7, Value.int .i64 (0)), (8, Value.int .i64 (shipWrong d0 d1)), (9, Value.pointer (some ⟨g9, 0, none⟩)), (16, Value.bool (decide (¬ (shipWrong d0 d1) = 0))), (30, Value.bool (decide (d2 = 1048576))), (37, Value.bool (decide (0 < d2))), (52, Value.slice A13 (((min (d2 + 4) ((d1.length : Nat) : Int)).toNat) - ((d2).toNat)) (c1 - ((d2).toNat))), (53, Value.int .i64 (((((min (d2 + 4) ((d1.length : Nat) : Int)).toNat) - ((d2).toNat) : Nat) : Int)))]) (fun g => [(115, (g.2.2.2.2.2)), (114, (g.2.2.2.2.1)), (110, mone g9 (.cells [Value.int .i64 (2), Value.int .i64 (d0), Value.int .u8 (0), Value.int .i64 (0), Value.slice none (0) (0), Value.int .i64 (d2 + 1), Value.int .i64 (x12.1), Value.slice (g.2.2.1) ((g.2.1).length) ((g.2.2.2.1))].toArray 72 (0, 0))), (102, mone g1 (.cells [Value.int .i64 (0), Value.int .i64 (0), Value.int .u8 (0), Value.int .i64 (0), Value.slice none (0) (0), Value.int .i64 (0), Value.int .i64 (0), Value.slice none (0) (0)].toArray 72 (0, 0))), (0, wm W)]) (fun g => ((g.1) ≤ ((d1.take (min (d2 + 4) (d1.length : Int)).toNat).drop d2.toNat).length) ∧ ((g.2.1) = ((d1.take (min (d2 + 4) (d1.length : Int)).toNat).drop d2.toNat).take (g.1)) ∧ (OwnL TCommit 52 (g.2.2.2.2.1) (g.2.2.2.2.2) (.slice (g.2.2.1) (g.2.1).length (g.2.2.2.1)) (g.2.1))) (fun g => ((d1.take (min (d2 + 4) (d1.length : Int)).toNat).drop d2.toNat).length - (g.1)) (0, [], none, 0, mnil, mnil) (⟨by simp, by rfl, ho114⟩) ⟨⟨rfl, rfl, rfl, rfl, rfl, rfl, rfl, rfl, rfl, rfl, rfl, rfl, rfl, trivial⟩, fun _ h => h.sub [115, 114, 110, 102, 0]⟩ ?_
            rintro ⟨k, cs, cs_A, cs_c, cs_m, cs_i⟩ ⟨hk, hcs, h_cs⟩
            replace hk : k ≤ ((d1.take (min (d2 + 4) (d1.length : Int)).toNat).drop d2.toNat).length := hk
            replace hcs : cs = ((d1.take (min (d2 + 4) (d1.length : Int)).toNat).drop d2.toNat).take k := hcs
            replace h_cs : OwnL TCommit 52 cs_m cs_i (.slice cs_A cs.length cs_c) cs := h_cs
            show VC _ _ _ _ _ [(54, Value.int .i64 (((k : Nat) : Int))), (0, Value.int .i64 (d0)), (1, Value.slice (some ⟨gg12, oo12, none⟩) (d1.length) (c1)), (2, Value.int .i64 (d2)), (6, Value.pointer (some ⟨g1, 0, none⟩)), (7, Value.int .i64 (0)), (8, Value.int .i64 (shipWrong d0 d1)), (9, Value.pointer (some ⟨g9, 0, none⟩)), (16, Value.bool (decide (¬ (shipWrong d0 d1) = 0))), (30, Value.bool (decide (d2 = 1048576))), (37, Value.bool (decide (0 < d2))), (52, Value.slice A13 (((min (d2 + 4) ((d1.length : Nat) : Int)).toNat) - ((d2).toNat)) (c1 - ((d2).toNat))), (53, Value.int .i64 (((((min (d2 + 4) ((d1.length : Nat) : Int)).toNat) - ((d2).toNat) : Nat) : Int)))] [(115, cs_i), (114, cs_m), (110, mone g9 (.cells [Value.int .i64 (2), Value.int .i64 (d0), Value.int .u8 (0), Value.int .i64 (0), Value.slice none (0) (0), Value.int .i64 (d2 + 1), Value.int .i64 (x12.1), Value.slice cs_A (cs.length) (cs_c)].toArray 72 (0, 0))), (102, mone g1 (.cells [Value.int .i64 (0), Value.int .i64 (0), Value.int .u8 (0), Value.int .i64 (0), Value.slice none (0) (0), Value.int .i64 (0), Value.int .i64 (0), Value.slice none (0) (0)].toArray 72 (0, 0))), (0, wm W)]
            have l_cs : cs.length ≤ cs_c := by obtain ⟨_, _, he, hl, _⟩ := h_cs.slice; simp only [Value.slice.injEq] at he; omega
            have k_cs : cs_c ≤ 9223372036854775807 := by obtain ⟨_, _, he, _, hl⟩ := h_cs.slice; simp only [Value.slice.injEq, maxLen] at he hl; omega
            have hl0 : ((d1.take (min (d2 + 4) (d1.length : Int)).toNat).drop d2.toNat).length = min (d2.toNat + 4) d1.length - d2.toNat := by simp only [List.length_drop, List.length_take]; omega
            have hlc : cs.length ≤ k := by rw [hcs]; simp; omega
            refine VC.rs ?_
            refine VO.y rfl (.lss rfl rfl) ?_
            refine VO.esub [(0, _), (1, _), (2, _), (6, _), (7, _), (8, _), (9, _), (16, _), (30, _), (37, _), (52, _), (53, _), (54, _), (55, _)] ⟨rfl, rfl, rfl, rfl, rfl, rfl, rfl, rfl, rfl, rfl, rfl, rfl, rfl, rfl, trivial⟩ (VO.nil ?_)
            refine VC.seq ?_
            refine VC.cond rfl (fun hc16 => ?_) (fun hc16 => ?_)
            · -- FFFFTT
              refine VC.skip ?_
              refine outN ?_
              refine VC.seq ?_
              refine VC.block ?_
              refine VC.rs ?_
              obtain ⟨x17, hx17⟩ : ∃ x, ((d1.take ((min (d2 + 4) ((d1.length : Nat) : Int)).toNat)).drop ((d2).toNat))[k]? = some x := ⟨_, List.getElem?_eq_getElem (by first | omega | (simp only [List.length_append, List.length_nil, List.length_cons, List.length_take, List.length_drop] at *; omega) | (have := wrong_len ‹¬ ¬ shipWrong d0 d1 = 0›; omega) | exact next_room ‹¬ ¬ shipWrong d0 d1 = 0› ‹_›)⟩
              obtain ⟨gg17, oo17, ec17, ea17, hce17, hre17⟩ := hs13.elem hx17
              cases ea17
              obtain ⟨q17_A2, q17_c2, rfl, q17_0, q17_1, q17_2⟩ := open_Commit hre17
              simp only [inK] at q17_0
              simp only [inK] at q17_1
              have q17_r2 := Rd.room q17_2
              refine VO.y rfl (.ixI k rfl rfl tsl61 rfl (by first | omega | (simp only [List.length_append, List.length_nil, List.length_cons, List.length_take, List.length_drop] at *; omega) | (have := wrong_len ‹¬ ¬ shipWrong d0 d1 = 0›; omega) | exact next_room ‹¬ ¬ shipWrong d0 d1 = 0› ‹_›)) ?_
              refine VO.y rfl (.ldA 0 rfl tk52 rfl hce17) ?_
              refine VO.alloc 119 rfl tz52 (fun g18 => ?_)
              refine VO.store (k := 3) (c' := [Value.int .i64 (x17.1), Value.int .i64 (x17.2.1), Value.slice q17_A2 (x17.2.2.length) (q17_c2)]) 119 rfl rfl (.inl tk52) rfl rfl rfl rfl rfl ?_
              refine VO.esub [(0, _), (1, _), (2, _), (6, _), (7, _), (8, _), (9, _), (11, _), (16, _), (30, _), (37, _), (52, _), (53, _), (54, _), (55, _)] ⟨rfl, rfl, rfl, rfl, rfl, rfl, rfl, rfl, rfl, rfl, rfl, rfl, rfl, rfl, rfl, trivial⟩ (VO.nil ?_)
              refine VC.regD _ 5 [(0, true), (1, true), (2, true), (3, false), (4, false)] follows (by kernel_rfl) (fun _ h => h) ?_
              refine VD.y rfl rfl (.inl rfl) (.fa rfl tst72 rfl) ?_
              refine VD.y rfl rfl (.inl rfl) (.ld1 110 rfl tk61 rfl (cellsAt_one rfl rfl)) ?_
              refine VD.y rfl rfl (.inl rfl) (.ldA 119 rfl tk52 rfl (cellsAt_one rfl rfl)) ?_
              refine VD.callN 120 rfl rfl (.inl rfl) fnOk60 rfl (fun _ h => h) (fun W hW => cCopy_ok W (Rd.mono hre17 (hW.at (i := 0) rfl)) (by first | omega | (simp only [List.length_append, List.length_nil, List.length_cons, List.length_take, List.length_drop] at *; omega) | (have := wrong_len ‹¬ ¬ shipWrong d0 d1 = 0›; omega) | exact next_room ‹¬ ¬ shipWrong d0 d1 = 0› ‹_›)) (fun v20 m20 hv20 => ?_)
              obtain ⟨s20_0, rfl, f20_0⟩ := hv20
              obtain ⟨q20_0_A2, q20_0_c2, rfl, q20_0_0, q20_0_1, q20_0_2⟩ := open_Commit f20_0
              simp only [inK] at q20_0_0
              simp only [inK] at q20_0_1
              have q20_0_r2 := Rd.room q20_0_2
              refine VD.bsl (cs := [Value.int .i64 (x17.1), Value.int .i64 (x17.2.1), Value.slice q20_0_A2 (x17.2.2.length) (q20_0_c2)]) 122 rfl rfl rfl tsl61 tz52 rfl rfl (fun _ h => h.tl) (fun g21 => ?_)
              refine VD.nil rfl ?_ rfl
              refine VO.join 115 120 115 rfl rfl (fun hj24 => ?_)
              have fj25 : OwnL TCommit _ (cs_m) (mun (cs_i) (m20)) (Value.slice cs_A (cs.length) (cs_c)) (cs) := OwnL.mono h_cs (mle_un_left _ _)
              have fj26 : Rd (.sl TOp) (mun (cs_i) (m20)) [Value.slice q20_0_A2 (x17.2.2.length) (q20_0_c2)] (x17.2.2) := Rd.mono q20_0_2 hj24
              have fj27 : Rd TCommit (mun (cs_i) (m20)) [Value.int .i64 (x17.1), Value.int .i64 (x17.2.1), Value.slice q20_0_A2 (x17.2.2.length) (q20_0_c2)] (x17) := Rd.mono f20_0 hj24
              obtain ⟨cs23, hA23, hC23⟩ := fj25
              refine VO.app 114 rfl rfl rfl tsl61 tz52 rfl rfl hA23 (.row 122 _ _ _ 1 1 _ _ Try.underlying61 rfl (cellsAt_one rfl rfl)) (by simp [Value.oneCell']) (by simp only [maxLen]; (first | omega | (simp only [List.length_append, List.length_nil, List.length_cons, List.length_take, List.length_drop] at *; omega) | (have := wrong_len ‹¬ ¬ shipWrong d0 d1 = 0›; omega) | exact next_room ‹¬ ¬ shipWrong d0 d1 = 0› ‹_›)) (by first | omega | (simp only [List.length_append, List.length_nil, List.length_cons, List.length_take, List.length_drop] at *; omega) | (have := wrong_len ‹¬ ¬ shipWrong d0 d1 = 0›; omega) | exact next_room ‹¬ ¬ shipWrong d0 d1 = 0› ‹_›) (by decide) (fun v23 m23 hN23 => ?_)
              have ho23 : OwnL TCommit 52 m23 (mun (cs_i) (m20)) v23 (cs ++ [x17]) := OwnL.one hC23 hN23 (Rd.mono fj27 (mle_refl _))
              obtain ⟨A23, c23, rfl, l23, k23⟩ := ho23.slice
              simp only [maxLen] at k23
              refine VO.y rfl (.fa rfl tst72 rfl) ?_
              refine VO.store (k := 1) (c' := [Value.int .i64 (2), Value.int .i64 (d0), Value.int .u8 (0), Value.int .i64 (0), Value.slice none (0) (0), Value.int .i64 (d2 + 1), Value.int .i64 (x12.1), Value.slice A23 ((cs ++ [x17]).length) (c23)]) 110 rfl rfl (.inr ⟨tk61, rfl⟩) rfl rfl rfl rfl rfl ?_
              refine VO.esub [(0, _), (1, _), (2, _), (6, _), (7, _), (8, _), (9, _), (11, _), (16, _), (30, _), (37, _), (52, _), (53, _), (54, _), (55, _)] ⟨rfl, rfl, rfl, rfl, rfl, rfl, rfl, rfl, rfl, rfl, rfl, rfl, rfl, rfl, rfl, trivial⟩ (VO.nil ?_)
              refine outBN ?_
              refine outN ?_
              refine VC.reg ?_
              refine VO.y rfl (.add (c := ((k + 1 : Nat) : Int)) rfl rfl (by omega) ⟨by first | omega | (simp only [List.length_append, List.length_nil, List.length_cons, List.length_take, List.length_drop] at *; omega) | (have := wrong_len ‹¬ ¬ shipWrong d0 d1 = 0›; omega) | exact next_room ‹¬ ¬ shipWrong d0 d1 = 0› ‹_›, by first | omega | (simp only [List.length_append, List.length_nil, List.length_cons, List.length_take, List.length_drop] at *; omega) | (have := wrong_len ‹¬ ¬ shipWrong d0 d1 = 0›; omega) | exact next_room ‹¬ ¬ shipWrong d0 d1 = 0› ‹_›⟩) ?_
              refine VO.y rfl (.mv rfl) ?_
              refine VO.esub [(0, _), (1, _), (2, _), (6, _), (7, _), (8, _), (9, _), (11, _), (16, _), (30, _), (37, _), (52, _), (53, _), (54, _), (55, _)] ⟨rfl, rfl, rfl, rfl, rfl, rfl, rfl, rfl, rfl, rfl, rfl, rfl, rfl, rfl, rfl, trivial⟩ (VO.nil ?_)
              exact outN ⟨⟨k + 1, cs ++ [x17], A23, c23, m23, mun (cs_i) (m20)⟩, ⟨by simp only [List.length_drop, List.length_take]; omega, by rw [hcs]; exact (take_one ‹_›).symm, ho23⟩, by first | omega | (simp only [List.length_append, List.length_nil, List.length_cons, List.length_take, List.length_drop] at *; omega) | (have := wrong_len ‹¬ ¬ shipWrong d0 d1 = 0›; omega) | exact next_room ‹¬ ¬ shipWrong d0 d1 = 0› ‹_›, ⟨⟨rfl, rfl, rfl, rfl, rfl, rfl, rfl, rfl, rfl, rfl, rfl, rfl, rfl, trivial⟩, fun _ h => h.sub [115, 114, 110, 102, 0]⟩⟩
            · -- FFFFTF
              refine VC.exit ?_
              refine outE ?_
              refine outE ?_
              refine outBB ?_
              refine outN ?_
              refine VC.rs ?_
              refine VO.y rfl (.ldA 110 rfl tk72 rfl (cellsAt_one rfl rfl)) ?_
              refine VO.store (k := 8) (c' := [Value.int .i64 (2), Value.int .i64 (d0), Value.int .u8 (0), Value.int .i64 (0), Value.slice none (0) (0), Value.int .i64 (d2 + 1), Value.int .i64 (x12.1), Value.slice cs_A (cs.length) (cs_c)]) 102 rfl rfl (.inl tk72) rfl rfl rfl rfl rfl ?_
              refine VO.y rfl (.as rfl) ?_
              refine VO.esub [(0, _), (1, _), (2, _), (6, _), (7, _), (8, _), (9, _), (16, _), (30, _), (37, _), (52, _), (53, _), (54, _), (55, _)] ⟨rfl, rfl, rfl, rfl, rfl, rfl, rfl, rfl, rfl, rfl, rfl, rfl, rfl, rfl, trivial⟩ (VO.nil ?_)
              refine VC.ret ?_
              refine ⟨_, (mun (cs_m) (cs_i)), res_run (rs := [.cell 6 72, .tmp 7]) rfl (.agg 102 rfl tk72 rfl ⟨_, _, _, mone_self _ _, Nat.le_of_ble_eq_true rfl, rfl⟩ (.tmp rfl .nil)), fun W_ hI => ⟨?_, own_un (own_of 114 rfl rfl _ hI) (own_of 115 rfl rfl _ hI)⟩⟩
              dsimp only [packV]
              have he0 : ((shipNext d0 d1 d2).1 : Ty.Den TMessage) = (2, d0, 0, 0, [], (d2 + 1), x12.1, cs) := by first | rfl | (first | (rw [next_wrong ‹_›]; rfl) | (rw [next_arg ‹¬ ¬ _› (by omega)]; rfl) | (have hcs2 := hcs.trans ((List.take_of_length_le (by omega)).trans (next_list _ _ ‹_› ‹_›)); rw [next_good ‹¬ ¬ _› ‹_› ‹_› ‹_›, ← hcs2]; first | rw [prevOf_pos ‹0 < d2› ‹_›] | rw [prevOf_zero ‹_›]))
              refine ⟨[Value.int .i64 (2), Value.int .i64 (d0), Value.int .u8 (0), Value.int .i64 (0), Value.slice none (0) (0), Value.int .i64 (d2 + 1), Value.int .i64 (x12.1), Value.slice cs_A (cs.length) (cs_c)], ?_, ?_⟩
              rotate_left
              · rw [he0]; exact (mk_Message (m := _) (2, d0, 0, 0, [], (d2 + 1), x12.1, cs) (by simp only [inK]; (first | omega | (simp only [List.length_append, List.length_nil, List.length_cons, List.length_take, List.length_drop] at *; omega) | (have := wrong_len ‹¬ ¬ shipWrong d0 d1 = 0›; omega) | exact next_room ‹¬ ¬ shipWrong d0 d1 = 0› ‹_›)) (by simp only [inK]; (first | omega | (simp only [List.length_append, List.length_nil, List.length_cons, List.length_take, List.length_drop] at *; omega) | (have := wrong_len ‹¬ ¬ shipWrong d0 d1 = 0›; omega) | exact next_room ‹¬ ¬ shipWrong d0 d1 = 0› ‹_›)) (by simp only [inK]; (first | omega | (simp only [List.length_append, List.length_nil, List.length_cons, List.length_take, List.length_drop] at *; omega) | (have := wrong_len ‹¬ ¬ shipWrong d0 d1 = 0›; omega) | exact next_room ‹¬ ¬ shipWrong d0 d1 = 0› ‹_›)) (by simp only [inK]; (first | omega | (simp only [List.length_append, List.length_nil, List.length_cons, List.length_take, List.length_drop] at *; omega) | (have := wrong_len ‹¬ ¬ shipWrong d0 d1 = 0›; omega) | exact next_room ‹¬ ¬ shipWrong d0 d1 = 0› ‹_›)) (Rd.nil _ _ none 0 (Nat.zero_le _)) (by simp only [inK]; (first | omega | (simp only [List.length_append, List.length_nil, List.length_cons, List.length_take, List.length_drop] at *; omega) | (have := wrong_len ‹¬ ¬ shipWrong d0 d1 = 0›; omega) | exact next_room ‹¬ ¬ shipWrong d0 d1 = 0› ‹_›)) (by simp only [inK]; (first | omega | (simp only [List.length_append, List.length_nil, List.length_cons, List.length_take, List.length_drop] at *; omega) | (have := wrong_len ‹¬ ¬ shipWrong d0 d1 = 0›; omega) | exact next_room ‹¬ ¬ shipWrong d0 d1 = 0› ‹_›)) (OwnL.rd h_cs (mle_un_left _ _) (mle.trans (mle_refl _) (mle_unR (hI.at (i := 114) rfl) (hI.at (i := 115) rfl)))))
              all_goals (first | rfl | (first | (rw [next_wrong ‹_›]; rfl) | (rw [next_arg ‹¬ ¬ _› (by omega)]; rfl) | (rw [next_good ‹¬ ¬ _› ‹_› ‹_› ‹_›]; rfl)))
          · -- FFFFF
            refine VC.skip ?_
            refine outN ?_
            refine VC.seq ?_
            refine VC.rs ?_
            refine VO.y rfl (.mv rfl) ?_
            refine VO.y rfl (.mv rfl) ?_
            refine VO.y rfl (.mv rfl) ?_
            refine VO.y rfl (.add rfl rfl rfl ⟨by first | omega | (simp only [List.length_append, List.length_nil, List.length_cons, List.length_take, List.length_drop] at *; omega) | (have := wrong_len ‹¬ ¬ shipWrong d0 d1 = 0›; omega) | exact next_room ‹¬ ¬ shipWrong d0 d1 = 0› ‹_›, by first | omega | (simp only [List.length_append, List.length_nil, List.length_cons, List.length_take, List.length_drop] at *; omega) | (have := wrong_len ‹¬ ¬ shipWrong d0 d1 = 0›; omega) | exact next_room ‹¬ ¬ shipWrong d0 d1 = 0› ‹_›⟩) ?_
            refine VO.y rfl (.mv rfl) ?_
            refine VO.y rfl (.lenS rfl tsl61) ?_
            refine VO.y rfl (.minM rfl rfl) ?_
            obtain ⟨A28, hA28, hs28⟩ := h1.sub' 3 ((d2).toNat) ((min (d2 + 4) ((d1.length : Nat) : Int)).toNat) rfl (by first | omega | (simp only [List.length_append, List.length_nil, List.length_cons, List.length_take, List.length_drop] at *; omega) | (have := wrong_len ‹¬ ¬ shipWrong d0 d1 = 0›; omega) | exact next_room ‹¬ ¬ shipWrong d0 d1 = 0› ‹_›) (by first | omega | (simp only [List.length_append, List.length_nil, List.length_cons, List.length_take, List.length_drop] at *; omega) | (have := wrong_len ‹¬ ¬ shipWrong d0 d1 = 0›; omega) | exact next_room ‹¬ ¬ shipWrong d0 d1 = 0› ‹_›)
            refine VO.y rfl (.slI ((d2).toNat) ((min (d2 + 4) ((d1.length : Nat) : Int)).toNat) A28 rfl rfl rfl tsl61 (by first | omega | (simp only [List.length_append, List.length_nil, List.length_cons, List.length_take, List.length_drop] at *; omega) | (have := wrong_len ‹¬ ¬ shipWrong d0 d1 = 0›; omega) | exact next_room ‹¬ ¬ shipWrong d0 d1 = 0› ‹_›) (by first | omega | (simp only [List.length_append, List.length_nil, List.length_cons, List.length_take, List.length_drop] at *; omega) | (have := wrong_len ‹¬ ¬ shipWrong d0 d1 = 0›; omega) | exact next_room ‹¬ ¬ shipWrong d0 d1 = 0› ‹_›) hA28 (by first | omega | (simp only [List.length_append, List.length_nil, List.length_cons, List.length_take, List.length_drop] at *; omega) | (have := wrong_len ‹¬ ¬ shipWrong d0 d1 = 0›; omega) | exact next_room ‹¬ ¬ shipWrong d0 d1 = 0› ‹_›) (by first | omega | (simp only [List.length_append, List.length_nil, List.length_cons, List.length_take, List.length_drop] at *; omega) | (have := wrong_len ‹¬ ¬ shipWrong d0 d1 = 0›; omega) | exact next_room ‹¬ ¬ shipWrong d0 d1 = 0› ‹_›)) ?_
            refine VO.y rfl (.lenS rfl tsl61) ?_
            refine VO.y rfl (.mv rfl) ?_
            refine VO.esub [(0, _), (1, _), (2, _), (6, _), (7, _), (8, _), (9, _), (16, _), (30, _), (37, _), (52, _), (53, _), (54, _)] ⟨rfl, rfl, rfl, rfl, rfl, rfl, rfl, rfl, rfl, rfl, rfl, rfl, rfl, trivial⟩ (VO.nil ?_)
            refine VC.block ?_
            refine VC.inv ((129, mnil) :: _) (fun _ h => h.nilc 129) ?_
            have ho129 : OwnL TCommit 52 mnil mnil (.slice none 0 0) [] := .nil _ _ _
            refine VC.inv ((130, mnil) :: _) (fun _ h => h.nilc 130) ?_
            refine VC.loop (G := Nat × (List DCommit) × (Option Addr) × Nat × Mem × Mem) (fun g => [(54, Value.int .i64 ((((g.1) : Nat) : Int))), (0, Value.int .i64 (d0)), (1, Value.slice A1 (d1.length) (c1)), (2, Value.int .i64 (d2)), (6, Value.pointer (some ⟨g1, 0, none⟩)), (7, Value.int .i64 (0)), (8, Value.int .i64 (shipWrong d0 d1)), (9, Value.pointer (some ⟨g9, 0, none⟩)), (16, Value.bool (decide (¬ (shipWrong d0 d1) = 0))), (30, Value.bool (decide (d2 = 1048576))), (37, Value.bool (decide (0 < d2))), (52, Value.slice A28 (((min (d2 + 4) ((d1.length : Nat) : Int)).toNat) - ((d2).toNat)) (c1 - ((d2).toNat))), (53, Value.int .i64 (((((min (d2 + 4) ((d1.length : Nat) : Int)).toNat) - ((d2).toNat) : Nat) : Int)))]) (fun g => [(130, (g.2.2.2.2.2)), (129, (g.2.2.2.2.1)), (110, mone g9 (.cells [Value.int .i64 (2), Value.int .i64 (d0), Value.int .u8 (0), Value.int .i64 (0), Value.slice none (0) (0), Value.int .i64 (d2 + 1), Value.int .i64 (0), Value.slice (g.2.2.1) ((g.2.1).length) ((g.2.2.2.1))].toArray 72 (0, 0))), (102, mone g1 (.cells [Value.int .i64 (0), Value.int .i64 (0), Value.int .u8 (0), Value.int .i64 (0), Value.slice none (0) (0), Value.int .i64 (0), Value.int .i64 (0), Value.slice none (0) (0)].toArray 72 (0, 0))), (0, wm W)]) (fun g => ((g.1) ≤ ((d1.take (min (d2 + 4) (d1.length : Int)).toNat).drop d2.toNat).length) ∧ ((g.2.1) = ((d1.take (min (d2 + 4) (d1.length : Int)).toNat).drop d2.toNat).take (g.1)) ∧ (OwnL TCommit 52 (g.2.2.2.2.1) (g.2.2.2.2.2) (.slice (g.2.2.1) (g.2.1).length (g.2.2.2.1)) (g.2.1))) (fun g => ((d1.take (min (d2 + 4) (d1.length : Int)).toNat).drop d2.toNat).length - (g.1)) (0, [], none, 0, mnil, mnil) (⟨by simp, by rfl, ho129⟩) ⟨⟨rfl, rfl, rfl, rfl, rfl, rfl, rfl, rfl, rfl, rfl, rfl, rfl, rfl, trivial⟩, fun _ h => h.sub [130, 129, 110, 102, 0]⟩ ?_
            rintro ⟨k, cs, cs_A, cs_c, cs_m, cs_i⟩ ⟨hk, hcs, h_cs⟩
            replace hk : k ≤ ((d1.take (min (d2 + 4) (d1.length : Int)).toNat).drop d2.toNat).length := hk
            replace hcs : cs = ((d1.take (min (d2 + 4) (d1.length : Int)).toNat).drop d2.toNat).take k := hcs
            replace h_cs : OwnL TCommit 52 cs_m cs_i (.slice cs_A cs.length cs_c) cs := h_cs
            show VC _ _ _ _ _ [(54, Value.int .i64 (((k : Nat) : Int))), (0, Value.int .i64 (d0)), (1, Value.slice A1 (d1.length) (c1)), (2, Value.int .i64 (d2)), (6, Value.pointer (some ⟨g1, 0, none⟩)), (7, Value.int .i64 (0)), (8, Value.int .i64 (shipWrong d0 d1)), (9, Value.pointer (some ⟨g9, 0, none⟩)), (16, Value.bool (decide (¬ (shipWrong d0 d1) = 0))), (30, Value.bool (decide (d2 = 1048576))), (37, Value.bool (decide (0 < d2))), (52, Value.slice A28 (((min (d2 + 4) ((d1.length : Nat) : Int)).toNat) - ((d2).toNat)) (c1 - ((d2).toNat))), (53, Value.int .i64 (((((min (d2 + 4) ((d1.length : Nat) : Int)).toNat) - ((d2).toNat) : Nat) : Int)))] [(130, cs_i), (129, cs_m), (110, mone g9 (.cells [Value.int .i64 (2), Value.int .i64 (d0), Value.int .u8 (0), Value.int .i64 (0), Value.slice none (0) (0), Value.int .i64 (d2 + 1), Value.int .i64 (0), Value.slice cs_A (cs.length) (cs_c)].toArray 72 (0, 0))), (102, mone g1 (.cells [Value.int .i64 (0), Value.int .i64 (0), Value.int .u8 (0), Value.int .i64 (0), Value.slice none (0) (0), Value.int .i64 (0), Value.int .i64 (0), Value.slice none (0) (0)].toArray 72 (0, 0))), (0, wm W)]
            have l_cs : cs.length ≤ cs_c := by obtain ⟨_, _, he, hl, _⟩ := h_cs.slice; simp only [Value.slice.injEq] at he; omega
            have k_cs : cs_c ≤ 9223372036854775807 := by obtain ⟨_, _, he, _, hl⟩ := h_cs.slice; simp only [Value.slice.injEq, maxLen] at he hl; omega
            have hl0 : ((d1.take (min (d2 + 4) (d1.length : Int)).toNat).drop d2.toNat).length = min (d2.toNat + 4) d1.length - d2.toNat := by simp only [List.length_drop, List.length_take]; omega
            have hlc : cs.length ≤ k := by rw [hcs]; simp; omega
            refine VC.rs ?_
            refine VO.y rfl (.lss rfl rfl) ?_
            refine VO.esub [(0, _), (1, _), (2, _), (6, _), (7, _), (8, _), (9, _), (16, _), (30, _), (37, _), (52, _), (53, _), (54, _), (55, _)] ⟨rfl, rfl, rfl, rfl, rfl, rfl, rfl, rfl, rfl, rfl, rfl, rfl, rfl, rfl, trivial⟩ (VO.nil ?_)
            refine VC.seq ?_
            refine VC.cond rfl (fun hc31 => ?_) (fun hc31 => ?_)
            · -- FFFFFT
              refine VC.skip ?_
              refine outN ?_
              refine VC.seq ?_
              refine VC.block ?_
              refine VC.rs ?_
              obtain ⟨x32, hx32⟩ : ∃ x, ((d1.take ((min (d2 + 4) ((d1.length : Nat) : Int)).toNat)).drop ((d2).toNat))[k]? = some x := ⟨_, List.getElem?_eq_getElem (by first | omega | (simp only [List.length_append, List.length_nil, List.length_cons, List.length_take, List.length_drop] at *; omega) | (have := wrong_len ‹¬ ¬ shipWrong d0 d1 = 0›; omega) | exact next_room ‹¬ ¬ shipWrong d0 d1 = 0› ‹_›)⟩
              obtain ⟨gg32, oo32, ec32, ea32, hce32, hre32⟩ := hs28.elem hx32
              cases ea32
              obtain ⟨q32_A2, q32_c2, rfl, q32_0, q32_1, q32_2⟩ := open_Commit hre32
              simp only [inK] at q32_0
              simp only [inK] at q32_1
              have q32_r2 := Rd.room q32_2
              refine VO.y rfl (.ixI k rfl rfl tsl61 rfl (by first | omega | (simp only [List.length_append, List.length_nil, List.length_cons, List.length_take, List.length_drop] at *; omega) | (have := wrong_len ‹¬ ¬ shipWrong d0 d1 = 0›; omega) | exact next_room ‹¬ ¬ shipWrong d0 d1 = 0› ‹_›)) ?_
              refine VO.y rfl (.ldA 0 rfl tk52 rfl hce32) ?_
              refine VO.alloc 134 rfl tz52 (fun g33 => ?_)
              refine VO.store (k := 3) (c' := [Value.int .i64 (x32.1), Value.int .i64 (x32.2.1), Value.slice q32_A2 (x32.2.2.length) (q32_c2)]) 134 rfl rfl (.inl tk52) rfl rfl rfl rfl rfl ?_
              refine VO.esub [(0, _), (1, _), (2, _), (6, _), (7, _), (8, _), (9, _), (11, _), (16, _), (30, _), (37, _), (52, _), (53, _), (54, _), (55, _)] ⟨rfl, rfl, rfl, rfl, rfl, rfl, rfl, rfl, rfl, rfl, rfl, rfl, rfl, rfl, rfl, trivial⟩ (VO.nil ?_)
              refine VC.regD _ 5 [(0, true), (1, true), (2, true), (3, false), (4, false)] follows (by kernel_rfl) (fun _ h => h) ?_
              refine VD.y rfl rfl (.inl rfl) (.fa rfl tst72 rfl) ?_
              refine VD.y rfl rfl (.inl rfl) (.ld1 110 rfl tk61 rfl (cellsAt_one rfl rfl)) ?_
              refine VD.y rfl rfl (.inl rfl) (.ldA 134 rfl tk52 rfl (cellsAt_one rfl rfl)) ?_
              refine VD.callN 135 rfl rfl (.inl rfl) fnOk60 rfl (fun _ h => h) (fun W hW => cCopy_ok W (Rd.mono hre32 (hW.at (i := 0) rfl)) (by first | omega | (simp only [List.length_append, List.length_nil, List.length_cons, List.length_take, List.length_drop] at *; omega) | (have := wrong_len ‹¬ ¬ shipWrong d0 d1 = 0›; omega) | exact next_room ‹¬ ¬ shipWrong d0 d1 = 0› ‹_›)) (fun v35 m35 hv35 => ?_)
              obtain ⟨s35_0, rfl, f35_0⟩ := hv35
              obtain ⟨q35_0_A2, q35_0_c2, rfl, q35_0_0, q35_0_1, q35_0_2⟩ := open_Commit f35_0
              simp only [inK] at q35_0_0
              simp only [inK] at q35_0_1
              have q35_0_r2 := Rd.room q35_0_2
              refine VD.bsl (cs := [Value.int .i64 (x32.1), Value.int .i64 (x32.2.1), Value.slice q35_0_A2 (x32.2.2.length) (q35_0_c2)]) 137 rfl rfl rfl tsl61 tz52 rfl rfl (fun _ h => h.tl) (fun g36 => ?_)
              refine VD.nil rfl ?_ rfl
              refine VO.join 130 135 130 rfl rfl (fun hj39 => ?_)
              have fj40 : OwnL TCommit _ (cs_m) (mun (cs_i) (m35)) (Value.slice cs_A (cs.length) (cs_c)) (cs) := OwnL.mono h_cs (mle_un_left _ _)
              have fj41 : Rd (.sl TOp) (mun (cs_i) (m35)) [Value.slice q35_0_A2 (x32.2.2.length) (q35_0_c2)] (x32.2.2) := Rd.mono q35_0_2 hj39
              have fj42 : Rd TCommit (mun (cs_i) (m35)) [Value.int .i64 (x32.1), Value.int .i64 (x32.2.1), Value.slice q35_0_A2 (x32.2.2.length) (q35_0_c2)] (x32) := Rd.mono f35_0 hj39
              obtain ⟨cs38, hA38, hC38⟩ := fj40
              refine VO.app 129 rfl rfl rfl tsl61 tz52 rfl rfl hA38 (.row 137 _ _ _ 1 1 _ _ Try.underlying61 rfl (cellsAt_one rfl rfl)) (by simp [Value.oneCell']) (by simp only [maxLen]; (first | omega | (simp only [List.length_append, List.length_nil, List.length_cons, List.length_take, List.length_drop] at *; omega) | (have := wrong_len ‹¬ ¬ shipWrong d0 d1 = 0›; omega) | exact next_room ‹¬ ¬ shipWrong d0 d1 = 0› ‹_›)) (by first | omega | (simp only [List.length_append, List.length_nil, List.length_cons, List.length_take, List.length_drop] at *; omega) | (have := wrong_len ‹¬ ¬ shipWrong d0 d1 = 0›; omega) | exact next_room ‹¬ ¬ shipWrong d0 d1 = 0› ‹_›) (by decide) (fun v38 m38 hN38 => ?_)
              have ho38 : OwnL TCommit 52 m38 (mun (cs_i) (m35)) v38 (cs ++ [x32]) := OwnL.one hC38 hN38 (Rd.mono fj42 (mle_refl _))
              obtain ⟨A38, c38, rfl, l38, k38⟩ := ho38.slice
              simp only [maxLen] at k38
              refine VO.y rfl (.fa rfl tst72 rfl) ?_
              refine VO.store (k := 1) (c' := [Value.int .i64 (2), Value.int .i64 (d0), Value.int .u8 (0), Value.int .i64 (0), Value.slice none (0) (0), Value.int .i64 (d2 + 1), Value.int .i64 (0), Value.slice A38 ((cs ++ [x32]).length) (c38)]) 110 rfl rfl (.inr ⟨tk61, rfl⟩) rfl rfl rfl rfl rfl ?_
              refine VO.esub [(0, _), (1, _), (2, _), (6, _), (7, _), (8, _), (9, _), (11, _), (16, _), (30, _), (37, _), (52, _), (53, _), (54, _), (55, _)] ⟨rfl, rfl, rfl, rfl, rfl, rfl, rfl, rfl, rfl, rfl, rfl, rfl, rfl, rfl, rfl, trivial⟩ (VO.nil ?_)
              refine outBN ?_
              refine outN ?_
              refine VC.reg ?_
              refine VO.y rfl (.add (c := ((k + 1 : Nat) : Int)) rfl rfl (by omega) ⟨by first | omega | (simp only [List.length_append, List.length_nil, List.length_cons, List.length_take, List.length_drop] at *; omega) | (have := wrong_len ‹¬ ¬ shipWrong d0 d1 = 0›; omega) | exact next_room ‹¬ ¬ shipWrong d0 d1 = 0› ‹_›, by first | omega | (simp only [List.length_append, List.length_nil, List.length_cons, List.length_take, List.length_drop] at *; omega) | (have := wrong_len ‹¬ ¬ shipWrong d0 d1 = 0›; omega) | exact next_room ‹¬ ¬ shipWrong d0 d1 = 0› ‹_›⟩) ?_
              refine VO.y rfl (.mv rfl) ?_
              refine VO.esub [(0, _), (1, _), (2, _), (6, _), (7, _), (8, _), (9, _), (11, _), (16, _), (30, _), (37, _), (52, _), (53, _), (54, _), (55, _)] ⟨rfl, rfl, rfl, rfl, rfl, rfl, rfl, rfl, rfl, rfl, rfl, rfl, rfl, rfl, rfl, trivial⟩ (VO.nil ?_)
              exact outN ⟨⟨k + 1, cs ++ [x32], A38, c38, m38, mun (cs_i) (m35)⟩, ⟨by simp only [List.length_drop, List.length_take]; omega, by rw [hcs]; exact (take_one ‹_›).symm, ho38⟩, by first | omega | (simp only [List.length_append, List.length_nil, List.length_cons, List.length_take, List.length_drop] at *; omega) | (have := wrong_len ‹¬ ¬ shipWrong d0 d1 = 0›; omega) | exact next_room ‹¬ ¬ shipWrong d0 d1 = 0› ‹_›, ⟨⟨rfl, rfl, rfl, rfl, rfl, rfl, rfl, rfl, rfl, rfl, rfl, rfl, rfl, trivial⟩, fun _ h => h.sub [130, 129, 110, 102, 0]⟩⟩
            · -- FFFFFF
              refine VC.exit ?_
              refine outE ?_
              refine outE ?_
              refine outBB ?_
              refine outN ?_
              refine VC.rs ?_
              refine VO.y rfl (.ldA 110 rfl tk72 rfl (cellsAt_one rfl rfl)) ?_
              refine VO.store (k := 8) (c' := [Value.int .i64 (2), Value.int .i64 (d0), Value.int .u8 (0), Value.int .i64 (0), Value.slice none (0) (0), Value.int .i64 (d2 + 1), Value.int .i64 (0), Value.slice cs_A (cs.length) (cs_c)]) 102 rfl rfl (.inl tk72) rfl rfl rfl rfl rfl ?_
              refine VO.y rfl (.as rfl) ?_
              refine VO.esub [(0, _), (1, _), (2, _), (6, _), (7, _), (8, _), (9, _), (16, _), (30, _), (37, _), (52, _), (53, _), (54, _), (55, _)] ⟨rfl, rfl, rfl, rfl, rfl, rfl, rfl, rfl, rfl, rfl, rfl, rfl, rfl, rfl, trivial⟩ (VO.nil ?_)
              refine VC.ret ?_
              refine ⟨_, (mun (cs_m) (cs_i)), res_run (rs := [.cell 6 72, .tmp 7]) rfl (.agg 102 rfl tk72 rfl ⟨_, _, _, mone_self _ _, Nat.le_of_ble_eq_true rfl, rfl⟩ (.tmp rfl .nil)), fun W_ hI => ⟨?_, own_un (own_of 129 rfl rfl _ hI) (own_of 130 rfl rfl _ hI)⟩⟩
              dsimp only [packV]
              have he0 : ((shipNext d0 d1 d2).1 : Ty.Den TMessage) = (2, d0, 0, 0, [], (d2 + 1), 0, cs) := by first | rfl | (first | (rw [next_wrong ‹_›]; rfl) | (rw [next_arg ‹¬ ¬ _› (by omega)]; rfl) | (have hcs2 := hcs.trans ((List.take_of_length_le (by omega)).trans (next_list _ _ ‹_› ‹_›)); rw [next_good ‹¬ ¬ _› ‹_› ‹_› ‹_›, ← hcs2]; first | rw [prevOf_pos ‹0 < d2› ‹_›] | rw [prevOf_zero ‹_›]))
              refine ⟨[Value.int .i64 (2), Value.int .i64 (d0), Value.int .u8 (0), Value.int .i64 (0), Value.slice none (0) (0), Value.int .i64 (d2 + 1), Value.int .i64 (0), Value.slice cs_A (cs.length) (cs_c)], ?_, ?_⟩
              rotate_left
              · rw [he0]; exact (mk_Message (m := _) (2, d0, 0, 0, [], (d2 + 1), 0, cs) (by simp only [inK]; (first | omega | (simp only [List.length_append, List.length_nil, List.length_cons, List.length_take, List.length_drop] at *; omega) | (have := wrong_len ‹¬ ¬ shipWrong d0 d1 = 0›; omega) | exact next_room ‹¬ ¬ shipWrong d0 d1 = 0› ‹_›)) (by simp only [inK]; (first | omega | (simp only [List.length_append, List.length_nil, List.length_cons, List.length_take, List.length_drop] at *; omega) | (have := wrong_len ‹¬ ¬ shipWrong d0 d1 = 0›; omega) | exact next_room ‹¬ ¬ shipWrong d0 d1 = 0› ‹_›)) (by simp only [inK]; (first | omega | (simp only [List.length_append, List.length_nil, List.length_cons, List.length_take, List.length_drop] at *; omega) | (have := wrong_len ‹¬ ¬ shipWrong d0 d1 = 0›; omega) | exact next_room ‹¬ ¬ shipWrong d0 d1 = 0› ‹_›)) (by simp only [inK]; (first | omega | (simp only [List.length_append, List.length_nil, List.length_cons, List.length_take, List.length_drop] at *; omega) | (have := wrong_len ‹¬ ¬ shipWrong d0 d1 = 0›; omega) | exact next_room ‹¬ ¬ shipWrong d0 d1 = 0› ‹_›)) (Rd.nil _ _ none 0 (Nat.zero_le _)) (by simp only [inK]; (first | omega | (simp only [List.length_append, List.length_nil, List.length_cons, List.length_take, List.length_drop] at *; omega) | (have := wrong_len ‹¬ ¬ shipWrong d0 d1 = 0›; omega) | exact next_room ‹¬ ¬ shipWrong d0 d1 = 0› ‹_›)) (by simp only [inK]; (first | omega | (simp only [List.length_append, List.length_nil, List.length_cons, List.length_take, List.length_drop] at *; omega) | (have := wrong_len ‹¬ ¬ shipWrong d0 d1 = 0›; omega) | exact next_room ‹¬ ¬ shipWrong d0 d1 = 0› ‹_›)) (OwnL.rd h_cs (mle_un_left _ _) (mle.trans (mle_refl _) (mle_unR (hI.at (i := 129) rfl) (hI.at (i := 130) rfl)))))
              all_goals (first | rfl | (first | (rw [next_wrong ‹_›]; rfl) | (rw [next_arg ‹¬ ¬ _› (by omega)]; rfl) | (rw [next_good ‹¬ ¬ _› ‹_› ‹_› ‹_›]; rfl)))
end Go.Proofs.Ytfaknkkaegjdaaa
