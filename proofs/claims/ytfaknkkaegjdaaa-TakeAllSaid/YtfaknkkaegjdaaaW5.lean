/- Walks, printed by program: what lagleashlaw17 example compute. Conditions: those named in each theorem. -/
import Derived.Test.YtfaknkkaegjdaaaW4
set_option linter.unusedVariables false
set_option linter.unusedSimpArgs false
set_option maxRecDepth 4000
namespace Go.Proofs.Ytfaknkkaegjdaaa

theorem example17_ok (W : World) : CallR Try.prog 66 [] W (mnil) (fun v m' => ∃ (s0 : Value), v = s0 ∧ Ow (.sl TCommit) m' [s0] (exC)) := by
  refine CallR.ofA (n := 19) Try.func66 rfl rfl rfl ?_
  refine VC.rs ?_
  refine VO.y rfl (.as rfl) ?_
  refine VO.esub [(0, _)] ⟨rfl, trivial⟩ (VO.nil ?_)
  refine VC.rs ?_
  refine VO.y rfl (.as rfl) ?_
  refine VO.esub [(0, _), (1, _)] ⟨rfl, rfl, trivial⟩ (VO.nil ?_)
  refine VC.seq ?_
  refine VC.rs ?_
  refine VO.y rfl (.as rfl) ?_
  refine VO.esub [(0, _), (1, _), (2, _)] ⟨rfl, rfl, rfl, trivial⟩ (VO.nil ?_)
  refine VC.block ?_
  refine VC.inv ((101, mnil) :: _) (fun _ h => h.nilc 101) ?_
  refine VC.loop (G := Nat × (List DCommit) × (Option Addr) × Nat × Mem) (fun g => [(1, Value.slice (g.2.2.1) ((g.2.1).length) ((g.2.2.2.1))), (2, Value.int .i64 ((((g.1) : Nat) : Int))), (0, Value.slice none (0) (0))]) (fun g => [(101, (g.2.2.2.2)), (0, wm W)]) (fun g => (1 ≤ (g.1)) ∧ ((g.1) ≤ 7) ∧ ((g.2.1) = exC.take ((g.1) - 1)) ∧ (Ow (.sl TCommit) (g.2.2.2.2) [.slice (g.2.2.1) (g.2.1).length (g.2.2.2.1)] (g.2.1))) (fun g => 7 - (g.1)) (1, [], none, 0, mnil) (⟨by omega, by omega, by rfl, (Ow.nil TCommit mnil)⟩) ⟨⟨rfl, rfl, rfl, trivial⟩, fun _ h => h.sub [101, 0]⟩ ?_
  rintro ⟨i, l, l_A, l_c, l_m⟩ ⟨h1, h6, hl, h_l⟩
  replace h1 : 1 ≤ i := h1
  replace h6 : i ≤ 7 := h6
  replace hl : l = exC.take (i - 1) := hl
  replace h_l : Ow (.sl TCommit) l_m [.slice l_A l.length l_c] l := h_l
  show VC _ _ _ _ _ [(1, Value.slice l_A (l.length) (l_c)), (2, Value.int .i64 (((i : Nat) : Int))), (0, Value.slice none (0) (0))] [(101, l_m), (0, wm W)]
  have l_l : l.length ≤ l_c := by obtain ⟨_, _, he, hl, _⟩ := h_l.slice; simp only [Value.slice.injEq] at he; omega
  have k_l : l_c ≤ 9223372036854775807 := by obtain ⟨_, _, he, _, hl⟩ := h_l.slice; simp only [Value.slice.injEq, maxLen] at he hl; omega
  have hll : l.length ≤ 6 := by rw [hl]; simp [exC]; omega
  refine VC.seq ?_
  refine VC.rs ?_
  refine VO.y rfl (.mv rfl) ?_
  refine VO.y rfl (.leq rfl rfl) ?_
  refine VO.esub [(0, _), (1, _), (2, _), (5, _)] ⟨rfl, rfl, rfl, rfl, trivial⟩ (VO.nil ?_)
  refine VC.cond rfl (fun hc2 => ?_) (fun hc2 => ?_)
  · -- T
    refine VC.skip ?_
    refine outN ?_
    refine VC.seq ?_
    refine VC.block ?_
    refine VC.rs ?_
    refine VO.y rfl (.as rfl) ?_
    refine VO.esub [(0, _), (1, _), (2, _), (3, _), (5, _)] ⟨rfl, rfl, rfl, rfl, rfl, trivial⟩ (VO.nil ?_)
    refine VC.seq ?_
    refine VC.rs ?_
    refine VO.y rfl (.mv rfl) ?_
    refine VO.y rfl (.eql rfl rfl) ?_
    refine VO.esub [(0, _), (1, _), (2, _), (3, _), (5, _), (9, _)] ⟨rfl, rfl, rfl, rfl, rfl, rfl, trivial⟩ (VO.nil ?_)
    refine VC.cond rfl (fun hc3 => ?_) (fun hc3 => ?_)
    · -- TT
      refine VC.reg ?_
      refine VO.y rfl (.as rfl) ?_
      refine VO.esub [(0, _), (1, _), (2, _), (3, _), (5, _), (9, _)] ⟨rfl, rfl, rfl, rfl, rfl, rfl, trivial⟩ (VO.nil ?_)
      refine outN ?_
      refine VC.reg ?_
      refine VO.y rfl (.mv rfl) ?_
      refine VO.y rfl (.mv rfl) ?_
      refine VO.y rfl (.mv rfl) ?_
      refine VO.y rfl (.bst (cs := [Value.bool false, str ([107]), str ([])]) rfl tst49 tz49 rfl) ?_
      refine VO.bsl (cs := [Value.bool false, str ([107]), str ([])]) 105 rfl rfl tsl22 tz49 rfl rfl (fun g4 => ?_)
      refine VO.y rfl (.bst (cs := [Value.int .i64 (3), Value.int .i64 (((i : Nat) : Int)), Value.slice (some ⟨g4, 0, none⟩) (1) (1)]) rfl tst52 tz52 rfl) ?_
      refine VO.bsl (cs := [Value.int .i64 (3), Value.int .i64 (((i : Nat) : Int)), Value.slice (some ⟨g4, 0, none⟩) (1) (1)]) 107 rfl rfl tsl61 tz52 rfl rfl (fun g6 => ?_)
      have ho9 : OwnL TOp (mone g4 (.cells [Value.bool false, str ([107]), str ([])].toArray 49 (0, 0))) mnil (Value.slice (some ⟨g4, 0, none⟩) (1) (1)) [(false, [107], [])] := OwnL.lit 1 (All2c.cons (c1 := [Value.bool false, str ([107]), str ([])]) (mk_Op (m := _) false ([107]) ([]) (by simp only [maxLen]; (first | omega | (simp only [List.length_append, List.length_nil, List.length_cons, List.length_take, List.length_drop] at *; omega))) (by simp only [maxLen]; (first | omega | (simp only [List.length_append, List.length_nil, List.length_cons, List.length_take, List.length_drop] at *; omega)))) All2c.nil) rfl rfl
      refine VO.appO (e := TCommit) 101 105 107 rfl rfl rfl tsl61 tz52 rfl rfl rfl rfl h_l (mkO_Commit 3 ((i : Nat) : Int) ([(false, [107], [])]) (Seps.one (mle_refl _)) (by simp only [inK]; (first | omega | (simp only [List.length_append, List.length_nil, List.length_cons, List.length_take, List.length_drop] at *; omega))) (by simp only [inK]; (first | omega | (simp only [List.length_append, List.length_nil, List.length_cons, List.length_take, List.length_drop] at *; omega))) (OwnL.ow ho9 rfl)) Try.underlying61 (cellsAt_one rfl rfl) (by simp only [maxLen]; (first | omega | (simp only [List.length_append, List.length_nil, List.length_cons, List.length_take, List.length_drop] at *; omega))) (by first | omega | (simp only [List.length_append, List.length_nil, List.length_cons, List.length_take, List.length_drop] at *; omega)) (by decide) (fun v8 m8 ho8 => ?_)
      obtain ⟨A8, c8, rfl, l8, k8⟩ := ho8.slice
      simp only [maxLen] at k8
      refine VO.y rfl (.as rfl) ?_
      refine VO.esub [(0, _), (1, _), (2, _), (3, _), (5, _), (9, _)] ⟨rfl, rfl, rfl, rfl, rfl, rfl, trivial⟩ (VO.nil ?_)
      refine outBN ?_
      refine outN ?_
      refine VC.reg ?_
      refine VO.y rfl (.mv rfl) ?_
      refine VO.y rfl (.add (c := ((i + 1 : Nat) : Int)) rfl rfl (by omega) ⟨by first | omega | (simp only [List.length_append, List.length_nil, List.length_cons, List.length_take, List.length_drop] at *; omega), by first | omega | (simp only [List.length_append, List.length_nil, List.length_cons, List.length_take, List.length_drop] at *; omega)⟩) ?_
      refine VO.y rfl (.as rfl) ?_
      refine VO.esub [(0, _), (1, _), (2, _), (3, _), (5, _), (9, _)] ⟨rfl, rfl, rfl, rfl, rfl, rfl, trivial⟩ (VO.nil ?_)
      exact outN ⟨⟨i + 1, l ++ [(3, ((i : Nat) : Int), [(false, [107], [])])], A8, c8, m8⟩, ⟨by omega, by omega, by exact exC_next hl h1 (by omega) (by first | (rw [if_pos (by omega)]; done) | (rw [if_neg (by omega)]; done)), ho8⟩, by first | omega | (simp only [List.length_append, List.length_nil, List.length_cons, List.length_take, List.length_drop] at *; omega), ⟨⟨rfl, rfl, rfl, trivial⟩, fun _ h => Inv.sub h [101, 0]⟩⟩
    · -- TF
      refine VC.skip ?_
      refine outN ?_
      refine VC.reg ?_
      refine VO.y rfl (.mv rfl) ?_
      refine VO.y rfl (.mv rfl) ?_
      refine VO.y rfl (.mv rfl) ?_
      refine VO.y rfl (.bst (cs := [Value.bool false, str ([107]), str ([])]) rfl tst49 tz49 rfl) ?_
      refine VO.bsl (cs := [Value.bool false, str ([107]), str ([])]) 111 rfl rfl tsl22 tz49 rfl rfl (fun g10 => ?_)
      refine VO.y rfl (.bst (cs := [Value.int .i64 (1), Value.int .i64 (((i : Nat) : Int)), Value.slice (some ⟨g10, 0, none⟩) (1) (1)]) rfl tst52 tz52 rfl) ?_
      refine VO.bsl (cs := [Value.int .i64 (1), Value.int .i64 (((i : Nat) : Int)), Value.slice (some ⟨g10, 0, none⟩) (1) (1)]) 113 rfl rfl tsl61 tz52 rfl rfl (fun g12 => ?_)
      have ho15 : OwnL TOp (mone g10 (.cells [Value.bool false, str ([107]), str ([])].toArray 49 (0, 0))) mnil (Value.slice (some ⟨g10, 0, none⟩) (1) (1)) [(false, [107], [])] := OwnL.lit 1 (All2c.cons (c1 := [Value.bool false, str ([107]), str ([])]) (mk_Op (m := _) false ([107]) ([]) (by simp only [maxLen]; (first | omega | (simp only [List.length_append, List.length_nil, List.length_cons, List.length_take, List.length_drop] at *; omega))) (by simp only [maxLen]; (first | omega | (simp only [List.length_append, List.length_nil, List.length_cons, List.length_take, List.length_drop] at *; omega)))) All2c.nil) rfl rfl
      refine VO.appO (e := TCommit) 101 111 113 rfl rfl rfl tsl61 tz52 rfl rfl rfl rfl h_l (mkO_Commit 1 ((i : Nat) : Int) ([(false, [107], [])]) (Seps.one (mle_refl _)) (by simp only [inK]; (first | omega | (simp only [List.length_append, List.length_nil, List.length_cons, List.length_take, List.length_drop] at *; omega))) (by simp only [inK]; (first | omega | (simp only [List.length_append, List.length_nil, List.length_cons, List.length_take, List.length_drop] at *; omega))) (OwnL.ow ho15 rfl)) Try.underlying61 (cellsAt_one rfl rfl) (by simp only [maxLen]; (first | omega | (simp only [List.length_append, List.length_nil, List.length_cons, List.length_take, List.length_drop] at *; omega))) (by first | omega | (simp only [List.length_append, List.length_nil, List.length_cons, List.length_take, List.length_drop] at *; omega)) (by decide) (fun v14 m14 ho14 => ?_)
      obtain ⟨A14, c14, rfl, l14, k14⟩ := ho14.slice
      simp only [maxLen] at k14
      refine VO.y rfl (.as rfl) ?_
      refine VO.esub [(0, _), (1, _), (2, _), (3, _), (5, _), (9, _)] ⟨rfl, rfl, rfl, rfl, rfl, rfl, trivial⟩ (VO.nil ?_)
      refine outBN ?_
      refine outN ?_
      refine VC.reg ?_
      refine VO.y rfl (.mv rfl) ?_
      refine VO.y rfl (.add (c := ((i + 1 : Nat) : Int)) rfl rfl (by omega) ⟨by first | omega | (simp only [List.length_append, List.length_nil, List.length_cons, List.length_take, List.length_drop] at *; omega), by first | omega | (simp only [List.length_append, List.length_nil, List.length_cons, List.length_take, List.length_drop] at *; omega)⟩) ?_
      refine VO.y rfl (.as rfl) ?_
      refine VO.esub [(0, _), (1, _), (2, _), (3, _), (5, _), (9, _)] ⟨rfl, rfl, rfl, rfl, rfl, rfl, trivial⟩ (VO.nil ?_)
      exact outN ⟨⟨i + 1, l ++ [(1, ((i : Nat) : Int), [(false, [107], [])])], A14, c14, m14⟩, ⟨by omega, by omega, by exact exC_next hl h1 (by omega) (by first | (rw [if_pos (by omega)]; done) | (rw [if_neg (by omega)]; done)), ho14⟩, by first | omega | (simp only [List.length_append, List.length_nil, List.length_cons, List.length_take, List.length_drop] at *; omega), ⟨⟨rfl, rfl, rfl, trivial⟩, fun _ h => Inv.sub h [101, 0]⟩⟩
  · -- F
    refine VC.exit ?_
    refine outE ?_
    refine outE ?_
    refine outBB ?_
    refine outN ?_
    refine VC.rs ?_
    refine VO.y rfl (.mv rfl) ?_
    refine VO.y rfl (.as rfl) ?_
    refine VO.esub [(0, _), (1, _), (2, _), (5, _)] ⟨rfl, rfl, rfl, rfl, trivial⟩ (VO.nil ?_)
    refine VC.ret ?_
    refine ⟨_, _, res_run (rs := [.tmp 0]) rfl (.tmp rfl .nil), fun W_ hI => out_of (l := [l_m]) hI [101] rfl rfl (mle_refl _) (fun hS_ => ?_)⟩
    dsimp only [packV]
    have he0 : (exC : Ty.Den (.sl TCommit)) = l := by first | rfl | (have : i = 7 := (by omega); subst this; exact hl.symm)
    refine ⟨Value.slice l_A (l.length) (l_c), ?_, ?_⟩
    rotate_left
    · rw [he0]; exact (Ow.up h_l (hS_.1 _ (.head _)))
    first | rfl | (simp [*]; done)
end Go.Proofs.Ytfaknkkaegjdaaa
