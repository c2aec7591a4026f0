/- Walks, printed by program: what lagleashlaw17 example compute. Conditions: those named in each theorem. -/
import Derived.Test.YtfaknkkaegjdaaaW4
set_option linter.unusedVariables false
set_option linter.unusedSimpArgs false
set_option maxRecDepth 4000
namespace Go.Proofs.Ytfaknkkaegjdaaa

theorem example17_ok (W : World) : CallR Try.prog 66 [] W mnil (fun v m' => ∃ (s0 : Value), v = s0 ∧ Rd (.sl TCommit) m' [s0] (exC)) := by
  refine CallR.ofA (n := 19) Try.func66 rfl rfl rfl ?_
  refine VC.rs ?_
  refine VO.y rfl (.as rfl) ?_
  refine VO.esub [(0, _)] ⟨rfl, trivial⟩ (VO.nil ?_)
  refine VC.rs ?_
  refine VO.y rfl (.as rfl) ?_
  refine VO.esub [(0, _), (1, _)] ⟨rfl, rfl, trivial⟩ (VO.nil ?_)
  refine VC.seq ?_
  refine VC.rs ?_
  refine VO.y rfl (.as rfl) ?_
  refine VO.esub [(0, _), (1, _), (2, _)] ⟨rfl, rfl, rfl, trivial⟩ (VO.nil ?_)
  refine VC.block ?_
  refine VC.inv ((101, mnil) :: _) (fun _ h => h.nilc 101) ?_
  have ho101 : OwnL TCommit 52 mnil mnil (.slice none 0 0) [] := .nil _ _ _
  refine VC.inv ((102, mnil) :: _) (fun _ h => h.nilc 102) ?_
  refine VC.loop (G := Nat × (List DCommit) × (Option Addr) × Nat × Mem × Mem) (fun g => [(1, Value.slice (g.2.2.1) ((g.2.1).length) ((g.2.2.2.1))), (2, Value.int .i64 ((((g.1) : Nat) : Int))), (0, Value.slice none (0) (0))]) (fun g => [(102, (g.2.2.2.2.2)), (101, (g.2.2.2.2.1)), (0, wm W)]) (fun g => (1 ≤ (g.1)) ∧ ((g.1) ≤ 7) ∧ ((g.2.1) = exC.take ((g.1) - 1)) ∧ (OwnL TCommit 52 (g.2.2.2.2.1) (g.2.2.2.2.2) (.slice (g.2.2.1) (g.2.1).length (g.2.2.2.1)) (g.2.1))) (fun g => 7 - (g.1)) (1, [], none, 0, mnil, mnil) (⟨by omega, by omega, by rfl, ho101⟩) ⟨⟨rfl, rfl, rfl, trivial⟩, fun _ h => h.sub [102, 101, 0]⟩ ?_
  rintro ⟨i, l, l_A, l_c, l_m, l_i⟩ ⟨h1, h6, hl, h_l⟩
  replace h1 : 1 ≤ i := h1
  replace h6 : i ≤ 7 := h6
  replace hl : l = exC.take (i - 1) := hl
  replace h_l : OwnL TCommit 52 l_m l_i (.slice l_A l.length l_c) l := h_l
  show VC _ _ _ _ _ [(1, Value.slice l_A (l.length) (l_c)), (2, Value.int .i64 (((i : Nat) : Int))), (0, Value.slice none (0) (0))] [(102, l_i), (101, l_m), (0, wm W)]
  have l_l : l.length ≤ l_c := by obtain ⟨_, _, he, hl, _⟩ := h_l.slice; simp only [Value.slice.injEq] at he; omega
  have k_l : l_c ≤ 9223372036854775807 := by obtain ⟨_, _, he, _, hl⟩ := h_l.slice; simp only [Value.slice.injEq, maxLen] at he hl; omega
  have hll : l.length ≤ 6 := by rw [hl]; simp [exC]; omega
  refine VC.seq ?_
  refine VC.rs ?_
  refine VO.y rfl (.mv rfl) ?_
  refine VO.y rfl (.leq rfl rfl) ?_
  refine VO.esub [(0, _), (1, _), (2, _), (5, _)] ⟨rfl, rfl, rfl, rfl, trivial⟩ (VO.nil ?_)
  refine VC.cond rfl (fun hc3 => ?_) (fun hc3 => ?_)
  · -- T
    refine VC.skip ?_
    refine outN ?_
    refine VC.seq ?_
    refine VC.block ?_
    refine VC.rs ?_
    refine VO.y rfl (.as rfl) ?_
    refine VO.esub [(0, _), (1, _), (2, _), (3, _), (5, _)] ⟨rfl, rfl, rfl, rfl, rfl, trivial⟩ (VO.nil ?_)
    refine VC.seq ?_
    refine VC.rs ?_
    refine VO.y rfl (.mv rfl) ?_
    refine VO.y rfl (.eql rfl rfl) ?_
    refine VO.esub [(0, _), (1, _), (2, _), (3, _), (5, _), (9, _)] ⟨rfl, rfl, rfl, rfl, rfl, rfl, trivial⟩ (VO.nil ?_)
    refine VC.cond rfl (fun hc4 => ?_) (fun hc4 => ?_)
    · -- TT
      refine VC.reg ?_
      refine VO.y rfl (.as rfl) ?_
      refine VO.esub [(0, _), (1, _), (2, _), (3, _), (5, _), (9, _)] ⟨rfl, rfl, rfl, rfl, rfl, rfl, trivial⟩ (VO.nil ?_)
      refine outN ?_
      refine VC.reg ?_
      refine VO.y rfl (.mv rfl) ?_
      refine VO.y rfl (.mv rfl) ?_
      refine VO.y rfl (.mv rfl) ?_
      refine VO.y rfl (.bst (cs := [Value.bool false, str ([107]), str ([])]) rfl tst49 tz49 rfl) ?_
      refine VO.bsl (cs := [Value.bool false, str ([107]), str ([])]) 106 rfl rfl tsl22 tz49 rfl rfl (fun g5 => ?_)
      refine VO.y rfl (.bst (cs := [Value.int .i64 (3), Value.int .i64 (((i : Nat) : Int)), Value.slice (some ⟨g5, 0, none⟩) (1) (1)]) rfl tst52 tz52 rfl) ?_
      refine VO.bsl (cs := [Value.int .i64 (3), Value.int .i64 (((i : Nat) : Int)), Value.slice (some ⟨g5, 0, none⟩) (1) (1)]) 108 rfl rfl tsl61 tz52 rfl rfl (fun g7 => ?_)
      have ho10 : OwnL TOp 49 (mone g5 (.cells [Value.bool false, str ([107]), str ([])].toArray 49 (0, 0))) mnil (Value.slice (some ⟨g5, 0, none⟩) (1) (1)) [(false, [107], [])] := OwnL.lit 1 (All2c.cons (c1 := [Value.bool false, str ([107]), str ([])]) (mk_Op (false, [107], []) (by simp only [maxLen]; (first | omega | (simp only [List.length_append, List.length_nil, List.length_cons, List.length_take, List.length_drop] at *; omega))) (by simp only [maxLen]; (first | omega | (simp only [List.length_append, List.length_nil, List.length_cons, List.length_take, List.length_drop] at *; omega)))) All2c.nil) rfl rfl
      refine VO.join 102 106 102 rfl rfl (fun hj11 => ?_)
      have fj12 : OwnL TCommit _ (l_m) (mun (l_i) (mone g5 (.cells [Value.bool false, str ([107]), str ([])].toArray 49 (0, 0)))) (Value.slice l_A (l.length) (l_c)) (l) := OwnL.mono h_l (mle_un_left _ _)
      have fj13 : Rd (.sl TOp) (mun (l_i) (mone g5 (.cells [Value.bool false, str ([107]), str ([])].toArray 49 (0, 0)))) [Value.slice (some ⟨g5, 0, none⟩) (1) (1)] ([(false, [107], [])]) := OwnL.rd ho10 hj11 (mle_nil _)
      obtain ⟨cs9, hA9, hC9⟩ := fj12
      refine VO.app 101 rfl rfl rfl tsl61 tz52 rfl rfl hA9 (.row 108 _ _ _ 1 1 _ _ Try.underlying61 rfl (cellsAt_one rfl rfl)) (by simp [Value.oneCell']) (by simp only [maxLen]; (first | omega | (simp only [List.length_append, List.length_nil, List.length_cons, List.length_take, List.length_drop] at *; omega))) (by first | omega | (simp only [List.length_append, List.length_nil, List.length_cons, List.length_take, List.length_drop] at *; omega)) (by decide) (fun v9 m9 hN9 => ?_)
      have ho9 : OwnL TCommit 52 m9 (mun (l_i) (mone g5 (.cells [Value.bool false, str ([107]), str ([])].toArray 49 (0, 0)))) v9 (l ++ [(3, ((i : Nat) : Int), [(false, [107], [])])]) := OwnL.one hC9 hN9 (mk_Commit (m := (mun (l_i) (mone g5 (.cells [Value.bool false, str ([107]), str ([])].toArray 49 (0, 0))))) (3, ((i : Nat) : Int), [(false, [107], [])]) (by simp only [inK]; (first | omega | (simp only [List.length_append, List.length_nil, List.length_cons, List.length_take, List.length_drop] at *; omega))) (by simp only [inK]; (first | omega | (simp only [List.length_append, List.length_nil, List.length_cons, List.length_take, List.length_drop] at *; omega))) (Rd.mono fj13 (mle_refl _)))
      obtain ⟨A9, c9, rfl, l9, k9⟩ := ho9.slice
      simp only [maxLen] at k9
      refine VO.y rfl (.as rfl) ?_
      refine VO.esub [(0, _), (1, _), (2, _), (3, _), (5, _), (9, _)] ⟨rfl, rfl, rfl, rfl, rfl, rfl, trivial⟩ (VO.nil ?_)
      refine outBN ?_
      refine outN ?_
      refine VC.reg ?_
      refine VO.y rfl (.mv rfl) ?_
      refine VO.y rfl (.add (c := ((i + 1 : Nat) : Int)) rfl rfl (by omega) ⟨by first | omega | (simp only [List.length_append, List.length_nil, List.length_cons, List.length_take, List.length_drop] at *; omega), by first | omega | (simp only [List.length_append, List.length_nil, List.length_cons, List.length_take, List.length_drop] at *; omega)⟩) ?_
      refine VO.y rfl (.as rfl) ?_
      refine VO.esub [(0, _), (1, _), (2, _), (3, _), (5, _), (9, _)] ⟨rfl, rfl, rfl, rfl, rfl, rfl, trivial⟩ (VO.nil ?_)
      exact outN ⟨⟨i + 1, l ++ [(3, ((i : Nat) : Int), [(false, [107], [])])], A9, c9, m9, mun (l_i) (mone g5 (.cells [Value.bool false, str ([107]), str ([])].toArray 49 (0, 0)))⟩, ⟨by omega, by omega, by exact exC_next hl h1 (by omega) (by first | (rw [if_pos (by omega)]; done) | (rw [if_neg (by omega)]; done)), ho9⟩, by first | omega | (simp only [List.length_append, List.length_nil, List.length_cons, List.length_take, List.length_drop] at *; omega), ⟨⟨rfl, rfl, rfl, trivial⟩, fun _ h => h.sub [102, 101, 0]⟩⟩
    · -- TF
      refine VC.skip ?_
      refine outN ?_
      refine VC.reg ?_
      refine VO.y rfl (.mv rfl) ?_
      refine VO.y rfl (.mv rfl) ?_
      refine VO.y rfl (.mv rfl) ?_
      refine VO.y rfl (.bst (cs := [Value.bool false, str ([107]), str ([])]) rfl tst49 tz49 rfl) ?_
      refine VO.bsl (cs := [Value.bool false, str ([107]), str ([])]) 115 rfl rfl tsl22 tz49 rfl rfl (fun g14 => ?_)
      refine VO.y rfl (.bst (cs := [Value.int .i64 (1), Value.int .i64 (((i : Nat) : Int)), Value.slice (some ⟨g14, 0, none⟩) (1) (1)]) rfl tst52 tz52 rfl) ?_
      refine VO.bsl (cs := [Value.int .i64 (1), Value.int .i64 (((i : Nat) : Int)), Value.slice (some ⟨g14, 0, none⟩) (1) (1)]) 117 rfl rfl tsl61 tz52 rfl rfl (fun g16 => ?_)
      have ho19 : OwnL TOp 49 (mone g14 (.cells [Value.bool false, str ([107]), str ([])].toArray 49 (0, 0))) mnil (Value.slice (some ⟨g14, 0, none⟩) (1) (1)) [(false, [107], [])] := OwnL.lit 1 (All2c.cons (c1 := [Value.bool false, str ([107]), str ([])]) (mk_Op (false, [107], []) (by simp only [maxLen]; (first | omega | (simp only [List.length_append, List.length_nil, List.length_cons, List.length_take, List.length_drop] at *; omega))) (by simp only [maxLen]; (first | omega | (simp only [List.length_append, List.length_nil, List.length_cons, List.length_take, List.length_drop] at *; omega)))) All2c.nil) rfl rfl
      refine VO.join 102 115 102 rfl rfl (fun hj20 => ?_)
      have fj21 : OwnL TCommit _ (l_m) (mun (l_i) (mone g14 (.cells [Value.bool false, str ([107]), str ([])].toArray 49 (0, 0)))) (Value.slice l_A (l.length) (l_c)) (l) := OwnL.mono h_l (mle_un_left _ _)
      have fj22 : Rd (.sl TOp) (mun (l_i) (mone g14 (.cells [Value.bool false, str ([107]), str ([])].toArray 49 (0, 0)))) [Value.slice (some ⟨g14, 0, none⟩) (1) (1)] ([(false, [107], [])]) := OwnL.rd ho19 hj20 (mle_nil _)
      obtain ⟨cs18, hA18, hC18⟩ := fj21
      refine VO.app 101 rfl rfl rfl tsl61 tz52 rfl rfl hA18 (.row 117 _ _ _ 1 1 _ _ Try.underlying61 rfl (cellsAt_one rfl rfl)) (by simp [Value.oneCell']) (by simp only [maxLen]; (first | omega | (simp only [List.length_append, List.length_nil, List.length_cons, List.length_take, List.length_drop] at *; omega))) (by first | omega | (simp only [List.length_append, List.length_nil, List.length_cons, List.length_take, List.length_drop] at *; omega)) (by decide) (fun v18 m18 hN18 => ?_)
      have ho18 : OwnL TCommit 52 m18 (mun (l_i) (mone g14 (.cells [Value.bool false, str ([107]), str ([])].toArray 49 (0, 0)))) v18 (l ++ [(1, ((i : Nat) : Int), [(false, [107], [])])]) := OwnL.one hC18 hN18 (mk_Commit (m := (mun (l_i) (mone g14 (.cells [Value.bool false, str ([107]), str ([])].toArray 49 (0, 0))))) (1, ((i : Nat) : Int), [(false, [107], [])]) (by simp only [inK]; (first | omega | (simp only [List.length_append, List.length_nil, List.length_cons, List.length_take, List.length_drop] at *; omega))) (by simp only [inK]; (first | omega | (simp only [List.length_append, List.length_nil, List.length_cons, List.length_take, List.length_drop] at *; omega))) (Rd.mono fj22 (mle_refl _)))
      obtain ⟨A18, c18, rfl, l18, k18⟩ := ho18.slice
      simp only [maxLen] at k18
      refine VO.y rfl (.as rfl) ?_
      refine VO.esub [(0, _), (1, _), (2, _), (3, _), (5, _), (9, _)] ⟨rfl, rfl, rfl, rfl, rfl, rfl, trivial⟩ (VO.nil ?_)
      refine outBN ?_
      refine outN ?_
      refine VC.reg ?_
      refine VO.y rfl (.mv rfl) ?_
      refine VO.y rfl (.add (c := ((i + 1 : Nat) : Int)) rfl rfl (by omega) ⟨by first | omega | (simp only [List.length_append, List.length_nil, List.length_cons, List.length_take, List.length_drop] at *; omega), by first | omega | (simp only [List.length_append, List.length_nil, List.length_cons, List.length_take, List.length_drop] at *; omega)⟩) ?_
      refine VO.y rfl (.as rfl) ?_
      refine VO.esub [(0, _), (1, _), (2, _), (3, _), (5, _), (9, _)] ⟨rfl, rfl, rfl, rfl, rfl, rfl, trivial⟩ (VO.nil ?_)
      exact outN ⟨⟨i + 1, l ++ [(1, ((i : Nat) : Int), [(false, [107], [])])], A18, c18, m18, mun (l_i) (mone g14 (.cells [Value.bool false, str ([107]), str ([])].toArray 49 (0, 0)))⟩, ⟨by omega, by omega, by exact exC_next hl h1 (by omega) (by first | (rw [if_pos (by omega)]; done) | (rw [if_neg (by omega)]; done)), ho18⟩, by first | omega | (simp only [List.length_append, List.length_nil, List.length_cons, List.length_take, List.length_drop] at *; omega), ⟨⟨rfl, rfl, rfl, trivial⟩, fun _ h => h.sub [102, 101, 0]⟩⟩
  · -- F
    refine VC.exit ?_
    refine outE ?_
    refine outE ?_
    refine outBB ?_
    refine outN ?_
    refine VC.rs ?_
    refine VO.y rfl (.mv rfl) ?_
    refine VO.y rfl (.as rfl) ?_
    refine VO.esub [(0, _), (1, _), (2, _), (5, _)] ⟨rfl, rfl, rfl, rfl, trivial⟩ (VO.nil ?_)
    refine VC.ret ?_
    refine ⟨_, (mun (l_m) (l_i)), res_run (rs := [.tmp 0]) rfl (.tmp rfl .nil), fun W_ hI => ⟨?_, own_un (own_of 101 rfl rfl _ hI) (own_of 102 rfl rfl _ hI)⟩⟩
    dsimp only [packV]
    have he0 : (exC : Ty.Den (.sl TCommit)) = l := by first | rfl | (have : i = 7 := (by omega); subst this; exact hl.symm)
    refine ⟨Value.slice l_A (l.length) (l_c), ?_, ?_⟩
    rotate_left
    · rw [he0]; exact (OwnL.rd h_l (mle_un_left _ _) (mle.trans (mle_refl _) (mle_unR (hI.at (i := 101) rfl) (hI.at (i := 102) rfl))))
    first | rfl | (simp [*]; done)
end Go.Proofs.Ytfaknkkaegjdaaa
