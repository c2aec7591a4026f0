/- Part 3 of the proof of LOrphanCalls: what it needs of the library, the walks and the plain laws. Conditions: those named in each theorem. -/
import Derived.Test.YtbjkfnnabnacfaaLOrphanCallsM2
namespace Go.Proofs.Ytbjkfnnabnacfaa
section
set_option linter.unusedVariables false
theorem follows_cons {e n i : Int} {c : DCommit} {r : List DCommit} (h : (cFollowsAt e n i (c :: r)).1 = 0) : cCheck c = 0 ∧ c.2.1 = n + 1 ∧ e ≤ c.1 ∧ (cFollowsAt c.1 c.2.1 (i + 1) r).1 = 0 := by
  unfold cFollowsAt at h
  split at h
  · exact absurd h (by assumption)
  · rename_i h1
    split at h
    · cases h
    · exact ⟨Decidable.not_not.1 h1, by omega, by omega, h⟩
theorem follows_mk {e n i : Int} {c : DCommit} {r : List DCommit} (h1 : cCheck c = 0) (h2 : c.2.1 = n + 1) (h3 : e ≤ c.1) (h4 : (cFollowsAt c.1 c.2.1 (i + 1) r).1 = 0) : (cFollowsAt e n i (c :: r)).1 = 0 := by
  unfold cFollowsAt
  rw [if_neg (by omega), if_neg (by omega)]
  exact h4
theorem follows_idx : ∀ {l : List DCommit} {e n i : Int} (j : Int), (cFollowsAt e n i l).1 = 0 → (cFollowsAt e n j l).1 = 0
  | [], _, _, _, _, _ => rfl
  | c :: r, e, n, i, j, h => by
    obtain ⟨h1, h2, h3, h4⟩ := follows_cons h
    exact follows_mk h1 h2 h3 (follows_idx (j + 1) h4)
theorem follows_get : ∀ {l : List DCommit} {e n i : Int} {k : Nat} {x : DCommit}, (cFollowsAt e n i l).1 = 0 → l[k]? = some x → x.2.1 = n + k + 1 ∧ e ≤ x.1 ∧ cCheck x = 0 ∧ ∀ j, (cFollowsAt x.1 x.2.1 j (l.drop (k + 1))).1 = 0
  | c :: r, e, n, i, 0, x, h, hx => by
    obtain ⟨h1, h2, h3, h4⟩ := follows_cons h
    simp at hx; subst hx
    exact ⟨by omega, h3, h1, fun j => follows_idx j h4⟩
  | c :: r, e, n, i, k + 1, x, h, hx => by
    obtain ⟨h1, h2, h3, h4⟩ := follows_cons h
    obtain ⟨k1, k2, k3, k4⟩ := follows_get h4 (k := k) (x := x) (by simpa using hx)
    exact ⟨by push_cast; omega, by omega, k3, k4⟩
end
section
set_option linter.unusedVariables false
theorem follows_zero : ∀ {l : List DCommit} {e n i : Int}, (cFollowsAt e n i l).1 = 0 → cFollowsAt e n i l = (0, 0)
  | [], _, _, _, _ => rfl
  | c :: r, e, n, i, h => by
    obtain ⟨h1, h2, h3, h4⟩ := follows_cons h
    unfold cFollowsAt
    rw [if_neg (by omega), if_neg (by omega)]
    exact follows_zero h4
def lastOr (e : Int) (l : List DCommit) : Int := match l.getLast? with
  | some c => c.1
  | none => e
theorem lastOr_eq {l : List DCommit} {e : Int} {k : Nat} {x : DCommit} (hx : l[k]? = some x) (h0 : k + 1 = l.length) : lastOr e l = x.1 := by
  unfold lastOr; rw [List.getLast?_eq_getElem?, show l.length - 1 = k by omega, hx]
end
section
set_option linter.unusedVariables false
set_option linter.unusedSimpArgs false
set_option maxRecDepth 4000
theorem fnOk101 : fnOk Try.prog 101 = true := by kernel_rfl
theorem CopyCommit_ok (W : World) {v0 : List Value} {d0 : DCommit} (h0 : Rd TCommit (wm W) v0 d0) (e0 : d0.2.2.length ≤ 3518437208800) : CallR Try.prog 101 [.agg v0.toArray] W (mnil) (fun v m' => ∃ (s0 : List Value), v = .agg s0.toArray ∧ Ow TCommit m' s0 (d0)) := by
  obtain ⟨p0_A2, p0_c2, rfl, p0_0, p0_1, p0_2⟩ := open_Commit (x0 := d0.1) (x1 := d0.2.1) (x2 := d0.2.2) h0
  simp only [inK] at p0_0
  simp only [inK] at p0_1
  have p0_r2 := Rd.room p0_2
  refine CallR.ofA (n := 11) Try.func101 rfl rfl rfl ?_
  refine VC.rs ?_
  refine VO.box (cs := [Value.int .i64 (d0.1), Value.int .i64 (d0.2.1), Value.slice p0_A2 (d0.2.2.length) (p0_c2)]) 102 rfl rfl rfl (fun g1 => ?_)
  refine VO.alloc 104 rfl tz32 (fun g3 => ?_)
  refine VO.k3 0 1 2 ?_
  refine VC.seq ?_
  refine VC.regD _ 7 [(0, true), (1, true), (2, true), (3, true), (4, true), (5, true), (6, false)] follows (by kernel_rfl) (fun _ h => h.sub [104, 102, 0]) ?_
  refine VD.y rfl rfl (.inl rfl) (.fa rfl tst32 rfl) ?_
  refine VD.y rfl rfl (.inl rfl) (.ld1 102 rfl tk3 rfl (cellsAt_one rfl rfl)) ?_
  refine VD.y rfl rfl (.inl rfl) (.fa rfl tst32 rfl) ?_
  refine VD.y rfl rfl (.inl rfl) (.ld1 102 rfl tk3 rfl (cellsAt_one rfl rfl)) ?_
  refine VD.y rfl rfl (.inl rfl) (.fa rfl tst32 rfl) ?_
  refine VD.y rfl rfl (.inl rfl) (.ld1 102 rfl tk30 rfl (cellsAt_one rfl rfl)) ?_
  refine VD.callN 105 rfl rfl (.inl rfl) fnOk102 rfl (fun _ h => h.sub [104, 102, 0]) (fun W hW => CopyOps_ok W (Rd.mono p0_2 (hW.at (i := 0) rfl)) bd) (fun v5 m5 hv5 => ?_)
  obtain ⟨s5_0, rfl, f5_0⟩ := hv5
  obtain ⟨A5_0, c5_0, eq5_0, l5_0, k5_0⟩ := f5_0.slice
  subst eq5_0
  simp only [maxLen] at k5_0
  refine VD.nil rfl ?_ rfl
  refine VO.y rfl (.bst (cs := [Value.int .i64 (d0.1), Value.int .i64 (d0.2.1), Value.slice A5_0 (d0.2.2.length) (c5_0)]) rfl tst32 tz32 rfl) ?_
  refine VO.store (k := 3) (c' := [Value.int .i64 (d0.1), Value.int .i64 (d0.2.1), Value.slice A5_0 (d0.2.2.length) (c5_0)]) 104 rfl rfl (.inl tk32) rfl rfl rfl rfl rfl ?_
  refine VO.k3 0 1 2 ?_
  refine outN ?_
  refine VC.ret ?_
  refine ⟨_, _, res_run (rs := [.cell 2 32]) rfl (.agg 104 rfl tk32 rfl ⟨_, _, _, mone_self _ _, Nat.le_of_ble_eq_true rfl, rfl⟩ .nil), fun W_ hI => out_of (l := [m5]) hI [105] rfl rfl (mle_refl _) (fun hS_ => ?_)⟩
  dsimp only [packV]
  have he0 : (d0 : Ty.Den TCommit) = d0 := by first | rfl | (simp [*]; done)
  refine ⟨[Value.int .i64 (d0.1), Value.int .i64 (d0.2.1), Value.slice A5_0 (d0.2.2.length) (c5_0)], ?_, ?_⟩
  rotate_left
  · rw [he0]; exact (show Ow TCommit _ _ d0 from (mkO_Commit d0.1 d0.2.1 d0.2.2 hS_ bdk bdk (OwnL.ow (Ow.ownl f5_0 rfl mnil) rfl)))
  all_goals (first | rfl | (simp [*]; done))
theorem fin0_CopyCommits_ok {P : Prop} (h : P := by first | omega | (simp only [List.length_append, List.length_nil, List.length_cons, List.length_take, List.length_drop] at *; omega) | exact e1 _ (List.mem_of_getElem? ‹d0[_]? = some _›)) : P := h
theorem CopyCommits_ok (W : World) {v0 : Value} {d0 : List DCommit} (h0 : Rd (.sl TCommit) (wm W) [v0] d0) (e0 : d0.length ≤ 3518437200000) (e1 : ∀ c ∈ d0, c.2.2.length ≤ 3518437208800) : CallR Try.prog 67 [v0] W (mnil) (fun v m' => ∃ (s0 : Value), v = s0 ∧ Ow (.sl TCommit) m' [s0] (d0)) := by
  obtain ⟨A0, c0, rfl, l0, k0⟩ := h0.slice
  simp only [maxLen] at k0
  refine CallR.ofA (n := 20) Try.func67 rfl rfl rfl ?_
  refine VC.rs ?_
  refine VO.as ?_
  refine VO.k2 0 2 ?_
  refine VC.rs ?_
  refine VO.as ?_
  refine VO.k3 0 2 3 ?_
  refine VC.seq ?_
  refine VC.rs ?_
  refine VO.as ?_
  refine VO.kp [0] [(0, wm W)] ?_
  refine VO.k4 0 2 3 4 ?_
  refine VC.block ?_
  refine VC.inv ((101, mnil) :: _) (fun _ h => h.nilc 101) ?_
  refine VC.loop (G := Nat × (List DCommit) × (Option Addr) × Nat × Mem) (fun g => [(3, Value.slice (g.2.2.1) ((g.2.1).length) ((g.2.2.2.1))), (4, Value.int .i64 ((((g.1) : Nat) : Int))), (0, Value.slice A0 (d0.length) (c0)), (2, Value.slice none (0) (0))]) (fun g => [(101, (g.2.2.2.2)), (0, wm W)]) (fun g => ((g.1) ≤ d0.length) ∧ ((g.2.1) = d0.take (g.1)) ∧ (Ow (.sl TCommit) (g.2.2.2.2) [.slice (g.2.2.1) (g.2.1).length (g.2.2.2.1)] (g.2.1))) (fun g => d0.length - (g.1)) (0, [], none, 0, mnil) (⟨by omega, by rfl, (Ow.nil TCommit mnil)⟩) ⟨⟨rfl, rfl, rfl, rfl, trivial⟩, fun _ h => h.sub [101, 0]⟩ ?_
  rintro ⟨k, out, out_A, out_c, out_m⟩ ⟨hk, ho, h_out⟩
  replace hk : k ≤ d0.length := hk
  replace ho : out = d0.take k := ho
  replace h_out : Ow (.sl TCommit) out_m [.slice out_A out.length out_c] out := h_out
  show VC _ _ _ _ _ [(3, Value.slice out_A (out.length) (out_c)), (4, Value.int .i64 (((k : Nat) : Int))), (0, Value.slice A0 (d0.length) (c0)), (2, Value.slice none (0) (0))] [(101, out_m), (0, wm W)]
  have l_out : out.length ≤ out_c := by obtain ⟨_, _, he, hl, _⟩ := h_out.slice; simp only [Value.slice.injEq] at he; omega
  have k_out : out_c ≤ 9223372036854775807 := by obtain ⟨_, _, he, _, hl⟩ := h_out.slice; simp only [Value.slice.injEq, maxLen] at he hl; omega
  have hlo : out.length ≤ k := by rw [ho]; simp; omega
  refine VC.seq ?_
  refine VC.rs ?_
  refine VO.mv ?_
  refine VO.mv ?_
  refine VO.y rfl (.lenS rfl tsl22) ?_
  refine VO.y rfl (.lss rfl rfl) ?_
  refine VO.k5 0 2 3 4 8 ?_
  refine VC.cond rfl (fun hc2 => ?_) (fun hc2 => ?_)
  · -- T
    refine VC.skip ?_
    refine outN ?_
    refine VC.seq ?_
    refine VC.block ?_
    refine VC.reg ?_
    refine VO.mv ?_
    refine VO.mv ?_
    refine VO.mv ?_
    obtain ⟨x3, hx3⟩ : ∃ z_, (d0)[k]? = some z_ := ⟨_, List.getElem?_eq_getElem (by exact fin0_CopyCommits_ok)⟩
    obtain ⟨gg3, oo3, ec3, ea3, hce3, hre3⟩ := h0.elem hx3
    cases ea3
    obtain ⟨q3_A2, q3_c2, rfl, q3_0, q3_1, q3_2⟩ := open_Commit (x0 := x3.1) (x1 := x3.2.1) (x2 := x3.2.2) hre3
    simp only [inK] at q3_0
    simp only [inK] at q3_1
    have q3_r2 := Rd.room q3_2
    refine VO.y rfl (.ixI k rfl rfl tsl22 rfl (by exact fin0_CopyCommits_ok)) ?_
    refine VO.y rfl (.ldA 0 rfl tk32 rfl hce3) ?_
    refine VO.callN 104 rfl fnOk101 rfl (fun W hW => CopyCommit_ok W (Rd.mono hre3 (hW.at (i := 0) rfl)) (by exact fin0_CopyCommits_ok)) (fun v4 m4 hv4 => ?_)
    obtain ⟨s4_0, rfl, f4_0⟩ := hv4
    obtain ⟨q4_0_A2, q4_0_c2, q4_0_n2, rfl, q4_0_S, q4_0_0, q4_0_1, q4_0_2⟩ := openO_Commit (x0 := x3.1) (x1 := x3.2.1) (x2 := x3.2.2) f4_0
    simp only [inK] at q4_0_0
    simp only [inK] at q4_0_1
    have q4_0_r2 := q4_0_2.rm
    refine VO.inv _ (fun _ h => h.parts (i := 104) rfl q4_0_S [105]) ?_
    refine VO.bsl (cs := [Value.int .i64 (x3.1), Value.int .i64 (x3.2.1), Value.slice q4_0_A2 (x3.2.2.length) (q4_0_c2)]) 107 rfl rfl tsl22 tz32 rfl rfl (fun g6 => ?_)
    refine VO.appO (e := TCommit) 101 105 107 rfl rfl rfl tsl22 tz32 rfl rfl rfl rfl h_out (show Ow TCommit _ _ x3 from (mkO_Commit x3.1 x3.2.1 x3.2.2 (Seps.one (mle_refl _)) (by simp only [inK]; (exact fin0_CopyCommits_ok)) (by simp only [inK]; (exact fin0_CopyCommits_ok)) (OwnL.ow (Ow.ownl q4_0_2 rfl mnil) rfl))) Try.underlying22 (cellsAt_one rfl rfl) (by simp only [maxLen]; (exact fin0_CopyCommits_ok)) (by exact fin0_CopyCommits_ok) (by decide) (fun v8 m8 ho8 => ?_)
    obtain ⟨A8, c8, rfl, l8, k8⟩ := ho8.slice
    simp only [maxLen] at k8
    refine VO.as ?_
    refine VO.k5 0 2 3 4 8 ?_
    refine outBN ?_
    refine outN ?_
    refine VC.reg ?_
    refine VO.mv ?_
    refine VO.y rfl (.add (c := ((k + 1 : Nat) : Int)) rfl rfl (by omega) ⟨by exact fin0_CopyCommits_ok, by exact fin0_CopyCommits_ok⟩) ?_
    refine VO.as ?_
    refine VO.kp [101, 0] [(101, m8), (0, wm W)] ?_
    refine VO.k5 0 2 3 4 8 ?_
    exact outN ⟨⟨k + 1, out ++ [x3], A8, c8, m8⟩, ⟨by omega, by rw [ho]; exact (take_one ‹_›).symm, ho8⟩, by exact fin0_CopyCommits_ok, ⟨⟨rfl, rfl, rfl, rfl, trivial⟩, fun _ h => Inv.sub h [101, 0]⟩⟩
  · -- F
    refine VC.exit ?_
    refine outE ?_
    refine outE ?_
    refine outBB ?_
    refine outN ?_
    refine VC.rs ?_
    refine VO.mv ?_
    refine VO.as ?_
    refine VO.k5 0 2 3 4 8 ?_
    refine VC.ret ?_
    refine ⟨_, _, res_run (rs := [.tmp 2]) rfl (.tmp rfl .nil), fun W_ hI => out_of (l := [out_m]) hI [101] rfl rfl (mle_refl _) (fun hS_ => ?_)⟩
    dsimp only [packV]
    have he0 : (d0 : Ty.Den (.sl TCommit)) = out := by first | rfl | (rw [ho, List.take_of_length_le (by omega)])
    refine ⟨Value.slice out_A (out.length) (out_c), ?_, ?_⟩
    rotate_left
    · rw [he0]; exact (Ow.up h_out (hS_.1 _ (.head _)))
    all_goals (first | rfl | (simp [*]; done))
end
section
set_option linter.unusedVariables false
theorem vgo_back : ∀ {b : Bytes} {i x y n : Nat}, x < 2 ^ (7 * i) → i ≤ 9 → vgo i x b = some (y, n) → ∃ v, y = x + v * 2 ^ (7 * i) ∧ b = venc v ++ b.drop (n - i) ∧ n = i + (venc v).length ∧ (1 ≤ v ∨ i = 0)
  | [], _, _, _, _, _, _, h => by cases h
  | c :: r, i, x, y, n, hx, hi, h => by
    unfold vgo at h
    split at h
    · cases h
    · rename_i h0
      obtain ⟨t1, t2, t3⟩ := top_add hx hi h0
      have hc := c.toNat_lt
      split at h
      · rename_i h1
        obtain ⟨v, e1, e2, e3, e4⟩ := vgo_back (t3 (by omega)) (by omega) h
        have hv : 1 ≤ v := by omega
        have hd : venc (c.toNat % 128 + 128 * v) = c :: venc v := by
          rw [venc, dif_neg (by omega), show (c.toNat % 128 + 128 * v) / 128 = v by omega, show (c.toNat % 128 + 128 * v) % 128 + 128 = c.toNat by omega]
          simp
        refine ⟨c.toNat % 128 + 128 * v, ?_, ?_, ?_, .inl (by omega)⟩
        · rw [e1, pow_next, Nat.add_mul, Nat.add_assoc, Nat.mul_left_comm, Nat.mul_assoc]
        · rw [hd, show n - i = (n - (i + 1)) + 1 by omega, List.drop_succ_cons, List.cons_append, ← e2]
        · rw [hd, e3, List.length_cons]; omega
      · rename_i h1
        split at h
        · cases h
        · rename_i h2
          simp only [Option.some.injEq, Prod.mk.injEq] at h
          obtain ⟨rfl, rfl⟩ := h
          have hd : venc c.toNat = [c] := by rw [venc, dif_pos (by omega)]; simp
          have hm : c.toNat % 128 = c.toNat := Nat.mod_eq_of_lt (by omega)
          refine ⟨c.toNat, by rw [hm], by rw [hd, show i + 1 - i = 1 by omega]; rfl, by rw [hd]; rfl, by omega⟩
theorem vread_back {b : Bytes} {x n : Nat} (h : vread b = some (x, n)) : b = venc x ++ b.drop n ∧ n = (venc x).length := by
  obtain ⟨v, e1, e2, e3, _⟩ := vgo_back (by decide) (by decide) h
  have : x = v := by simpa using e1
  subst this
  exact ⟨by simpa using e2, by omega⟩
theorem vgo_there : ∀ (v : Nat) {i x : Nat} (r : Bytes), x < 2 ^ (7 * i) → i ≤ 9 → x + v * 2 ^ (7 * i) < 18446744073709551616 → (1 ≤ v ∨ i = 0) → vgo i x (venc v ++ r) = some (x + v * 2 ^ (7 * i), i + (venc v).length) := by
  intro v
  induction v using Nat.strongRecOn with
  | ind v ih =>
    intro i x r hx hi hlt h1
    have h9 : i = 9 → v ≤ 1 := by
      intro h
      subst h
      have : (2 : Nat) ^ (7 * 9) = 9223372036854775808 := by decide
      rw [this] at hlt
      omega
    by_cases hv : v < 128
    · rw [venc, dif_pos hv]
      have ec : (UInt8.ofNat v).toNat = v := by simp; omega
      have h0 : ¬ (i = 9 ∧ (UInt8.ofNat v).toNat > 1) := by rw [ec]; omega
      obtain ⟨t1, t2, t3⟩ := top_add hx hi h0
      show (if _ then _ else _) = _
      rw [if_neg h0, if_neg (by rw [ec]; omega), if_neg (by rw [ec]; omega), ec, Nat.mod_eq_of_lt hv]
      rfl
    · rw [venc, dif_neg hv]
      have ec : (UInt8.ofNat (v % 128 + 128)).toNat = v % 128 + 128 := by simp; omega
      have h0 : ¬ (i = 9 ∧ (UInt8.ofNat (v % 128 + 128)).toNat > 1) := by rw [ec]; omega
      obtain ⟨t1, t2, t3⟩ := top_add hx hi h0
      have e : x + (v % 128 + 128) % 128 * 2 ^ (7 * i) + v / 128 * 2 ^ (7 * (i + 1)) = x + v * 2 ^ (7 * i) := by
        rw [pow_next, ← Nat.mul_assoc, Nat.add_assoc, ← Nat.add_mul]
        congr 2
        omega
      show (if _ then _ else _) = _
      rw [if_neg h0, if_pos (by rw [ec]; omega)]
      show vgo _ _ (venc (v / 128) ++ r) = _
      rw [ih (v / 128) (by omega) r (t3 (by omega)) (by omega) (by rw [ec, e]; exact hlt) (by omega), ec, e, List.length_cons]
      congr 2
      omega
theorem vread_there {x : Nat} (h : x < 18446744073709551616) (r : Bytes) : vread (venc x ++ r) = some (x, (venc x).length) := by
  have := vgo_there x (i := 0) (x := 0) r (by decide) (by decide) (by simpa using h) (.inr rfl)
  rw [Nat.mul_zero, Nat.pow_zero, Nat.mul_one, Nat.zero_add, Nat.zero_add] at this
  exact this
theorem drop_past {B e r : Bytes} {a : Nat} (h : B.drop a = e ++ r) : B.drop (a + e.length) = r := by
  rw [← List.drop_drop, h]; simp
theorem drop_len {B e r : Bytes} {a : Nat} (h : B.drop a = e ++ r) : B.length - a = e.length + r.length := by
  rw [← List.length_drop, h, List.length_append]
theorem shared_take : ∀ (a b : Bytes), a.take (shared a b) = b.take (shared a b)
  | [], b => by rw [shared_nil_left]; rfl
  | a, [] => by rw [shared_nil_right]; rfl
  | x :: a, y :: b => by
    unfold shared
    split
    · rename_i h; rw [List.take_succ_cons, List.take_succ_cons, h, shared_take a b]
    · rfl
theorem drop_le {B e r : Bytes} {a : Nat} (h : B.drop a = e ++ r) (ha : a ≤ B.length) : a + e.length ≤ B.length := by have := drop_len h; omega
section
variable {B last : Bytes} {m : Int} {s e : RS} {x : Int} {t : Bytes}
theorem num_back (hs : rOk B s) (hm : m ≤ 9223372036854775807) (h : rNum B m s = (x, e)) (he : e.2 = false) : s.2 = false ∧ 0 ≤ x ∧ (x ≤ m) ∧ rOk B e ∧ B.drop s.1.toNat = venc x.toNat ++ B.drop e.1.toNat := by
  have hok := rNum_ok (m := m) hs hm
  rw [h] at hok
  by_cases h0 : s.2 = true
  · rw [rNum_bad h0] at h
    cases h
    rw [h0] at he; cases he
  · have h0 : s.2 = false := by simpa using h0
    by_cases h1 : sE (B.drop s.1.toNat) m = 0
    · rw [rNum_some h0 h1] at h
      have hb := s_bounds (B.drop s.1.toNat) m hm
      cases h
      unfold sE sX sN vsmall at *
      cases hv : vread (B.drop s.1.toNat) with
      | none => rw [hv] at h1; cases h1
      | some p =>
        obtain ⟨y, n⟩ := p
        rw [hv] at h1 hb hok
        dsimp only at h1 hb hok ⊢
        by_cases hy : (y : Int) ≤ m
        · rw [if_pos hy] at hok ⊢
          dsimp only at hok ⊢
          obtain ⟨e1, e2⟩ := vread_back hv
          refine ⟨h0, by omega, hy, hok.1, ?_⟩
          rw [show (s.1 + (n : Int)).toNat = s.1.toNat + n by have := hs.1; omega, ← List.drop_drop]
          exact e1
        · rw [if_neg hy] at h1; cases h1
    · rw [rNum_none h0 h1] at h
      cases h
      cases he
theorem num_there {a : Nat} {x : Nat} {r : Bytes} (h : B.drop a = venc x ++ r) (hx : (x : Int) ≤ m) (hm : m ≤ 9223372036854775807) : rNum B m ((a : Int), false) = ((x : Int), (((a + (venc x).length : Nat) : Int), false)) := by
  have hv := vread_there (x := x) (by omega) r
  rw [← h] at hv
  have hs : vsmall (B.drop a) m = some (x, (venc x).length) := by unfold vsmall; rw [hv]; exact if_pos hx
  have h1 : sE (B.drop a) m = 0 := by unfold sE; rw [hs]
  rw [rNum_some rfl (by simpa using h1)]
  unfold sX sN
  simp only [Int.toNat_natCast]
  rw [hs]
  simp
theorem bytes_back {n : Int} (hs : rOk B s) (hn : 0 ≤ n) (h : rBytes B n s = (t, e)) (he : e.2 = false) : s.2 = false ∧ (t.length : Int) = n ∧ rOk B e ∧ B.drop s.1.toNat = t ++ B.drop e.1.toNat := by
  obtain ⟨q1, q2⟩ := hs
  by_cases hb : s.2 = true ∨ (B.length : Int) - s.1 < n
  · rw [rBytes_bad hb] at h
    cases h
    cases he
  · have h0 : s.2 = false := by
      cases hc : s.2 with
      | false => rfl
      | true => exact absurd (.inl hc) hb
    rw [rBytes_good h0 (fun hq => hb (.inr hq))] at h
    have hlt : ¬ (B.length : Int) - s.1 < n := fun hq => hb (.inr hq)
    cases h
    refine ⟨h0, by simp only [List.length_take, List.length_drop]; omega, ⟨by simp only; omega, by simp only; omega⟩, ?_⟩
    rw [show (s.1 + n).toNat = s.1.toNat + n.toNat by omega, ← List.drop_drop, List.take_append_drop]
theorem bytes_there {a : Nat} {r : Bytes} (h : B.drop a = t ++ r) (ha : a ≤ B.length) : rBytes B t.length ((a : Int), false) = (t, (((a + t.length : Nat) : Int), false)) := by
  have hl := drop_len h
  rw [rBytes_good rfl (by simp only; omega)]
  simp only [Int.toNat_natCast]
  rw [h]; simp
theorem text_back (hs : rOk B s) (hm : m ≤ 9223372036854775807) (h : rText B m s = (t, e)) (he : e.2 = false) : s.2 = false ∧ (t.length : Int) ≤ m ∧ rOk B e ∧ B.drop s.1.toNat = venc t.length ++ (t ++ B.drop e.1.toNat) := by
  unfold rText at h
  have hk := rNum_ok (m := m) hs hm
  generalize hn : rNum B m s = p at *
  obtain ⟨x, s1⟩ := p
  dsimp only at h hk
  obtain ⟨h1, h2, h3, h4⟩ := bytes_back hk.1 hk.2.1 h he
  obtain ⟨k1, k2, k3, k4, k5⟩ := num_back hs hm hn h1
  refine ⟨k1, by omega, h3, ?_⟩
  rw [k5, h4, show x.toNat = t.length by omega]
theorem text_there {a : Nat} {r : Bytes} (h : B.drop a = venc t.length ++ (t ++ r)) (ha : a ≤ B.length) (hx : (t.length : Int) ≤ m) (hm : m ≤ 9223372036854775807) : rText B m ((a : Int), false) = (t, (((a + ((venc t.length).length + t.length) : Nat) : Int), false)) := by
  unfold rText
  have hl := drop_len h
  rw [num_there h hx hm]
  dsimp only
  rw [bytes_there (drop_past h) (by omega), Nat.add_assoc]
theorem op_back {o : DOp} (hs : rOk B s) (hl : last.length ≤ 9223372036854775000) (h : rOp B last s = (o, e)) (he : e.2 = false) : s.2 = false ∧ rOk B e ∧ B.drop s.1.toNat = encOp last o ++ B.drop e.1.toNat := by
  unfold rOp at h
  have a1 := rNum_ok (m := 1) hs (by omega)
  generalize ha : rNum B 1 s = a at *
  obtain ⟨pa, sa⟩ := a
  dsimp only at h a1
  have b1 := rNum_ok (m := (last.length : Int)) a1.1 (by omega)
  generalize hb : rNum B last.length sa = b at *
  obtain ⟨pb, sb⟩ := b
  dsimp only at h b1
  have t1 := rText_ok (m := 16) b1.1 (by omega) (by omega)
  generalize ht : rText B 16 sb = tt at *
  obtain ⟨pt, st⟩ := tt
  dsimp only at h t1
  have key : ∀ (st' : RS), st' = (st.1, st.2 || decide (¬ (shared last (last.take pb.toNat ++ pt) : Int) = pb)) → st'.2 = false → s.2 = false ∧ rOk B st' ∧ B.drop s.1.toNat = venc pa.toNat ++ (venc (shared last (last.take pb.toNat ++ pt)) ++ (venc ((last.take pb.toNat ++ pt).length - shared last (last.take pb.toNat ++ pt)) ++ ((last.take pb.toNat ++ pt).drop (shared last (last.take pb.toNat ++ pt)) ++ B.drop st'.1.toNat))) := by
    intro st' hst hf
    subst hst
    simp only [Bool.or_eq_false_iff, decide_eq_false_iff_not, Decidable.not_not] at hf
    obtain ⟨f1, f2⟩ := hf
    obtain ⟨u1, u2, u3, u4⟩ := text_back b1.1 (by omega) ht f1
    obtain ⟨v1, v2, v3, v4, v5⟩ := num_back a1.1 (by omega) hb u1
    obtain ⟨w1, w2, w3, w4, w5⟩ := num_back hs (by omega) ha v1
    refine ⟨w1, ⟨u3.1, u3.2⟩, ?_⟩
    have hlen : (last.take pb.toNat).length = pb.toNat := by simp; omega
    have hsh : shared last (last.take pb.toNat ++ pt) = pb.toNat := by omega
    rw [hsh, w5, v5, u4]
    congr 2
    rw [List.length_append, hlen, show pb.toNat + pt.length - pb.toNat = pt.length by omega]
    congr 1
    rw [List.drop_append, hlen, Nat.sub_self, List.drop_zero, List.drop_of_length_le (Nat.le_of_eq hlen)]
    simp
  by_cases hp : pa = 1
  · rw [if_pos hp] at h
    generalize hv : rText B 32 (st.1, st.2 || decide (¬ (shared last (last.take pb.toNat ++ pt) : Int) = pb)) = vv at *
    obtain ⟨pv, sv⟩ := vv
    cases h
    have hok : rOk B (st.1, st.2 || decide (¬ (shared last (last.take pb.toNat ++ pt) : Int) = pb)) := ⟨t1.1.1, t1.1.2⟩
    obtain ⟨x1, x2, x3, x4⟩ := text_back hok (by omega) hv he
    obtain ⟨y1, y2, y3⟩ := key _ rfl x1
    refine ⟨y1, x3, ?_⟩
    rw [y3, hp, x4, enc_put rfl]
    simp [venc_last]
  · rw [if_neg hp] at h
    cases h
    obtain ⟨y1, y2, y3⟩ := key _ rfl he
    refine ⟨y1, y2, ?_⟩
    rw [show pa = 0 by omega] at y3
    rw [y3, enc_del rfl]
    simp [venc_last]
theorem op_there {a : Nat} {o : DOp} {r : Bytes} (h : B.drop a = encOp last o ++ r) (ha : a ≤ B.length) (ho : opOk o) (hl : last.length ≤ 9223372036854775000) : rOp B last ((a : Int), false) = (o, (((a + (encOp last o).length : Nat) : Int), false)) := by
  obtain ⟨o1, o2, o3, o4⟩ := ho
  have hsl := shared_le last o.2.1
  have hkey : last.take (shared last o.2.1) ++ o.2.1.drop (shared last o.2.1) = o.2.1 := by rw [shared_take last o.2.1, List.take_append_drop]
  obtain ⟨p, k, v⟩ := o
  dsimp only at *
  have e16 : k.length - shared last k = (k.drop (shared last k)).length := by simp
  have hen : encOp last (p, k, v) = venc (if p = true then 1 else 0) ++ (venc (shared last k) ++ (venc (k.drop (shared last k)).length ++ (k.drop (shared last k) ++ (if p = true then venc v.length ++ v else [])))) := by
    unfold encOp
    dsimp only
    rw [← e16]
    cases p <;> simp [venc_last]
  rw [hen] at h ⊢
  have hL := drop_le h ha
  rw [List.append_assoc] at h
  have n1 := num_there (B := B) (m := 1) h (by split <;> omega) (by omega)
  have h2 := drop_past h
  have l2 := drop_le h ha
  rw [List.append_assoc] at h2
  have n2 := num_there (B := B) (m := last.length) h2 (by omega) (by omega)
  have h3 := drop_past h2
  have l3 := drop_le h2 l2
  rw [List.append_assoc, List.append_assoc] at h3
  have n3 := text_there (B := B) (m := 16) h3 l3 (by simp only [List.length_drop]; omega) (by omega)
  have h4 := drop_past (drop_past h3)
  have l4 := drop_le (drop_past h3) (drop_le h3 l3)
  unfold rOp
  dsimp only
  rw [n1]
  dsimp only
  rw [n2]
  dsimp only
  rw [n3]
  dsimp only
  rw [Int.toNat_natCast, hkey]
  have eb : (false || decide (¬ (shared last k : Int) = (shared last k : Int))) = false := by simp
  rw [eb]
  cases p with
  | true =>
    simp only [if_true] at h4 l4 ⊢
    rw [if_pos (by rfl)]
    rw [List.append_assoc] at h4
    have n4 := text_there (B := B) (m := 32) h4 l4 (by omega) (by omega)
    rw [Nat.add_assoc] at n4
    rw [n4]
    simp only [List.length_append, Nat.add_assoc]
  | false =>
    simp only [Bool.false_eq_true, if_false]
    rw [if_neg (by decide)]
    have : v = [] := by simpa using o4
    subst this
    simp only [List.length_append, List.length_nil, Nat.add_assoc, Nat.add_zero]
end
theorem pOps_back {B : Bytes} : ∀ (n : Nat) {last : Bytes} {s e : RS} {l : List DOp}, rOk B s → last.length + 16 * n ≤ 1000000 → pOps B n last s = (l, e) → e.2 = false → s.2 = false ∧ rOk B e ∧ B.drop s.1.toNat = encOps last l ++ B.drop e.1.toNat ∧ l.length = n
  | 0, last, s, e, l, hs, hl, h, he => by
    cases h
    exact ⟨he, hs, rfl, rfl⟩
  | n + 1, last, s, e, l, hs, hl, h, he => by
    unfold pOps at h
    by_cases h0 : s.2 = true
    · rw [if_pos h0] at h
      cases h
      rw [h0] at he; cases he
    · rw [if_neg h0] at h
      have hk := rOp_ok (last := last) hs (by omega)
      generalize ho : rOp B last s = p at *
      obtain ⟨o, s1⟩ := p
      dsimp only at h hk
      generalize hr : pOps B n o.2.1 s1 = q at *
      obtain ⟨l1, e1⟩ := q
      cases h
      obtain ⟨a1, a2, a3, a4⟩ := pOps_back n hk.1 (by omega) hr he
      obtain ⟨b1, b2, b3⟩ := op_back hs (by omega) ho a1
      refine ⟨b1, a2, ?_, by simp [a4]⟩
      rw [b3, a3, encOps, List.append_assoc]
theorem pOps_there {B : Bytes} : ∀ {l : List DOp} {last : Bytes} {a : Nat} {r : Bytes}, B.drop a = encOps last l ++ r → a ≤ B.length → (∀ o ∈ l, opOk o) → last.length ≤ 16 → pOps B l.length last ((a : Int), false) = (l, (((a + (encOps last l).length : Nat) : Int), false))
  | [], last, a, r, h, ha, ho, hl => rfl
  | o :: l, last, a, r, h, ha, ho, hl => by
    rw [encOps, List.append_assoc] at h
    have h1 := op_there h ha (ho o (.head _)) (by omega)
    have h2 := pOps_there (drop_past h) (drop_le h ha) (fun o h => ho o (.tail _ h)) (ho o (.head _)).2.1
    rw [List.length_cons]
    unfold pOps
    rw [if_neg (by simp), h1]
    dsimp only
    rw [h2, encOps, List.length_append, Nat.add_assoc]
theorem bRead_back {B : Bytes} {l : List DOp} {n : Int} (h : bRead B = (l, n, 0)) : batchCheck l = 0 ∧ 0 ≤ n ∧ n ≤ B.length ∧ B = batchEnc l ++ B.drop n.toNat := by
  have h0 : rOk B (0, false) := ⟨Int.le_refl _, by simp⟩
  have hk := rNum_ok (m := 8) h0 (by omega)
  unfold bRead at h
  generalize hn : rNum B 8 (0, false) = p at *
  obtain ⟨k, s⟩ := p
  dsimp only at h hk
  generalize hr : pOps B k.toNat [] s = q at *
  obtain ⟨l1, e⟩ := q
  dsimp only at h
  by_cases hb : e.2 = true ∨ ¬ batchCheck l1 = 0
  · rw [if_pos hb] at h
    simp at h
  · rw [if_neg hb] at h
    have he : e.2 = false := by
      cases hc : e.2 with
      | false => rfl
      | true => exact absurd (.inl hc) hb
    have hc : batchCheck l1 = 0 := Decidable.byContradiction fun hq => hb (.inr hq)
    cases h
    obtain ⟨a1, a2, a3, a4⟩ := pOps_back _ hk.1 (by have := hk.2.2.2.1 (by omega); simp; omega) hr he
    obtain ⟨b1, b2, b3, b4, b5⟩ := num_back h0 (by omega) hn a1
    refine ⟨hc, a2.1, a2.2, ?_⟩
    have e0 : B = B.drop ((0 : Int), false).1.toNat := rfl
    rw [batchEnc, a4, List.append_assoc, ← a3, ← b5]; rfl
theorem bRead_there {l : List DOp} (h : batchCheck l = 0) (r : Bytes) : bRead (batchEnc l ++ r) = (l, ((batchEnc l).length : Int), 0) := by
  have hl := batch_len h
  have h1 : (batchEnc l ++ r).drop 0 = venc l.length ++ (encOps [] l ++ r) := by rw [batchEnc, List.append_assoc]; rfl
  have n1 := num_there (m := 8) h1 (by omega) (by omega)
  have n2 := pOps_there (drop_past h1) (drop_le h1 (Nat.zero_le _)) (fun o ho => batchCheck_mem h ho) (Nat.zero_le _)
  unfold bRead
  rw [show ((0 : Int), false) = (((0 : Nat) : Int), false) from rfl, n1]
  dsimp only
  rw [Int.toNat_natCast, n2]
  dsimp only
  rw [if_neg (by rw [h]; decide)]
  simp [batchEnc]
theorem bRead_cases (B : Bytes) : (bRead B).2.2 = 0 ∨ bRead B = ([], 0, 5) := by
  unfold bRead
  dsimp only
  split
  · exact .inr rfl
  · exact .inl rfl
theorem bRead_fits (B : Bytes) : (bRead B).1.length ≤ 8 ∧ 0 ≤ (bRead B).2.1 ∧ (bRead B).2.1 ≤ B.length ∧ ((bRead B).2.2 = 0 ∨ (bRead B).2.2 = 5) := by
  rcases bRead_cases B with h0 | h0
  · generalize hp : bRead B = p at *
    obtain ⟨m, n, f⟩ := p
    dsimp only at h0
    subst h0
    obtain ⟨a1, a2, a3, a4⟩ := bRead_back hp
    exact ⟨(batch_len a1).2, a2, a3, .inl rfl⟩
  · rw [h0]; exact ⟨by decide, by decide, by simp, .inr rfl⟩
theorem encOps_len : ∀ {l : List DOp} {last : Bytes}, (∀ o ∈ l, opOk o) → (encOps last l).length ≤ 79 * l.length
  | [], _, _ => by simp [encOps]
  | o :: l, last, h => by
    have h1 := encOp_len (last := last) (h o (.head _))
    have h2 := encOps_len (l := l) (last := o.2.1) (fun o h' => h o (.tail _ h'))
    rw [encOps, List.length_append, List.length_cons]; omega
theorem batchEnc_len {l : List DOp} (h : batchCheck l = 0) : (batchEnc l).length ≤ 642 := by
  have h1 := encOps_len (last := []) (fun o ho => batchCheck_mem h ho)
  have h2 := (batch_len h).2
  have h3 := venc_len (x := l.length) (by omega)
  unfold batchEnc; rw [List.length_append]; omega
theorem bAppend_len (b : Bytes) (l : List DOp) : (bAppend b l).1.length ≤ b.length + 642 := by
  unfold bAppend
  split
  · rename_i h; have := batchEnc_len h; simp; omega
  · simp
end
section
set_option linter.unusedVariables false
set_option linter.unusedSimpArgs false
set_option maxRecDepth 4000
theorem fnOk113 : fnOk Try.prog 113 = true := by kernel_rfl
theorem fnOk116 : fnOk Try.prog 116 = true := by kernel_rfl
theorem fnOk118 : fnOk Try.prog 118 = true := by kernel_rfl
theorem fnOk121 : fnOk Try.prog 121 = true := by kernel_rfl
theorem fnOk123 : fnOk Try.prog 123 = true := by kernel_rfl
theorem fnOk54 : fnOk Try.prog 54 = true := by kernel_rfl
theorem fnOk95 : fnOk Try.prog 95 = true := by kernel_rfl
theorem tz135 : tz Try.prog 135 = some [.slice none 0 0, .int .i64 0, .bool false] := by kernel_rfl
theorem fin0_bRead_ok {P : Prop} (h : P := by have hf := ops_end hp (by first | exact .inl (by omega) | exact .inr (by assumption)); first | (rw [bRead_bad (Prod.ext hf.1 hf.2) (by first | exact .inl (by assumption) | exact .inr (by assumption))] <;> rfl) | (rw [bRead_good (Prod.ext hf.1 hf.2) (by assumption) (by omega)] <;> rfl)) : P := h
theorem bRead_ok (W : World) {v0 : Value} {d0 : List UInt8} (h0 : Rd (.sl .byte) (wm W) [v0] d0) : CallR Try.prog 112 [v0] W (mnil) (fun v m' => ∃ (s0 : Value), v = .tuple #[s0, .int .i64 ((bRead d0).2.1), .int .i64 ((bRead d0).2.2)] ∧ Ow (.sl TOp) m' [s0] ((bRead d0).1)) := by
  obtain ⟨A0, c0, rfl, l0, k0⟩ := h0.slice
  simp only [maxLen] at k0
  refine CallR.ofA (n := 48) Try.func112 rfl rfl rfl ?_
  refine VC.rs ?_
  refine VO.as ?_
  refine VO.as ?_
  refine VO.as ?_
  refine VO.k4 0 2 3 4 ?_
  refine VC.rs ?_
  refine VO.mv ?_
  refine VO.y rfl (.bst (cs := [Value.slice A0 (d0.length) (c0), Value.int .i64 (0), Value.bool false]) rfl tst135 tz135 rfl) ?_
  refine VO.box (cs := [Value.slice A0 (d0.length) (c0), Value.int .i64 (0), Value.bool false]) 102 rfl rfl rfl (fun g1 => ?_)
  refine VO.as ?_
  refine VO.k5 0 2 3 4 5 ?_
  refine VC.rs ?_
  refine VO.as ?_
  refine VO.kp [102, 0] [(102, mone g1 (.cells [Value.slice A0 (d0.length) (c0), Value.int .i64 (0), Value.bool false].toArray 135 (0, 0))), (0, wm W)] ?_
  refine VO.k6 0 2 3 4 5 6 ?_
  refine VC.seq ?_
  refine VC.rs ?_
  refine VO.mv ?_
  refine VO.call 102 rfl fnOk120 rfl rfl (fun W hW => bNum_ok W (d0 := (d0, 0, false)) (hW.at (i := 102) rfl) (Rd.mono h0 (hW.out (i := 102) (j := 0) rfl rfl)) bdk 8 bdk (by first | assumption | exact ⟨by omega, by omega⟩ | exact ⟨by (simp; done), by (simp; done)⟩)) (fun v3 m3 hv3 => ?_)
  try dsimp only at hv3
  obtain ⟨rfl, rfl, w3_0_1⟩ := hv3
  have hfa4 := (rNum_ok (B := d0) (m := 8) (s := (0, false)) (by first | assumption | exact ⟨by omega, by omega⟩ | exact ⟨by (simp; done), by (simp; done)⟩) (by omega)).1
  have hfa5 := (rNum_ok (B := d0) (m := 8) (s := (0, false)) (by first | assumption | exact ⟨by omega, by omega⟩ | exact ⟨by (simp; done), by (simp; done)⟩) (by omega)).1.1
  have hfa6 := (rNum_ok (B := d0) (m := 8) (s := (0, false)) (by first | assumption | exact ⟨by omega, by omega⟩ | exact ⟨by (simp; done), by (simp; done)⟩) (by omega)).1.2
  have hfa7 := (rNum_ok (B := d0) (m := 8) (s := (0, false)) (by first | assumption | exact ⟨by omega, by omega⟩ | exact ⟨by (simp; done), by (simp; done)⟩) (by omega)).2
  simp only [inK] at w3_0_1
  refine VO.as ?_
  refine VO.k7 0 2 3 4 5 6 7 ?_
  refine VC.block ?_
  refine VC.inv ((108, mnil) :: _) (fun _ h => h.nilc 108) ?_
  refine VC.loop (G := Int × (List UInt8) × (List DOp) × (Option Addr) × Nat × Mem × Int × Bool) (fun g => [(2, Value.slice (g.2.2.2.1) ((g.2.2.1).length) ((g.2.2.2.2.1))), (6, str ((g.2.1))), (7, Value.int .i64 ((g.1))), (0, Value.slice A0 (d0.length) (c0)), (3, Value.int .i64 (0)), (4, Value.int .i64 (0)), (5, Value.pointer (some ⟨g1, 0, none⟩))]) (fun g => [(108, (g.2.2.2.2.2.1)), (102, mone g1 (.cells [Value.slice A0 (d0.length) (c0), Value.int .i64 ((g.2.2.2.2.2.2.1)), Value.bool (g.2.2.2.2.2.2.2)].toArray 135 (0, 0))), (0, wm W)]) (fun g => (pOps d0 (rNum d0 8 (0, false)).1.toNat [] (rNum d0 8 (0, false)).2 = ((g.2.2.1) ++ (pOps d0 (g.1).toNat (g.2.1) ((g.2.2.2.2.2.2.1), (g.2.2.2.2.2.2.2))).1, (pOps d0 (g.1).toNat (g.2.1) ((g.2.2.2.2.2.2.1), (g.2.2.2.2.2.2.2))).2)) ∧ (rOk d0 ((g.2.2.2.2.2.2.1), (g.2.2.2.2.2.2.2))) ∧ ((g.1) ≤ 8) ∧ ((g.2.2.1).length + (g.1).toNat ≤ 8) ∧ ((g.2.1).length + 16 * (g.1).toNat ≤ 128) ∧ (OwnL TOp (g.2.2.2.2.2.1) mnil (.slice (g.2.2.2.1) (g.2.2.1).length (g.2.2.2.2.1)) (g.2.2.1))) (fun g => (g.1).toNat) ((rNum d0 8 (0, false)).1, [], [], none, 0, mnil, (rNum d0 8 (0, false)).2.1, (rNum d0 8 (0, false)).2.2) (⟨by rfl, by assumption, by omega, by (simp; omega), by (simp; omega), (OwnL.nil TOp mnil mnil)⟩) ⟨⟨rfl, rfl, rfl, rfl, rfl, rfl, rfl, trivial⟩, fun _ h => h.sub [108, 102, 0]⟩ ?_
  rintro ⟨k, last, l, l_A, l_c, l_m, at_, bad⟩ ⟨hp, hok, hk, hlen, hla, h_l⟩
  replace hp : pOps d0 (rNum d0 8 (0, false)).1.toNat [] (rNum d0 8 (0, false)).2 = (l ++ (pOps d0 k.toNat last (at_, bad)).1, (pOps d0 k.toNat last (at_, bad)).2) := hp
  replace hok : rOk d0 (at_, bad) := hok
  replace hk : k ≤ 8 := hk
  replace hlen : l.length + k.toNat ≤ 8 := hlen
  replace hla : last.length + 16 * k.toNat ≤ 128 := hla
  replace h_l : OwnL TOp l_m mnil (.slice l_A l.length l_c) l := h_l
  show VC _ _ _ _ _ [(2, Value.slice l_A (l.length) (l_c)), (6, str (last)), (7, Value.int .i64 (k)), (0, Value.slice A0 (d0.length) (c0)), (3, Value.int .i64 (0)), (4, Value.int .i64 (0)), (5, Value.pointer (some ⟨g1, 0, none⟩))] [(108, l_m), (102, mone g1 (.cells [Value.slice A0 (d0.length) (c0), Value.int .i64 (at_), Value.bool bad].toArray 135 (0, 0))), (0, wm W)]
  have l_l : l.length ≤ l_c := by obtain ⟨_, _, he, hl, _⟩ := h_l.slice; simp only [Value.slice.injEq] at he; omega
  have k_l : l_c ≤ 9223372036854775807 := by obtain ⟨_, _, he, _, hl⟩ := h_l.slice; simp only [Value.slice.injEq, maxLen] at he hl; omega
  obtain ⟨hoka, hokb⟩ := (show 0 ≤ at_ ∧ at_ ≤ d0.length from hok)
  refine VC.seq ?_
  refine VC.rs ?_
  refine VO.mv ?_
  refine VO.y rfl (.gtr rfl rfl) ?_
  refine VO.mv ?_
  refine VO.dec (t := 16) rfl (fun hc9 => ?_) (fun hc9 => ?_)
  · -- T
    refine VO.gy rfl ⟨_, rfl, rfl⟩ (.mv rfl) ?_
    refine VO.gy rfl ⟨_, rfl, rfl⟩ (.nilp rfl) ?_
    refine VO.gy rfl ⟨_, rfl, rfl⟩ (.fa rfl tst135 rfl) ?_
    refine VO.gy rfl ⟨_, rfl, rfl⟩ (.ld1 102 rfl tk4 rfl (cellsAt_one rfl rfl)) ?_
    refine VO.gy rfl ⟨_, rfl, rfl⟩ (.not rfl) ?_
    refine VO.y rfl (.pT rfl rfl) ?_
    refine VO.k8 0 2 3 4 5 6 7 22 ?_
    refine VC.condBN rfl (fun hc10 => ?_) (fun hc10 => ?_)
    · -- TT
      refine VC.skip ?_
      refine outN ?_
      refine VC.seq ?_
      refine VC.block ?_
      refine VC.rs ?_
      refine VO.mv ?_
      refine VO.mv ?_
      refine VO.call 102 rfl fnOk121 rfl rfl (fun W hW => bOp_ok W (d0 := (d0, at_, bad)) (hW.at (i := 102) rfl) (Rd.mono h0 (hW.out (i := 102) (j := 0) rfl rfl)) bdk last bdm (by first | assumption | exact ⟨by omega, by omega⟩ | exact ⟨by (simp; done), by (simp; done)⟩) bd) (fun v11 m11 hv11 => ?_)
      try dsimp only at hv11
      obtain ⟨s11_0, rfl, f11_0, rfl, w11_0_1⟩ := hv11
      have hfa12 := (rOp_ok (B := d0) (last := last) (s := (at_, bad)) (by first | assumption | exact ⟨by omega, by omega⟩ | exact ⟨by (simp; done), by (simp; done)⟩) (by omega)).1
      have hfa13 := (rOp_ok (B := d0) (last := last) (s := (at_, bad)) (by first | assumption | exact ⟨by omega, by omega⟩ | exact ⟨by (simp; done), by (simp; done)⟩) (by omega)).1.1
      have hfa14 := (rOp_ok (B := d0) (last := last) (s := (at_, bad)) (by first | assumption | exact ⟨by omega, by omega⟩ | exact ⟨by (simp; done), by (simp; done)⟩) (by omega)).1.2
      have hfa15 := (rOp_ok (B := d0) (last := last) (s := (at_, bad)) (by first | assumption | exact ⟨by omega, by omega⟩ | exact ⟨by (simp; done), by (simp; done)⟩) (by omega)).2.1
      have hfa16 := (rOp_ok (B := d0) (last := last) (s := (at_, bad)) (by first | assumption | exact ⟨by omega, by omega⟩ | exact ⟨by (simp; done), by (simp; done)⟩) (by omega)).2.2
      simp only [inK] at w11_0_1
      obtain ⟨rfl, q11_0_1, q11_0_2⟩ := open_Op (x0 := ((rOp d0 last (at_, bad)).1).1) (x1 := ((rOp d0 last (at_, bad)).1).2.1) (x2 := ((rOp d0 last (at_, bad)).1).2.2) (f11_0.rd (mle_refl _))
      simp only [maxLen] at q11_0_1
      simp only [maxLen] at q11_0_2
      refine VO.alloc 118 rfl tz78 (fun g17 => ?_)
      refine VO.store (k := 3) (c' := [Value.bool (((rOp d0 last (at_, bad)).1).1), str (((rOp d0 last (at_, bad)).1).2.1), str (((rOp d0 last (at_, bad)).1).2.2)]) 118 rfl rfl (.inl tk78) rfl rfl rfl rfl rfl ?_
      refine VO.kp [118, 102, 108, 0] [(118, mone g17 (.cells [Value.bool (((rOp d0 last (at_, bad)).1).1), str (((rOp d0 last (at_, bad)).1).2.1), str (((rOp d0 last (at_, bad)).1).2.2)].toArray 78 (0, 0))), (102, mone g1 (.cells [Value.slice A0 (d0.length) (c0), Value.int .i64 ((rOp d0 last (at_, bad)).2.1), Value.bool ((rOp d0 last (at_, bad)).2.2)].toArray 135 (0, 0))), (108, l_m), (0, wm W)] ?_
      refine VO.k9 0 2 3 4 5 6 7 8 22 ?_
      refine VC.rs ?_
      refine VO.mv ?_
      refine VO.y rfl (.ldA 118 rfl tk78 rfl (cellsAt_one rfl rfl)) ?_
      refine VO.bsl (cs := [Value.bool (((rOp d0 last (at_, bad)).1).1), str (((rOp d0 last (at_, bad)).1).2.1), str (((rOp d0 last (at_, bad)).1).2.2)]) 120 rfl rfl tsl30 tz78 rfl rfl (fun g19 => ?_)
      obtain ⟨mo21, cs21, hM21, hA21, hC21⟩ := h_l
      refine VO.app 108 rfl rfl rfl tsl30 tz78 rfl rfl hM21 hA21 (.row 120 _ _ _ 1 1 _ _ Try.underlying30 rfl (cellsAt_one rfl rfl)) (by simp [Value.oneCell']) bdm bd (by decide) (fun v21 m21 hN21 => ?_)
      have ho21 : OwnL TOp m21 mnil v21 (l ++ [((rOp d0 last (at_, bad)).1)]) := OwnL.one hC21 hN21 (show Rd TOp _ _ ((rOp d0 last (at_, bad)).1) from (mk_Op (m := _) (((rOp d0 last (at_, bad)).1).1) (((rOp d0 last (at_, bad)).1).2.1) (((rOp d0 last (at_, bad)).1).2.2) bdm bdm))
      obtain ⟨A21, c21, rfl, l21, k21⟩ := ho21.slice
      simp only [maxLen] at k21
      refine VO.as ?_
      refine VO.k9 0 2 3 4 5 6 7 8 22 ?_
      refine VC.reg ?_
      refine VO.y rfl (.fa rfl tst78 rfl) ?_
      refine VO.y rfl (.ld1 118 rfl tk9 rfl (cellsAt_one rfl rfl)) ?_
      refine VO.as ?_
      refine VO.k9 0 2 3 4 5 6 7 8 22 ?_
      refine outBN ?_
      refine outN ?_
      refine VC.reg ?_
      refine VO.mv ?_
      refine VO.y rfl (.sub rfl rfl rfl ⟨bd, bd⟩) ?_
      refine VO.as ?_
      refine VO.kp [118, 102, 108, 0] [(118, mone g17 (.cells [Value.bool (((rOp d0 last (at_, bad)).1).1), str (((rOp d0 last (at_, bad)).1).2.1), str (((rOp d0 last (at_, bad)).1).2.2)].toArray 78 (0, 0))), (102, mone g1 (.cells [Value.slice A0 (d0.length) (c0), Value.int .i64 ((rOp d0 last (at_, bad)).2.1), Value.bool ((rOp d0 last (at_, bad)).2.2)].toArray 135 (0, 0))), (108, m21), (0, wm W)] ?_
      refine VO.k9 0 2 3 4 5 6 7 8 22 ?_
      exact outN ⟨⟨k - 1, ((rOp d0 last (at_, bad)).1).2.1, l ++ [((rOp d0 last (at_, bad)).1)], A21, c21, m21, (rOp d0 last (at_, bad)).2.1, (rOp d0 last (at_, bad)).2.2⟩, ⟨by exact ops_step hp (by omega) (by assumption), by assumption, by omega, by (simp only [List.length_append, List.length_cons, List.length_nil]; omega), by dsimp only; omega, ho21⟩, bd, ⟨⟨rfl, rfl, rfl, rfl, rfl, rfl, rfl, trivial⟩, fun _ h => Inv.sub h [108, 102, 0]⟩⟩
    · -- TF
      refine VC.exit ?_
      refine outE ?_
      refine outE ?_
      refine outBB ?_
      refine outN ?_
      refine VC.seq ?_
      refine VC.rs ?_
      refine VO.mv ?_
      refine VO.y rfl (.nilp rfl) ?_
      refine VO.y rfl (.fa rfl tst135 rfl) ?_
      refine VO.y rfl (.ld1 102 rfl tk4 rfl (cellsAt_one rfl rfl)) ?_
      refine VO.mv ?_
      refine VO.known (t := 38) true rfl hc10 ?_
      refine VO.gN ?_
      refine VO.gN ?_
      refine VO.gN ?_
      refine VO.y rfl (.pT rfl rfl) ?_
      refine VO.kp [108, 102, 0] [(108, l_m), (102, mone g1 (.cells [Value.slice A0 (d0.length) (c0), Value.int .i64 (at_), Value.bool bad].toArray 135 (0, 0))), (0, wm W)] ?_
      refine VO.k9 0 2 3 4 5 6 7 22 42 ?_
      refine VC.condT rfl ?_
      refine VC.rs ?_
      refine VO.as ?_
      refine VO.as ?_
      refine VO.as ?_
      refine VO.k9 0 2 3 4 5 6 7 22 42 ?_
      refine VC.ret ?_
      refine outR ?_
      refine ⟨_, _, res_run (rs := [.tmp 2, .tmp 3, .tmp 4]) rfl (.tmp rfl (.tmp rfl (.tmp rfl .nil))), fun W_ hI => out_of (l := []) hI [] rfl rfl (mle_refl _) (fun hS_ => ?_)⟩
      dsimp only [packV]
      have he0 : ((bRead d0).1 : Ty.Den (.sl TOp)) = [] := by first | rfl | (exact fin0_bRead_ok)
      refine ⟨Value.slice none (0) (0), ?_, ?_⟩
      rotate_left
      · rw [he0]; exact (Ow.nil _ _)
      all_goals (first | rfl | (exact fin0_bRead_ok))
  · -- F
    refine VO.gN ?_
    refine VO.gN ?_
    refine VO.gN ?_
    refine VO.gN ?_
    refine VO.gN ?_
    refine VO.y rfl (.pF rfl rfl) ?_
    refine VO.k8 0 2 3 4 5 6 7 22 ?_
    refine VC.condF rfl ?_
    refine VC.exit ?_
    refine outE ?_
    refine outE ?_
    refine outBB ?_
    refine outN ?_
    refine VC.seq ?_
    refine VC.rs ?_
    refine VO.mv ?_
    refine VO.y rfl (.nilp rfl) ?_
    refine VO.y rfl (.fa rfl tst135 rfl) ?_
    refine VO.y rfl (.ld1 102 rfl tk4 rfl (cellsAt_one rfl rfl)) ?_
    refine VO.mv ?_
    refine VO.decB (t := 38) rfl (fun hc22 => ?_) (fun hc22 => ?_)
    · -- FT
      refine VO.gN ?_
      refine VO.gN ?_
      refine VO.gN ?_
      refine VO.y rfl (.pT rfl rfl) ?_
      refine VO.kp [108, 102, 0] [(108, l_m), (102, mone g1 (.cells [Value.slice A0 (d0.length) (c0), Value.int .i64 (at_), Value.bool bad].toArray 135 (0, 0))), (0, wm W)] ?_
      refine VO.k9 0 2 3 4 5 6 7 22 42 ?_
      refine VC.condT rfl ?_
      refine VC.rs ?_
      refine VO.as ?_
      refine VO.as ?_
      refine VO.as ?_
      refine VO.k9 0 2 3 4 5 6 7 22 42 ?_
      refine VC.ret ?_
      refine outR ?_
      refine ⟨_, _, res_run (rs := [.tmp 2, .tmp 3, .tmp 4]) rfl (.tmp rfl (.tmp rfl (.tmp rfl .nil))), fun W_ hI => out_of (l := []) hI [] rfl rfl (mle_refl _) (fun hS_ => ?_)⟩
      dsimp only [packV]
      have he0 : ((bRead d0).1 : Ty.Den (.sl TOp)) = [] := by first | rfl | (exact fin0_bRead_ok)
      refine ⟨Value.slice none (0) (0), ?_, ?_⟩
      rotate_left
      · rw [he0]; exact (Ow.nil _ _)
      all_goals (first | rfl | (exact fin0_bRead_ok))
    · -- FF
      refine VO.gy rfl ⟨_, rfl, rfl⟩ (.mv rfl) ?_
      refine VO.gcallN 123 rfl ⟨_, rfl, rfl⟩ fnOk106 rfl (fun W hW => bCheck_ok W (OwnL.rd h_l (hW.at (i := 108) rfl) (mle_nil _))) (fun v23 m23 hv23 => ?_)
      subst hv23
      have hfa24 := batchCheck_range l
      refine VO.gy rfl ⟨_, rfl, rfl⟩ (.neq rfl rfl) ?_
      refine VO.y rfl (.pF rfl rfl) ?_
      refine VO.kp [108, 102, 0] [(108, l_m), (102, mone g1 (.cells [Value.slice A0 (d0.length) (c0), Value.int .i64 (at_), Value.bool bad].toArray 135 (0, 0))), (0, wm W)] ?_
      refine VO.k9 0 2 3 4 5 6 7 22 42 ?_
      refine VC.cond rfl (fun hc25 => ?_) (fun hc25 => ?_)
      · -- FFT
        refine VC.rs ?_
        refine VO.as ?_
        refine VO.as ?_
        refine VO.as ?_
        refine VO.k9 0 2 3 4 5 6 7 22 42 ?_
        refine VC.ret ?_
        refine outR ?_
        refine ⟨_, _, res_run (rs := [.tmp 2, .tmp 3, .tmp 4]) rfl (.tmp rfl (.tmp rfl (.tmp rfl .nil))), fun W_ hI => out_of (l := []) hI [] rfl rfl (mle_refl _) (fun hS_ => ?_)⟩
        dsimp only [packV]
        have he0 : ((bRead d0).1 : Ty.Den (.sl TOp)) = [] := by first | rfl | (exact fin0_bRead_ok)
        refine ⟨Value.slice none (0) (0), ?_, ?_⟩
        rotate_left
        · rw [he0]; exact (Ow.nil _ _)
        all_goals (first | rfl | (exact fin0_bRead_ok))
      · -- FFF
        refine VC.skip ?_
        refine outN ?_
        refine VC.seq ?_
        refine VC.regD _ 6 [(0, true), (1, true), (2, true), (3, true), (4, true), (5, true)] follows (by kernel_rfl) (fun _ h => h.sub [108, 102, 0]) ?_
        refine VD.y rfl rfl (.inl rfl) (.mv rfl) ?_
        refine VD.y rfl rfl (.inl rfl) (.mv rfl) ?_
        refine VD.y rfl rfl (.inl rfl) (.nilp rfl) ?_
        refine VD.y rfl rfl (.inl rfl) (.fa rfl tst135 rfl) ?_
        refine VD.y rfl rfl (.inl rfl) (.ld1 102 rfl tk3 rfl (cellsAt_one rfl rfl)) ?_
        refine VD.y rfl rfl (.inl rfl) (.as rfl) ?_
        refine VD.nil rfl ?_ rfl
        refine VO.as ?_
        refine VO.as ?_
        refine VO.k9 0 2 3 4 5 6 7 22 42 ?_
        refine outN ?_
        refine VC.ret ?_
        refine ⟨_, _, res_run (rs := [.tmp 2, .tmp 3, .tmp 4]) rfl (.tmp rfl (.tmp rfl (.tmp rfl .nil))), fun W_ hI => out_of (l := [l_m]) hI [108] rfl rfl (mle_refl _) (fun hS_ => ?_)⟩
        dsimp only [packV]
        have he0 : ((bRead d0).1 : Ty.Den (.sl TOp)) = l := by first | rfl | (exact fin0_bRead_ok)
        refine ⟨Value.slice l_A (l.length) (l_c), ?_, ?_⟩
        rotate_left
        · rw [he0]; exact (Ow.up (OwnL.ow h_l rfl) (hS_.1 _ (.head _)))
        all_goals (first | rfl | (exact fin0_bRead_ok))
theorem rbCheck_ok (W : World) {v0 : Value} {d0 : List DOp} (h0 : Rd (.sl TOp) (wm W) [v0] d0) : CallR Try.prog 116 [v0] W (mnil) (fun v m' => v = .int .i64 (batchCheck d0)) := by
  obtain ⟨A0, c0, rfl, l0, k0⟩ := h0.slice
  simp only [maxLen] at k0
  refine CallR.ofA (n := 25) Try.func116 rfl rfl rfl ?_
  refine VC.rs ?_
  refine VO.as ?_
  refine VO.k2 0 2 ?_
  refine VC.seq ?_
  refine VC.rs ?_
  refine VO.mv ?_
  refine VO.y rfl (.lenS rfl tsl30) ?_
  refine VO.y rfl (.eql rfl rfl) ?_
  refine VO.k3 0 2 7 ?_
  refine VC.cond rfl (fun hc1 => ?_) (fun hc1 => ?_)
  · -- T
    refine VC.rs ?_
    refine VO.as ?_
    refine VO.kp [0] [(0, wm W)] ?_
    refine VO.k3 0 2 7 ?_
    refine VC.ret ?_
    refine outR ?_
    refine ⟨_, _, res_run (rs := [.tmp 2]) rfl (.tmp rfl .nil), fun W_ hI => out_of (l := []) hI [] rfl rfl (mle_refl _) (fun hS_ => ?_)⟩
    dsimp only [packV]
    all_goals (first | rfl | (congr 1; first | exact (bcheck_empty ‹_›).symm | exact (bcheck_long ‹_›).symm | exact (bcheck_bad ‹_› ‹_› ‹d0[k]? = some _› ‹_›).symm | exact (bcheck_good ‹¬ (d0.length : Int) = 0› ‹¬ (8 : Int) < d0.length› ha ‹_›).symm))
  · -- F
    refine VC.skip ?_
    refine outN ?_
    refine VC.seq ?_
    refine VC.rs ?_
    refine VO.mv ?_
    refine VO.y rfl (.lenS rfl tsl30) ?_
    refine VO.y rfl (.gtr rfl rfl) ?_
    refine VO.kp [0] [(0, wm W)] ?_
    refine VO.k4 0 2 7 10 ?_
    refine VC.cond rfl (fun hc2 => ?_) (fun hc2 => ?_)
    · -- FT
      refine VC.rs ?_
      refine VO.as ?_
      refine VO.k4 0 2 7 10 ?_
      refine VC.ret ?_
      refine outR ?_
      refine ⟨_, _, res_run (rs := [.tmp 2]) rfl (.tmp rfl .nil), fun W_ hI => out_of (l := []) hI [] rfl rfl (mle_refl _) (fun hS_ => ?_)⟩
      dsimp only [packV]
      all_goals (first | rfl | (congr 1; first | exact (bcheck_empty ‹_›).symm | exact (bcheck_long ‹_›).symm | exact (bcheck_bad ‹_› ‹_› ‹d0[k]? = some _› ‹_›).symm | exact (bcheck_good ‹¬ (d0.length : Int) = 0› ‹¬ (8 : Int) < d0.length› ha ‹_›).symm))
    · -- FF
      refine VC.skip ?_
      refine outN ?_
      refine VC.seq ?_
      refine VC.rs ?_
      refine VO.as ?_
      refine VO.k5 0 2 3 7 10 ?_
      refine VC.block ?_
      refine VC.loop (G := Nat) (fun k => [(3, Value.int .i64 (((k : Nat) : Int))), (0, Value.slice A0 (d0.length) (c0)), (7, Value.bool (decide (((d0.length : Nat) : Int) = 0))), (10, Value.bool (decide (8 < ((d0.length : Nat) : Int))))]) (fun k => [(0, wm W)]) (fun k => (k ≤ d0.length) ∧ (∀ o ∈ d0.take k, opOk o)) (fun k => d0.length - k) 0 (⟨by omega, by simp⟩) ⟨⟨rfl, rfl, rfl, rfl, trivial⟩, fun _ h => h.sub [0]⟩ ?_
      rintro k ⟨hk, ha⟩
      refine VC.seq ?_
      refine VC.rs ?_
      refine VO.mv ?_
      refine VO.mv ?_
      refine VO.y rfl (.lenS rfl tsl30) ?_
      refine VO.y rfl (.lss rfl rfl) ?_
      refine VO.k5 0 3 7 10 14 ?_
      refine VC.cond rfl (fun hc3 => ?_) (fun hc3 => ?_)
      · -- FFT
        refine VC.skip ?_
        refine outN ?_
        refine VC.seq ?_
        refine VC.block ?_
        refine VC.rs ?_
        refine VO.mv ?_
        refine VO.mv ?_
        obtain ⟨x4, hx4⟩ : ∃ z_, (d0)[k]? = some z_ := ⟨_, List.getElem?_eq_getElem bd⟩
        obtain ⟨gg4, oo4, ec4, ea4, hce4, hre4⟩ := h0.elem hx4
        cases ea4
        obtain ⟨rfl, q4_1, q4_2⟩ := open_Op (x0 := x4.1) (x1 := x4.2.1) (x2 := x4.2.2) hre4
        simp only [maxLen] at q4_1
        simp only [maxLen] at q4_2
        refine VO.y rfl (.ixI k rfl rfl tsl30 rfl bd) ?_
        refine VO.y rfl (.ldA 0 rfl tk78 rfl hce4) ?_
        refine VO.callN 105 rfl fnOk123 rfl (fun W hW => refOpCheck_ok W (Rd.mono hre4 (hW.at (i := 0) rfl))) (fun v5 m5 hv5 => ?_)
        subst hv5
        refine VO.as ?_
        refine VO.kp [0] [(0, wm W)] ?_
        refine VO.k6 0 3 4 7 10 14 ?_
        refine VC.rs ?_
        refine VO.mv ?_
        refine VO.y rfl (.neq rfl rfl) ?_
        refine VO.k7 0 3 4 7 10 14 23 ?_
        refine VC.cond rfl (fun hc6 => ?_) (fun hc6 => ?_)
        · -- FFTT
          refine VC.rs ?_
          refine VO.mv ?_
          refine VO.as ?_
          refine VO.k8 0 2 3 4 7 10 14 23 ?_
          refine VC.ret ?_
          refine outBR ?_
          refine outR ?_
          refine outR ?_
          refine outBR ?_
          refine outR ?_
          refine ⟨_, _, res_run (rs := [.tmp 2]) rfl (.tmp rfl .nil), fun W_ hI => out_of (l := []) hI [] rfl rfl (mle_refl _) (fun hS_ => ?_)⟩
          dsimp only [packV]
          all_goals (first | rfl | (congr 1; first | exact (bcheck_empty ‹_›).symm | exact (bcheck_long ‹_›).symm | exact (bcheck_bad ‹_› ‹_› ‹d0[k]? = some _› ‹_›).symm | exact (bcheck_good ‹¬ (d0.length : Int) = 0› ‹¬ (8 : Int) < d0.length› ha ‹_›).symm))
        · -- FFTF
          refine VC.skip ?_
          refine outBN ?_
          refine outN ?_
          refine VC.reg ?_
          refine VO.mv ?_
          refine VO.y rfl (.add (c := ((k + 1 : Nat) : Int)) rfl rfl (by omega) ⟨bd, bd⟩) ?_
          refine VO.as ?_
          refine VO.k7 0 3 4 7 10 14 23 ?_
          exact outN ⟨k + 1, ⟨by omega, by exact all_next ha ‹d0[k]? = some _› (opOk_of (Decidable.not_not.1 ‹¬ ¬ _›))⟩, bd, ⟨⟨rfl, rfl, rfl, rfl, trivial⟩, fun _ h => Inv.sub h [0]⟩⟩
      · -- FFF
        refine VC.exit ?_
        refine outE ?_
        refine outE ?_
        refine outBB ?_
        refine outN ?_
        refine VC.rs ?_
        refine VO.as ?_
        refine VO.kp [0] [(0, wm W)] ?_
        refine VO.k6 0 2 3 7 10 14 ?_
        refine VC.ret ?_
        refine ⟨_, _, res_run (rs := [.tmp 2]) rfl (.tmp rfl .nil), fun W_ hI => out_of (l := []) hI [] rfl rfl (mle_refl _) (fun hS_ => ?_)⟩
        dsimp only [packV]
        all_goals (first | rfl | (congr 1; first | exact (bcheck_empty ‹_›).symm | exact (bcheck_long ‹_›).symm | exact (bcheck_bad ‹_› ‹_› ‹d0[k]? = some _› ‹_›).symm | exact (bcheck_good ‹¬ (d0.length : Int) = 0› ‹¬ (8 : Int) < d0.length› ha ‹_›).symm))
theorem rPut_ok (W : World) {v0 : Value} {d0 : List UInt8} (h0 : Rd (.sl .byte) (wm W) [v0] d0) (d1 : Int) (h1 : inK .i64 d1) (e0 : d0.length ≤ 140737488355000) (e1 : 0 ≤ d1) : CallR Try.prog 57 [v0, .int .i64 d1] W (mnil) (fun v m' => ∃ (s0 : Value), v = s0 ∧ Ow (.sl .byte) m' [s0] (d0 ++ venc d1.toNat)) := by
  obtain ⟨A0, c0, rfl, l0, k0⟩ := h0.slice
  simp only [maxLen] at k0
  have h1' := h1; simp only [inK] at h1'
  refine CallR.ofA (n := 9) Try.func57 rfl rfl rfl ?_
  refine VC.rs ?_
  refine VO.as ?_
  refine VO.k3 0 1 4 ?_
  refine VC.rs ?_
  refine VO.mv ?_
  refine VO.mv ?_
  refine VO.y rfl (.cvI (c := ((d1).toNat : Int)) rfl ⟨_, Try.underlying3⟩ Try.underlying82 (by rw [IntWalk.u64_in _ bd]; first | omega | (first | omega | (simp only [List.length_append, List.length_nil, List.length_cons, List.length_take, List.length_drop] at *; omega)))) ?_
  refine VO.callN 101 rfl fnOk89 rfl (fun W hW => rAppend_ok W (Rd.mono h0 (hW.at (i := 0) rfl)) ((d1).toNat) bd bd) (fun v1 m1 hv1 => ?_)
  obtain ⟨s1_0, rfl, f1_0⟩ := hv1
  have hfa2 := venc_len (x := ((d1).toNat)) (by first | omega | exact or64 (by assumption) _)
  obtain ⟨A1_0, c1_0, eq1_0, l1_0, k1_0⟩ := f1_0.slice
  subst eq1_0
  simp only [maxLen] at k1_0
  refine VO.as ?_
  refine VO.k3 0 1 4 ?_
  refine VC.ret ?_
  refine ⟨_, _, res_run (rs := [.tmp 4]) rfl (.tmp rfl .nil), fun W_ hI => out_of (l := [m1]) hI [101] rfl rfl (mle_refl _) (fun hS_ => ?_)⟩
  dsimp only [packV]
  have he0 : (d0 ++ venc d1.toNat : Ty.Den (.sl .byte)) = d0 ++ venc ((d1).toNat) := by first | rfl | (simp [*]; done)
  refine ⟨Value.slice A1_0 ((d0 ++ venc ((d1).toNat)).length) (c1_0), ?_, ?_⟩
  rotate_left
  · rw [he0]; exact (Ow.up (OwnL.ow (Ow.ownl f1_0 rfl mnil) rfl) (hS_.1 _ (.head _)))
  all_goals (first | rfl | (simp [*]; done))
theorem fin0_rNext_ok {P : Prop} (h : P := by have hf := ops2_end hp (by first | exact .inl (by omega) | exact .inr (by assumption)); first | (rw [nextRef_bad (Prod.ext hf.1 hf.2) (by first | exact .inl (by assumption) | exact .inr (by assumption))] <;> rfl) | (rw [nextRef_good (Prod.ext hf.1 hf.2) (by assumption) (by omega)] <;> first | rfl | assumption)) : P := h
theorem rNext_ok (W : World) {g0 : Nat} {E0 : TypeId} {d0 : Dref01Reader} {b0_0 : Value} (hm : mle (mone g0 (.cells [(b0_0 : Value), .int .i64 d0.2.1, .bool d0.2.2].toArray E0 (0, 0))) (wm W)) (h0_0 : Rd (.sl .byte) (mout (wm W) (mone g0 (.cells [(b0_0 : Value), .int .i64 d0.2.1, .bool d0.2.2].toArray E0 (0, 0)))) [b0_0] d0.1) (h0_1 : inK .i64 d0.2.1) (e0 : rOk d0.1 d0.2) : CallR Try.prog 115 [.pointer (some ⟨g0, 0, none⟩)] W (mone g0 (.cells [(b0_0 : Value), .int .i64 d0.2.1, .bool d0.2.2].toArray E0 (0, 0))) (fun v m' => ∃ (s0 : Value), ∃ (p0 : Mem), v = s0 ∧ Seps m' [p0, mone g0 (.cells [(b0_0 : Value), .int .i64 ((nextRef d0.1 d0.2).2.1), .bool ((nextRef d0.1 d0.2).2.2)].toArray E0 (0, 0))] ∧ Ow (.sl TOp) p0 [s0] ((nextRef d0.1 d0.2).1) ∧ inK .i64 ((nextRef d0.1 d0.2).2.1)) := by
  have e0_ := e0; obtain ⟨e0a, e0b⟩ := e0_
  obtain ⟨A0_0, c0_0, rfl, l0_0, k0_0⟩ := h0_0.slice
  simp only [maxLen] at k0_0
  have h0_1' := h0_1; simp only [inK] at h0_1'
  refine CallR.ofB (n := 78) hm Try.func115 rfl rfl rfl ?_
  refine VC.rs ?_
  refine VO.as ?_
  refine VO.k2 0 2 ?_
  refine VC.rs ?_
  refine VO.as ?_
  refine VO.k3 0 2 3 ?_
  refine VC.rs ?_
  refine VO.as ?_
  refine VO.kp [0, 1] [(0, mout (wm W) (mone g0 (.cells [Value.slice A0_0 (d0.1.length) (c0_0), Value.int .i64 (d0.2.1), Value.bool d0.2.2].toArray E0 (0, 0)))), (1, mone g0 (.cells [Value.slice A0_0 (d0.1.length) (c0_0), Value.int .i64 (d0.2.1), Value.bool d0.2.2].toArray E0 (0, 0)))] ?_
  refine VO.k4 0 2 3 4 ?_
  refine VC.seq ?_
  refine VC.rs ?_
  refine VO.mv ?_
  refine VO.call 1 rfl fnOk95 rfl rfl (fun W hW => rSmall_ok W (d0 := d0) (hW.at (i := 1) rfl) (Rd.mono h0_0 (hW.out (i := 1) (j := 0) rfl rfl)) bdk 8 bdk (by first | assumption | exact ⟨by omega, by omega⟩ | exact ⟨by (simp; done), by (simp; done)⟩)) (fun v1 m1 hv1 => ?_)
  obtain ⟨rfl, rfl, w1_0_1⟩ := hv1
  have hfa2 := (rNum_ok (B := d0.1) (m := 8) (s := d0.2) (by first | assumption | exact ⟨by omega, by omega⟩ | exact ⟨by (simp; done), by (simp; done)⟩) (by omega)).1
  have hfa3 := (rNum_ok (B := d0.1) (m := 8) (s := d0.2) (by first | assumption | exact ⟨by omega, by omega⟩ | exact ⟨by (simp; done), by (simp; done)⟩) (by omega)).1.1
  have hfa4 := (rNum_ok (B := d0.1) (m := 8) (s := d0.2) (by first | assumption | exact ⟨by omega, by omega⟩ | exact ⟨by (simp; done), by (simp; done)⟩) (by omega)).1.2
  have hfa5 := (rNum_ok (B := d0.1) (m := 8) (s := d0.2) (by first | assumption | exact ⟨by omega, by omega⟩ | exact ⟨by (simp; done), by (simp; done)⟩) (by omega)).2
  simp only [inK] at w1_0_1
  refine VO.as ?_
  refine VO.k5 0 2 3 4 5 ?_
  refine VC.block ?_
  refine VC.inv ((106, mnil) :: _) (fun _ h => h.nilc 106) ?_
  refine VC.loop (G := Int × (List UInt8) × (List DOp) × (Option Addr) × Nat × Mem × Int × Bool) (fun g => [(3, Value.slice (g.2.2.2.1) ((g.2.2.1).length) ((g.2.2.2.2.1))), (4, str ((g.2.1))), (5, Value.int .i64 ((g.1))), (0, Value.pointer (some ⟨g0, 0, none⟩)), (2, Value.slice none (0) (0))]) (fun g => [(106, (g.2.2.2.2.2.1)), (1, mone g0 (.cells [Value.slice A0_0 (d0.1.length) (c0_0), Value.int .i64 ((g.2.2.2.2.2.2.1)), Value.bool (g.2.2.2.2.2.2.2)].toArray E0 (0, 0))), (0, mout (wm W) (mone g0 (.cells [Value.slice A0_0 (d0.1.length) (c0_0), Value.int .i64 (d0.2.1), Value.bool d0.2.2].toArray E0 (0, 0))))]) (fun g => (pOps2 d0.1 (rNum d0.1 8 d0.2).1.toNat [] (rNum d0.1 8 d0.2).2 = ((g.2.2.1) ++ (pOps2 d0.1 (g.1).toNat (g.2.1) ((g.2.2.2.2.2.2.1), (g.2.2.2.2.2.2.2))).1, (pOps2 d0.1 (g.1).toNat (g.2.1) ((g.2.2.2.2.2.2.1), (g.2.2.2.2.2.2.2))).2)) ∧ (rOk d0.1 ((g.2.2.2.2.2.2.1), (g.2.2.2.2.2.2.2))) ∧ ((g.1) ≤ 8) ∧ ((g.2.2.1).length + (g.1).toNat ≤ 8) ∧ ((g.2.1).length + 16 * (g.1).toNat ≤ 128) ∧ (OwnL TOp (g.2.2.2.2.2.1) mnil (.slice (g.2.2.2.1) (g.2.2.1).length (g.2.2.2.2.1)) (g.2.2.1))) (fun g => (g.1).toNat) ((rNum d0.1 8 d0.2).1, [], [], none, 0, mnil, (rNum d0.1 8 d0.2).2.1, (rNum d0.1 8 d0.2).2.2) (⟨by rfl, by assumption, by omega, by (simp; omega), by (simp; omega), (OwnL.nil TOp mnil mnil)⟩) ⟨⟨rfl, rfl, rfl, rfl, rfl, trivial⟩, fun _ h => h.sub [106, 1, 0]⟩ ?_
  rintro ⟨k, last, l, l_A, l_c, l_m, at_, bad⟩ ⟨hp, hok, hk, hlen, hla, h_l⟩
  replace hp : pOps2 d0.1 (rNum d0.1 8 d0.2).1.toNat [] (rNum d0.1 8 d0.2).2 = (l ++ (pOps2 d0.1 k.toNat last (at_, bad)).1, (pOps2 d0.1 k.toNat last (at_, bad)).2) := hp
  replace hok : rOk d0.1 (at_, bad) := hok
  replace hk : k ≤ 8 := hk
  replace hlen : l.length + k.toNat ≤ 8 := hlen
  replace hla : last.length + 16 * k.toNat ≤ 128 := hla
  replace h_l : OwnL TOp l_m mnil (.slice l_A l.length l_c) l := h_l
  show VC _ _ _ _ _ [(3, Value.slice l_A (l.length) (l_c)), (4, str (last)), (5, Value.int .i64 (k)), (0, Value.pointer (some ⟨g0, 0, none⟩)), (2, Value.slice none (0) (0))] [(106, l_m), (1, mone g0 (.cells [Value.slice A0_0 (d0.1.length) (c0_0), Value.int .i64 (at_), Value.bool bad].toArray E0 (0, 0))), (0, mout (wm W) (mone g0 (.cells [Value.slice A0_0 (d0.1.length) (c0_0), Value.int .i64 (d0.2.1), Value.bool d0.2.2].toArray E0 (0, 0))))]
  have l_l : l.length ≤ l_c := by obtain ⟨_, _, he, hl, _⟩ := h_l.slice; simp only [Value.slice.injEq] at he; omega
  have k_l : l_c ≤ 9223372036854775807 := by obtain ⟨_, _, he, _, hl⟩ := h_l.slice; simp only [Value.slice.injEq, maxLen] at he hl; omega
  obtain ⟨hoka, hokb⟩ := (show 0 ≤ at_ ∧ at_ ≤ d0.1.length from hok)
  refine VC.seq ?_
  refine VC.rs ?_
  refine VO.mv ?_
  refine VO.y rfl (.gtr rfl rfl) ?_
  refine VO.mv ?_
  refine VO.dec (t := 14) rfl (fun hc7 => ?_) (fun hc7 => ?_)
  · -- T
    refine VO.gy rfl ⟨_, rfl, rfl⟩ (.mv rfl) ?_
    refine VO.gy rfl ⟨_, rfl, rfl⟩ (.nilp rfl) ?_
    refine VO.gy rfl ⟨_, rfl, rfl⟩ (.fa rfl tst117 rfl) ?_
    refine VO.gy rfl ⟨_, rfl, rfl⟩ (.ld1 1 rfl tk4 rfl (cellsAt_one rfl rfl)) ?_
    refine VO.gy rfl ⟨_, rfl, rfl⟩ (.not rfl) ?_
    refine VO.y rfl (.pT rfl rfl) ?_
    refine VO.k6 0 2 3 4 5 20 ?_
    refine VC.condBN rfl (fun hc8 => ?_) (fun hc8 => ?_)
    · -- TT
      refine VC.skip ?_
      refine outN ?_
      refine VC.seq ?_
      refine VC.block ?_
      refine VC.rs ?_
      refine VO.mv ?_
      refine VO.call 1 rfl fnOk95 rfl rfl (fun W hW => rSmall_ok W (d0 := (d0.1, at_, bad)) (hW.at (i := 1) rfl) (Rd.mono h0_0 (hW.out (i := 1) (j := 0) rfl rfl)) bdk 1 bdk (by first | assumption | exact ⟨by omega, by omega⟩ | exact ⟨by (simp; done), by (simp; done)⟩)) (fun v9 m9 hv9 => ?_)
      try dsimp only at hv9
      obtain ⟨rfl, rfl, w9_0_1⟩ := hv9
      have hfa10 := (rNum_ok (B := d0.1) (m := 1) (s := (at_, bad)) (by first | assumption | exact ⟨by omega, by omega⟩ | exact ⟨by (simp; done), by (simp; done)⟩) (by omega)).1
      have hfa11 := (rNum_ok (B := d0.1) (m := 1) (s := (at_, bad)) (by first | assumption | exact ⟨by omega, by omega⟩ | exact ⟨by (simp; done), by (simp; done)⟩) (by omega)).1.1
      have hfa12 := (rNum_ok (B := d0.1) (m := 1) (s := (at_, bad)) (by first | assumption | exact ⟨by omega, by omega⟩ | exact ⟨by (simp; done), by (simp; done)⟩) (by omega)).1.2
      have hfa13 := (rNum_ok (B := d0.1) (m := 1) (s := (at_, bad)) (by first | assumption | exact ⟨by omega, by omega⟩ | exact ⟨by (simp; done), by (simp; done)⟩) (by omega)).2
      simp only [inK] at w9_0_1
      refine VO.as ?_
      refine VO.kp [1, 106, 0] [(1, mone g0 (.cells [Value.slice A0_0 (d0.1.length) (c0_0), Value.int .i64 ((rNum d0.1 1 (at_, bad)).2.1), Value.bool ((rNum d0.1 1 (at_, bad)).2.2)].toArray E0 (0, 0))), (106, l_m), (0, mout (wm W) (mone g0 (.cells [Value.slice A0_0 (d0.1.length) (c0_0), Value.int .i64 (d0.2.1), Value.bool d0.2.2].toArray E0 (0, 0))))] ?_
      refine VO.k7 0 2 3 4 5 6 20 ?_
      refine VC.rs ?_
      refine VO.mv ?_
      refine VO.mv ?_
      refine VO.y rfl (.lenT rfl Try.underlying9) ?_
      refine VO.call 1 rfl fnOk95 rfl rfl (fun W hW => rSmall_ok W (d0 := (d0.1, (rNum d0.1 1 (at_, bad)).2)) (hW.at (i := 1) rfl) (Rd.mono h0_0 (hW.out (i := 1) (j := 0) rfl rfl)) bdk ((last.length : Nat) : Int) bdk (by first | assumption | exact ⟨by omega, by omega⟩ | exact ⟨by (simp; done), by (simp; done)⟩)) (fun v14 m14 hv14 => ?_)
      try dsimp only at hv14
      obtain ⟨rfl, rfl, w14_0_1⟩ := hv14
      have hfa15 := (rNum_ok (B := d0.1) (m := ((last.length : Nat) : Int)) (s := ((rNum d0.1 1 (at_, bad)).2)) (by first | assumption | exact ⟨by omega, by omega⟩ | exact ⟨by (simp; done), by (simp; done)⟩) (by omega)).1
      have hfa16 := (rNum_ok (B := d0.1) (m := ((last.length : Nat) : Int)) (s := ((rNum d0.1 1 (at_, bad)).2)) (by first | assumption | exact ⟨by omega, by omega⟩ | exact ⟨by (simp; done), by (simp; done)⟩) (by omega)).1.1
      have hfa17 := (rNum_ok (B := d0.1) (m := ((last.length : Nat) : Int)) (s := ((rNum d0.1 1 (at_, bad)).2)) (by first | assumption | exact ⟨by omega, by omega⟩ | exact ⟨by (simp; done), by (simp; done)⟩) (by omega)).1.2
      have hfa18 := (rNum_ok (B := d0.1) (m := ((last.length : Nat) : Int)) (s := ((rNum d0.1 1 (at_, bad)).2)) (by first | assumption | exact ⟨by omega, by omega⟩ | exact ⟨by (simp; done), by (simp; done)⟩) (by omega)).2
      simp only [inK] at w14_0_1
      refine VO.as ?_
      refine VO.k8 0 2 3 4 5 6 7 20 ?_
      refine VC.rs ?_
      refine VO.mv ?_
      refine VO.mv ?_
      refine VO.call 1 rfl fnOk95 rfl rfl (fun W hW => rSmall_ok W (d0 := (d0.1, (rNum d0.1 ((last.length : Nat) : Int) ((rNum d0.1 1 (at_, bad)).2)).2)) (hW.at (i := 1) rfl) (Rd.mono h0_0 (hW.out (i := 1) (j := 0) rfl rfl)) bdk 16 bdk (by first | assumption | exact ⟨by omega, by omega⟩ | exact ⟨by (simp; done), by (simp; done)⟩)) (fun v19 m19 hv19 => ?_)
      try dsimp only at hv19
      obtain ⟨rfl, rfl, w19_0_1⟩ := hv19
      have hfa20 := (rNum_ok (B := d0.1) (m := 16) (s := ((rNum d0.1 ((last.length : Nat) : Int) ((rNum d0.1 1 (at_, bad)).2)).2)) (by first | assumption | exact ⟨by omega, by omega⟩ | exact ⟨by (simp; done), by (simp; done)⟩) (by omega)).1
      have hfa21 := (rNum_ok (B := d0.1) (m := 16) (s := ((rNum d0.1 ((last.length : Nat) : Int) ((rNum d0.1 1 (at_, bad)).2)).2)) (by first | assumption | exact ⟨by omega, by omega⟩ | exact ⟨by (simp; done), by (simp; done)⟩) (by omega)).1.1
      have hfa22 := (rNum_ok (B := d0.1) (m := 16) (s := ((rNum d0.1 ((last.length : Nat) : Int) ((rNum d0.1 1 (at_, bad)).2)).2)) (by first | assumption | exact ⟨by omega, by omega⟩ | exact ⟨by (simp; done), by (simp; done)⟩) (by omega)).1.2
      have hfa23 := (rNum_ok (B := d0.1) (m := 16) (s := ((rNum d0.1 ((last.length : Nat) : Int) ((rNum d0.1 1 (at_, bad)).2)).2)) (by first | assumption | exact ⟨by omega, by omega⟩ | exact ⟨by (simp; done), by (simp; done)⟩) (by omega)).2
      simp only [inK] at w19_0_1
      refine VO.call 1 rfl fnOk113 rfl rfl (fun W hW => rBytes_ok_ W (d0 := (d0.1, (rNum d0.1 16 ((rNum d0.1 ((last.length : Nat) : Int) ((rNum d0.1 1 (at_, bad)).2)).2)).2)) (hW.at (i := 1) rfl) (Rd.mono h0_0 (hW.out (i := 1) (j := 0) rfl rfl)) bdk ((rNum d0.1 16 ((rNum d0.1 ((last.length : Nat) : Int) ((rNum d0.1 1 (at_, bad)).2)).2)).1) bdk (by first | assumption | exact ⟨by omega, by omega⟩ | exact ⟨by (simp; done), by (simp; done)⟩) bd bd) (fun v24 m24 hv24 => ?_)
      try dsimp only at hv24
      obtain ⟨s24_0, p24_0, rfl, hS24, f24_0, w24_0_1⟩ := hv24
      refine VO.inv _ (fun _ h => h.parts (i := 1) rfl hS24 [125, 126]) ?_
      have hfa27 := (rBytes_ok (B := d0.1) (n := ((rNum d0.1 16 ((rNum d0.1 ((last.length : Nat) : Int) ((rNum d0.1 1 (at_, bad)).2)).2)).1)) (s := ((rNum d0.1 16 ((rNum d0.1 ((last.length : Nat) : Int) ((rNum d0.1 1 (at_, bad)).2)).2)).2)) (by first | assumption | exact ⟨by omega, by omega⟩ | exact ⟨by (simp; done), by (simp; done)⟩) (by omega)).1
      have hfa28 := (rBytes_ok (B := d0.1) (n := ((rNum d0.1 16 ((rNum d0.1 ((last.length : Nat) : Int) ((rNum d0.1 1 (at_, bad)).2)).2)).1)) (s := ((rNum d0.1 16 ((rNum d0.1 ((last.length : Nat) : Int) ((rNum d0.1 1 (at_, bad)).2)).2)).2)) (by first | assumption | exact ⟨by omega, by omega⟩ | exact ⟨by (simp; done), by (simp; done)⟩) (by omega)).1.1
      have hfa29 := (rBytes_ok (B := d0.1) (n := ((rNum d0.1 16 ((rNum d0.1 ((last.length : Nat) : Int) ((rNum d0.1 1 (at_, bad)).2)).2)).1)) (s := ((rNum d0.1 16 ((rNum d0.1 ((last.length : Nat) : Int) ((rNum d0.1 1 (at_, bad)).2)).2)).2)) (by first | assumption | exact ⟨by omega, by omega⟩ | exact ⟨by (simp; done), by (simp; done)⟩) (by omega)).1.2
      have hfa30 := (rBytes_ok (B := d0.1) (n := ((rNum d0.1 16 ((rNum d0.1 ((last.length : Nat) : Int) ((rNum d0.1 1 (at_, bad)).2)).2)).1)) (s := ((rNum d0.1 16 ((rNum d0.1 ((last.length : Nat) : Int) ((rNum d0.1 1 (at_, bad)).2)).2)).2)) (by first | assumption | exact ⟨by omega, by omega⟩ | exact ⟨by (simp; done), by (simp; done)⟩) (by omega)).2
      simp only [inK] at w24_0_1
      obtain ⟨A24_0, c24_0, eq24_0, l24_0, k24_0⟩ := f24_0.slice
      subst eq24_0
      simp only [maxLen] at k24_0
      refine VO.as ?_
      refine VO.k9 0 2 3 4 5 6 7 8 20 ?_
      refine VC.seq ?_
      refine VC.regD _ 10 [(0, true), (1, true), (2, true), (3, true), (4, true), (5, true), (6, true), (7, true), (8, true), (9, false)] follows (by kernel_rfl) (fun _ h => h.sub [125, 126, 106, 0]) ?_
      refine VD.y rfl rfl (.inl rfl) (.mv rfl) ?_
      refine VD.y rfl rfl (.inl rfl) (.eql rfl rfl) ?_
      refine VD.y rfl rfl (.inl rfl) (.mv rfl) ?_
      refine VD.y rfl rfl (.inl rfl) (.mv rfl) ?_
      refine VD.y rfl rfl (.inl rfl) (.slTHI (((rNum d0.1 ((last.length : Nat) : Int) ((rNum d0.1 1 (at_, bad)).2)).1).toNat) rfl rfl Try.underlying9 bd bd) ?_
      refine VD.y rfl rfl (.inl rfl) (.mv rfl) ?_
      refine VD.y rfl rfl (.inl rfl) (.b2s 125 rfl Try.underlying25 Try.underlying9 Try.underlying5 rfl (OwnL.rd (Ow.ownl f24_0 rfl mnil) (mle_refl _) (mle_nil _))) ?_
      refine VD.y rfl rfl (.inl rfl) (.scat rfl rfl bd) ?_
      refine VD.y rfl rfl (.inl rfl) (.bst (cs := [Value.bool (decide (((rNum d0.1 1 (at_, bad)).1) = 1)), str ((last.take (((rNum d0.1 ((last.length : Nat) : Int) ((rNum d0.1 1 (at_, bad)).2)).1).toNat)) ++ ((rBytes d0.1 ((rNum d0.1 16 ((rNum d0.1 ((last.length : Nat) : Int) ((rNum d0.1 1 (at_, bad)).2)).2)).1) ((rNum d0.1 16 ((rNum d0.1 ((last.length : Nat) : Int) ((rNum d0.1 1 (at_, bad)).2)).2)).2)).1)), str ([])]) rfl tst78 tz78 rfl) ?_
      refine VD.alloc 132 rfl rfl tz78 (fun _ _ h => h.sub [125, 126, 106, 0]) (fun g31 => ?_)
      refine VD.nil rfl ?_ rfl
      refine VO.store (k := 3) (c' := [Value.bool (decide (((rNum d0.1 1 (at_, bad)).1) = 1)), str ((last.take (((rNum d0.1 ((last.length : Nat) : Int) ((rNum d0.1 1 (at_, bad)).2)).1).toNat)) ++ ((rBytes d0.1 ((rNum d0.1 16 ((rNum d0.1 ((last.length : Nat) : Int) ((rNum d0.1 1 (at_, bad)).2)).2)).1) ((rNum d0.1 16 ((rNum d0.1 ((last.length : Nat) : Int) ((rNum d0.1 1 (at_, bad)).2)).2)).2)).1)), str ([])]) 132 rfl rfl (.inl tk78) rfl rfl rfl rfl rfl ?_
      refine VO.kp [132, 125, 126, 106, 0] [(132, mone g31 (.cells [Value.bool (decide (((rNum d0.1 1 (at_, bad)).1) = 1)), str ((last.take (((rNum d0.1 ((last.length : Nat) : Int) ((rNum d0.1 1 (at_, bad)).2)).1).toNat)) ++ ((rBytes d0.1 ((rNum d0.1 16 ((rNum d0.1 ((last.length : Nat) : Int) ((rNum d0.1 1 (at_, bad)).2)).2)).1) ((rNum d0.1 16 ((rNum d0.1 ((last.length : Nat) : Int) ((rNum d0.1 1 (at_, bad)).2)).2)).2)).1)), str ([])].toArray 78 (0, 0))), (125, p24_0), (126, mone g0 (.cells [Value.slice A0_0 (d0.1.length) (c0_0), Value.int .i64 ((rBytes d0.1 ((rNum d0.1 16 ((rNum d0.1 ((last.length : Nat) : Int) ((rNum d0.1 1 (at_, bad)).2)).2)).1) ((rNum d0.1 16 ((rNum d0.1 ((last.length : Nat) : Int) ((rNum d0.1 1 (at_, bad)).2)).2)).2)).2.1), Value.bool ((rBytes d0.1 ((rNum d0.1 16 ((rNum d0.1 ((last.length : Nat) : Int) ((rNum d0.1 1 (at_, bad)).2)).2)).1) ((rNum d0.1 16 ((rNum d0.1 ((last.length : Nat) : Int) ((rNum d0.1 1 (at_, bad)).2)).2)).2)).2.2)].toArray E0 (0, 0))), (106, l_m), (0, mout (wm W) (mone g0 (.cells [Value.slice A0_0 (d0.1.length) (c0_0), Value.int .i64 (d0.2.1), Value.bool d0.2.2].toArray E0 (0, 0))))] ?_
      refine VO.k10 0 2 3 4 5 6 7 8 9 20 ?_
      refine outN ?_
      refine VC.seq ?_
      refine VC.rs ?_
      refine VO.mv ?_
      refine VO.y rfl (.eql rfl rfl) ?_
      refine VO.k11 0 2 3 4 5 6 7 8 9 20 43 ?_
      refine VC.cond rfl (fun hc33 => ?_) (fun hc33 => ?_)
      · -- TTT
        refine VC.reg ?_
        refine VO.mv ?_
        refine VO.mv ?_
        refine VO.call 126 rfl fnOk95 rfl rfl (fun W hW => rSmall_ok W (d0 := (d0.1, (rBytes d0.1 ((rNum d0.1 16 ((rNum d0.1 ((last.length : Nat) : Int) ((rNum d0.1 1 (at_, bad)).2)).2)).1) ((rNum d0.1 16 ((rNum d0.1 ((last.length : Nat) : Int) ((rNum d0.1 1 (at_, bad)).2)).2)).2)).2)) (hW.at (i := 126) rfl) (Rd.mono h0_0 (hW.out (i := 126) (j := 0) rfl rfl)) bdk 32 bdk (by first | assumption | exact ⟨by omega, by omega⟩ | exact ⟨by (simp; done), by (simp; done)⟩)) (fun v34 m34 hv34 => ?_)
        try dsimp only at hv34
        obtain ⟨rfl, rfl, w34_0_1⟩ := hv34
        have hfa35 := (rNum_ok (B := d0.1) (m := 32) (s := ((rBytes d0.1 ((rNum d0.1 16 ((rNum d0.1 ((last.length : Nat) : Int) ((rNum d0.1 1 (at_, bad)).2)).2)).1) ((rNum d0.1 16 ((rNum d0.1 ((last.length : Nat) : Int) ((rNum d0.1 1 (at_, bad)).2)).2)).2)).2)) (by first | assumption | exact ⟨by omega, by omega⟩ | exact ⟨by (simp; done), by (simp; done)⟩) (by omega)).1
        have hfa36 := (rNum_ok (B := d0.1) (m := 32) (s := ((rBytes d0.1 ((rNum d0.1 16 ((rNum d0.1 ((last.length : Nat) : Int) ((rNum d0.1 1 (at_, bad)).2)).2)).1) ((rNum d0.1 16 ((rNum d0.1 ((last.length : Nat) : Int) ((rNum d0.1 1 (at_, bad)).2)).2)).2)).2)) (by first | assumption | exact ⟨by omega, by omega⟩ | exact ⟨by (simp; done), by (simp; done)⟩) (by omega)).1.1
        have hfa37 := (rNum_ok (B := d0.1) (m := 32) (s := ((rBytes d0.1 ((rNum d0.1 16 ((rNum d0.1 ((last.length : Nat) : Int) ((rNum d0.1 1 (at_, bad)).2)).2)).1) ((rNum d0.1 16 ((rNum d0.1 ((last.length : Nat) : Int) ((rNum d0.1 1 (at_, bad)).2)).2)).2)).2)) (by first | assumption | exact ⟨by omega, by omega⟩ | exact ⟨by (simp; done), by (simp; done)⟩) (by omega)).1.2
        have hfa38 := (rNum_ok (B := d0.1) (m := 32) (s := ((rBytes d0.1 ((rNum d0.1 16 ((rNum d0.1 ((last.length : Nat) : Int) ((rNum d0.1 1 (at_, bad)).2)).2)).1) ((rNum d0.1 16 ((rNum d0.1 ((last.length : Nat) : Int) ((rNum d0.1 1 (at_, bad)).2)).2)).2)).2)) (by first | assumption | exact ⟨by omega, by omega⟩ | exact ⟨by (simp; done), by (simp; done)⟩) (by omega)).2
        simp only [inK] at w34_0_1
        refine VO.call 126 rfl fnOk113 rfl rfl (fun W hW => rBytes_ok_ W (d0 := (d0.1, (rNum d0.1 32 ((rBytes d0.1 ((rNum d0.1 16 ((rNum d0.1 ((last.length : Nat) : Int) ((rNum d0.1 1 (at_, bad)).2)).2)).1) ((rNum d0.1 16 ((rNum d0.1 ((last.length : Nat) : Int) ((rNum d0.1 1 (at_, bad)).2)).2)).2)).2)).2)) (hW.at (i := 126) rfl) (Rd.mono h0_0 (hW.out (i := 126) (j := 0) rfl rfl)) bdk ((rNum d0.1 32 ((rBytes d0.1 ((rNum d0.1 16 ((rNum d0.1 ((last.length : Nat) : Int) ((rNum d0.1 1 (at_, bad)).2)).2)).1) ((rNum d0.1 16 ((rNum d0.1 ((last.length : Nat) : Int) ((rNum d0.1 1 (at_, bad)).2)).2)).2)).2)).1) bdk (by first | assumption | exact ⟨by omega, by omega⟩ | exact ⟨by (simp; done), by (simp; done)⟩) bd bd) (fun v39 m39 hv39 => ?_)
        try dsimp only at hv39
        obtain ⟨s39_0, p39_0, rfl, hS39, f39_0, w39_0_1⟩ := hv39
        refine VO.inv _ (fun _ h => h.parts (i := 126) rfl hS39 [140, 141]) ?_
        have hfa42 := (rBytes_ok (B := d0.1) (n := ((rNum d0.1 32 ((rBytes d0.1 ((rNum d0.1 16 ((rNum d0.1 ((last.length : Nat) : Int) ((rNum d0.1 1 (at_, bad)).2)).2)).1) ((rNum d0.1 16 ((rNum d0.1 ((last.length : Nat) : Int) ((rNum d0.1 1 (at_, bad)).2)).2)).2)).2)).1)) (s := ((rNum d0.1 32 ((rBytes d0.1 ((rNum d0.1 16 ((rNum d0.1 ((last.length : Nat) : Int) ((rNum d0.1 1 (at_, bad)).2)).2)).1) ((rNum d0.1 16 ((rNum d0.1 ((last.length : Nat) : Int) ((rNum d0.1 1 (at_, bad)).2)).2)).2)).2)).2)) (by first | assumption | exact ⟨by omega, by omega⟩ | exact ⟨by (simp; done), by (simp; done)⟩) (by omega)).1
        have hfa43 := (rBytes_ok (B := d0.1) (n := ((rNum d0.1 32 ((rBytes d0.1 ((rNum d0.1 16 ((rNum d0.1 ((last.length : Nat) : Int) ((rNum d0.1 1 (at_, bad)).2)).2)).1) ((rNum d0.1 16 ((rNum d0.1 ((last.length : Nat) : Int) ((rNum d0.1 1 (at_, bad)).2)).2)).2)).2)).1)) (s := ((rNum d0.1 32 ((rBytes d0.1 ((rNum d0.1 16 ((rNum d0.1 ((last.length : Nat) : Int) ((rNum d0.1 1 (at_, bad)).2)).2)).1) ((rNum d0.1 16 ((rNum d0.1 ((last.length : Nat) : Int) ((rNum d0.1 1 (at_, bad)).2)).2)).2)).2)).2)) (by first | assumption | exact ⟨by omega, by omega⟩ | exact ⟨by (simp; done), by (simp; done)⟩) (by omega)).1.1
        have hfa44 := (rBytes_ok (B := d0.1) (n := ((rNum d0.1 32 ((rBytes d0.1 ((rNum d0.1 16 ((rNum d0.1 ((last.length : Nat) : Int) ((rNum d0.1 1 (at_, bad)).2)).2)).1) ((rNum d0.1 16 ((rNum d0.1 ((last.length : Nat) : Int) ((rNum d0.1 1 (at_, bad)).2)).2)).2)).2)).1)) (s := ((rNum d0.1 32 ((rBytes d0.1 ((rNum d0.1 16 ((rNum d0.1 ((last.length : Nat) : Int) ((rNum d0.1 1 (at_, bad)).2)).2)).1) ((rNum d0.1 16 ((rNum d0.1 ((last.length : Nat) : Int) ((rNum d0.1 1 (at_, bad)).2)).2)).2)).2)).2)) (by first | assumption | exact ⟨by omega, by omega⟩ | exact ⟨by (simp; done), by (simp; done)⟩) (by omega)).1.2
        have hfa45 := (rBytes_ok (B := d0.1) (n := ((rNum d0.1 32 ((rBytes d0.1 ((rNum d0.1 16 ((rNum d0.1 ((last.length : Nat) : Int) ((rNum d0.1 1 (at_, bad)).2)).2)).1) ((rNum d0.1 16 ((rNum d0.1 ((last.length : Nat) : Int) ((rNum d0.1 1 (at_, bad)).2)).2)).2)).2)).1)) (s := ((rNum d0.1 32 ((rBytes d0.1 ((rNum d0.1 16 ((rNum d0.1 ((last.length : Nat) : Int) ((rNum d0.1 1 (at_, bad)).2)).2)).1) ((rNum d0.1 16 ((rNum d0.1 ((last.length : Nat) : Int) ((rNum d0.1 1 (at_, bad)).2)).2)).2)).2)).2)) (by first | assumption | exact ⟨by omega, by omega⟩ | exact ⟨by (simp; done), by (simp; done)⟩) (by omega)).2
        simp only [inK] at w39_0_1
        obtain ⟨A39_0, c39_0, eq39_0, l39_0, k39_0⟩ := f39_0.slice
        subst eq39_0
        simp only [maxLen] at k39_0
        refine VO.y rfl (.b2s 140 rfl Try.underlying25 Try.underlying9 Try.underlying5 rfl (OwnL.rd (Ow.ownl f39_0 rfl mnil) (mle_refl _) (mle_nil _))) ?_
        refine VO.y rfl (.fa rfl tst78 rfl) ?_
        refine VO.store (k := 1) (c' := [Value.bool (decide (((rNum d0.1 1 (at_, bad)).1) = 1)), str ((last.take (((rNum d0.1 ((last.length : Nat) : Int) ((rNum d0.1 1 (at_, bad)).2)).1).toNat)) ++ ((rBytes d0.1 ((rNum d0.1 16 ((rNum d0.1 ((last.length : Nat) : Int) ((rNum d0.1 1 (at_, bad)).2)).2)).1) ((rNum d0.1 16 ((rNum d0.1 ((last.length : Nat) : Int) ((rNum d0.1 1 (at_, bad)).2)).2)).2)).1)), str ((rBytes d0.1 ((rNum d0.1 32 ((rBytes d0.1 ((rNum d0.1 16 ((rNum d0.1 ((last.length : Nat) : Int) ((rNum d0.1 1 (at_, bad)).2)).2)).1) ((rNum d0.1 16 ((rNum d0.1 ((last.length : Nat) : Int) ((rNum d0.1 1 (at_, bad)).2)).2)).2)).2)).1) ((rNum d0.1 32 ((rBytes d0.1 ((rNum d0.1 16 ((rNum d0.1 ((last.length : Nat) : Int) ((rNum d0.1 1 (at_, bad)).2)).2)).1) ((rNum d0.1 16 ((rNum d0.1 ((last.length : Nat) : Int) ((rNum d0.1 1 (at_, bad)).2)).2)).2)).2)).2)).1)]) 132 rfl rfl (.inr ⟨tk9, rfl⟩) rfl rfl rfl rfl rfl ?_
        refine VO.k11 0 2 3 4 5 6 7 8 9 20 43 ?_
        refine outN ?_
        refine VC.seq ?_
        refine VC.rs ?_
        refine VO.mv ?_
        refine VO.y rfl (.fa rfl tst78 rfl) ?_
        refine VO.y rfl (.ld1 132 rfl tk9 rfl (cellsAt_one rfl rfl)) ?_
        refine VO.callN 146 rfl fnOk118 rfl (fun W hW => rShared_ok W last bdm ((last.take (((rNum d0.1 ((last.length : Nat) : Int) ((rNum d0.1 1 (at_, bad)).2)).1).toNat)) ++ ((rBytes d0.1 ((rNum d0.1 16 ((rNum d0.1 ((last.length : Nat) : Int) ((rNum d0.1 1 (at_, bad)).2)).2)).1) ((rNum d0.1 16 ((rNum d0.1 ((last.length : Nat) : Int) ((rNum d0.1 1 (at_, bad)).2)).2)).2)).1)) bdm) (fun v46 m46 hv46 => ?_)
        subst hv46
        have hfa47 := shared_le last ((last.take (((rNum d0.1 ((last.length : Nat) : Int) ((rNum d0.1 1 (at_, bad)).2)).1).toNat)) ++ ((rBytes d0.1 ((rNum d0.1 16 ((rNum d0.1 ((last.length : Nat) : Int) ((rNum d0.1 1 (at_, bad)).2)).2)).1) ((rNum d0.1 16 ((rNum d0.1 ((last.length : Nat) : Int) ((rNum d0.1 1 (at_, bad)).2)).2)).2)).1))
        refine VO.mv ?_
        refine VO.y rfl (.neq rfl rfl) ?_
        refine VO.kp [141, 132, 125, 106, 0] [(141, mone g0 (.cells [Value.slice A0_0 (d0.1.length) (c0_0), Value.int .i64 ((rBytes d0.1 ((rNum d0.1 32 ((rBytes d0.1 ((rNum d0.1 16 ((rNum d0.1 ((last.length : Nat) : Int) ((rNum d0.1 1 (at_, bad)).2)).2)).1) ((rNum d0.1 16 ((rNum d0.1 ((last.length : Nat) : Int) ((rNum d0.1 1 (at_, bad)).2)).2)).2)).2)).1) ((rNum d0.1 32 ((rBytes d0.1 ((rNum d0.1 16 ((rNum d0.1 ((last.length : Nat) : Int) ((rNum d0.1 1 (at_, bad)).2)).2)).1) ((rNum d0.1 16 ((rNum d0.1 ((last.length : Nat) : Int) ((rNum d0.1 1 (at_, bad)).2)).2)).2)).2)).2)).2.1), Value.bool ((rBytes d0.1 ((rNum d0.1 32 ((rBytes d0.1 ((rNum d0.1 16 ((rNum d0.1 ((last.length : Nat) : Int) ((rNum d0.1 1 (at_, bad)).2)).2)).1) ((rNum d0.1 16 ((rNum d0.1 ((last.length : Nat) : Int) ((rNum d0.1 1 (at_, bad)).2)).2)).2)).2)).1) ((rNum d0.1 32 ((rBytes d0.1 ((rNum d0.1 16 ((rNum d0.1 ((last.length : Nat) : Int) ((rNum d0.1 1 (at_, bad)).2)).2)).1) ((rNum d0.1 16 ((rNum d0.1 ((last.length : Nat) : Int) ((rNum d0.1 1 (at_, bad)).2)).2)).2)).2)).2)).2.2)].toArray E0 (0, 0))), (132, mone g31 (.cells [Value.bool (decide (((rNum d0.1 1 (at_, bad)).1) = 1)), str ((last.take (((rNum d0.1 ((last.length : Nat) : Int) ((rNum d0.1 1 (at_, bad)).2)).1).toNat)) ++ ((rBytes d0.1 ((rNum d0.1 16 ((rNum d0.1 ((last.length : Nat) : Int) ((rNum d0.1 1 (at_, bad)).2)).2)).1) ((rNum d0.1 16 ((rNum d0.1 ((last.length : Nat) : Int) ((rNum d0.1 1 (at_, bad)).2)).2)).2)).1)), str ((rBytes d0.1 ((rNum d0.1 32 ((rBytes d0.1 ((rNum d0.1 16 ((rNum d0.1 ((last.length : Nat) : Int) ((rNum d0.1 1 (at_, bad)).2)).2)).1) ((rNum d0.1 16 ((rNum d0.1 ((last.length : Nat) : Int) ((rNum d0.1 1 (at_, bad)).2)).2)).2)).2)).1) ((rNum d0.1 32 ((rBytes d0.1 ((rNum d0.1 16 ((rNum d0.1 ((last.length : Nat) : Int) ((rNum d0.1 1 (at_, bad)).2)).2)).1) ((rNum d0.1 16 ((rNum d0.1 ((last.length : Nat) : Int) ((rNum d0.1 1 (at_, bad)).2)).2)).2)).2)).2)).1)].toArray 78 (0, 0))), (125, p24_0), (106, l_m), (0, mout (wm W) (mone g0 (.cells [Value.slice A0_0 (d0.1.length) (c0_0), Value.int .i64 (d0.2.1), Value.bool d0.2.2].toArray E0 (0, 0))))] ?_
        refine VO.k12 0 2 3 4 5 6 7 8 9 20 43 55 ?_
        refine VC.cond rfl (fun hc48 => ?_) (fun hc48 => ?_)
        · -- TTTT
          refine VC.reg ?_
          refine VO.mv ?_
          refine VO.y rfl (.nilp rfl) ?_
          refine VO.y rfl (.fa rfl tst117 rfl) ?_
          refine VO.store (k := 1) (c' := [Value.slice A0_0 (d0.1.length) (c0_0), Value.int .i64 ((rBytes d0.1 ((rNum d0.1 32 ((rBytes d0.1 ((rNum d0.1 16 ((rNum d0.1 ((last.length : Nat) : Int) ((rNum d0.1 1 (at_, bad)).2)).2)).1) ((rNum d0.1 16 ((rNum d0.1 ((last.length : Nat) : Int) ((rNum d0.1 1 (at_, bad)).2)).2)).2)).2)).1) ((rNum d0.1 32 ((rBytes d0.1 ((rNum d0.1 16 ((rNum d0.1 ((last.length : Nat) : Int) ((rNum d0.1 1 (at_, bad)).2)).2)).1) ((rNum d0.1 16 ((rNum d0.1 ((last.length : Nat) : Int) ((rNum d0.1 1 (at_, bad)).2)).2)).2)).2)).2)).2.1), Value.bool true]) 141 rfl rfl (.inr ⟨tk4, rfl⟩) rfl rfl rfl rfl rfl ?_
          refine VO.k12 0 2 3 4 5 6 7 8 9 20 43 55 ?_
          refine outN ?_
          refine VC.rs ?_
          refine VO.mv ?_
          refine VO.y rfl (.ldA 132 rfl tk78 rfl (cellsAt_one rfl rfl)) ?_
          refine VO.bsl (cs := [Value.bool (decide (((rNum d0.1 1 (at_, bad)).1) = 1)), str ((last.take (((rNum d0.1 ((last.length : Nat) : Int) ((rNum d0.1 1 (at_, bad)).2)).1).toNat)) ++ ((rBytes d0.1 ((rNum d0.1 16 ((rNum d0.1 ((last.length : Nat) : Int) ((rNum d0.1 1 (at_, bad)).2)).2)).1) ((rNum d0.1 16 ((rNum d0.1 ((last.length : Nat) : Int) ((rNum d0.1 1 (at_, bad)).2)).2)).2)).1)), str ((rBytes d0.1 ((rNum d0.1 32 ((rBytes d0.1 ((rNum d0.1 16 ((rNum d0.1 ((last.length : Nat) : Int) ((rNum d0.1 1 (at_, bad)).2)).2)).1) ((rNum d0.1 16 ((rNum d0.1 ((last.length : Nat) : Int) ((rNum d0.1 1 (at_, bad)).2)).2)).2)).2)).1) ((rNum d0.1 32 ((rBytes d0.1 ((rNum d0.1 16 ((rNum d0.1 ((last.length : Nat) : Int) ((rNum d0.1 1 (at_, bad)).2)).2)).1) ((rNum d0.1 16 ((rNum d0.1 ((last.length : Nat) : Int) ((rNum d0.1 1 (at_, bad)).2)).2)).2)).2)).2)).1)]) 150 rfl rfl tsl30 tz78 rfl rfl (fun g49 => ?_)
          obtain ⟨mo51, cs51, hM51, hA51, hC51⟩ := h_l
          refine VO.app 106 rfl rfl rfl tsl30 tz78 rfl rfl hM51 hA51 (.row 150 _ _ _ 1 1 _ _ Try.underlying30 rfl (cellsAt_one rfl rfl)) (by simp [Value.oneCell']) bdm bd (by decide) (fun v51 m51 hN51 => ?_)
          have ho51 : OwnL TOp m51 mnil v51 (l ++ [(decide (((rNum d0.1 1 (at_, bad)).1) = 1), (last.take (((rNum d0.1 ((last.length : Nat) : Int) ((rNum d0.1 1 (at_, bad)).2)).1).toNat)) ++ ((rBytes d0.1 ((rNum d0.1 16 ((rNum d0.1 ((last.length : Nat) : Int) ((rNum d0.1 1 (at_, bad)).2)).2)).1) ((rNum d0.1 16 ((rNum d0.1 ((last.length : Nat) : Int) ((rNum d0.1 1 (at_, bad)).2)).2)).2)).1), (rBytes d0.1 ((rNum d0.1 32 ((rBytes d0.1 ((rNum d0.1 16 ((rNum d0.1 ((last.length : Nat) : Int) ((rNum d0.1 1 (at_, bad)).2)).2)).1) ((rNum d0.1 16 ((rNum d0.1 ((last.length : Nat) : Int) ((rNum d0.1 1 (at_, bad)).2)).2)).2)).2)).1) ((rNum d0.1 32 ((rBytes d0.1 ((rNum d0.1 16 ((rNum d0.1 ((last.length : Nat) : Int) ((rNum d0.1 1 (at_, bad)).2)).2)).1) ((rNum d0.1 16 ((rNum d0.1 ((last.length : Nat) : Int) ((rNum d0.1 1 (at_, bad)).2)).2)).2)).2)).2)).1)]) := OwnL.one hC51 hN51 (mk_Op (m := _) (decide (((rNum d0.1 1 (at_, bad)).1) = 1)) ((last.take (((rNum d0.1 ((last.length : Nat) : Int) ((rNum d0.1 1 (at_, bad)).2)).1).toNat)) ++ ((rBytes d0.1 ((rNum d0.1 16 ((rNum d0.1 ((last.length : Nat) : Int) ((rNum d0.1 1 (at_, bad)).2)).2)).1) ((rNum d0.1 16 ((rNum d0.1 ((last.length : Nat) : Int) ((rNum d0.1 1 (at_, bad)).2)).2)).2)).1)) ((rBytes d0.1 ((rNum d0.1 32 ((rBytes d0.1 ((rNum d0.1 16 ((rNum d0.1 ((last.length : Nat) : Int) ((rNum d0.1 1 (at_, bad)).2)).2)).1) ((rNum d0.1 16 ((rNum d0.1 ((last.length : Nat) : Int) ((rNum d0.1 1 (at_, bad)).2)).2)).2)).2)).1) ((rNum d0.1 32 ((rBytes d0.1 ((rNum d0.1 16 ((rNum d0.1 ((last.length : Nat) : Int) ((rNum d0.1 1 (at_, bad)).2)).2)).1) ((rNum d0.1 16 ((rNum d0.1 ((last.length : Nat) : Int) ((rNum d0.1 1 (at_, bad)).2)).2)).2)).2)).2)).1) bdm bdm)
          obtain ⟨A51, c51, rfl, l51, k51⟩ := ho51.slice
          simp only [maxLen] at k51
          have hop : rOp2 d0.1 last (at_, bad) = ((decide (((rNum d0.1 1 (at_, bad)).1) = 1), (last.take (((rNum d0.1 ((last.length : Nat) : Int) ((rNum d0.1 1 (at_, bad)).2)).1).toNat)) ++ ((rBytes d0.1 ((rNum d0.1 16 ((rNum d0.1 ((last.length : Nat) : Int) ((rNum d0.1 1 (at_, bad)).2)).2)).1) ((rNum d0.1 16 ((rNum d0.1 ((last.length : Nat) : Int) ((rNum d0.1 1 (at_, bad)).2)).2)).2)).1), (rBytes d0.1 ((rNum d0.1 32 ((rBytes d0.1 ((rNum d0.1 16 ((rNum d0.1 ((last.length : Nat) : Int) ((rNum d0.1 1 (at_, bad)).2)).2)).1) ((rNum d0.1 16 ((rNum d0.1 ((last.length : Nat) : Int) ((rNum d0.1 1 (at_, bad)).2)).2)).2)).2)).1) ((rNum d0.1 32 ((rBytes d0.1 ((rNum d0.1 16 ((rNum d0.1 ((last.length : Nat) : Int) ((rNum d0.1 1 (at_, bad)).2)).2)).1) ((rNum d0.1 16 ((rNum d0.1 ((last.length : Nat) : Int) ((rNum d0.1 1 (at_, bad)).2)).2)).2)).2)).2)).1), ((rBytes d0.1 ((rNum d0.1 32 ((rBytes d0.1 ((rNum d0.1 16 ((rNum d0.1 ((last.length : Nat) : Int) ((rNum d0.1 1 (at_, bad)).2)).2)).1) ((rNum d0.1 16 ((rNum d0.1 ((last.length : Nat) : Int) ((rNum d0.1 1 (at_, bad)).2)).2)).2)).2)).1) ((rNum d0.1 32 ((rBytes d0.1 ((rNum d0.1 16 ((rNum d0.1 ((last.length : Nat) : Int) ((rNum d0.1 1 (at_, bad)).2)).2)).1) ((rNum d0.1 16 ((rNum d0.1 ((last.length : Nat) : Int) ((rNum d0.1 1 (at_, bad)).2)).2)).2)).2)).2)).2.1, true)) := by unfold rOp2 rText; dsimp only; (first | simp only [if_pos ‹(rNum d0.1 1 (at_, bad)).1 = 1›] | simp only [if_neg ‹¬ (rNum d0.1 1 (at_, bad)).1 = 1›]); (first | rw [if_pos (by assumption)] | rw [if_neg (by assumption)])
          have hs9 := ops2_step hp (by omega) (by assumption)
          have ho9 := (rOp2_ok (last := last) hok (by omega)).1
          have hl9 := (rOp2_ok (last := last) hok (by omega)).2.1
          rw [hop] at hs9 ho9 hl9
          dsimp only at hs9 ho9 hl9
          refine VO.as ?_
          refine VO.k12 0 2 3 4 5 6 7 8 9 20 43 55 ?_
          refine VC.reg ?_
          refine VO.y rfl (.fa rfl tst78 rfl) ?_
          refine VO.y rfl (.ld1 132 rfl tk9 rfl (cellsAt_one rfl rfl)) ?_
          refine VO.as ?_
          refine VO.kp [141, 132, 125, 106, 0] [(141, mone g0 (.cells [Value.slice A0_0 (d0.1.length) (c0_0), Value.int .i64 ((rBytes d0.1 ((rNum d0.1 32 ((rBytes d0.1 ((rNum d0.1 16 ((rNum d0.1 ((last.length : Nat) : Int) ((rNum d0.1 1 (at_, bad)).2)).2)).1) ((rNum d0.1 16 ((rNum d0.1 ((last.length : Nat) : Int) ((rNum d0.1 1 (at_, bad)).2)).2)).2)).2)).1) ((rNum d0.1 32 ((rBytes d0.1 ((rNum d0.1 16 ((rNum d0.1 ((last.length : Nat) : Int) ((rNum d0.1 1 (at_, bad)).2)).2)).1) ((rNum d0.1 16 ((rNum d0.1 ((last.length : Nat) : Int) ((rNum d0.1 1 (at_, bad)).2)).2)).2)).2)).2)).2.1), Value.bool true].toArray E0 (0, 0))), (132, mone g31 (.cells [Value.bool (decide (((rNum d0.1 1 (at_, bad)).1) = 1)), str ((last.take (((rNum d0.1 ((last.length : Nat) : Int) ((rNum d0.1 1 (at_, bad)).2)).1).toNat)) ++ ((rBytes d0.1 ((rNum d0.1 16 ((rNum d0.1 ((last.length : Nat) : Int) ((rNum d0.1 1 (at_, bad)).2)).2)).1) ((rNum d0.1 16 ((rNum d0.1 ((last.length : Nat) : Int) ((rNum d0.1 1 (at_, bad)).2)).2)).2)).1)), str ((rBytes d0.1 ((rNum d0.1 32 ((rBytes d0.1 ((rNum d0.1 16 ((rNum d0.1 ((last.length : Nat) : Int) ((rNum d0.1 1 (at_, bad)).2)).2)).1) ((rNum d0.1 16 ((rNum d0.1 ((last.length : Nat) : Int) ((rNum d0.1 1 (at_, bad)).2)).2)).2)).2)).1) ((rNum d0.1 32 ((rBytes d0.1 ((rNum d0.1 16 ((rNum d0.1 ((last.length : Nat) : Int) ((rNum d0.1 1 (at_, bad)).2)).2)).1) ((rNum d0.1 16 ((rNum d0.1 ((last.length : Nat) : Int) ((rNum d0.1 1 (at_, bad)).2)).2)).2)).2)).2)).1)].toArray 78 (0, 0))), (125, p24_0), (106, m51), (0, mout (wm W) (mone g0 (.cells [Value.slice A0_0 (d0.1.length) (c0_0), Value.int .i64 (d0.2.1), Value.bool d0.2.2].toArray E0 (0, 0))))] ?_
          refine VO.k12 0 2 3 4 5 6 7 8 9 20 43 55 ?_
          refine outBN ?_
          refine outN ?_
          refine VC.reg ?_
          refine VO.mv ?_
          refine VO.y rfl (.sub rfl rfl rfl ⟨bd, bd⟩) ?_
          refine VO.as ?_
          refine VO.k12 0 2 3 4 5 6 7 8 9 20 43 55 ?_
          exact outN ⟨⟨k - 1, (last.take (((rNum d0.1 ((last.length : Nat) : Int) ((rNum d0.1 1 (at_, bad)).2)).1).toNat)) ++ ((rBytes d0.1 ((rNum d0.1 16 ((rNum d0.1 ((last.length : Nat) : Int) ((rNum d0.1 1 (at_, bad)).2)).2)).1) ((rNum d0.1 16 ((rNum d0.1 ((last.length : Nat) : Int) ((rNum d0.1 1 (at_, bad)).2)).2)).2)).1), l ++ [(decide (((rNum d0.1 1 (at_, bad)).1) = 1), (last.take (((rNum d0.1 ((last.length : Nat) : Int) ((rNum d0.1 1 (at_, bad)).2)).1).toNat)) ++ ((rBytes d0.1 ((rNum d0.1 16 ((rNum d0.1 ((last.length : Nat) : Int) ((rNum d0.1 1 (at_, bad)).2)).2)).1) ((rNum d0.1 16 ((rNum d0.1 ((last.length : Nat) : Int) ((rNum d0.1 1 (at_, bad)).2)).2)).2)).1), (rBytes d0.1 ((rNum d0.1 32 ((rBytes d0.1 ((rNum d0.1 16 ((rNum d0.1 ((last.length : Nat) : Int) ((rNum d0.1 1 (at_, bad)).2)).2)).1) ((rNum d0.1 16 ((rNum d0.1 ((last.length : Nat) : Int) ((rNum d0.1 1 (at_, bad)).2)).2)).2)).2)).1) ((rNum d0.1 32 ((rBytes d0.1 ((rNum d0.1 16 ((rNum d0.1 ((last.length : Nat) : Int) ((rNum d0.1 1 (at_, bad)).2)).2)).1) ((rNum d0.1 16 ((rNum d0.1 ((last.length : Nat) : Int) ((rNum d0.1 1 (at_, bad)).2)).2)).2)).2)).2)).1)], A51, c51, m51, (rBytes d0.1 ((rNum d0.1 32 ((rBytes d0.1 ((rNum d0.1 16 ((rNum d0.1 ((last.length : Nat) : Int) ((rNum d0.1 1 (at_, bad)).2)).2)).1) ((rNum d0.1 16 ((rNum d0.1 ((last.length : Nat) : Int) ((rNum d0.1 1 (at_, bad)).2)).2)).2)).2)).1) ((rNum d0.1 32 ((rBytes d0.1 ((rNum d0.1 16 ((rNum d0.1 ((last.length : Nat) : Int) ((rNum d0.1 1 (at_, bad)).2)).2)).1) ((rNum d0.1 16 ((rNum d0.1 ((last.length : Nat) : Int) ((rNum d0.1 1 (at_, bad)).2)).2)).2)).2)).2)).2.1, true⟩, ⟨by exact hs9, by exact ho9, by omega, by (simp only [List.length_append, List.length_cons, List.length_nil]; omega), by dsimp only; omega, ho51⟩, bd, ⟨⟨rfl, rfl, rfl, rfl, rfl, trivial⟩, fun _ h => Inv.sub (Inv.num h 141 1 rfl) [106, 1, 0]⟩⟩
        · -- TTTF
          refine VC.skip ?_
          refine outN ?_
          refine VC.rs ?_
          refine VO.mv ?_
          refine VO.y rfl (.ldA 132 rfl tk78 rfl (cellsAt_one rfl rfl)) ?_
          refine VO.bsl (cs := [Value.bool (decide (((rNum d0.1 1 (at_, bad)).1) = 1)), str ((last.take (((rNum d0.1 ((last.length : Nat) : Int) ((rNum d0.1 1 (at_, bad)).2)).1).toNat)) ++ ((rBytes d0.1 ((rNum d0.1 16 ((rNum d0.1 ((last.length : Nat) : Int) ((rNum d0.1 1 (at_, bad)).2)).2)).1) ((rNum d0.1 16 ((rNum d0.1 ((last.length : Nat) : Int) ((rNum d0.1 1 (at_, bad)).2)).2)).2)).1)), str ((rBytes d0.1 ((rNum d0.1 32 ((rBytes d0.1 ((rNum d0.1 16 ((rNum d0.1 ((last.length : Nat) : Int) ((rNum d0.1 1 (at_, bad)).2)).2)).1) ((rNum d0.1 16 ((rNum d0.1 ((last.length : Nat) : Int) ((rNum d0.1 1 (at_, bad)).2)).2)).2)).2)).1) ((rNum d0.1 32 ((rBytes d0.1 ((rNum d0.1 16 ((rNum d0.1 ((last.length : Nat) : Int) ((rNum d0.1 1 (at_, bad)).2)).2)).1) ((rNum d0.1 16 ((rNum d0.1 ((last.length : Nat) : Int) ((rNum d0.1 1 (at_, bad)).2)).2)).2)).2)).2)).1)]) 153 rfl rfl tsl30 tz78 rfl rfl (fun g52 => ?_)
          obtain ⟨mo54, cs54, hM54, hA54, hC54⟩ := h_l
          refine VO.app 106 rfl rfl rfl tsl30 tz78 rfl rfl hM54 hA54 (.row 153 _ _ _ 1 1 _ _ Try.underlying30 rfl (cellsAt_one rfl rfl)) (by simp [Value.oneCell']) bdm bd (by decide) (fun v54 m54 hN54 => ?_)
          have ho54 : OwnL TOp m54 mnil v54 (l ++ [(decide (((rNum d0.1 1 (at_, bad)).1) = 1), (last.take (((rNum d0.1 ((last.length : Nat) : Int) ((rNum d0.1 1 (at_, bad)).2)).1).toNat)) ++ ((rBytes d0.1 ((rNum d0.1 16 ((rNum d0.1 ((last.length : Nat) : Int) ((rNum d0.1 1 (at_, bad)).2)).2)).1) ((rNum d0.1 16 ((rNum d0.1 ((last.length : Nat) : Int) ((rNum d0.1 1 (at_, bad)).2)).2)).2)).1), (rBytes d0.1 ((rNum d0.1 32 ((rBytes d0.1 ((rNum d0.1 16 ((rNum d0.1 ((last.length : Nat) : Int) ((rNum d0.1 1 (at_, bad)).2)).2)).1) ((rNum d0.1 16 ((rNum d0.1 ((last.length : Nat) : Int) ((rNum d0.1 1 (at_, bad)).2)).2)).2)).2)).1) ((rNum d0.1 32 ((rBytes d0.1 ((rNum d0.1 16 ((rNum d0.1 ((last.length : Nat) : Int) ((rNum d0.1 1 (at_, bad)).2)).2)).1) ((rNum d0.1 16 ((rNum d0.1 ((last.length : Nat) : Int) ((rNum d0.1 1 (at_, bad)).2)).2)).2)).2)).2)).1)]) := OwnL.one hC54 hN54 (mk_Op (m := _) (decide (((rNum d0.1 1 (at_, bad)).1) = 1)) ((last.take (((rNum d0.1 ((last.length : Nat) : Int) ((rNum d0.1 1 (at_, bad)).2)).1).toNat)) ++ ((rBytes d0.1 ((rNum d0.1 16 ((rNum d0.1 ((last.length : Nat) : Int) ((rNum d0.1 1 (at_, bad)).2)).2)).1) ((rNum d0.1 16 ((rNum d0.1 ((last.length : Nat) : Int) ((rNum d0.1 1 (at_, bad)).2)).2)).2)).1)) ((rBytes d0.1 ((rNum d0.1 32 ((rBytes d0.1 ((rNum d0.1 16 ((rNum d0.1 ((last.length : Nat) : Int) ((rNum d0.1 1 (at_, bad)).2)).2)).1) ((rNum d0.1 16 ((rNum d0.1 ((last.length : Nat) : Int) ((rNum d0.1 1 (at_, bad)).2)).2)).2)).2)).1) ((rNum d0.1 32 ((rBytes d0.1 ((rNum d0.1 16 ((rNum d0.1 ((last.length : Nat) : Int) ((rNum d0.1 1 (at_, bad)).2)).2)).1) ((rNum d0.1 16 ((rNum d0.1 ((last.length : Nat) : Int) ((rNum d0.1 1 (at_, bad)).2)).2)).2)).2)).2)).1) bdm bdm)
          obtain ⟨A54, c54, rfl, l54, k54⟩ := ho54.slice
          simp only [maxLen] at k54
          have hop : rOp2 d0.1 last (at_, bad) = ((decide (((rNum d0.1 1 (at_, bad)).1) = 1), (last.take (((rNum d0.1 ((last.length : Nat) : Int) ((rNum d0.1 1 (at_, bad)).2)).1).toNat)) ++ ((rBytes d0.1 ((rNum d0.1 16 ((rNum d0.1 ((last.length : Nat) : Int) ((rNum d0.1 1 (at_, bad)).2)).2)).1) ((rNum d0.1 16 ((rNum d0.1 ((last.length : Nat) : Int) ((rNum d0.1 1 (at_, bad)).2)).2)).2)).1), (rBytes d0.1 ((rNum d0.1 32 ((rBytes d0.1 ((rNum d0.1 16 ((rNum d0.1 ((last.length : Nat) : Int) ((rNum d0.1 1 (at_, bad)).2)).2)).1) ((rNum d0.1 16 ((rNum d0.1 ((last.length : Nat) : Int) ((rNum d0.1 1 (at_, bad)).2)).2)).2)).2)).1) ((rNum d0.1 32 ((rBytes d0.1 ((rNum d0.1 16 ((rNum d0.1 ((last.length : Nat) : Int) ((rNum d0.1 1 (at_, bad)).2)).2)).1) ((rNum d0.1 16 ((rNum d0.1 ((last.length : Nat) : Int) ((rNum d0.1 1 (at_, bad)).2)).2)).2)).2)).2)).1), ((rBytes d0.1 ((rNum d0.1 32 ((rBytes d0.1 ((rNum d0.1 16 ((rNum d0.1 ((last.length : Nat) : Int) ((rNum d0.1 1 (at_, bad)).2)).2)).1) ((rNum d0.1 16 ((rNum d0.1 ((last.length : Nat) : Int) ((rNum d0.1 1 (at_, bad)).2)).2)).2)).2)).1) ((rNum d0.1 32 ((rBytes d0.1 ((rNum d0.1 16 ((rNum d0.1 ((last.length : Nat) : Int) ((rNum d0.1 1 (at_, bad)).2)).2)).1) ((rNum d0.1 16 ((rNum d0.1 ((last.length : Nat) : Int) ((rNum d0.1 1 (at_, bad)).2)).2)).2)).2)).2)).2.1, (rBytes d0.1 ((rNum d0.1 32 ((rBytes d0.1 ((rNum d0.1 16 ((rNum d0.1 ((last.length : Nat) : Int) ((rNum d0.1 1 (at_, bad)).2)).2)).1) ((rNum d0.1 16 ((rNum d0.1 ((last.length : Nat) : Int) ((rNum d0.1 1 (at_, bad)).2)).2)).2)).2)).1) ((rNum d0.1 32 ((rBytes d0.1 ((rNum d0.1 16 ((rNum d0.1 ((last.length : Nat) : Int) ((rNum d0.1 1 (at_, bad)).2)).2)).1) ((rNum d0.1 16 ((rNum d0.1 ((last.length : Nat) : Int) ((rNum d0.1 1 (at_, bad)).2)).2)).2)).2)).2)).2.2)) := by unfold rOp2 rText; dsimp only; (first | simp only [if_pos ‹(rNum d0.1 1 (at_, bad)).1 = 1›] | simp only [if_neg ‹¬ (rNum d0.1 1 (at_, bad)).1 = 1›]); (first | rw [if_pos (by assumption)] | rw [if_neg (by assumption)])
          have hs9 := ops2_step hp (by omega) (by assumption)
          have ho9 := (rOp2_ok (last := last) hok (by omega)).1
          have hl9 := (rOp2_ok (last := last) hok (by omega)).2.1
          rw [hop] at hs9 ho9 hl9
          dsimp only at hs9 ho9 hl9
          refine VO.as ?_
          refine VO.k12 0 2 3 4 5 6 7 8 9 20 43 55 ?_
          refine VC.reg ?_
          refine VO.y rfl (.fa rfl tst78 rfl) ?_
          refine VO.y rfl (.ld1 132 rfl tk9 rfl (cellsAt_one rfl rfl)) ?_
          refine VO.as ?_
          refine VO.k12 0 2 3 4 5 6 7 8 9 20 43 55 ?_
          refine outBN ?_
          refine outN ?_
          refine VC.reg ?_
          refine VO.mv ?_
          refine VO.y rfl (.sub rfl rfl rfl ⟨bd, bd⟩) ?_
          refine VO.as ?_
          refine VO.kp [141, 132, 125, 106, 0] [(141, mone g0 (.cells [Value.slice A0_0 (d0.1.length) (c0_0), Value.int .i64 ((rBytes d0.1 ((rNum d0.1 32 ((rBytes d0.1 ((rNum d0.1 16 ((rNum d0.1 ((last.length : Nat) : Int) ((rNum d0.1 1 (at_, bad)).2)).2)).1) ((rNum d0.1 16 ((rNum d0.1 ((last.length : Nat) : Int) ((rNum d0.1 1 (at_, bad)).2)).2)).2)).2)).1) ((rNum d0.1 32 ((rBytes d0.1 ((rNum d0.1 16 ((rNum d0.1 ((last.length : Nat) : Int) ((rNum d0.1 1 (at_, bad)).2)).2)).1) ((rNum d0.1 16 ((rNum d0.1 ((last.length : Nat) : Int) ((rNum d0.1 1 (at_, bad)).2)).2)).2)).2)).2)).2.1), Value.bool ((rBytes d0.1 ((rNum d0.1 32 ((rBytes d0.1 ((rNum d0.1 16 ((rNum d0.1 ((last.length : Nat) : Int) ((rNum d0.1 1 (at_, bad)).2)).2)).1) ((rNum d0.1 16 ((rNum d0.1 ((last.length : Nat) : Int) ((rNum d0.1 1 (at_, bad)).2)).2)).2)).2)).1) ((rNum d0.1 32 ((rBytes d0.1 ((rNum d0.1 16 ((rNum d0.1 ((last.length : Nat) : Int) ((rNum d0.1 1 (at_, bad)).2)).2)).1) ((rNum d0.1 16 ((rNum d0.1 ((last.length : Nat) : Int) ((rNum d0.1 1 (at_, bad)).2)).2)).2)).2)).2)).2.2)].toArray E0 (0, 0))), (132, mone g31 (.cells [Value.bool (decide (((rNum d0.1 1 (at_, bad)).1) = 1)), str ((last.take (((rNum d0.1 ((last.length : Nat) : Int) ((rNum d0.1 1 (at_, bad)).2)).1).toNat)) ++ ((rBytes d0.1 ((rNum d0.1 16 ((rNum d0.1 ((last.length : Nat) : Int) ((rNum d0.1 1 (at_, bad)).2)).2)).1) ((rNum d0.1 16 ((rNum d0.1 ((last.length : Nat) : Int) ((rNum d0.1 1 (at_, bad)).2)).2)).2)).1)), str ((rBytes d0.1 ((rNum d0.1 32 ((rBytes d0.1 ((rNum d0.1 16 ((rNum d0.1 ((last.length : Nat) : Int) ((rNum d0.1 1 (at_, bad)).2)).2)).1) ((rNum d0.1 16 ((rNum d0.1 ((last.length : Nat) : Int) ((rNum d0.1 1 (at_, bad)).2)).2)).2)).2)).1) ((rNum d0.1 32 ((rBytes d0.1 ((rNum d0.1 16 ((rNum d0.1 ((last.length : Nat) : Int) ((rNum d0.1 1 (at_, bad)).2)).2)).1) ((rNum d0.1 16 ((rNum d0.1 ((last.length : Nat) : Int) ((rNum d0.1 1 (at_, bad)).2)).2)).2)).2)).2)).1)].toArray 78 (0, 0))), (125, p24_0), (106, m54), (0, mout (wm W) (mone g0 (.cells [Value.slice A0_0 (d0.1.length) (c0_0), Value.int .i64 (d0.2.1), Value.bool d0.2.2].toArray E0 (0, 0))))] ?_
          refine VO.k12 0 2 3 4 5 6 7 8 9 20 43 55 ?_
          exact outN ⟨⟨k - 1, (last.take (((rNum d0.1 ((last.length : Nat) : Int) ((rNum d0.1 1 (at_, bad)).2)).1).toNat)) ++ ((rBytes d0.1 ((rNum d0.1 16 ((rNum d0.1 ((last.length : Nat) : Int) ((rNum d0.1 1 (at_, bad)).2)).2)).1) ((rNum d0.1 16 ((rNum d0.1 ((last.length : Nat) : Int) ((rNum d0.1 1 (at_, bad)).2)).2)).2)).1), l ++ [(decide (((rNum d0.1 1 (at_, bad)).1) = 1), (last.take (((rNum d0.1 ((last.length : Nat) : Int) ((rNum d0.1 1 (at_, bad)).2)).1).toNat)) ++ ((rBytes d0.1 ((rNum d0.1 16 ((rNum d0.1 ((last.length : Nat) : Int) ((rNum d0.1 1 (at_, bad)).2)).2)).1) ((rNum d0.1 16 ((rNum d0.1 ((last.length : Nat) : Int) ((rNum d0.1 1 (at_, bad)).2)).2)).2)).1), (rBytes d0.1 ((rNum d0.1 32 ((rBytes d0.1 ((rNum d0.1 16 ((rNum d0.1 ((last.length : Nat) : Int) ((rNum d0.1 1 (at_, bad)).2)).2)).1) ((rNum d0.1 16 ((rNum d0.1 ((last.length : Nat) : Int) ((rNum d0.1 1 (at_, bad)).2)).2)).2)).2)).1) ((rNum d0.1 32 ((rBytes d0.1 ((rNum d0.1 16 ((rNum d0.1 ((last.length : Nat) : Int) ((rNum d0.1 1 (at_, bad)).2)).2)).1) ((rNum d0.1 16 ((rNum d0.1 ((last.length : Nat) : Int) ((rNum d0.1 1 (at_, bad)).2)).2)).2)).2)).2)).1)], A54, c54, m54, (rBytes d0.1 ((rNum d0.1 32 ((rBytes d0.1 ((rNum d0.1 16 ((rNum d0.1 ((last.length : Nat) : Int) ((rNum d0.1 1 (at_, bad)).2)).2)).1) ((rNum d0.1 16 ((rNum d0.1 ((last.length : Nat) : Int) ((rNum d0.1 1 (at_, bad)).2)).2)).2)).2)).1) ((rNum d0.1 32 ((rBytes d0.1 ((rNum d0.1 16 ((rNum d0.1 ((last.length : Nat) : Int) ((rNum d0.1 1 (at_, bad)).2)).2)).1) ((rNum d0.1 16 ((rNum d0.1 ((last.length : Nat) : Int) ((rNum d0.1 1 (at_, bad)).2)).2)).2)).2)).2)).2.1, (rBytes d0.1 ((rNum d0.1 32 ((rBytes d0.1 ((rNum d0.1 16 ((rNum d0.1 ((last.length : Nat) : Int) ((rNum d0.1 1 (at_, bad)).2)).2)).1) ((rNum d0.1 16 ((rNum d0.1 ((last.length : Nat) : Int) ((rNum d0.1 1 (at_, bad)).2)).2)).2)).2)).1) ((rNum d0.1 32 ((rBytes d0.1 ((rNum d0.1 16 ((rNum d0.1 ((last.length : Nat) : Int) ((rNum d0.1 1 (at_, bad)).2)).2)).1) ((rNum d0.1 16 ((rNum d0.1 ((last.length : Nat) : Int) ((rNum d0.1 1 (at_, bad)).2)).2)).2)).2)).2)).2.2⟩, ⟨by exact hs9, by exact ho9, by omega, by (simp only [List.length_append, List.length_cons, List.length_nil]; omega), by dsimp only; omega, ho54⟩, bd, ⟨⟨rfl, rfl, rfl, rfl, rfl, trivial⟩, fun _ h => Inv.sub (Inv.num h 141 1 rfl) [106, 1, 0]⟩⟩
      · -- TTF
        refine VC.skip ?_
        refine outN ?_
        refine VC.seq ?_
        refine VC.rs ?_
        refine VO.mv ?_
        refine VO.y rfl (.fa rfl tst78 rfl) ?_
        refine VO.y rfl (.ld1 132 rfl tk9 rfl (cellsAt_one rfl rfl)) ?_
        refine VO.callN 155 rfl fnOk118 rfl (fun W hW => rShared_ok W last bdm ((last.take (((rNum d0.1 ((last.length : Nat) : Int) ((rNum d0.1 1 (at_, bad)).2)).1).toNat)) ++ ((rBytes d0.1 ((rNum d0.1 16 ((rNum d0.1 ((last.length : Nat) : Int) ((rNum d0.1 1 (at_, bad)).2)).2)).1) ((rNum d0.1 16 ((rNum d0.1 ((last.length : Nat) : Int) ((rNum d0.1 1 (at_, bad)).2)).2)).2)).1)) bdm) (fun v55 m55 hv55 => ?_)
        subst hv55
        have hfa56 := shared_le last ((last.take (((rNum d0.1 ((last.length : Nat) : Int) ((rNum d0.1 1 (at_, bad)).2)).1).toNat)) ++ ((rBytes d0.1 ((rNum d0.1 16 ((rNum d0.1 ((last.length : Nat) : Int) ((rNum d0.1 1 (at_, bad)).2)).2)).1) ((rNum d0.1 16 ((rNum d0.1 ((last.length : Nat) : Int) ((rNum d0.1 1 (at_, bad)).2)).2)).2)).1))
        refine VO.mv ?_
        refine VO.y rfl (.neq rfl rfl) ?_
        refine VO.k12 0 2 3 4 5 6 7 8 9 20 43 55 ?_
        refine VC.cond rfl (fun hc57 => ?_) (fun hc57 => ?_)
        · -- TTFT
          refine VC.reg ?_
          refine VO.mv ?_
          refine VO.y rfl (.nilp rfl) ?_
          refine VO.y rfl (.fa rfl tst117 rfl) ?_
          refine VO.store (k := 1) (c' := [Value.slice A0_0 (d0.1.length) (c0_0), Value.int .i64 ((rBytes d0.1 ((rNum d0.1 16 ((rNum d0.1 ((last.length : Nat) : Int) ((rNum d0.1 1 (at_, bad)).2)).2)).1) ((rNum d0.1 16 ((rNum d0.1 ((last.length : Nat) : Int) ((rNum d0.1 1 (at_, bad)).2)).2)).2)).2.1), Value.bool true]) 126 rfl rfl (.inr ⟨tk4, rfl⟩) rfl rfl rfl rfl rfl ?_
          refine VO.kp [132, 125, 126, 106, 0] [(132, mone g31 (.cells [Value.bool (decide (((rNum d0.1 1 (at_, bad)).1) = 1)), str ((last.take (((rNum d0.1 ((last.length : Nat) : Int) ((rNum d0.1 1 (at_, bad)).2)).1).toNat)) ++ ((rBytes d0.1 ((rNum d0.1 16 ((rNum d0.1 ((last.length : Nat) : Int) ((rNum d0.1 1 (at_, bad)).2)).2)).1) ((rNum d0.1 16 ((rNum d0.1 ((last.length : Nat) : Int) ((rNum d0.1 1 (at_, bad)).2)).2)).2)).1)), str ([])].toArray 78 (0, 0))), (125, p24_0), (126, mone g0 (.cells [Value.slice A0_0 (d0.1.length) (c0_0), Value.int .i64 ((rBytes d0.1 ((rNum d0.1 16 ((rNum d0.1 ((last.length : Nat) : Int) ((rNum d0.1 1 (at_, bad)).2)).2)).1) ((rNum d0.1 16 ((rNum d0.1 ((last.length : Nat) : Int) ((rNum d0.1 1 (at_, bad)).2)).2)).2)).2.1), Value.bool true].toArray E0 (0, 0))), (106, l_m), (0, mout (wm W) (mone g0 (.cells [Value.slice A0_0 (d0.1.length) (c0_0), Value.int .i64 (d0.2.1), Value.bool d0.2.2].toArray E0 (0, 0))))] ?_
          refine VO.k12 0 2 3 4 5 6 7 8 9 20 43 55 ?_
          refine outN ?_
          refine VC.rs ?_
          refine VO.mv ?_
          refine VO.y rfl (.ldA 132 rfl tk78 rfl (cellsAt_one rfl rfl)) ?_
          refine VO.bsl (cs := [Value.bool (decide (((rNum d0.1 1 (at_, bad)).1) = 1)), str ((last.take (((rNum d0.1 ((last.length : Nat) : Int) ((rNum d0.1 1 (at_, bad)).2)).1).toNat)) ++ ((rBytes d0.1 ((rNum d0.1 16 ((rNum d0.1 ((last.length : Nat) : Int) ((rNum d0.1 1 (at_, bad)).2)).2)).1) ((rNum d0.1 16 ((rNum d0.1 ((last.length : Nat) : Int) ((rNum d0.1 1 (at_, bad)).2)).2)).2)).1)), str ([])]) 159 rfl rfl tsl30 tz78 rfl rfl (fun g58 => ?_)
          obtain ⟨mo60, cs60, hM60, hA60, hC60⟩ := h_l
          refine VO.app 106 rfl rfl rfl tsl30 tz78 rfl rfl hM60 hA60 (.row 159 _ _ _ 1 1 _ _ Try.underlying30 rfl (cellsAt_one rfl rfl)) (by simp [Value.oneCell']) bdm bd (by decide) (fun v60 m60 hN60 => ?_)
          have ho60 : OwnL TOp m60 mnil v60 (l ++ [(decide (((rNum d0.1 1 (at_, bad)).1) = 1), (last.take (((rNum d0.1 ((last.length : Nat) : Int) ((rNum d0.1 1 (at_, bad)).2)).1).toNat)) ++ ((rBytes d0.1 ((rNum d0.1 16 ((rNum d0.1 ((last.length : Nat) : Int) ((rNum d0.1 1 (at_, bad)).2)).2)).1) ((rNum d0.1 16 ((rNum d0.1 ((last.length : Nat) : Int) ((rNum d0.1 1 (at_, bad)).2)).2)).2)).1), [])]) := OwnL.one hC60 hN60 (mk_Op (m := _) (decide (((rNum d0.1 1 (at_, bad)).1) = 1)) ((last.take (((rNum d0.1 ((last.length : Nat) : Int) ((rNum d0.1 1 (at_, bad)).2)).1).toNat)) ++ ((rBytes d0.1 ((rNum d0.1 16 ((rNum d0.1 ((last.length : Nat) : Int) ((rNum d0.1 1 (at_, bad)).2)).2)).1) ((rNum d0.1 16 ((rNum d0.1 ((last.length : Nat) : Int) ((rNum d0.1 1 (at_, bad)).2)).2)).2)).1)) [] bdm bdm)
          obtain ⟨A60, c60, rfl, l60, k60⟩ := ho60.slice
          simp only [maxLen] at k60
          have hop : rOp2 d0.1 last (at_, bad) = ((decide (((rNum d0.1 1 (at_, bad)).1) = 1), (last.take (((rNum d0.1 ((last.length : Nat) : Int) ((rNum d0.1 1 (at_, bad)).2)).1).toNat)) ++ ((rBytes d0.1 ((rNum d0.1 16 ((rNum d0.1 ((last.length : Nat) : Int) ((rNum d0.1 1 (at_, bad)).2)).2)).1) ((rNum d0.1 16 ((rNum d0.1 ((last.length : Nat) : Int) ((rNum d0.1 1 (at_, bad)).2)).2)).2)).1), []), ((rBytes d0.1 ((rNum d0.1 16 ((rNum d0.1 ((last.length : Nat) : Int) ((rNum d0.1 1 (at_, bad)).2)).2)).1) ((rNum d0.1 16 ((rNum d0.1 ((last.length : Nat) : Int) ((rNum d0.1 1 (at_, bad)).2)).2)).2)).2.1, true)) := by unfold rOp2 rText; dsimp only; (first | simp only [if_pos ‹(rNum d0.1 1 (at_, bad)).1 = 1›] | simp only [if_neg ‹¬ (rNum d0.1 1 (at_, bad)).1 = 1›]); (first | rw [if_pos (by assumption)] | rw [if_neg (by assumption)])
          have hs9 := ops2_step hp (by omega) (by assumption)
          have ho9 := (rOp2_ok (last := last) hok (by omega)).1
          have hl9 := (rOp2_ok (last := last) hok (by omega)).2.1
          rw [hop] at hs9 ho9 hl9
          dsimp only at hs9 ho9 hl9
          refine VO.as ?_
          refine VO.k12 0 2 3 4 5 6 7 8 9 20 43 55 ?_
          refine VC.reg ?_
          refine VO.y rfl (.fa rfl tst78 rfl) ?_
          refine VO.y rfl (.ld1 132 rfl tk9 rfl (cellsAt_one rfl rfl)) ?_
          refine VO.as ?_
          refine VO.k12 0 2 3 4 5 6 7 8 9 20 43 55 ?_
          refine outBN ?_
          refine outN ?_
          refine VC.reg ?_
          refine VO.mv ?_
          refine VO.y rfl (.sub rfl rfl rfl ⟨bd, bd⟩) ?_
          refine VO.as ?_
          refine VO.kp [132, 125, 126, 106, 0] [(132, mone g31 (.cells [Value.bool (decide (((rNum d0.1 1 (at_, bad)).1) = 1)), str ((last.take (((rNum d0.1 ((last.length : Nat) : Int) ((rNum d0.1 1 (at_, bad)).2)).1).toNat)) ++ ((rBytes d0.1 ((rNum d0.1 16 ((rNum d0.1 ((last.length : Nat) : Int) ((rNum d0.1 1 (at_, bad)).2)).2)).1) ((rNum d0.1 16 ((rNum d0.1 ((last.length : Nat) : Int) ((rNum d0.1 1 (at_, bad)).2)).2)).2)).1)), str ([])].toArray 78 (0, 0))), (125, p24_0), (126, mone g0 (.cells [Value.slice A0_0 (d0.1.length) (c0_0), Value.int .i64 ((rBytes d0.1 ((rNum d0.1 16 ((rNum d0.1 ((last.length : Nat) : Int) ((rNum d0.1 1 (at_, bad)).2)).2)).1) ((rNum d0.1 16 ((rNum d0.1 ((last.length : Nat) : Int) ((rNum d0.1 1 (at_, bad)).2)).2)).2)).2.1), Value.bool true].toArray E0 (0, 0))), (106, m60), (0, mout (wm W) (mone g0 (.cells [Value.slice A0_0 (d0.1.length) (c0_0), Value.int .i64 (d0.2.1), Value.bool d0.2.2].toArray E0 (0, 0))))] ?_
          refine VO.k12 0 2 3 4 5 6 7 8 9 20 43 55 ?_
          exact outN ⟨⟨k - 1, (last.take (((rNum d0.1 ((last.length : Nat) : Int) ((rNum d0.1 1 (at_, bad)).2)).1).toNat)) ++ ((rBytes d0.1 ((rNum d0.1 16 ((rNum d0.1 ((last.length : Nat) : Int) ((rNum d0.1 1 (at_, bad)).2)).2)).1) ((rNum d0.1 16 ((rNum d0.1 ((last.length : Nat) : Int) ((rNum d0.1 1 (at_, bad)).2)).2)).2)).1), l ++ [(decide (((rNum d0.1 1 (at_, bad)).1) = 1), (last.take (((rNum d0.1 ((last.length : Nat) : Int) ((rNum d0.1 1 (at_, bad)).2)).1).toNat)) ++ ((rBytes d0.1 ((rNum d0.1 16 ((rNum d0.1 ((last.length : Nat) : Int) ((rNum d0.1 1 (at_, bad)).2)).2)).1) ((rNum d0.1 16 ((rNum d0.1 ((last.length : Nat) : Int) ((rNum d0.1 1 (at_, bad)).2)).2)).2)).1), [])], A60, c60, m60, (rBytes d0.1 ((rNum d0.1 16 ((rNum d0.1 ((last.length : Nat) : Int) ((rNum d0.1 1 (at_, bad)).2)).2)).1) ((rNum d0.1 16 ((rNum d0.1 ((last.length : Nat) : Int) ((rNum d0.1 1 (at_, bad)).2)).2)).2)).2.1, true⟩, ⟨by exact hs9, by exact ho9, by omega, by (simp only [List.length_append, List.length_cons, List.length_nil]; omega), by dsimp only; omega, ho60⟩, bd, ⟨⟨rfl, rfl, rfl, rfl, rfl, trivial⟩, fun _ h => Inv.sub (Inv.num h 126 1 rfl) [106, 1, 0]⟩⟩
        · -- TTFF
          refine VC.skip ?_
          refine outN ?_
          refine VC.rs ?_
          refine VO.mv ?_
          refine VO.y rfl (.ldA 132 rfl tk78 rfl (cellsAt_one rfl rfl)) ?_
          refine VO.bsl (cs := [Value.bool (decide (((rNum d0.1 1 (at_, bad)).1) = 1)), str ((last.take (((rNum d0.1 ((last.length : Nat) : Int) ((rNum d0.1 1 (at_, bad)).2)).1).toNat)) ++ ((rBytes d0.1 ((rNum d0.1 16 ((rNum d0.1 ((last.length : Nat) : Int) ((rNum d0.1 1 (at_, bad)).2)).2)).1) ((rNum d0.1 16 ((rNum d0.1 ((last.length : Nat) : Int) ((rNum d0.1 1 (at_, bad)).2)).2)).2)).1)), str ([])]) 162 rfl rfl tsl30 tz78 rfl rfl (fun g61 => ?_)
          obtain ⟨mo63, cs63, hM63, hA63, hC63⟩ := h_l
          refine VO.app 106 rfl rfl rfl tsl30 tz78 rfl rfl hM63 hA63 (.row 162 _ _ _ 1 1 _ _ Try.underlying30 rfl (cellsAt_one rfl rfl)) (by simp [Value.oneCell']) bdm bd (by decide) (fun v63 m63 hN63 => ?_)
          have ho63 : OwnL TOp m63 mnil v63 (l ++ [(decide (((rNum d0.1 1 (at_, bad)).1) = 1), (last.take (((rNum d0.1 ((last.length : Nat) : Int) ((rNum d0.1 1 (at_, bad)).2)).1).toNat)) ++ ((rBytes d0.1 ((rNum d0.1 16 ((rNum d0.1 ((last.length : Nat) : Int) ((rNum d0.1 1 (at_, bad)).2)).2)).1) ((rNum d0.1 16 ((rNum d0.1 ((last.length : Nat) : Int) ((rNum d0.1 1 (at_, bad)).2)).2)).2)).1), [])]) := OwnL.one hC63 hN63 (mk_Op (m := _) (decide (((rNum d0.1 1 (at_, bad)).1) = 1)) ((last.take (((rNum d0.1 ((last.length : Nat) : Int) ((rNum d0.1 1 (at_, bad)).2)).1).toNat)) ++ ((rBytes d0.1 ((rNum d0.1 16 ((rNum d0.1 ((last.length : Nat) : Int) ((rNum d0.1 1 (at_, bad)).2)).2)).1) ((rNum d0.1 16 ((rNum d0.1 ((last.length : Nat) : Int) ((rNum d0.1 1 (at_, bad)).2)).2)).2)).1)) [] bdm bdm)
          obtain ⟨A63, c63, rfl, l63, k63⟩ := ho63.slice
          simp only [maxLen] at k63
          have hop : rOp2 d0.1 last (at_, bad) = ((decide (((rNum d0.1 1 (at_, bad)).1) = 1), (last.take (((rNum d0.1 ((last.length : Nat) : Int) ((rNum d0.1 1 (at_, bad)).2)).1).toNat)) ++ ((rBytes d0.1 ((rNum d0.1 16 ((rNum d0.1 ((last.length : Nat) : Int) ((rNum d0.1 1 (at_, bad)).2)).2)).1) ((rNum d0.1 16 ((rNum d0.1 ((last.length : Nat) : Int) ((rNum d0.1 1 (at_, bad)).2)).2)).2)).1), []), ((rBytes d0.1 ((rNum d0.1 16 ((rNum d0.1 ((last.length : Nat) : Int) ((rNum d0.1 1 (at_, bad)).2)).2)).1) ((rNum d0.1 16 ((rNum d0.1 ((last.length : Nat) : Int) ((rNum d0.1 1 (at_, bad)).2)).2)).2)).2.1, (rBytes d0.1 ((rNum d0.1 16 ((rNum d0.1 ((last.length : Nat) : Int) ((rNum d0.1 1 (at_, bad)).2)).2)).1) ((rNum d0.1 16 ((rNum d0.1 ((last.length : Nat) : Int) ((rNum d0.1 1 (at_, bad)).2)).2)).2)).2.2)) := by unfold rOp2 rText; dsimp only; (first | simp only [if_pos ‹(rNum d0.1 1 (at_, bad)).1 = 1›] | simp only [if_neg ‹¬ (rNum d0.1 1 (at_, bad)).1 = 1›]); (first | rw [if_pos (by assumption)] | rw [if_neg (by assumption)])
          have hs9 := ops2_step hp (by omega) (by assumption)
          have ho9 := (rOp2_ok (last := last) hok (by omega)).1
          have hl9 := (rOp2_ok (last := last) hok (by omega)).2.1
          rw [hop] at hs9 ho9 hl9
          dsimp only at hs9 ho9 hl9
          refine VO.as ?_
          refine VO.kp [132, 125, 126, 106, 0] [(132, mone g31 (.cells [Value.bool (decide (((rNum d0.1 1 (at_, bad)).1) = 1)), str ((last.take (((rNum d0.1 ((last.length : Nat) : Int) ((rNum d0.1 1 (at_, bad)).2)).1).toNat)) ++ ((rBytes d0.1 ((rNum d0.1 16 ((rNum d0.1 ((last.length : Nat) : Int) ((rNum d0.1 1 (at_, bad)).2)).2)).1) ((rNum d0.1 16 ((rNum d0.1 ((last.length : Nat) : Int) ((rNum d0.1 1 (at_, bad)).2)).2)).2)).1)), str ([])].toArray 78 (0, 0))), (125, p24_0), (126, mone g0 (.cells [Value.slice A0_0 (d0.1.length) (c0_0), Value.int .i64 ((rBytes d0.1 ((rNum d0.1 16 ((rNum d0.1 ((last.length : Nat) : Int) ((rNum d0.1 1 (at_, bad)).2)).2)).1) ((rNum d0.1 16 ((rNum d0.1 ((last.length : Nat) : Int) ((rNum d0.1 1 (at_, bad)).2)).2)).2)).2.1), Value.bool ((rBytes d0.1 ((rNum d0.1 16 ((rNum d0.1 ((last.length : Nat) : Int) ((rNum d0.1 1 (at_, bad)).2)).2)).1) ((rNum d0.1 16 ((rNum d0.1 ((last.length : Nat) : Int) ((rNum d0.1 1 (at_, bad)).2)).2)).2)).2.2)].toArray E0 (0, 0))), (106, m63), (0, mout (wm W) (mone g0 (.cells [Value.slice A0_0 (d0.1.length) (c0_0), Value.int .i64 (d0.2.1), Value.bool d0.2.2].toArray E0 (0, 0))))] ?_
          refine VO.k12 0 2 3 4 5 6 7 8 9 20 43 55 ?_
          refine VC.reg ?_
          refine VO.y rfl (.fa rfl tst78 rfl) ?_
          refine VO.y rfl (.ld1 132 rfl tk9 rfl (cellsAt_one rfl rfl)) ?_
          refine VO.as ?_
          refine VO.k12 0 2 3 4 5 6 7 8 9 20 43 55 ?_
          refine outBN ?_
          refine outN ?_
          refine VC.reg ?_
          refine VO.mv ?_
          refine VO.y rfl (.sub rfl rfl rfl ⟨bd, bd⟩) ?_
          refine VO.as ?_
          refine VO.k12 0 2 3 4 5 6 7 8 9 20 43 55 ?_
          exact outN ⟨⟨k - 1, (last.take (((rNum d0.1 ((last.length : Nat) : Int) ((rNum d0.1 1 (at_, bad)).2)).1).toNat)) ++ ((rBytes d0.1 ((rNum d0.1 16 ((rNum d0.1 ((last.length : Nat) : Int) ((rNum d0.1 1 (at_, bad)).2)).2)).1) ((rNum d0.1 16 ((rNum d0.1 ((last.length : Nat) : Int) ((rNum d0.1 1 (at_, bad)).2)).2)).2)).1), l ++ [(decide (((rNum d0.1 1 (at_, bad)).1) = 1), (last.take (((rNum d0.1 ((last.length : Nat) : Int) ((rNum d0.1 1 (at_, bad)).2)).1).toNat)) ++ ((rBytes d0.1 ((rNum d0.1 16 ((rNum d0.1 ((last.length : Nat) : Int) ((rNum d0.1 1 (at_, bad)).2)).2)).1) ((rNum d0.1 16 ((rNum d0.1 ((last.length : Nat) : Int) ((rNum d0.1 1 (at_, bad)).2)).2)).2)).1), [])], A63, c63, m63, (rBytes d0.1 ((rNum d0.1 16 ((rNum d0.1 ((last.length : Nat) : Int) ((rNum d0.1 1 (at_, bad)).2)).2)).1) ((rNum d0.1 16 ((rNum d0.1 ((last.length : Nat) : Int) ((rNum d0.1 1 (at_, bad)).2)).2)).2)).2.1, (rBytes d0.1 ((rNum d0.1 16 ((rNum d0.1 ((last.length : Nat) : Int) ((rNum d0.1 1 (at_, bad)).2)).2)).1) ((rNum d0.1 16 ((rNum d0.1 ((last.length : Nat) : Int) ((rNum d0.1 1 (at_, bad)).2)).2)).2)).2.2⟩, ⟨by exact hs9, by exact ho9, by omega, by (simp only [List.length_append, List.length_cons, List.length_nil]; omega), by dsimp only; omega, ho63⟩, bd, ⟨⟨rfl, rfl, rfl, rfl, rfl, trivial⟩, fun _ h => Inv.sub (Inv.num h 126 1 rfl) [106, 1, 0]⟩⟩
    · -- TF
      refine VC.exit ?_
      refine outE ?_
      refine outE ?_
      refine outBB ?_
      refine outN ?_
      refine VC.seq ?_
      refine VC.rs ?_
      refine VO.mv ?_
      refine VO.y rfl (.nilp rfl) ?_
      refine VO.y rfl (.fa rfl tst117 rfl) ?_
      refine VO.y rfl (.ld1 1 rfl tk4 rfl (cellsAt_one rfl rfl)) ?_
      refine VO.mv ?_
      refine VO.known (t := 69) true rfl hc8 ?_
      refine VO.gN ?_
      refine VO.gN ?_
      refine VO.gN ?_
      refine VO.y rfl (.pT rfl rfl) ?_
      refine VO.kp [106, 1, 0] [(106, l_m), (1, mone g0 (.cells [Value.slice A0_0 (d0.1.length) (c0_0), Value.int .i64 (at_), Value.bool bad].toArray E0 (0, 0))), (0, mout (wm W) (mone g0 (.cells [Value.slice A0_0 (d0.1.length) (c0_0), Value.int .i64 (d0.2.1), Value.bool d0.2.2].toArray E0 (0, 0))))] ?_
      refine VO.k7 0 2 3 4 5 20 73 ?_
      refine VC.condT rfl ?_
      refine VC.rs ?_
      refine VO.mv ?_
      refine VO.y rfl (.nilp rfl) ?_
      refine VO.y rfl (.fa rfl tst117 rfl) ?_
      refine VO.store (k := 1) (c' := [Value.slice A0_0 (d0.1.length) (c0_0), Value.int .i64 (at_), Value.bool true]) 1 rfl rfl (.inr ⟨tk4, rfl⟩) rfl rfl rfl rfl rfl ?_
      refine VO.k7 0 2 3 4 5 20 73 ?_
      refine VC.rs ?_
      refine VO.as ?_
      refine VO.k7 0 2 3 4 5 20 73 ?_
      refine VC.ret ?_
      refine outR ?_
      refine ⟨_, _, res_run (rs := [.tmp 2]) rfl (.tmp rfl .nil), fun W_ hI => out_of (l := [mone g0 (.cells [Value.slice A0_0 (d0.1.length) (c0_0), Value.int .i64 (at_), Value.bool true].toArray E0 (0, 0))]) hI [1] rfl rfl (mle_refl _) (fun hS_ => ?_)⟩
      dsimp only [packV]
      have he0 : ((nextRef d0.1 d0.2).1 : Ty.Den (.sl TOp)) = [] := by first | rfl | (exact fin0_rNext_ok)
      have hm0_1 : ((nextRef d0.1 d0.2).2.1 : Int) = at_ := by first | rfl | (exact fin0_rNext_ok)
      have hm0_2 : ((nextRef d0.1 d0.2).2.2 : Bool) = true := by first | rfl | (exact fin0_rNext_ok)
      refine ⟨Value.slice none (0) (0), muns [], ?_, ?_, ?_, ?_⟩
      rotate_left
      · (first | exact Seps.grp (ls := [[], [mone g0 (.cells [Value.slice A0_0 (d0.1.length) (c0_0), Value.int .i64 (at_), Value.bool true].toArray E0 (0, 0))]]) hS_ | (rw [hm0_1, hm0_2]; exact Seps.grpM (ls := [[], [mone g0 (.cells [Value.slice A0_0 (d0.1.length) (c0_0), Value.int .i64 (at_), Value.bool true].toArray E0 (0, 0))]]) hS_ (by simp only [List.map, muns_one])) | exact Seps.grpM (ls := [[], [mone g0 (.cells [Value.slice A0_0 (d0.1.length) (c0_0), Value.int .i64 (at_), Value.bool true].toArray E0 (0, 0))]]) hS_ (by simp only [List.map, muns_one]))
      · rw [he0]; exact (Ow.nil _ _)
      · rw [hm0_1]; exact (show inK .i64 _ by simp only [inK]; (first | omega | (simp only [List.length_append, List.length_nil, List.length_cons, List.length_take, List.length_drop] at *; omega)))
      all_goals (first | rfl | (simp [*]; done))
  · -- F
    refine VO.gN ?_
    refine VO.gN ?_
    refine VO.gN ?_
    refine VO.gN ?_
    refine VO.gN ?_
    refine VO.y rfl (.pF rfl rfl) ?_
    refine VO.k6 0 2 3 4 5 20 ?_
    refine VC.condF rfl ?_
    refine VC.exit ?_
    refine outE ?_
    refine outE ?_
    refine outBB ?_
    refine outN ?_
    refine VC.seq ?_
    refine VC.rs ?_
    refine VO.mv ?_
    refine VO.y rfl (.nilp rfl) ?_
    refine VO.y rfl (.fa rfl tst117 rfl) ?_
    refine VO.y rfl (.ld1 1 rfl tk4 rfl (cellsAt_one rfl rfl)) ?_
    refine VO.mv ?_
    refine VO.decB (t := 69) rfl (fun hc64 => ?_) (fun hc64 => ?_)
    · -- FT
      refine VO.gN ?_
      refine VO.gN ?_
      refine VO.gN ?_
      refine VO.y rfl (.pT rfl rfl) ?_
      refine VO.kp [106, 1, 0] [(106, l_m), (1, mone g0 (.cells [Value.slice A0_0 (d0.1.length) (c0_0), Value.int .i64 (at_), Value.bool bad].toArray E0 (0, 0))), (0, mout (wm W) (mone g0 (.cells [Value.slice A0_0 (d0.1.length) (c0_0), Value.int .i64 (d0.2.1), Value.bool d0.2.2].toArray E0 (0, 0))))] ?_
      refine VO.k7 0 2 3 4 5 20 73 ?_
      refine VC.condT rfl ?_
      refine VC.rs ?_
      refine VO.mv ?_
      refine VO.y rfl (.nilp rfl) ?_
      refine VO.y rfl (.fa rfl tst117 rfl) ?_
      refine VO.store (k := 1) (c' := [Value.slice A0_0 (d0.1.length) (c0_0), Value.int .i64 (at_), Value.bool true]) 1 rfl rfl (.inr ⟨tk4, rfl⟩) rfl rfl rfl rfl rfl ?_
      refine VO.k7 0 2 3 4 5 20 73 ?_
      refine VC.rs ?_
      refine VO.as ?_
      refine VO.k7 0 2 3 4 5 20 73 ?_
      refine VC.ret ?_
      refine outR ?_
      refine ⟨_, _, res_run (rs := [.tmp 2]) rfl (.tmp rfl .nil), fun W_ hI => out_of (l := [mone g0 (.cells [Value.slice A0_0 (d0.1.length) (c0_0), Value.int .i64 (at_), Value.bool true].toArray E0 (0, 0))]) hI [1] rfl rfl (mle_refl _) (fun hS_ => ?_)⟩
      dsimp only [packV]
      have he0 : ((nextRef d0.1 d0.2).1 : Ty.Den (.sl TOp)) = [] := by first | rfl | (exact fin0_rNext_ok)
      have hm0_1 : ((nextRef d0.1 d0.2).2.1 : Int) = at_ := by first | rfl | (exact fin0_rNext_ok)
      have hm0_2 : ((nextRef d0.1 d0.2).2.2 : Bool) = true := by first | rfl | (exact fin0_rNext_ok)
      refine ⟨Value.slice none (0) (0), muns [], ?_, ?_, ?_, ?_⟩
      rotate_left
      · (first | exact Seps.grp (ls := [[], [mone g0 (.cells [Value.slice A0_0 (d0.1.length) (c0_0), Value.int .i64 (at_), Value.bool true].toArray E0 (0, 0))]]) hS_ | (rw [hm0_1, hm0_2]; exact Seps.grpM (ls := [[], [mone g0 (.cells [Value.slice A0_0 (d0.1.length) (c0_0), Value.int .i64 (at_), Value.bool true].toArray E0 (0, 0))]]) hS_ (by simp only [List.map, muns_one])) | exact Seps.grpM (ls := [[], [mone g0 (.cells [Value.slice A0_0 (d0.1.length) (c0_0), Value.int .i64 (at_), Value.bool true].toArray E0 (0, 0))]]) hS_ (by simp only [List.map, muns_one]))
      · rw [he0]; exact (Ow.nil _ _)
      · rw [hm0_1]; exact (show inK .i64 _ by simp only [inK]; (first | omega | (simp only [List.length_append, List.length_nil, List.length_cons, List.length_take, List.length_drop] at *; omega)))
      all_goals (first | rfl | (simp [*]; done))
    · -- FF
      refine VO.gy rfl ⟨_, rfl, rfl⟩ (.mv rfl) ?_
      refine VO.gcallN 165 rfl ⟨_, rfl, rfl⟩ fnOk116 rfl (fun W hW => rbCheck_ok W (OwnL.rd h_l (hW.at (i := 106) rfl) (mle_nil _))) (fun v65 m65 hv65 => ?_)
      subst hv65
      have hfa66 := batchCheck_range l
      refine VO.gy rfl ⟨_, rfl, rfl⟩ (.neq rfl rfl) ?_
      refine VO.y rfl (.pF rfl rfl) ?_
      refine VO.kp [106, 1, 0] [(106, l_m), (1, mone g0 (.cells [Value.slice A0_0 (d0.1.length) (c0_0), Value.int .i64 (at_), Value.bool bad].toArray E0 (0, 0))), (0, mout (wm W) (mone g0 (.cells [Value.slice A0_0 (d0.1.length) (c0_0), Value.int .i64 (d0.2.1), Value.bool d0.2.2].toArray E0 (0, 0))))] ?_
      refine VO.k7 0 2 3 4 5 20 73 ?_
      refine VC.cond rfl (fun hc67 => ?_) (fun hc67 => ?_)
      · -- FFT
        refine VC.rs ?_
        refine VO.mv ?_
        refine VO.y rfl (.nilp rfl) ?_
        refine VO.y rfl (.fa rfl tst117 rfl) ?_
        refine VO.store (k := 1) (c' := [Value.slice A0_0 (d0.1.length) (c0_0), Value.int .i64 (at_), Value.bool true]) 1 rfl rfl (.inr ⟨tk4, rfl⟩) rfl rfl rfl rfl rfl ?_
        refine VO.k7 0 2 3 4 5 20 73 ?_
        refine VC.rs ?_
        refine VO.as ?_
        refine VO.k7 0 2 3 4 5 20 73 ?_
        refine VC.ret ?_
        refine outR ?_
        refine ⟨_, _, res_run (rs := [.tmp 2]) rfl (.tmp rfl .nil), fun W_ hI => out_of (l := [mone g0 (.cells [Value.slice A0_0 (d0.1.length) (c0_0), Value.int .i64 (at_), Value.bool true].toArray E0 (0, 0))]) hI [1] rfl rfl (mle_refl _) (fun hS_ => ?_)⟩
        dsimp only [packV]
        have he0 : ((nextRef d0.1 d0.2).1 : Ty.Den (.sl TOp)) = [] := by first | rfl | (exact fin0_rNext_ok)
        have hm0_1 : ((nextRef d0.1 d0.2).2.1 : Int) = at_ := by first | rfl | (exact fin0_rNext_ok)
        have hm0_2 : ((nextRef d0.1 d0.2).2.2 : Bool) = true := by first | rfl | (exact fin0_rNext_ok)
        refine ⟨Value.slice none (0) (0), muns [], ?_, ?_, ?_, ?_⟩
        rotate_left
        · (first | exact Seps.grp (ls := [[], [mone g0 (.cells [Value.slice A0_0 (d0.1.length) (c0_0), Value.int .i64 (at_), Value.bool true].toArray E0 (0, 0))]]) hS_ | (rw [hm0_1, hm0_2]; exact Seps.grpM (ls := [[], [mone g0 (.cells [Value.slice A0_0 (d0.1.length) (c0_0), Value.int .i64 (at_), Value.bool true].toArray E0 (0, 0))]]) hS_ (by simp only [List.map, muns_one])) | exact Seps.grpM (ls := [[], [mone g0 (.cells [Value.slice A0_0 (d0.1.length) (c0_0), Value.int .i64 (at_), Value.bool true].toArray E0 (0, 0))]]) hS_ (by simp only [List.map, muns_one]))
        · rw [he0]; exact (Ow.nil _ _)
        · rw [hm0_1]; exact (show inK .i64 _ by simp only [inK]; (first | omega | (simp only [List.length_append, List.length_nil, List.length_cons, List.length_take, List.length_drop] at *; omega)))
        all_goals (first | rfl | (simp [*]; done))
      · -- FFF
        refine VC.skip ?_
        refine outN ?_
        refine VC.rs ?_
        refine VO.mv ?_
        refine VO.as ?_
        refine VO.k7 0 2 3 4 5 20 73 ?_
        refine VC.ret ?_
        refine ⟨_, _, res_run (rs := [.tmp 2]) rfl (.tmp rfl .nil), fun W_ hI => out_of (l := [l_m, mone g0 (.cells [Value.slice A0_0 (d0.1.length) (c0_0), Value.int .i64 (at_), Value.bool bad].toArray E0 (0, 0))]) hI [106, 1] rfl rfl (mle_refl _) (fun hS_ => ?_)⟩
        dsimp only [packV]
        have he0 : ((nextRef d0.1 d0.2).1 : Ty.Den (.sl TOp)) = l := by first | rfl | (exact fin0_rNext_ok)
        have hm0_1 : ((nextRef d0.1 d0.2).2.1 : Int) = at_ := by first | rfl | (exact fin0_rNext_ok)
        have hm0_2 : ((nextRef d0.1 d0.2).2.2 : Bool) = bad := by first | rfl | (exact fin0_rNext_ok)
        refine ⟨Value.slice l_A (l.length) (l_c), muns [l_m], ?_, ?_, ?_, ?_⟩
        rotate_left
        · (first | exact Seps.grp (ls := [[l_m], [mone g0 (.cells [Value.slice A0_0 (d0.1.length) (c0_0), Value.int .i64 (at_), Value.bool bad].toArray E0 (0, 0))]]) hS_ | (rw [hm0_1, hm0_2]; exact Seps.grpM (ls := [[l_m], [mone g0 (.cells [Value.slice A0_0 (d0.1.length) (c0_0), Value.int .i64 (at_), Value.bool bad].toArray E0 (0, 0))]]) hS_ (by simp only [List.map, muns_one])) | exact Seps.grpM (ls := [[l_m], [mone g0 (.cells [Value.slice A0_0 (d0.1.length) (c0_0), Value.int .i64 (at_), Value.bool bad].toArray E0 (0, 0))]]) hS_ (by simp only [List.map, muns_one]))
        · rw [he0]; exact (Ow.up (OwnL.ow h_l rfl) ((Seps.self hS_ (List.Sublist.cons_cons _ (List.Sublist.cons _ List.Sublist.slnil))).1 _ (.head _)))
        · rw [hm0_1]; exact (show inK .i64 _ by simp only [inK]; (first | omega | (simp only [List.length_append, List.length_nil, List.length_cons, List.length_take, List.length_drop] at *; omega)))
        all_goals (first | rfl | (simp [*]; done))
theorem fin0_bAppend_ok {P : Prop} (h : P := by first | omega | (have ho_ := batchCheck_mem (by omega : batchCheck d1 = 0) (List.mem_of_getElem? ‹d1[k]? = some _›); have := ho_.2.1; have := ho_.2.2.1; have := encOp_len (last := last) ho_; have := (batch_len (by omega : batchCheck d1 = 0)).2; omega) | (have ho_ := batchCheck_mem (by omega : batchCheck d1 = 0) (List.mem_of_getElem? ‹d1[k]? = some _›); have := ho_.2.1; have := ho_.2.2.1; have := (batch_len (by omega : batchCheck d1 = 0)).2; simp only [List.length_append, List.length_nil, List.length_cons, List.length_take, List.length_drop] at *; omega)) : P := h
theorem bAppend_ok (W : World) {v0 : Value} {d0 : List UInt8} (h0 : Rd (.sl .byte) (wm W) [v0] d0) {v1 : Value} {d1 : List DOp} (h1 : Rd (.sl TOp) (wm W) [v1] d1) (e0 : d0.length ≤ 140737488352000) : CallR Try.prog 88 [v0, v1] W (mnil) (fun v m' => ∃ (s0 : Value), v = .tuple #[s0, .int .i64 ((bAppend d0 d1).2)] ∧ Ow (.sl .byte) m' [s0] ((bAppend d0 d1).1)) := by
  obtain ⟨A0, c0, rfl, l0, k0⟩ := h0.slice
  simp only [maxLen] at k0
  obtain ⟨A1, c1, rfl, l1, k1⟩ := h1.slice
  simp only [maxLen] at k1
  refine CallR.ofA (n := 70) Try.func88 rfl rfl rfl ?_
  refine VC.rs ?_
  refine VO.as ?_
  refine VO.as ?_
  refine VO.k4 0 1 4 5 ?_
  refine VC.seq ?_
  refine VC.rs ?_
  refine VO.mv ?_
  refine VO.callN 101 rfl fnOk106 rfl (fun W hW => bCheck_ok W (Rd.mono h1 (hW.at (i := 0) rfl))) (fun v1 m1 hv1 => ?_)
  subst hv1
  have hfa2 := batchCheck_range d1
  refine VO.as ?_
  refine VO.k5 0 1 4 5 6 ?_
  refine VC.rs ?_
  refine VO.mv ?_
  refine VO.y rfl (.neq rfl rfl) ?_
  refine VO.kp [0] [(0, wm W)] ?_
  refine VO.k6 0 1 4 5 6 16 ?_
  refine VC.cond rfl (fun hc3 => ?_) (fun hc3 => ?_)
  · -- T
    refine VC.rs ?_
    refine VO.mv ?_
    refine VO.as ?_
    refine VO.as ?_
    refine VO.k6 0 1 4 5 6 16 ?_
    refine VC.ret ?_
    refine outR ?_
    refine ⟨_, _, res_run (rs := [.tmp 4, .tmp 5]) rfl (.tmp rfl (.tmp rfl .nil)), fun W_ hI => out_of (l := []) hI [] rfl rfl (mle_refl _) (fun hS_ => ?_)⟩
    dsimp only [packV]
    have he0 : ((bAppend d0 d1).1 : Ty.Den (.sl .byte)) = [] := by first | rfl | (first | (rw [bAppend_bad ‹_›] <;> rfl) | (rw [bAppend_good (by omega)]; dsimp only; rw [← he, List.drop_of_length_le (by omega)]; simp [encOps]))
    refine ⟨Value.slice none (0) (0), ?_, ?_⟩
    rotate_left
    · rw [he0]; exact (Ow.nil _ _)
    all_goals (first | rfl | (first | (rw [bAppend_bad ‹_›] <;> rfl) | (rw [bAppend_good (by omega)] <;> rfl)))
  · -- F
    refine VC.skip ?_
    refine outN ?_
    refine VC.rs ?_
    refine VO.mv ?_
    refine VO.mv ?_
    refine VO.y rfl (.lenS rfl tsl30) ?_
    refine VO.y rfl (.cvI rfl ⟨_, Try.underlying3⟩ Try.underlying82 (IntWalk.u64_in _ (by exact fin0_bAppend_ok))) ?_
    refine VO.callN 104 rfl fnOk54 rfl (fun W hW => vAppend_ok W (Rd.mono h0 (hW.at (i := 0) rfl)) d1.length (by exact fin0_bAppend_ok) (by exact fin0_bAppend_ok)) (fun v4 m4 hv4 => ?_)
    obtain ⟨s4_0, rfl, f4_0⟩ := hv4
    have hfa5 := venc_len (x := d1.length) (by first | omega | exact or64 (by assumption) _)
    obtain ⟨A4_0, c4_0, eq4_0, l4_0, k4_0⟩ := f4_0.slice
    subst eq4_0
    simp only [maxLen] at k4_0
    refine VO.as ?_
    refine VO.k7 0 1 4 5 6 7 16 ?_
    refine VC.rs ?_
    refine VO.as ?_
    refine VO.k8 0 1 4 5 6 7 8 16 ?_
    refine VC.seq ?_
    refine VC.rs ?_
    refine VO.mv ?_
    refine VO.y rfl (.lenS rfl tsl30) ?_
    refine VO.mv ?_
    refine VO.kp [104, 0] [(104, m4), (0, wm W)] ?_
    refine VO.k11 0 1 4 5 6 7 8 16 23 24 25 ?_
    refine VC.block ?_
    refine VC.loop (G := Nat × (List UInt8) × (List UInt8) × (Option Addr) × Nat × Mem) (fun g => [(7, Value.slice (g.2.2.2.1) ((g.2.2.1).length) ((g.2.2.2.2.1))), (8, str ((g.2.1))), (25, Value.int .i64 ((((g.1) : Nat) : Int))), (0, Value.slice A0 (d0.length) (c0)), (1, Value.slice A1 (d1.length) (c1)), (4, Value.slice none (0) (0)), (5, Value.int .i64 (0)), (6, Value.int .i64 (batchCheck d1)), (16, Value.bool (decide (¬ (batchCheck d1) = 0))), (23, Value.slice A1 (d1.length) (c1)), (24, Value.int .i64 (((d1.length : Nat) : Int)))]) (fun g => [(104, (g.2.2.2.2.2)), (0, wm W)]) (fun g => ((g.1) ≤ d1.length) ∧ ((g.2.2.1) ++ encOps (g.2.1) (d1.drop (g.1)) = d0 ++ batchEnc d1) ∧ ((g.2.2.1).length ≤ d0.length + 10 + 80 * (g.1)) ∧ ((g.2.1).length ≤ 16) ∧ (OwnL .byte (g.2.2.2.2.2) mnil (.slice (g.2.2.2.1) (g.2.2.1).length (g.2.2.2.2.1)) (g.2.2.1))) (fun g => d1.length - (g.1)) (0, [], d0 ++ venc d1.length, A4_0, c4_0, m4) (⟨by omega, by (simp [batchEnc]), by (have := venc_len (x := d1.length) (by omega); simp; omega), by (simp; done), (Ow.ownl f4_0 rfl mnil)⟩) ⟨⟨rfl, rfl, rfl, rfl, rfl, rfl, rfl, rfl, rfl, rfl, rfl, trivial⟩, fun _ h => h.sub [104, 0]⟩ ?_
    rintro ⟨k, last, out, out_A, out_c, out_m⟩ ⟨hk, he, hlo, hla, h_out⟩
    replace hk : k ≤ d1.length := hk
    replace he : out ++ encOps last (d1.drop k) = d0 ++ batchEnc d1 := he
    replace hlo : out.length ≤ d0.length + 10 + 80 * k := hlo
    replace hla : last.length ≤ 16 := hla
    replace h_out : OwnL .byte out_m mnil (.slice out_A out.length out_c) out := h_out
    show VC _ _ _ _ _ [(7, Value.slice out_A (out.length) (out_c)), (8, str (last)), (25, Value.int .i64 (((k : Nat) : Int))), (0, Value.slice A0 (d0.length) (c0)), (1, Value.slice A1 (d1.length) (c1)), (4, Value.slice none (0) (0)), (5, Value.int .i64 (0)), (6, Value.int .i64 (batchCheck d1)), (16, Value.bool (decide (¬ (batchCheck d1) = 0))), (23, Value.slice A1 (d1.length) (c1)), (24, Value.int .i64 (((d1.length : Nat) : Int)))] [(104, out_m), (0, wm W)]
    have l_out : out.length ≤ out_c := by obtain ⟨_, _, he, hl, _⟩ := h_out.slice; simp only [Value.slice.injEq] at he; omega
    have k_out : out_c ≤ 9223372036854775807 := by obtain ⟨_, _, he, _, hl⟩ := h_out.slice; simp only [Value.slice.injEq, maxLen] at he hl; omega
    refine VC.rs ?_
    refine VO.y rfl (.lss rfl rfl) ?_
    refine VO.k12 0 1 4 5 6 7 8 16 23 24 25 26 ?_
    refine VC.seq ?_
    refine VC.cond rfl (fun hc6 => ?_) (fun hc6 => ?_)
    · -- FT
      refine VC.skip ?_
      refine outN ?_
      refine VC.seq ?_
      refine VC.block ?_
      refine VC.rs ?_
      obtain ⟨x7, hx7⟩ : ∃ z_, (d1)[k]? = some z_ := ⟨_, List.getElem?_eq_getElem (by exact fin0_bAppend_ok)⟩
      obtain ⟨gg7, oo7, ec7, ea7, hce7, hre7⟩ := h1.elem hx7
      cases ea7
      obtain ⟨rfl, q7_1, q7_2⟩ := open_Op (x0 := x7.1) (x1 := x7.2.1) (x2 := x7.2.2) hre7
      simp only [maxLen] at q7_1
      simp only [maxLen] at q7_2
      refine VO.y rfl (.ixI k rfl rfl tsl30 rfl (by exact fin0_bAppend_ok)) ?_
      refine VO.y rfl (.ldA 0 rfl tk78 rfl hce7) ?_
      refine VO.alloc 109 rfl tz78 (fun g8 => ?_)
      refine VO.store (k := 3) (c' := [Value.bool x7.1, str (x7.2.1), str (x7.2.2)]) 109 rfl rfl (.inl tk78) rfl rfl rfl rfl rfl ?_
      refine VO.k13 0 1 4 5 6 7 8 10 16 23 24 25 26 ?_
      refine VC.rs ?_
      refine VO.mv ?_
      refine VO.y rfl (.fa rfl tst78 rfl) ?_
      refine VO.y rfl (.ld1 109 rfl tk9 rfl (cellsAt_one rfl rfl)) ?_
      refine VO.callN 110 rfl fnOk107 rfl (fun W hW => shared_ok W last (by simp only [maxLen]; (exact fin0_bAppend_ok)) x7.2.1 (by simp only [maxLen]; (exact fin0_bAppend_ok))) (fun v10 m10 hv10 => ?_)
      subst hv10
      have hfa11 := shared_le last x7.2.1
      refine VO.as ?_
      refine VO.kp [109, 104, 0] [(109, mone g8 (.cells [Value.bool x7.1, str (x7.2.1), str (x7.2.2)].toArray 78 (0, 0))), (104, out_m), (0, wm W)] ?_
      refine VO.k14 0 1 4 5 6 7 8 10 11 16 23 24 25 26 ?_
      refine VC.rs ?_
      refine VO.as ?_
      refine VO.k15 0 1 4 5 6 7 8 10 11 12 16 23 24 25 26 ?_
      refine VC.seq ?_
      refine VC.rs ?_
      refine VO.y rfl (.fa rfl tst78 rfl) ?_
      refine VO.y rfl (.ld1 109 rfl tk4 rfl (cellsAt_one rfl rfl)) ?_
      refine VO.k16 0 1 4 5 6 7 8 10 11 12 16 23 24 25 26 34 ?_
      refine VC.condB rfl (fun hc12 => ?_) (fun hc12 => ?_)
      · -- FTT
        refine VC.reg ?_
        refine VO.as ?_
        refine VO.kp [109, 104, 0] [(109, mone g8 (.cells [Value.bool x7.1, str (x7.2.1), str (x7.2.2)].toArray 78 (0, 0))), (104, out_m), (0, wm W)] ?_
        refine VO.k16 0 1 4 5 6 7 8 10 11 12 16 23 24 25 26 34 ?_
        refine outN ?_
        refine VC.rs ?_
        refine VO.mv ?_
        refine VO.mv ?_
        refine VO.bsl (cs := [Value.int .u8 (1)]) 114 rfl rfl tsl25 tz5 rfl rfl (fun g13 => ?_)
        obtain ⟨mo15, cs15, hM15, hA15, hC15⟩ := h_out
        refine VO.app 104 rfl rfl rfl tsl25 tz5 rfl rfl hM15 hA15 (.row 114 _ _ _ 1 1 _ _ Try.underlying25 rfl (cellsAt_one rfl rfl)) (by simp [Value.oneCell']) (by simp only [maxLen]; (exact fin0_bAppend_ok)) (by exact fin0_bAppend_ok) (by decide) (fun v15 m15 hN15 => ?_)
        have ho15 : OwnL .byte m15 mnil v15 (out ++ [UInt8.ofNat 1]) := OwnL.one hC15 hN15 (rd_byteN (by exact fin0_bAppend_ok))
        obtain ⟨A15, c15, rfl, l15, k15⟩ := ho15.slice
        simp only [maxLen] at k15
        refine VO.mv ?_
        refine VO.y rfl (.cvI rfl ⟨_, Try.underlying3⟩ Try.underlying82 (IntWalk.u64_in _ (by exact fin0_bAppend_ok))) ?_
        refine VO.callN 116 rfl fnOk54 rfl (fun W hW => vAppend_ok W (OwnL.rd ho15 (hW.at (i := 104) rfl) (mle_nil _)) (shared last x7.2.1) (by exact fin0_bAppend_ok) (by exact fin0_bAppend_ok)) (fun v16 m16 hv16 => ?_)
        obtain ⟨s16_0, rfl, f16_0⟩ := hv16
        have hfa17 := venc_len (x := (shared last x7.2.1)) (by first | omega | exact or64 (by assumption) _)
        obtain ⟨A16_0, c16_0, eq16_0, l16_0, k16_0⟩ := f16_0.slice
        subst eq16_0
        simp only [maxLen] at k16_0
        refine VO.as ?_
        refine VO.k16 0 1 4 5 6 7 8 10 11 12 16 23 24 25 26 34 ?_
        refine VC.seq ?_
        refine VC.regD _ 12 [(0, true), (1, true), (2, true), (3, true), (4, true), (5, true), (6, true), (8, true), (9, true), (10, true), (11, true), (7, false)] follows (by kernel_rfl) (fun _ h => h.sub [116, 114, 109, 104, 0]) ?_
        refine VD.y rfl rfl (.inl rfl) (.mv rfl) ?_
        refine VD.y rfl rfl (.inl rfl) (.fa rfl tst78 rfl) ?_
        refine VD.y rfl rfl (.inl rfl) (.ld1 109 rfl tk9 rfl (cellsAt_one rfl rfl)) ?_
        refine VD.y rfl rfl (.inl rfl) (.lenT rfl Try.underlying9) ?_
        refine VD.y rfl rfl (.inl rfl) (.mv rfl) ?_
        refine VD.y rfl rfl (.inl rfl) (.sub rfl rfl rfl ⟨by exact fin0_bAppend_ok, by exact fin0_bAppend_ok⟩) ?_
        refine VD.y rfl rfl (.inl rfl) (.cvI (c := ((((x7.2.1.length : Nat) : Int) - ((shared last x7.2.1 : Nat) : Int)).toNat : Int)) rfl ⟨_, Try.underlying3⟩ Try.underlying82 (by rw [IntWalk.u64_in _ (by exact fin0_bAppend_ok)]; first | omega | (exact fin0_bAppend_ok))) ?_
        refine VD.y rfl rfl (.inl rfl) (.fa rfl tst78 rfl) ?_
        refine VD.y rfl rfl (.inl rfl) (.ld1 109 rfl tk9 rfl (cellsAt_one rfl rfl)) ?_
        refine VD.y rfl rfl (.inl rfl) (.mv rfl) ?_
        refine VD.y rfl rfl (.inl rfl) (.slTLI (shared last x7.2.1) rfl rfl Try.underlying9 rfl (by exact fin0_bAppend_ok)) ?_
        refine VD.callN 118 rfl rfl (.inl rfl) fnOk54 rfl (fun _ h => h.sub [116, 114, 109, 104, 0]) (fun W hW => vAppend_ok W (OwnL.rd (Ow.ownl f16_0 rfl mnil) (hW.at (i := 116) rfl) (mle_nil _)) ((((x7.2.1.length : Nat) : Int) - ((shared last x7.2.1 : Nat) : Int)).toNat) (by exact fin0_bAppend_ok) (by exact fin0_bAppend_ok)) (fun v18 m18 hv18 => ?_)
        obtain ⟨s18_0, rfl, f18_0⟩ := hv18
        have hfa19 := venc_len (x := ((((x7.2.1.length : Nat) : Int) - ((shared last x7.2.1 : Nat) : Int)).toNat)) (by first | omega | exact or64 (by assumption) _)
        obtain ⟨A18_0, c18_0, eq18_0, l18_0, k18_0⟩ := f18_0.slice
        subst eq18_0
        simp only [maxLen] at k18_0
        refine VD.nil rfl ?_ rfl
        obtain ⟨mo20, cs20, hM20, hA20, hC20⟩ := (Ow.ownl f18_0 rfl mnil)
        refine VO.app 118 rfl rfl rfl tsl25 tz5 rfl rfl hM20 hA20 (.str _ Try.underlying9 rfl) (byV_nice _) (by simp only [maxLen]; (exact fin0_bAppend_ok)) (by exact fin0_bAppend_ok) (by decide) (fun v20 m20 hN20 => ?_)
        have ho20 : OwnL .byte m20 mnil v20 ((((out ++ [UInt8.ofNat 1]) ++ venc (shared last x7.2.1)) ++ venc ((((x7.2.1.length : Nat) : Int) - ((shared last x7.2.1 : Nat) : Int)).toNat)) ++ (x7.2.1.drop (shared last x7.2.1))) := OwnL.more hC20 hN20 (rd_str _ _)
        obtain ⟨A20, c20, rfl, l20, k20⟩ := ho20.slice
        simp only [maxLen] at k20
        refine VO.as ?_
        refine VO.k16 0 1 4 5 6 7 8 10 11 12 16 23 24 25 26 34 ?_
        refine outN ?_
        refine VC.seq ?_
        refine VC.rs ?_
        refine VO.y rfl (.fa rfl tst78 rfl) ?_
        refine VO.y rfl (.ld1 109 rfl tk4 rfl (cellsAt_one rfl rfl)) ?_
        refine VO.kp [118, 109, 0] [(118, m20), (109, mone g8 (.cells [Value.bool x7.1, str (x7.2.1), str (x7.2.2)].toArray 78 (0, 0))), (0, wm W)] ?_
        refine VO.k17 0 1 4 5 6 7 8 10 11 12 16 23 24 25 26 34 56 ?_
        refine VC.condKT rfl hc12 ?_
        refine VC.regD _ 8 [(0, true), (1, true), (2, true), (3, true), (4, true), (6, true), (7, true), (5, false)] follows (by kernel_rfl) (fun _ h => h.sub [118, 109, 0]) ?_
        refine VD.y rfl rfl (.inl rfl) (.mv rfl) ?_
        refine VD.y rfl rfl (.inl rfl) (.fa rfl tst78 rfl) ?_
        refine VD.y rfl rfl (.inl rfl) (.ld1 109 rfl tk9 rfl (cellsAt_one rfl rfl)) ?_
        refine VD.y rfl rfl (.inl rfl) (.lenT rfl Try.underlying9) ?_
        refine VD.y rfl rfl (.inl rfl) (.cvI rfl ⟨_, Try.underlying3⟩ Try.underlying82 (IntWalk.u64_in _ (by exact fin0_bAppend_ok))) ?_
        refine VD.y rfl rfl (.inl rfl) (.fa rfl tst78 rfl) ?_
        refine VD.y rfl rfl (.inl rfl) (.ld1 109 rfl tk9 rfl (cellsAt_one rfl rfl)) ?_
        refine VD.callN 121 rfl rfl (.inl rfl) fnOk54 rfl (fun _ h => h.sub [118, 109, 0]) (fun W hW => vAppend_ok W (OwnL.rd ho20 (hW.at (i := 118) rfl) (mle_nil _)) x7.2.2.length (by exact fin0_bAppend_ok) (by exact fin0_bAppend_ok)) (fun v21 m21 hv21 => ?_)
        obtain ⟨s21_0, rfl, f21_0⟩ := hv21
        have hfa22 := venc_len (x := x7.2.2.length) (by first | omega | exact or64 (by assumption) _)
        obtain ⟨A21_0, c21_0, eq21_0, l21_0, k21_0⟩ := f21_0.slice
        subst eq21_0
        simp only [maxLen] at k21_0
        refine VD.nil rfl ?_ rfl
        obtain ⟨mo23, cs23, hM23, hA23, hC23⟩ := (Ow.ownl f21_0 rfl mnil)
        refine VO.app 121 rfl rfl rfl tsl25 tz5 rfl rfl hM23 hA23 (.str _ Try.underlying9 rfl) (byV_nice _) (by simp only [maxLen]; (exact fin0_bAppend_ok)) (by exact fin0_bAppend_ok) (by decide) (fun v23 m23 hN23 => ?_)
        have ho23 : OwnL .byte m23 mnil v23 ((((((out ++ [UInt8.ofNat 1]) ++ venc (shared last x7.2.1)) ++ venc ((((x7.2.1.length : Nat) : Int) - ((shared last x7.2.1 : Nat) : Int)).toNat)) ++ (x7.2.1.drop (shared last x7.2.1))) ++ venc x7.2.2.length) ++ x7.2.2) := OwnL.more hC23 hN23 (rd_str _ _)
        obtain ⟨A23, c23, rfl, l23, k23⟩ := ho23.slice
        simp only [maxLen] at k23
        refine VO.as ?_
        refine VO.k17 0 1 4 5 6 7 8 10 11 12 16 23 24 25 26 34 56 ?_
        refine outN ?_
        refine VC.reg ?_
        refine VO.y rfl (.fa rfl tst78 rfl) ?_
        refine VO.y rfl (.ld1 109 rfl tk9 rfl (cellsAt_one rfl rfl)) ?_
        refine VO.as ?_
        refine VO.k17 0 1 4 5 6 7 8 10 11 12 16 23 24 25 26 34 56 ?_
        refine outBN ?_
        refine outN ?_
        refine VC.reg ?_
        refine VO.y rfl (.add (c := ((k + 1 : Nat) : Int)) rfl rfl (by omega) ⟨by exact fin0_bAppend_ok, by exact fin0_bAppend_ok⟩) ?_
        refine VO.mv ?_
        refine VO.kp [121, 109, 0] [(121, m23), (109, mone g8 (.cells [Value.bool x7.1, str (x7.2.1), str (x7.2.2)].toArray 78 (0, 0))), (0, wm W)] ?_
        refine VO.k17 0 1 4 5 6 7 8 10 11 12 16 23 24 25 26 34 56 ?_
        exact outN ⟨⟨k + 1, x7.2.1, (((((out ++ [UInt8.ofNat 1]) ++ venc (shared last x7.2.1)) ++ venc ((((x7.2.1.length : Nat) : Int) - ((shared last x7.2.1 : Nat) : Int)).toNat)) ++ (x7.2.1.drop (shared last x7.2.1))) ++ venc x7.2.2.length) ++ x7.2.2, A23, c23, m23⟩, ⟨by omega, by exact enc_step2 he ‹d1[k]? = some _› (by first | (rw [enc_put (by assumption)]; simp only [List.append_assoc, List.cons_append, List.nil_append, List.singleton_append, Int.toNat_sub]; rfl) | (rw [enc_del (by assumption)]; simp only [List.append_assoc, List.cons_append, List.nil_append, List.singleton_append, Int.toNat_sub]; rfl)), by exact enc_len2 (last := last) hlo (by omega) ‹d1[k]? = some _› (by first | (rw [enc_put (by assumption)]; simp only [List.append_assoc, List.cons_append, List.nil_append, List.singleton_append, Int.toNat_sub]; rfl) | (rw [enc_del (by assumption)]; simp only [List.append_assoc, List.cons_append, List.nil_append, List.singleton_append, Int.toNat_sub]; rfl)), by (have ho_ := batchCheck_mem (by omega : batchCheck d1 = 0) (List.mem_of_getElem? ‹d1[k]? = some _›); have := ho_.2.1; have := ho_.2.2.1; have := encOp_len (last := last) ho_; have := (batch_len (by omega : batchCheck d1 = 0)).2; omega), ho23⟩, by exact fin0_bAppend_ok, ⟨⟨rfl, rfl, rfl, rfl, rfl, rfl, rfl, rfl, rfl, rfl, rfl, trivial⟩, fun _ h => Inv.sub (Inv.num h 121 104 rfl) [104, 0]⟩⟩
      · -- FTF
        refine VC.skip ?_
        refine outN ?_
        refine VC.rs ?_
        refine VO.mv ?_
        refine VO.mv ?_
        refine VO.bsl (cs := [Value.int .u8 (0)]) 125 rfl rfl tsl25 tz5 rfl rfl (fun g24 => ?_)
        obtain ⟨mo26, cs26, hM26, hA26, hC26⟩ := h_out
        refine VO.app 104 rfl rfl rfl tsl25 tz5 rfl rfl hM26 hA26 (.row 125 _ _ _ 1 1 _ _ Try.underlying25 rfl (cellsAt_one rfl rfl)) (by simp [Value.oneCell']) (by simp only [maxLen]; (exact fin0_bAppend_ok)) (by exact fin0_bAppend_ok) (by decide) (fun v26 m26 hN26 => ?_)
        have ho26 : OwnL .byte m26 mnil v26 (out ++ [UInt8.ofNat 0]) := OwnL.one hC26 hN26 (rd_byteN (by exact fin0_bAppend_ok))
        obtain ⟨A26, c26, rfl, l26, k26⟩ := ho26.slice
        simp only [maxLen] at k26
        refine VO.mv ?_
        refine VO.y rfl (.cvI rfl ⟨_, Try.underlying3⟩ Try.underlying82 (IntWalk.u64_in _ (by exact fin0_bAppend_ok))) ?_
        refine VO.callN 127 rfl fnOk54 rfl (fun W hW => vAppend_ok W (OwnL.rd ho26 (hW.at (i := 104) rfl) (mle_nil _)) (shared last x7.2.1) (by exact fin0_bAppend_ok) (by exact fin0_bAppend_ok)) (fun v27 m27 hv27 => ?_)
        obtain ⟨s27_0, rfl, f27_0⟩ := hv27
        have hfa28 := venc_len (x := (shared last x7.2.1)) (by first | omega | exact or64 (by assumption) _)
        obtain ⟨A27_0, c27_0, eq27_0, l27_0, k27_0⟩ := f27_0.slice
        subst eq27_0
        simp only [maxLen] at k27_0
        refine VO.as ?_
        refine VO.kp [127, 109, 0] [(127, m27), (109, mone g8 (.cells [Value.bool x7.1, str (x7.2.1), str (x7.2.2)].toArray 78 (0, 0))), (0, wm W)] ?_
        refine VO.k16 0 1 4 5 6 7 8 10 11 12 16 23 24 25 26 34 ?_
        refine VC.seq ?_
        refine VC.regD _ 12 [(0, true), (1, true), (2, true), (3, true), (4, true), (5, true), (6, true), (8, true), (9, true), (10, true), (11, true), (7, false)] follows (by kernel_rfl) (fun _ h => h.sub [127, 109, 0]) ?_
        refine VD.y rfl rfl (.inl rfl) (.mv rfl) ?_
        refine VD.y rfl rfl (.inl rfl) (.fa rfl tst78 rfl) ?_
        refine VD.y rfl rfl (.inl rfl) (.ld1 109 rfl tk9 rfl (cellsAt_one rfl rfl)) ?_
        refine VD.y rfl rfl (.inl rfl) (.lenT rfl Try.underlying9) ?_
        refine VD.y rfl rfl (.inl rfl) (.mv rfl) ?_
        refine VD.y rfl rfl (.inl rfl) (.sub rfl rfl rfl ⟨by exact fin0_bAppend_ok, by exact fin0_bAppend_ok⟩) ?_
        refine VD.y rfl rfl (.inl rfl) (.cvI (c := ((((x7.2.1.length : Nat) : Int) - ((shared last x7.2.1 : Nat) : Int)).toNat : Int)) rfl ⟨_, Try.underlying3⟩ Try.underlying82 (by rw [IntWalk.u64_in _ (by exact fin0_bAppend_ok)]; first | omega | (exact fin0_bAppend_ok))) ?_
        refine VD.y rfl rfl (.inl rfl) (.fa rfl tst78 rfl) ?_
        refine VD.y rfl rfl (.inl rfl) (.ld1 109 rfl tk9 rfl (cellsAt_one rfl rfl)) ?_
        refine VD.y rfl rfl (.inl rfl) (.mv rfl) ?_
        refine VD.y rfl rfl (.inl rfl) (.slTLI (shared last x7.2.1) rfl rfl Try.underlying9 rfl (by exact fin0_bAppend_ok)) ?_
        refine VD.callN 129 rfl rfl (.inl rfl) fnOk54 rfl (fun _ h => h.sub [127, 109, 0]) (fun W hW => vAppend_ok W (OwnL.rd (Ow.ownl f27_0 rfl mnil) (hW.at (i := 127) rfl) (mle_nil _)) ((((x7.2.1.length : Nat) : Int) - ((shared last x7.2.1 : Nat) : Int)).toNat) (by exact fin0_bAppend_ok) (by exact fin0_bAppend_ok)) (fun v29 m29 hv29 => ?_)
        obtain ⟨s29_0, rfl, f29_0⟩ := hv29
        have hfa30 := venc_len (x := ((((x7.2.1.length : Nat) : Int) - ((shared last x7.2.1 : Nat) : Int)).toNat)) (by first | omega | exact or64 (by assumption) _)
        obtain ⟨A29_0, c29_0, eq29_0, l29_0, k29_0⟩ := f29_0.slice
        subst eq29_0
        simp only [maxLen] at k29_0
        refine VD.nil rfl ?_ rfl
        obtain ⟨mo31, cs31, hM31, hA31, hC31⟩ := (Ow.ownl f29_0 rfl mnil)
        refine VO.app 129 rfl rfl rfl tsl25 tz5 rfl rfl hM31 hA31 (.str _ Try.underlying9 rfl) (byV_nice _) (by simp only [maxLen]; (exact fin0_bAppend_ok)) (by exact fin0_bAppend_ok) (by decide) (fun v31 m31 hN31 => ?_)
        have ho31 : OwnL .byte m31 mnil v31 ((((out ++ [UInt8.ofNat 0]) ++ venc (shared last x7.2.1)) ++ venc ((((x7.2.1.length : Nat) : Int) - ((shared last x7.2.1 : Nat) : Int)).toNat)) ++ (x7.2.1.drop (shared last x7.2.1))) := OwnL.more hC31 hN31 (rd_str _ _)
        obtain ⟨A31, c31, rfl, l31, k31⟩ := ho31.slice
        simp only [maxLen] at k31
        refine VO.as ?_
        refine VO.k16 0 1 4 5 6 7 8 10 11 12 16 23 24 25 26 34 ?_
        refine outN ?_
        refine VC.seq ?_
        refine VC.rs ?_
        refine VO.y rfl (.fa rfl tst78 rfl) ?_
        refine VO.y rfl (.ld1 109 rfl tk4 rfl (cellsAt_one rfl rfl)) ?_
        refine VO.k17 0 1 4 5 6 7 8 10 11 12 16 23 24 25 26 34 56 ?_
        refine VC.condKF rfl hc12 ?_
        refine VC.skip ?_
        refine outN ?_
        refine VC.reg ?_
        refine VO.y rfl (.fa rfl tst78 rfl) ?_
        refine VO.y rfl (.ld1 109 rfl tk9 rfl (cellsAt_one rfl rfl)) ?_
        refine VO.as ?_
        refine VO.kp [129, 109, 0] [(129, m31), (109, mone g8 (.cells [Value.bool x7.1, str (x7.2.1), str (x7.2.2)].toArray 78 (0, 0))), (0, wm W)] ?_
        refine VO.k17 0 1 4 5 6 7 8 10 11 12 16 23 24 25 26 34 56 ?_
        refine outBN ?_
        refine outN ?_
        refine VC.reg ?_
        refine VO.y rfl (.add (c := ((k + 1 : Nat) : Int)) rfl rfl (by omega) ⟨by exact fin0_bAppend_ok, by exact fin0_bAppend_ok⟩) ?_
        refine VO.mv ?_
        refine VO.k17 0 1 4 5 6 7 8 10 11 12 16 23 24 25 26 34 56 ?_
        exact outN ⟨⟨k + 1, x7.2.1, (((out ++ [UInt8.ofNat 0]) ++ venc (shared last x7.2.1)) ++ venc ((((x7.2.1.length : Nat) : Int) - ((shared last x7.2.1 : Nat) : Int)).toNat)) ++ (x7.2.1.drop (shared last x7.2.1)), A31, c31, m31⟩, ⟨by omega, by exact enc_step2 he ‹d1[k]? = some _› (by first | (rw [enc_put (by assumption)]; simp only [List.append_assoc, List.cons_append, List.nil_append, List.singleton_append, Int.toNat_sub]; rfl) | (rw [enc_del (by assumption)]; simp only [List.append_assoc, List.cons_append, List.nil_append, List.singleton_append, Int.toNat_sub]; rfl)), by exact enc_len2 (last := last) hlo (by omega) ‹d1[k]? = some _› (by first | (rw [enc_put (by assumption)]; simp only [List.append_assoc, List.cons_append, List.nil_append, List.singleton_append, Int.toNat_sub]; rfl) | (rw [enc_del (by assumption)]; simp only [List.append_assoc, List.cons_append, List.nil_append, List.singleton_append, Int.toNat_sub]; rfl)), by (have ho_ := batchCheck_mem (by omega : batchCheck d1 = 0) (List.mem_of_getElem? ‹d1[k]? = some _›); have := ho_.2.1; have := ho_.2.2.1; have := encOp_len (last := last) ho_; have := (batch_len (by omega : batchCheck d1 = 0)).2; omega), ho31⟩, by exact fin0_bAppend_ok, ⟨⟨rfl, rfl, rfl, rfl, rfl, rfl, rfl, rfl, rfl, rfl, rfl, trivial⟩, fun _ h => Inv.sub (Inv.num h 129 104 rfl) [104, 0]⟩⟩
    · -- FF
      refine VC.exit ?_
      refine outE ?_
      refine outE ?_
      refine outBB ?_
      refine outN ?_
      refine VC.rs ?_
      refine VO.mv ?_
      refine VO.as ?_
      refine VO.as ?_
      refine VO.k12 0 1 4 5 6 7 8 16 23 24 25 26 ?_
      refine VC.ret ?_
      refine ⟨_, _, res_run (rs := [.tmp 4, .tmp 5]) rfl (.tmp rfl (.tmp rfl .nil)), fun W_ hI => out_of (l := [out_m]) hI [104] rfl rfl (mle_refl _) (fun hS_ => ?_)⟩
      dsimp only [packV]
      have he0 : ((bAppend d0 d1).1 : Ty.Den (.sl .byte)) = out := by first | rfl | (first | (rw [bAppend_bad ‹_›] <;> rfl) | (rw [bAppend_good (by omega)]; dsimp only; rw [← he, List.drop_of_length_le (by omega)]; simp [encOps]))
      refine ⟨Value.slice out_A (out.length) (out_c), ?_, ?_⟩
      rotate_left
      · rw [he0]; exact (Ow.up (OwnL.ow h_out rfl) (hS_.1 _ (.head _)))
      all_goals (first | rfl | (first | (rw [bAppend_bad ‹_›] <;> rfl) | (rw [bAppend_good (by omega)] <;> rfl)))
end
section
set_option linter.unusedVariables false
set_option linter.unusedSimpArgs false
set_option maxRecDepth 4000
theorem fnOk57 : fnOk Try.prog 57 = true := by kernel_rfl
theorem fin0_rbAppend_ok {P : Prop} (h : P := by first | omega | (have ho_ := batchCheck_mem (by omega : batchCheck d1 = 0) (List.mem_of_getElem? ‹d1[k]? = some _›); have := ho_.2.1; have := ho_.2.2.1; have := encOp_len (last := last) ho_; have := (batch_len (by omega : batchCheck d1 = 0)).2; omega) | (have ho_ := batchCheck_mem (by omega : batchCheck d1 = 0) (List.mem_of_getElem? ‹d1[k]? = some _›); have := ho_.2.1; have := ho_.2.2.1; have := (batch_len (by omega : batchCheck d1 = 0)).2; simp only [List.length_append, List.length_nil, List.length_cons, List.length_take, List.length_drop] at *; omega)) : P := h
theorem rbAppend_ok (W : World) {v0 : Value} {d0 : List UInt8} (h0 : Rd (.sl .byte) (wm W) [v0] d0) {v1 : Value} {d1 : List DOp} (h1 : Rd (.sl TOp) (wm W) [v1] d1) (e0 : d0.length ≤ 140737488352000) : CallR Try.prog 108 [v0, v1] W (mnil) (fun v m' => ∃ (s0 : Value), v = .tuple #[s0, .int .i64 ((bAppend d0 d1).2)] ∧ Ow (.sl .byte) m' [s0] ((bAppend d0 d1).1)) := by
  obtain ⟨A0, c0, rfl, l0, k0⟩ := h0.slice
  simp only [maxLen] at k0
  obtain ⟨A1, c1, rfl, l1, k1⟩ := h1.slice
  simp only [maxLen] at k1
  refine CallR.ofA (n := 72) Try.func108 rfl rfl rfl ?_
  refine VC.rs ?_
  refine VO.as ?_
  refine VO.as ?_
  refine VO.k4 0 1 4 5 ?_
  refine VC.rs ?_
  refine VO.mv ?_
  refine VO.callN 101 rfl fnOk116 rfl (fun W hW => rbCheck_ok W (Rd.mono h1 (hW.at (i := 0) rfl))) (fun v1 m1 hv1 => ?_)
  subst hv1
  have hfa2 := batchCheck_range d1
  refine VO.as ?_
  refine VO.k5 0 1 4 5 6 ?_
  refine VC.seq ?_
  refine VC.rs ?_
  refine VO.mv ?_
  refine VO.y rfl (.neq rfl rfl) ?_
  refine VO.kp [0] [(0, wm W)] ?_
  refine VO.k6 0 1 4 5 6 16 ?_
  refine VC.cond rfl (fun hc3 => ?_) (fun hc3 => ?_)
  · -- T
    refine VC.rs ?_
    refine VO.mv ?_
    refine VO.as ?_
    refine VO.as ?_
    refine VO.k6 0 1 4 5 6 16 ?_
    refine VC.ret ?_
    refine outR ?_
    refine ⟨_, _, res_run (rs := [.tmp 4, .tmp 5]) rfl (.tmp rfl (.tmp rfl .nil)), fun W_ hI => out_of (l := []) hI [] rfl rfl (mle_refl _) (fun hS_ => ?_)⟩
    dsimp only [packV]
    have he0 : ((bAppend d0 d1).1 : Ty.Den (.sl .byte)) = [] := by first | rfl | (first | (rw [bAppend_bad ‹_›] <;> rfl) | (rw [bAppend_good (by omega)]; dsimp only; rw [← he, List.drop_of_length_le (by omega)]; simp [encOps]))
    refine ⟨Value.slice none (0) (0), ?_, ?_⟩
    rotate_left
    · rw [he0]; exact (Ow.nil _ _)
    all_goals (first | rfl | (first | (rw [bAppend_bad ‹_›] <;> rfl) | (rw [bAppend_good (by omega)] <;> rfl)))
  · -- F
    refine VC.skip ?_
    refine outN ?_
    refine VC.rs ?_
    refine VO.mv ?_
    refine VO.mv ?_
    refine VO.y rfl (.lenS rfl tsl30) ?_
    refine VO.callN 104 rfl fnOk57 rfl (fun W hW => rPut_ok W (Rd.mono h0 (hW.at (i := 0) rfl)) ((d1.length : Nat) : Int) (by simp only [inK]; (exact fin0_rbAppend_ok)) (by exact fin0_rbAppend_ok) (by exact fin0_rbAppend_ok)) (fun v4 m4 hv4 => ?_)
    obtain ⟨s4_0, rfl, f4_0⟩ := hv4
    have hfa5 := venc_len (x := ((d1.length : Nat) : Int).toNat) (by omega)
    obtain ⟨A4_0, c4_0, eq4_0, l4_0, k4_0⟩ := f4_0.slice
    subst eq4_0
    simp only [maxLen] at k4_0
    refine VO.as ?_
    refine VO.k7 0 1 4 5 6 7 16 ?_
    refine VC.rs ?_
    refine VO.as ?_
    refine VO.k8 0 1 4 5 6 7 8 16 ?_
    refine VC.seq ?_
    refine VC.rs ?_
    refine VO.as ?_
    refine VO.kp [104, 0] [(104, m4), (0, wm W)] ?_
    refine VO.k9 0 1 4 5 6 7 8 9 16 ?_
    refine VC.block ?_
    refine VC.loop (G := Nat × (List UInt8) × (List UInt8) × (Option Addr) × Nat × Mem) (fun g => [(7, Value.slice (g.2.2.2.1) ((g.2.2.1).length) ((g.2.2.2.2.1))), (8, str ((g.2.1))), (9, Value.int .i64 ((((g.1) : Nat) : Int))), (0, Value.slice A0 (d0.length) (c0)), (1, Value.slice A1 (d1.length) (c1)), (4, Value.slice none (0) (0)), (5, Value.int .i64 (0)), (6, Value.int .i64 (batchCheck d1)), (16, Value.bool (decide (¬ (batchCheck d1) = 0)))]) (fun g => [(104, (g.2.2.2.2.2)), (0, wm W)]) (fun g => ((g.1) ≤ d1.length) ∧ ((g.2.2.1) ++ encOps (g.2.1) (d1.drop (g.1)) = d0 ++ batchEnc d1) ∧ ((g.2.2.1).length ≤ d0.length + 10 + 80 * (g.1)) ∧ ((g.2.1).length ≤ 16) ∧ (OwnL .byte (g.2.2.2.2.2) mnil (.slice (g.2.2.2.1) (g.2.2.1).length (g.2.2.2.2.1)) (g.2.2.1))) (fun g => d1.length - (g.1)) (0, [], d0 ++ venc ((d1.length : Nat) : Int).toNat, A4_0, c4_0, m4) (⟨by omega, by (simp [batchEnc]), by (have := venc_len (x := d1.length) (by omega); simp; omega), by (simp; done), (Ow.ownl f4_0 rfl mnil)⟩) ⟨⟨rfl, rfl, rfl, rfl, rfl, rfl, rfl, rfl, rfl, trivial⟩, fun _ h => h.sub [104, 0]⟩ ?_
    rintro ⟨k, last, out, out_A, out_c, out_m⟩ ⟨hk, he, hlo, hla, h_out⟩
    replace hk : k ≤ d1.length := hk
    replace he : out ++ encOps last (d1.drop k) = d0 ++ batchEnc d1 := he
    replace hlo : out.length ≤ d0.length + 10 + 80 * k := hlo
    replace hla : last.length ≤ 16 := hla
    replace h_out : OwnL .byte out_m mnil (.slice out_A out.length out_c) out := h_out
    show VC _ _ _ _ _ [(7, Value.slice out_A (out.length) (out_c)), (8, str (last)), (9, Value.int .i64 (((k : Nat) : Int))), (0, Value.slice A0 (d0.length) (c0)), (1, Value.slice A1 (d1.length) (c1)), (4, Value.slice none (0) (0)), (5, Value.int .i64 (0)), (6, Value.int .i64 (batchCheck d1)), (16, Value.bool (decide (¬ (batchCheck d1) = 0)))] [(104, out_m), (0, wm W)]
    have l_out : out.length ≤ out_c := by obtain ⟨_, _, he, hl, _⟩ := h_out.slice; simp only [Value.slice.injEq] at he; omega
    have k_out : out_c ≤ 9223372036854775807 := by obtain ⟨_, _, he, _, hl⟩ := h_out.slice; simp only [Value.slice.injEq, maxLen] at he hl; omega
    refine VC.seq ?_
    refine VC.rs ?_
    refine VO.mv ?_
    refine VO.mv ?_
    refine VO.y rfl (.lenS rfl tsl30) ?_
    refine VO.y rfl (.lss rfl rfl) ?_
    refine VO.k10 0 1 4 5 6 7 8 9 16 25 ?_
    refine VC.cond rfl (fun hc6 => ?_) (fun hc6 => ?_)
    · -- FT
      refine VC.skip ?_
      refine outN ?_
      refine VC.seq ?_
      refine VC.block ?_
      refine VC.rs ?_
      refine VO.mv ?_
      refine VO.mv ?_
      obtain ⟨x7, hx7⟩ : ∃ z_, (d1)[k]? = some z_ := ⟨_, List.getElem?_eq_getElem (by exact fin0_rbAppend_ok)⟩
      obtain ⟨gg7, oo7, ec7, ea7, hce7, hre7⟩ := h1.elem hx7
      cases ea7
      obtain ⟨rfl, q7_1, q7_2⟩ := open_Op (x0 := x7.1) (x1 := x7.2.1) (x2 := x7.2.2) hre7
      simp only [maxLen] at q7_1
      simp only [maxLen] at q7_2
      refine VO.y rfl (.ixI k rfl rfl tsl30 rfl (by exact fin0_rbAppend_ok)) ?_
      refine VO.y rfl (.ldA 0 rfl tk78 rfl hce7) ?_
      refine VO.alloc 109 rfl tz78 (fun g8 => ?_)
      refine VO.store (k := 3) (c' := [Value.bool x7.1, str (x7.2.1), str (x7.2.2)]) 109 rfl rfl (.inl tk78) rfl rfl rfl rfl rfl ?_
      refine VO.k11 0 1 4 5 6 7 8 9 10 16 25 ?_
      refine VC.rs ?_
      refine VO.as ?_
      refine VO.kp [109, 104, 0] [(109, mone g8 (.cells [Value.bool x7.1, str (x7.2.1), str (x7.2.2)].toArray 78 (0, 0))), (104, out_m), (0, wm W)] ?_
      refine VO.k12 0 1 4 5 6 7 8 9 10 11 16 25 ?_
      refine VC.seq ?_
      refine VC.rs ?_
      refine VO.y rfl (.fa rfl tst78 rfl) ?_
      refine VO.y rfl (.ld1 109 rfl tk4 rfl (cellsAt_one rfl rfl)) ?_
      refine VO.k13 0 1 4 5 6 7 8 9 10 11 16 25 33 ?_
      refine VC.condB rfl (fun hc10 => ?_) (fun hc10 => ?_)
      · -- FTT
        refine VC.reg ?_
        refine VO.as ?_
        refine VO.k13 0 1 4 5 6 7 8 9 10 11 16 25 33 ?_
        refine outN ?_
        refine VC.rs ?_
        refine VO.mv ?_
        refine VO.mv ?_
        refine VO.bsl (cs := [Value.int .u8 (1)]) 112 rfl rfl tsl25 tz5 rfl rfl (fun g11 => ?_)
        obtain ⟨mo13, cs13, hM13, hA13, hC13⟩ := h_out
        refine VO.app 104 rfl rfl rfl tsl25 tz5 rfl rfl hM13 hA13 (.row 112 _ _ _ 1 1 _ _ Try.underlying25 rfl (cellsAt_one rfl rfl)) (by simp [Value.oneCell']) (by simp only [maxLen]; (exact fin0_rbAppend_ok)) (by exact fin0_rbAppend_ok) (by decide) (fun v13 m13 hN13 => ?_)
        have ho13 : OwnL .byte m13 mnil v13 (out ++ [UInt8.ofNat 1]) := OwnL.one hC13 hN13 (rd_byteN (by exact fin0_rbAppend_ok))
        obtain ⟨A13, c13, rfl, l13, k13⟩ := ho13.slice
        simp only [maxLen] at k13
        refine VO.as ?_
        refine VO.kp [109, 104, 0] [(109, mone g8 (.cells [Value.bool x7.1, str (x7.2.1), str (x7.2.2)].toArray 78 (0, 0))), (104, m13), (0, wm W)] ?_
        refine VO.k13 0 1 4 5 6 7 8 9 10 11 16 25 33 ?_
        refine VC.rs ?_
        refine VO.mv ?_
        refine VO.y rfl (.fa rfl tst78 rfl) ?_
        refine VO.y rfl (.ld1 109 rfl tk9 rfl (cellsAt_one rfl rfl)) ?_
        refine VO.callN 114 rfl fnOk118 rfl (fun W hW => rShared_ok W last (by simp only [maxLen]; (exact fin0_rbAppend_ok)) x7.2.1 (by simp only [maxLen]; (exact fin0_rbAppend_ok))) (fun v14 m14 hv14 => ?_)
        subst hv14
        have hfa15 := shared_le last x7.2.1
        refine VO.as ?_
        refine VO.k14 0 1 4 5 6 7 8 9 10 11 12 16 25 33 ?_
        refine VC.rs ?_
        refine VO.mv ?_
        refine VO.mv ?_
        refine VO.callN 116 rfl fnOk57 rfl (fun W hW => rPut_ok W (OwnL.rd ho13 (hW.at (i := 104) rfl) (mle_nil _)) ((shared last x7.2.1 : Nat) : Int) (by simp only [inK]; (exact fin0_rbAppend_ok)) (by exact fin0_rbAppend_ok) (by exact fin0_rbAppend_ok)) (fun v16 m16 hv16 => ?_)
        obtain ⟨s16_0, rfl, f16_0⟩ := hv16
        have hfa17 := venc_len (x := ((shared last x7.2.1 : Nat) : Int).toNat) (by omega)
        obtain ⟨A16_0, c16_0, eq16_0, l16_0, k16_0⟩ := f16_0.slice
        subst eq16_0
        simp only [maxLen] at k16_0
        refine VO.as ?_
        refine VO.k14 0 1 4 5 6 7 8 9 10 11 12 16 25 33 ?_
        refine VC.rs ?_
        refine VO.mv ?_
        refine VO.y rfl (.fa rfl tst78 rfl) ?_
        refine VO.y rfl (.ld1 109 rfl tk9 rfl (cellsAt_one rfl rfl)) ?_
        refine VO.y rfl (.lenT rfl Try.underlying9) ?_
        refine VO.mv ?_
        refine VO.y rfl (.sub rfl rfl rfl ⟨by exact fin0_rbAppend_ok, by exact fin0_rbAppend_ok⟩) ?_
        refine VO.callN 118 rfl fnOk57 rfl (fun W hW => rPut_ok W (OwnL.rd (Ow.ownl f16_0 rfl mnil) (hW.at (i := 116) rfl) (mle_nil _)) (((x7.2.1.length : Nat) : Int) - ((shared last x7.2.1 : Nat) : Int)) (by simp only [inK]; (exact fin0_rbAppend_ok)) (by exact fin0_rbAppend_ok) (by exact fin0_rbAppend_ok)) (fun v18 m18 hv18 => ?_)
        obtain ⟨s18_0, rfl, f18_0⟩ := hv18
        have hfa19 := venc_len (x := (((x7.2.1.length : Nat) : Int) - ((shared last x7.2.1 : Nat) : Int)).toNat) (by omega)
        obtain ⟨A18_0, c18_0, eq18_0, l18_0, k18_0⟩ := f18_0.slice
        subst eq18_0
        simp only [maxLen] at k18_0
        refine VO.as ?_
        refine VO.kp [118, 109, 0] [(118, m18), (109, mone g8 (.cells [Value.bool x7.1, str (x7.2.1), str (x7.2.2)].toArray 78 (0, 0))), (0, wm W)] ?_
        refine VO.k14 0 1 4 5 6 7 8 9 10 11 12 16 25 33 ?_
        refine VC.rs ?_
        refine VO.mv ?_
        refine VO.y rfl (.fa rfl tst78 rfl) ?_
        refine VO.y rfl (.ld1 109 rfl tk9 rfl (cellsAt_one rfl rfl)) ?_
        refine VO.mv ?_
        refine VO.y rfl (.slTLI (shared last x7.2.1) rfl rfl Try.underlying9 rfl (by exact fin0_rbAppend_ok)) ?_
        obtain ⟨mo20, cs20, hM20, hA20, hC20⟩ := (Ow.ownl f18_0 rfl mnil)
        refine VO.app 118 rfl rfl rfl tsl25 tz5 rfl rfl hM20 hA20 (.str _ Try.underlying9 rfl) (byV_nice _) (by simp only [maxLen]; (exact fin0_rbAppend_ok)) (by exact fin0_rbAppend_ok) (by decide) (fun v20 m20 hN20 => ?_)
        have ho20 : OwnL .byte m20 mnil v20 ((((out ++ [UInt8.ofNat 1]) ++ venc ((shared last x7.2.1 : Nat) : Int).toNat) ++ venc (((x7.2.1.length : Nat) : Int) - ((shared last x7.2.1 : Nat) : Int)).toNat) ++ (x7.2.1.drop (shared last x7.2.1))) := OwnL.more hC20 hN20 (rd_str _ _)
        obtain ⟨A20, c20, rfl, l20, k20⟩ := ho20.slice
        simp only [maxLen] at k20
        refine VO.as ?_
        refine VO.k14 0 1 4 5 6 7 8 9 10 11 12 16 25 33 ?_
        refine VC.seq ?_
        refine VC.rs ?_
        refine VO.y rfl (.fa rfl tst78 rfl) ?_
        refine VO.y rfl (.ld1 109 rfl tk4 rfl (cellsAt_one rfl rfl)) ?_
        refine VO.k15 0 1 4 5 6 7 8 9 10 11 12 16 25 33 59 ?_
        refine VC.condKT rfl hc10 ?_
        refine VC.rs ?_
        refine VO.mv ?_
        refine VO.y rfl (.fa rfl tst78 rfl) ?_
        refine VO.y rfl (.ld1 109 rfl tk9 rfl (cellsAt_one rfl rfl)) ?_
        refine VO.y rfl (.lenT rfl Try.underlying9) ?_
        refine VO.callN 121 rfl fnOk57 rfl (fun W hW => rPut_ok W (OwnL.rd ho20 (hW.at (i := 118) rfl) (mle_nil _)) ((x7.2.2.length : Nat) : Int) (by simp only [inK]; (exact fin0_rbAppend_ok)) (by exact fin0_rbAppend_ok) (by exact fin0_rbAppend_ok)) (fun v21 m21 hv21 => ?_)
        obtain ⟨s21_0, rfl, f21_0⟩ := hv21
        have hfa22 := venc_len (x := ((x7.2.2.length : Nat) : Int).toNat) (by omega)
        obtain ⟨A21_0, c21_0, eq21_0, l21_0, k21_0⟩ := f21_0.slice
        subst eq21_0
        simp only [maxLen] at k21_0
        refine VO.as ?_
        refine VO.kp [121, 109, 0] [(121, m21), (109, mone g8 (.cells [Value.bool x7.1, str (x7.2.1), str (x7.2.2)].toArray 78 (0, 0))), (0, wm W)] ?_
        refine VO.k15 0 1 4 5 6 7 8 9 10 11 12 16 25 33 59 ?_
        refine VC.reg ?_
        refine VO.mv ?_
        refine VO.y rfl (.fa rfl tst78 rfl) ?_
        refine VO.y rfl (.ld1 109 rfl tk9 rfl (cellsAt_one rfl rfl)) ?_
        obtain ⟨mo23, cs23, hM23, hA23, hC23⟩ := (Ow.ownl f21_0 rfl mnil)
        refine VO.app 121 rfl rfl rfl tsl25 tz5 rfl rfl hM23 hA23 (.str _ Try.underlying9 rfl) (byV_nice _) (by simp only [maxLen]; (exact fin0_rbAppend_ok)) (by exact fin0_rbAppend_ok) (by decide) (fun v23 m23 hN23 => ?_)
        have ho23 : OwnL .byte m23 mnil v23 ((((((out ++ [UInt8.ofNat 1]) ++ venc ((shared last x7.2.1 : Nat) : Int).toNat) ++ venc (((x7.2.1.length : Nat) : Int) - ((shared last x7.2.1 : Nat) : Int)).toNat) ++ (x7.2.1.drop (shared last x7.2.1))) ++ venc ((x7.2.2.length : Nat) : Int).toNat) ++ x7.2.2) := OwnL.more hC23 hN23 (rd_str _ _)
        obtain ⟨A23, c23, rfl, l23, k23⟩ := ho23.slice
        simp only [maxLen] at k23
        refine VO.as ?_
        refine VO.k15 0 1 4 5 6 7 8 9 10 11 12 16 25 33 59 ?_
        refine outN ?_
        refine VC.reg ?_
        refine VO.y rfl (.fa rfl tst78 rfl) ?_
        refine VO.y rfl (.ld1 109 rfl tk9 rfl (cellsAt_one rfl rfl)) ?_
        refine VO.as ?_
        refine VO.k15 0 1 4 5 6 7 8 9 10 11 12 16 25 33 59 ?_
        refine outBN ?_
        refine outN ?_
        refine VC.reg ?_
        refine VO.mv ?_
        refine VO.y rfl (.add (c := ((k + 1 : Nat) : Int)) rfl rfl (by omega) ⟨by exact fin0_rbAppend_ok, by exact fin0_rbAppend_ok⟩) ?_
        refine VO.as ?_
        refine VO.kp [121, 109, 0] [(121, m23), (109, mone g8 (.cells [Value.bool x7.1, str (x7.2.1), str (x7.2.2)].toArray 78 (0, 0))), (0, wm W)] ?_
        refine VO.k15 0 1 4 5 6 7 8 9 10 11 12 16 25 33 59 ?_
        exact outN ⟨⟨k + 1, x7.2.1, (((((out ++ [UInt8.ofNat 1]) ++ venc ((shared last x7.2.1 : Nat) : Int).toNat) ++ venc (((x7.2.1.length : Nat) : Int) - ((shared last x7.2.1 : Nat) : Int)).toNat) ++ (x7.2.1.drop (shared last x7.2.1))) ++ venc ((x7.2.2.length : Nat) : Int).toNat) ++ x7.2.2, A23, c23, m23⟩, ⟨by omega, by exact enc_step2 he ‹d1[k]? = some _› (by first | (rw [enc_put (by assumption)]; simp only [List.append_assoc, List.cons_append, List.nil_append, List.singleton_append, Int.toNat_sub]; rfl) | (rw [enc_del (by assumption)]; simp only [List.append_assoc, List.cons_append, List.nil_append, List.singleton_append, Int.toNat_sub]; rfl)), by exact enc_len2 (last := last) hlo (by omega) ‹d1[k]? = some _› (by first | (rw [enc_put (by assumption)]; simp only [List.append_assoc, List.cons_append, List.nil_append, List.singleton_append, Int.toNat_sub]; rfl) | (rw [enc_del (by assumption)]; simp only [List.append_assoc, List.cons_append, List.nil_append, List.singleton_append, Int.toNat_sub]; rfl)), by (have ho_ := batchCheck_mem (by omega : batchCheck d1 = 0) (List.mem_of_getElem? ‹d1[k]? = some _›); have := ho_.2.1; have := ho_.2.2.1; have := encOp_len (last := last) ho_; have := (batch_len (by omega : batchCheck d1 = 0)).2; omega), ho23⟩, by exact fin0_rbAppend_ok, ⟨⟨rfl, rfl, rfl, rfl, rfl, rfl, rfl, rfl, rfl, trivial⟩, fun _ h => Inv.sub (Inv.num h 121 104 rfl) [104, 0]⟩⟩
      · -- FTF
        refine VC.skip ?_
        refine outN ?_
        refine VC.rs ?_
        refine VO.mv ?_
        refine VO.mv ?_
        refine VO.bsl (cs := [Value.int .u8 (0)]) 125 rfl rfl tsl25 tz5 rfl rfl (fun g24 => ?_)
        obtain ⟨mo26, cs26, hM26, hA26, hC26⟩ := h_out
        refine VO.app 104 rfl rfl rfl tsl25 tz5 rfl rfl hM26 hA26 (.row 125 _ _ _ 1 1 _ _ Try.underlying25 rfl (cellsAt_one rfl rfl)) (by simp [Value.oneCell']) (by simp only [maxLen]; (exact fin0_rbAppend_ok)) (by exact fin0_rbAppend_ok) (by decide) (fun v26 m26 hN26 => ?_)
        have ho26 : OwnL .byte m26 mnil v26 (out ++ [UInt8.ofNat 0]) := OwnL.one hC26 hN26 (rd_byteN (by exact fin0_rbAppend_ok))
        obtain ⟨A26, c26, rfl, l26, k26⟩ := ho26.slice
        simp only [maxLen] at k26
        refine VO.as ?_
        refine VO.k13 0 1 4 5 6 7 8 9 10 11 16 25 33 ?_
        refine VC.rs ?_
        refine VO.mv ?_
        refine VO.y rfl (.fa rfl tst78 rfl) ?_
        refine VO.y rfl (.ld1 109 rfl tk9 rfl (cellsAt_one rfl rfl)) ?_
        refine VO.callN 127 rfl fnOk118 rfl (fun W hW => rShared_ok W last (by simp only [maxLen]; (exact fin0_rbAppend_ok)) x7.2.1 (by simp only [maxLen]; (exact fin0_rbAppend_ok))) (fun v27 m27 hv27 => ?_)
        subst hv27
        have hfa28 := shared_le last x7.2.1
        refine VO.as ?_
        refine VO.kp [109, 104, 0] [(109, mone g8 (.cells [Value.bool x7.1, str (x7.2.1), str (x7.2.2)].toArray 78 (0, 0))), (104, m26), (0, wm W)] ?_
        refine VO.k14 0 1 4 5 6 7 8 9 10 11 12 16 25 33 ?_
        refine VC.rs ?_
        refine VO.mv ?_
        refine VO.mv ?_
        refine VO.callN 129 rfl fnOk57 rfl (fun W hW => rPut_ok W (OwnL.rd ho26 (hW.at (i := 104) rfl) (mle_nil _)) ((shared last x7.2.1 : Nat) : Int) (by simp only [inK]; (exact fin0_rbAppend_ok)) (by exact fin0_rbAppend_ok) (by exact fin0_rbAppend_ok)) (fun v29 m29 hv29 => ?_)
        obtain ⟨s29_0, rfl, f29_0⟩ := hv29
        have hfa30 := venc_len (x := ((shared last x7.2.1 : Nat) : Int).toNat) (by omega)
        obtain ⟨A29_0, c29_0, eq29_0, l29_0, k29_0⟩ := f29_0.slice
        subst eq29_0
        simp only [maxLen] at k29_0
        refine VO.as ?_
        refine VO.k14 0 1 4 5 6 7 8 9 10 11 12 16 25 33 ?_
        refine VC.rs ?_
        refine VO.mv ?_
        refine VO.y rfl (.fa rfl tst78 rfl) ?_
        refine VO.y rfl (.ld1 109 rfl tk9 rfl (cellsAt_one rfl rfl)) ?_
        refine VO.y rfl (.lenT rfl Try.underlying9) ?_
        refine VO.mv ?_
        refine VO.y rfl (.sub rfl rfl rfl ⟨by exact fin0_rbAppend_ok, by exact fin0_rbAppend_ok⟩) ?_
        refine VO.callN 131 rfl fnOk57 rfl (fun W hW => rPut_ok W (OwnL.rd (Ow.ownl f29_0 rfl mnil) (hW.at (i := 129) rfl) (mle_nil _)) (((x7.2.1.length : Nat) : Int) - ((shared last x7.2.1 : Nat) : Int)) (by simp only [inK]; (exact fin0_rbAppend_ok)) (by exact fin0_rbAppend_ok) (by exact fin0_rbAppend_ok)) (fun v31 m31 hv31 => ?_)
        obtain ⟨s31_0, rfl, f31_0⟩ := hv31
        have hfa32 := venc_len (x := (((x7.2.1.length : Nat) : Int) - ((shared last x7.2.1 : Nat) : Int)).toNat) (by omega)
        obtain ⟨A31_0, c31_0, eq31_0, l31_0, k31_0⟩ := f31_0.slice
        subst eq31_0
        simp only [maxLen] at k31_0
        refine VO.as ?_
        refine VO.k14 0 1 4 5 6 7 8 9 10 11 12 16 25 33 ?_
        refine VC.rs ?_
        refine VO.mv ?_
        refine VO.y rfl (.fa rfl tst78 rfl) ?_
        refine VO.y rfl (.ld1 109 rfl tk9 rfl (cellsAt_one rfl rfl)) ?_
        refine VO.mv ?_
        refine VO.y rfl (.slTLI (shared last x7.2.1) rfl rfl Try.underlying9 rfl (by exact fin0_rbAppend_ok)) ?_
        obtain ⟨mo33, cs33, hM33, hA33, hC33⟩ := (Ow.ownl f31_0 rfl mnil)
        refine VO.app 131 rfl rfl rfl tsl25 tz5 rfl rfl hM33 hA33 (.str _ Try.underlying9 rfl) (byV_nice _) (by simp only [maxLen]; (exact fin0_rbAppend_ok)) (by exact fin0_rbAppend_ok) (by decide) (fun v33 m33 hN33 => ?_)
        have ho33 : OwnL .byte m33 mnil v33 ((((out ++ [UInt8.ofNat 0]) ++ venc ((shared last x7.2.1 : Nat) : Int).toNat) ++ venc (((x7.2.1.length : Nat) : Int) - ((shared last x7.2.1 : Nat) : Int)).toNat) ++ (x7.2.1.drop (shared last x7.2.1))) := OwnL.more hC33 hN33 (rd_str _ _)
        obtain ⟨A33, c33, rfl, l33, k33⟩ := ho33.slice
        simp only [maxLen] at k33
        refine VO.as ?_
        refine VO.kp [131, 109, 0] [(131, m33), (109, mone g8 (.cells [Value.bool x7.1, str (x7.2.1), str (x7.2.2)].toArray 78 (0, 0))), (0, wm W)] ?_
        refine VO.k14 0 1 4 5 6 7 8 9 10 11 12 16 25 33 ?_
        refine VC.seq ?_
        refine VC.rs ?_
        refine VO.y rfl (.fa rfl tst78 rfl) ?_
        refine VO.y rfl (.ld1 109 rfl tk4 rfl (cellsAt_one rfl rfl)) ?_
        refine VO.k15 0 1 4 5 6 7 8 9 10 11 12 16 25 33 59 ?_
        refine VC.condKF rfl hc10 ?_
        refine VC.skip ?_
        refine outN ?_
        refine VC.reg ?_
        refine VO.y rfl (.fa rfl tst78 rfl) ?_
        refine VO.y rfl (.ld1 109 rfl tk9 rfl (cellsAt_one rfl rfl)) ?_
        refine VO.as ?_
        refine VO.k15 0 1 4 5 6 7 8 9 10 11 12 16 25 33 59 ?_
        refine outBN ?_
        refine outN ?_
        refine VC.reg ?_
        refine VO.mv ?_
        refine VO.y rfl (.add (c := ((k + 1 : Nat) : Int)) rfl rfl (by omega) ⟨by exact fin0_rbAppend_ok, by exact fin0_rbAppend_ok⟩) ?_
        refine VO.as ?_
        refine VO.kp [131, 109, 0] [(131, m33), (109, mone g8 (.cells [Value.bool x7.1, str (x7.2.1), str (x7.2.2)].toArray 78 (0, 0))), (0, wm W)] ?_
        refine VO.k15 0 1 4 5 6 7 8 9 10 11 12 16 25 33 59 ?_
        exact outN ⟨⟨k + 1, x7.2.1, (((out ++ [UInt8.ofNat 0]) ++ venc ((shared last x7.2.1 : Nat) : Int).toNat) ++ venc (((x7.2.1.length : Nat) : Int) - ((shared last x7.2.1 : Nat) : Int)).toNat) ++ (x7.2.1.drop (shared last x7.2.1)), A33, c33, m33⟩, ⟨by omega, by exact enc_step2 he ‹d1[k]? = some _› (by first | (rw [enc_put (by assumption)]; simp only [List.append_assoc, List.cons_append, List.nil_append, List.singleton_append, Int.toNat_sub]; rfl) | (rw [enc_del (by assumption)]; simp only [List.append_assoc, List.cons_append, List.nil_append, List.singleton_append, Int.toNat_sub]; rfl)), by exact enc_len2 (last := last) hlo (by omega) ‹d1[k]? = some _› (by first | (rw [enc_put (by assumption)]; simp only [List.append_assoc, List.cons_append, List.nil_append, List.singleton_append, Int.toNat_sub]; rfl) | (rw [enc_del (by assumption)]; simp only [List.append_assoc, List.cons_append, List.nil_append, List.singleton_append, Int.toNat_sub]; rfl)), by (have ho_ := batchCheck_mem (by omega : batchCheck d1 = 0) (List.mem_of_getElem? ‹d1[k]? = some _›); have := ho_.2.1; have := ho_.2.2.1; have := encOp_len (last := last) ho_; have := (batch_len (by omega : batchCheck d1 = 0)).2; omega), ho33⟩, by exact fin0_rbAppend_ok, ⟨⟨rfl, rfl, rfl, rfl, rfl, rfl, rfl, rfl, rfl, trivial⟩, fun _ h => Inv.sub (Inv.num h 131 104 rfl) [104, 0]⟩⟩
    · -- FF
      refine VC.exit ?_
      refine outE ?_
      refine outE ?_
      refine outBB ?_
      refine outN ?_
      refine VC.rs ?_
      refine VO.mv ?_
      refine VO.as ?_
      refine VO.as ?_
      refine VO.k10 0 1 4 5 6 7 8 9 16 25 ?_
      refine VC.ret ?_
      refine ⟨_, _, res_run (rs := [.tmp 4, .tmp 5]) rfl (.tmp rfl (.tmp rfl .nil)), fun W_ hI => out_of (l := [out_m]) hI [104] rfl rfl (mle_refl _) (fun hS_ => ?_)⟩
      dsimp only [packV]
      have he0 : ((bAppend d0 d1).1 : Ty.Den (.sl .byte)) = out := by first | rfl | (first | (rw [bAppend_bad ‹_›] <;> rfl) | (rw [bAppend_good (by omega)]; dsimp only; rw [← he, List.drop_of_length_le (by omega)]; simp [encOps]))
      refine ⟨Value.slice out_A (out.length) (out_c), ?_, ?_⟩
      rotate_left
      · rw [he0]; exact (Ow.up (OwnL.ow h_out rfl) (hS_.1 _ (.head _)))
      all_goals (first | rfl | (first | (rw [bAppend_bad ‹_›] <;> rfl) | (rw [bAppend_good (by omega)] <;> rfl)))
end
section
set_option linter.unusedVariables false
theorem cellsAt.uniq {m : Mem} {g off k : Nat} {a b : List Value} (h : cellsAt m g off k a) (h' : cellsAt m g off k b) : a = b := by
  obtain ⟨c, E, fz, h1, h2, h3⟩ := h
  obtain ⟨c', E', fz', h1', h2', h3'⟩ := h'
  rw [h1] at h1'
  cases h1'
  rw [h3, h3']
theorem OwAll.hole {α : Type} {R : Mem → List Value → α → Prop} {k : Nat} (hk : ∀ m c x, R m c x → c.length = k) : ∀ {xs : List α} {m : Mem} {cs : List Value} {i : Nat} {a : α}, OwAll R m cs xs → xs[i]? = some a →
    ∃ mr me, mdj mr me ∧ mle mr m ∧ mle me m ∧ R me ((cs.drop (i * k)).take k) a ∧ ∀ me' x', mdj mr me' → R me' ((cs.drop (i * k)).take k) x' → OwAll R (mun mr me') cs (xs.set i x')
  | y :: r, m, _, 0, a, ⟨c1, c2, m1, m2, h1, h2, h3, h4, h5, h6⟩, hi => by
    simp at hi; subst hi
    have e : ((c1 ++ c2).drop (0 * k)).take k = c1 := by rw [Nat.zero_mul, List.drop_zero]; exact List.take_left' (hk _ _ _ h5)
    rw [h1, e]
    exact ⟨m2, m1, h2.symm, h4, h3, h5, fun me' x' hd hx => ⟨c1, c2, me', m2, rfl, hd.symm, mle_un_right hd, mle_un_left _ _, hx, h6⟩⟩
  | y :: r, m, _, i + 1, a, ⟨c1, c2, m1, m2, h1, h2, h3, h4, h5, h6⟩, hi => by
    have hi' : r[i]? = some a := by simpa using hi
    obtain ⟨mr, me, d, l1, l2, hR, hb⟩ := OwAll.hole hk h6 hi'
    have d1 : mdj m1 mr := h2.mono (mle_refl _) l1
    have e : ((c1 ++ c2).drop ((i + 1) * k)).take k = (c2.drop (i * k)).take k := by
      rw [show (i + 1) * k = c1.length + i * k by rw [hk _ _ _ h5, Nat.add_mul]; omega, ← List.drop_drop, List.drop_left]
    rw [h1, e]
    refine ⟨mun m1 mr, me, mdj_un (h2.mono (mle_refl _) l2) d, mun_le h3 (l1.trans h4), l2.trans h4, hR, fun me' x' hd hx => ?_⟩
    have d2 := hd.mono (mle_un_left _ _) (mle_refl _)
    have d3 := hd.mono (mle_un_right d1) (mle_refl _)
    exact ⟨c1, c2, m1, mun mr me', rfl, (mdj_un d1.symm d2.symm).symm, (mle_un_left _ _).trans (mle_un_left _ _), mun_le ((mle_un_right d1).trans (mle_un_left _ _)) (mle_un_right hd), h5, hb me' x' d3 hx⟩
/-- An element of a list of one's own is taken out; what is put back goes into its place. -/
theorem Ow.hole {e : Ty} {m : Mem} {g off l c i : Nat} {xs : List e.Den} {a : e.Den} {yc : List Value} (h : Ow (.sl e) m [.slice (some ⟨g, off, none⟩) l c] xs) (hi : xs[i]? = some a) (hc : cellsAt m g (off + i * e.sz) e.sz yc) :
    ∃ mr me, Seps m [mr, me] ∧ Ow e me yc a ∧ ∀ me' x', mdj mr me' → Ow e me' yc x' → Ow (.sl e) (mun mr me') [.slice (some ⟨g, off, none⟩) l c] (xs.set i x') := by
  obtain ⟨m0, m1, rc, hS, hA, hL⟩ := h.opn
  have hlt : i < xs.length := (List.getElem?_eq_some_iff.1 hi).1
  have d01 : mdj m0 m1 := by have := hS.2; simpa using this
  have l0 := hS.1 m0 (.head _)
  have l1 := hS.1 m1 (.tail _ (.head _))
  obtain ⟨g', off', c', hv, hcell⟩ := hA.cells (by omega)
  simp only [Value.slice.injEq, Option.some.injEq, Addr.mk.injEq, and_true] at hv
  obtain ⟨⟨rfl, rfl⟩, hl, rfl⟩ := hv
  have hm2 : i * e.sz + e.sz ≤ xs.length * e.sz := by
    have := Nat.mul_le_mul_right e.sz (Nat.succ_le_of_lt hlt)
    rwa [Nat.succ_mul] at this
  have hyc := ((hcell.sub hm2).mono l0).uniq hc
  obtain ⟨mr, me, d, k1, k2, hR, hb⟩ := OwAll.hole (fun _ _ _ h => h.len) hL hi
  rw [hyc] at hR hb
  have d0r : mdj m0 mr := d01.mono (mle_refl _) k1
  have d0e : mdj m0 me := d01.mono (mle_refl _) k2
  refine ⟨mun m0 mr, me, .two (mdj_un d0e d) (mun_le l0 (k1.trans l1)) (k2.trans l1), hR, fun me' x' hd hx => ?_⟩
  have d2 := hd.mono (mle_un_left _ _) (mle_refl _)
  have d3 := hd.mono (mle_un_right d0r) (mle_refl _)
  refine Ow.cls (m0 := m0) (m1 := mun mr me') (rc := rc) (.two (mdj_un d0r.symm d2.symm).symm ((mle_un_left _ _).trans (mle_un_left _ _)) (mun_le ((mle_un_right d0r).trans (mle_un_left _ _)) (mle_un_right hd))) ?_ (hb me' x' d3 hx)
  rw [List.length_set]; exact hA
theorem Seps.back {e : Ty} {mr me : Mem} {v : Value} {xs : List e.Den} (hS : Seps (muns [mr, me]) [mr, me]) (h : mdj mr me → Ow (.sl e) (mun mr me) [v] xs) : Ow (.sl e) (muns [mr, me]) [v] xs :=
  (h (by simpa using hS.2)).up (mun_le (hS.1 _ (.head _)) (hS.1 _ (.tail _ (.head _))))
section
variable {P : Program} {n : Nat} {w0 : World} {σ : Env} {Ω : Ctx} {ops : Array Oper} {K : Env → Ctx → Prop} {R : Exit → Env → Ctx → Prop}
variable {ty : TypeId} {pos : String} {af : Array Edge} {d : Option Tmp} {gd : Option (Nat × Bool)} {r : List Oper}
theorem appIn_wp {s x : Operand} {t xt e : TypeId} {sz b len cap k : Nat} {A : Option Addr} {xv : Value} {cs xs : List Value} {i : Nat} {m m0 : Mem} {a : Act} {W : World} (he : EnvOk n σ a) (hi : Inv w0 Ω W) (hsv : ev σ s = some (.slice A len cap)) (hxv : ev σ x = some xv) (ht : tsl P t = some (e, sz, b))
    (hm : cget Ω i = some m) (hm0 : mle m0 m) (hown : OwnA sz m0 (.slice A len cap) len cs) (hs : SrcW P W sz xt xv k xs) (h1 : ∀ u ∈ xs, u.oneCell' = true) (hle : len + k ≤ cap)
    {K' : Act → World → Prop} {Q : Exit → Act → World → Prop} (hK : ∀ m' W', OwnA sz m' (.slice A (len + k) cap) (len + k) (cs ++ xs) → Inv w0 (cset Ω i m') W' → K' (a.put d (.slice A (len + k) cap)) W') :
    (⟨d, .call { callee := .builtin .append, args := [s, x].toArray, argTypes := [t, xt].toArray }, ty, pos, af, gd⟩ : Oper).wp P a W K' Q := by
  have hex : ∀ (res : Value) (W' : World), (Builtin.append_ #[t, xt] ty #[.slice A len cap, xv]).run P W = .ok res W' → (execOp a.eval ⟨d, .call { callee := .builtin .append, args := [s, x].toArray, argTypes := [t, xt].toArray }, ty, pos, af, gd⟩).run P W = .ok (.value res) W' := by
    intro res W' h
    simp [execOp, resolve, invoke, builtin, he.eval hsv, he.eval hxv, h]
  cases hown with
  | nil A =>
    have hk : k = 0 := by omega
    subst hk
    have hx : xs = [] := List.eq_nil_of_length_eq_zero (by simpa using hs.len)
    subst hx
    unfold Oper.wp
    rw [hex (.slice A 0 0) W (by rw [append_eq ht hs ty (by omega)]; cases A <;> rfl)]
    exact hK mnil _ (.nil A) (hi.set hm rfl rfl rfl (Nat.le_refl _) (mout_le _ _) (mle_nil _) fun g => .inl rfl)
  | row g off len cap E c h1' h2' h3' =>
    have hg := hi.at hm g _ (hm0 g _ (mone_self _ _))
    have hmul := Nat.mul_le_mul_right sz hle
    have hl2 := hs.len
    obtain ⟨W', hrun, ho, htp, hu, hsz, hfar, hgg⟩ := setCells_heap (P := P) xs W g (off + len * sz) c.toArray E (0, 0) hg (by simp [hl2]; rw [Nat.add_mul] at hmul; omega) (Nat.le_refl _) h1 0 (off + len * sz) rfl
    unfold Oper.wp
    rw [hex (.slice (some ⟨g, off, none⟩) (len + k) cap) W' (by rw [append_eq ht hs ty hle]; simp only [add_off, hrun]; rfl)]
    have hsl : splice c (off + len * sz) xs = c.take (off + len * sz) ++ (xs ++ c.drop (off + len * sz + xs.length)) := rfl
    have hlc : (splice c (off + len * sz) xs).length = c.length := by rw [hsl]; simp [hl2]; rw [Nat.add_mul] at hmul; omega
    refine hK (mone g (.cells (splice c (off + len * sz) xs).toArray E (0, 0))) _ ?_ (hi.set hm ho htp hu (Nat.le_of_eq hsz.symm) ?_ (mone_le hgg) fun g' => ?_)
    · have := OwnA.row (sz := sz) g off (len + k) cap E (splice c (off + len * sz) xs) (by rw [hlc]; exact h1') hle h3'
      have e1 : List.take ((len + k) * sz) (List.drop off (splice c (off + len * sz) xs)) = List.take (len * sz) (List.drop off c) ++ xs := by
        rw [hsl, List.drop_append_of_le_length (by simp; rw [Nat.add_mul] at hmul; omega), ← List.append_assoc]
        have e2 : List.drop off (List.take (off + len * sz) c) = List.take (len * sz) (List.drop off c) := by
          rw [List.drop_take]; congr 1; omega
        rw [e2]
        have e3 : (List.take (len * sz) (List.drop off c) ++ xs).length = (len + k) * sz := by
          rw [Nat.add_mul] at hmul ⊢
          simp [hl2]; omega
        rw [← e3]
        exact List.take_left
      rw [e1] at this
      exact this
    · intro q o h
      unfold mout at h
      split at h
      · cases h
      · rename_i hn
        have hne : q ≠ g := by rintro rfl; rw [hm0 _ _ (mone_self _ _)] at hn; cases hn
        unfold wm at h ⊢
        rw [hfar q hne]; exact h
    · by_cases hgg' : g' = g
      · subst hgg'; right; left; rw [hm0 _ _ (mone_self _ _)]; simp
      · exact .inl (mone_ne _ hgg')
/-- One thing, owned in chunk j, is appended within the room: the list stays where it is. -/
theorem VO.appI {e : Ty} {s x : Operand} {t xt et xe : TypeId} {b dd g c cap l : Nat} {A : Option Addr} {xs : List e.Den} {y : e.Den} {yc : List Value} (i j k : Nat) {m mj mk : Mem} (hd : Nat.blt dd n = true) (hsv : ev σ s = some (.slice A l cap)) (hxv : ev σ x = some (.slice (some ⟨g, 0, none⟩) 1 c)) (ht : tsl P t = some (et, e.sz, b))
    (hm : cget Ω i = some m) (hj : cget (cdel Ω i) j = some mj) (hk : cget Ω k = some mk) (hown : Ow (.sl e) m [.slice A l cap] xs) (hy : Ow e mj yc y) (hxt : P.underlying xt = some (.slice xe)) (hc : cellsAt mk g 0 e.sz yc) (hle : l + 1 ≤ cap)
    (h : ∀ m', Ow (.sl e) m' [.slice A (l + 1) cap] (xs ++ [y]) → VO P n w0 ops r ((dd, .slice A (l + 1) cap) :: σ) ((i, m') :: cdel (cdel Ω i) j) K) :
    VO P n w0 ops (⟨some dd, .call { callee := .builtin .append, args := [s, x].toArray, argTypes := [t, xt].toArray }, ty, pos, af, none⟩ :: r) σ Ω K :=
  fun Q hQ a W he hi => wpList_plain rfl fun K' hK => by
    obtain rfl := slice_len hown
    obtain ⟨m0, m1, rc, hS, hA, hL⟩ := hown.opn
    obtain ⟨q1, q2, q3, q4, _⟩ := hi.gets (ids := [i, j]) (l := [m, mj]) (by simp [cgets, hm, hj])
    have dmj : mdj m mj := by simpa using q1
    have d01 : mdj m0 m1 := by have := hS.2; simpa using this
    have l0 := hS.1 m0 (.head _)
    have l1 := hS.1 m1 (.tail _ (.head _))
    have d1j : mdj m1 mj := dmj.mono l1 (mle_refl _)
    have hnew : mdj m0 (mun m1 mj) := (mdj_un d01.symm (dmj.mono l0 (mle_refl _)).symm).symm
    have hΩ2 : Inv w0 ((i, m0) :: (j, mun m1 mj) :: cdel (cdel Ω i) j) W := by
      have hdel : Inv w0 (cdel (cdel Ω i) j) W := q4
      have f1 : ∀ p ∈ cdel (cdel Ω i) j, mdj m p.2 := fun p hp => q3 m (.head _) p hp
      have f2 : ∀ p ∈ cdel (cdel Ω i) j, mdj mj p.2 := fun p hp => q3 mj (.tail _ (.head _)) p hp
      refine ⟨hi.os, hi.tape, hi.output, hi.size, fun p hp => ?_, List.pairwise_cons.2 ⟨fun p hp => ?_, List.pairwise_cons.2 ⟨fun p hp => ?_, hdel.dj⟩⟩⟩
      · rcases List.mem_cons.1 hp with rfl | hp
        · exact l0.trans (hi.at hm)
        · rcases List.mem_cons.1 hp with rfl | hp
          · exact mun_le (l1.trans (hi.at hm)) (q2 mj (.tail _ (.head _)))
          · exact hdel.le p hp
      · rcases List.mem_cons.1 hp with rfl | hp
        · exact hnew
        · exact (f1 p hp).mono l0 (mle_refl _)
      · exact mdj_un ((f1 p hp).mono l1 (mle_refl _)) (f2 p hp)
    have hsrc : SrcW P W e.sz xt (.slice (some ⟨g, 0, none⟩) 1 c) 1 yc := by
      refine ⟨⟨_, hxt, by simp⟩, by rw [hy.len]; omega, fun W' hW => ?_, fun W' => by simp [Builtin.lenOf]⟩
      have hc2 : cellsAt (wm W') g 0 (1 * e.sz) yc := by
        rw [Nat.one_mul]
        refine hc.mono (fun q o ho => ?_)
        have := hi.at hk q o ho
        unfold wm at this ⊢
        rw [hW]; exact this
      exact firstCells_row hc2
    refine appIn_wp (i := i) (m := m0) (m0 := m0) he hΩ2 hsv hxv ht (by simp [cget]) (mle_refl _) hA hsrc hy.nice hle fun m' W' hA' hi' => ?_
    have hc' : cset ((i, m0) :: (j, mun m1 mj) :: cdel (cdel Ω i) j) i m' = (i, m') :: (j, mun m1 mj) :: cdel (cdel Ω i) j := by simp [cset]
    rw [hc'] at hi'
    have hdj : mdj m' (mun m1 mj) := (List.pairwise_cons.1 hi'.dj).1 _ (.head _)
    have hall : OwAll (Ow e) (mun m1 mj) (rc ++ yc) (xs ++ [y]) := OwAll.app d1j (mle_un_left _ _) (mle_un_right d1j) hL (.one hy (mle_refl _))
    have el : (xs ++ [y]).length = xs.length + 1 := by simp
    have hA' : OwnA e.sz m' (.slice A (xs.length + 1) cap) (xs ++ [y]).length (rc ++ yc) := by rw [el]; exact hA'
    have how : Ow (.sl e) (mun m' (mun m1 mj)) [.slice A (xs.length + 1) cap] (xs ++ [y]) := ⟨_, m', mun m1 mj, rc ++ yc, rfl, hdj, mle_un_left _ _, mle_un_right hdj, hA', hall⟩
    refine hK _ _ (h _ how Q hQ _ _ (he.put hd _) ?_)
    refine ⟨hi'.os, hi'.tape, hi'.output, hi'.size, fun p hp => ?_, List.pairwise_cons.2 ⟨fun p hp => ?_, (List.pairwise_cons.1 (List.pairwise_cons.1 hi'.dj).2).2⟩⟩
    · rcases List.mem_cons.1 hp with rfl | hp
      · exact mun_le (hi'.le (i, m') (.head _)) (hi'.le (j, mun m1 mj) (.tail _ (.head _)))
      · exact hi'.le p (.tail _ (.tail _ hp))
    · exact mdj_un ((List.pairwise_cons.1 hi'.dj).1 p (.tail _ hp)) ((List.pairwise_cons.1 (List.pairwise_cons.1 hi'.dj).2).1 p hp)
theorem cplB_wrap (a : Nat) (h : a ≤ 255) : IntKind.u8.wrap ((BitVec.ofInt 8 (-1) ^^^ BitVec.ofInt 8 (a : Int)).toNat : Int) = ((255 - a : Nat) : Int) := by
  have e1 : BitVec.ofInt 8 (-1) ^^^ BitVec.ofInt 8 (a : Int) = ~~~ (BitVec.ofInt 8 (a : Int)) := by
    rw [show BitVec.ofInt 8 (-1) = BitVec.allOnes 8 from rfl, BitVec.allOnes_xor]
  rw [e1, BitVec.toNat_not, BitVec.toNat_ofInt]
  simp only [IntKind.wrap, IntKind.signed, IntKind.bits]
  simp
  omega
theorem Yld.cplB {x : Operand} {t : TypeId} {a : Nat} (hx : ev σ x = some (.int .u8 (a : Int))) (h : a ≤ 255) : Yld P n w0 σ Ω ⟨d, .unOp .xor t x, ty, pos, af, gd⟩ (.int .u8 ((255 - a : Nat) : Int)) := fun A W he _ => by
  have := cplB_wrap a h
  have h2 : (Op.unary .xor (.int .u8 (a : Int))).run P W = .ok (.int .u8 ((255 - a : Nat) : Int)) W := by
    show Result.ok (Value.int .u8 (IntKind.u8.wrap ((BitVec.ofInt 8 (-1) ^^^ BitVec.ofInt 8 (a : Int)).toNat : Int))) W = _
    rw [this]
  simp [execOp, he.eval hx, h2]
end
def cplB (b : UInt8) : UInt8 := UInt8.ofNat (255 - b.toNat)
end
section
set_option linter.unusedVariables false
theorem over_set {α : Type} {f : α → α} {d l : List α} {k : Nat} {x : α} (hl : l = (d.take k).map f ++ d.drop k) (hx : l[k]? = some x) : d[k]? = some x ∧ l.set k (f x) = (d.take (k + 1)).map f ++ d.drop (k + 1) := by
  subst hl
  have hk : k < d.length := by
    have := (List.getElem?_eq_some_iff.1 hx).1
    simp at this; omega
  have hlen : ((d.take k).map f).length = k := by simp; omega
  rw [List.getElem?_append_right (by omega), hlen, Nat.sub_self, List.getElem?_drop, Nat.add_zero] at hx
  refine ⟨hx, ?_⟩
  obtain ⟨_, hx'⟩ := List.getElem?_eq_some_iff.1 hx
  rw [List.set_append_right _ _ (by omega), hlen, Nat.sub_self, List.drop_eq_getElem_cons hk, List.set_cons_zero, List.take_succ_eq_append_getElem hk, List.map_append, List.append_assoc, hx']
  rfl
theorem over_next {d l : Bytes} {k : Nat} {x : UInt8} (hl : l = (d.take k).map cplB ++ d.drop k) (hx : l[k]? = some x) : l.set k (UInt8.ofNat (255 - x.toNat)) = (d.take (k + 1)).map cplB ++ d.drop (k + 1) := (over_set hl hx).2
theorem over_more {α : Type} {d l : List α} {x : α} (h : ∃ j, l = d ++ List.replicate j x) : ∃ j, l ++ [x] = d ++ List.replicate j x := by
  obtain ⟨j, rfl⟩ := h
  exact ⟨j + 1, by rw [List.replicate_succ', List.append_assoc]⟩
theorem fill_next {α : Type} {was d : List α} {i : Nat} {x y : α} (h : was = d.take i ++ List.replicate (d.length - i) y) (hx : d[i]? = some x) : was.set i x = d.take (i + 1) ++ List.replicate (d.length - (i + 1)) y := by
  subst h
  obtain ⟨hi, hx'⟩ := List.getElem?_eq_some_iff.1 hx
  rw [List.set_append_right _ _ (by simp; omega), List.length_take, Nat.min_eq_left (by omega), Nat.sub_self, show d.length - i = (d.length - (i + 1)) + 1 by omega, List.replicate_succ, List.set_cons_zero, List.take_succ_eq_append_getElem hi, hx', List.append_assoc]
  rfl
theorem fill_all {α : Type} {was d : List α} {i : Nat} {y : α} (h : was = d.take i ++ List.replicate (d.length - i) y) (hi : d.length ≤ i) : was = d := by
  rw [h, List.take_of_length_le hi, show d.length - i = 0 by omega]; simp
theorem over_all {α : Type} {f : α → α} {d l : List α} {k : Nat} (hl : l = (d.take k).map f ++ d.drop k) (hk : d.length ≤ k) : l = d.map f := by
  rw [hl, List.take_of_length_le hk, List.drop_of_length_le hk, List.append_nil]
section
variable {α : Type} {f : α → α} {d l was : List (List α)} {i k : Nat} {x y : List α} {a b : α}
theorem apart_at (hl : l = d.map (List.map f)) (hw : was = d) (hx : l[i]? = some x) (hy : was[i]? = some y) : x = y.map f := by
  subst hl; subst hw
  rw [List.getElem?_map, hy] at hx
  exact (Option.some.inj hx).symm
theorem apart_len (hl : l = d.map (List.map f)) (hw : was = d) (hx : l[i]? = some x) (hy : was[i]? = some y) : x.length = y.length := by rw [apart_at hl hw hx hy, List.length_map]
theorem apart_eq (hl : l = d.map (List.map f)) (hw : was = d) (hx : l[i]? = some x) (hy : was[i]? = some y) (hxk : x[k]? = some a) (hyk : y[k]? = some b) : a = f b := by
  rw [apart_at hl hw hx hy, List.getElem?_map, hyk] at hxk
  exact (Option.some.inj hxk).symm
end
theorem apart_same {α : Type} {f : α → α} {d l was : List α} {k : Nat} {x y : α} (hl : l = (d.take k).map f ++ d.drop k) (hw : was = d) (hx : l[k]? = some x) (hy : was[k]? = some y) : x = y := by
  subst hw
  have := (over_set hl hx).1
  rw [hy] at this
  exact (Option.some.inj this).symm
theorem cplB_toNat (b : UInt8) : (cplB b).toNat = 255 - b.toNat := by
  have := b.toNat_lt
  unfold cplB; simp; omega
def overOp (o : DOp) : DOp := (o.1, o.2.1 ++ [126], o.2.2)
theorem key_of {n i k : Nat} {d was : List (List DOp)} {y : List DOp} {o : DOp} (hw : was = d) (e : ∀ x ∈ d, x.length ≤ n ∧ ∀ o ∈ x, o.2.1.length ≤ 140737488400000) (hy : was[i]? = some y) (hk : y[k]? = some o) : o.2.1.length ≤ 140737488400000 := by
  subst hw
  exact (e _ (List.mem_of_getElem? hy)).2 _ (List.mem_of_getElem? hk)
theorem bRead_keys (B : Bytes) : ∀ o ∈ (bRead B).1, o.2.1.length ≤ 16 := by
  rcases bRead_cases B with h0 | h0
  · generalize hp : bRead B = p at *
    obtain ⟨m, n, f⟩ := p
    dsimp only at h0
    subst h0
    exact fun o ho => (batchCheck_mem (bRead_back hp).1 ho).2.1
  · rw [h0]; exact fun o ho => (by cases ho)
end
section
set_option linter.unusedVariables false
set_option linter.unusedSimpArgs false
set_option maxRecDepth 4000
theorem fnOk103 : fnOk Try.prog 103 = true := by kernel_rfl
theorem fnOk66 : fnOk Try.prog 66 = true := by kernel_rfl
theorem tsl49 : tsl Try.prog 49 = some (25, 1, 24) := by kernel_rfl
theorem tsl91 : tsl Try.prog 91 = some (30, 1, 24) := by kernel_rfl
theorem tz25 : tz Try.prog 25 = some [.slice none 0 0] := by kernel_rfl
theorem tz30 : tz Try.prog 30 = some [.slice none 0 0] := by kernel_rfl
theorem OverBytes_ok (W : World) {m0 : Mem} (hm : mle (m0) (wm W)) {v0 : Value} {d0 : List UInt8} (h0 : Ow (.sl .byte) m0 [v0] d0) : CallR Try.prog 66 [v0] W (m0) (fun v m' => v = .tuple #[] ∧ Ow (.sl .byte) m' [v0] (d0.map cplB)) := by
  obtain ⟨A0, c0, e0_, l0, k0⟩ := h0.slice
  subst e0_
  simp only [maxLen] at k0
  refine CallR.ofB (n := 27) hm Try.func66 rfl rfl rfl ?_
  refine VC.rs ?_
  refine VO.mv ?_
  refine VO.y rfl (.capS rfl tsl25) ?_
  refine VO.as ?_
  refine VO.k2 0 2 ?_
  refine VC.seq ?_
  refine VC.rs ?_
  refine VO.as ?_
  refine VO.k3 0 2 3 ?_
  refine VC.block ?_
  refine VC.loop (G := Nat × (List UInt8) × Mem) (fun g => [(0, Value.slice A0 (d0.length) (c0)), (3, Value.int .i64 ((((g.1) : Nat) : Int))), (2, Value.int .i64 (((c0 : Nat) : Int)))]) (fun g => [(0, mout (wm W) (m0)), (1, (g.2.2))]) (fun g => ((g.1) ≤ d0.length) ∧ ((g.2.1) = (d0.take (g.1)).map cplB ++ d0.drop (g.1)) ∧ (OwnL .byte (g.2.2) mnil (.slice A0 (d0.length) (c0)) (g.2.1))) (fun g => d0.length - (g.1)) (0, d0, m0) (⟨by omega, by simp, (Ow.ownl h0 rfl mnil)⟩) ⟨⟨rfl, rfl, rfl, trivial⟩, fun _ h => h.sub [0, 1]⟩ ?_
  rintro ⟨k, l, l_m⟩ ⟨hk, hl, h_l⟩
  replace hk : k ≤ d0.length := hk
  replace hl : l = (d0.take k).map cplB ++ d0.drop k := hl
  replace h_l : OwnL .byte l_m mnil (.slice A0 (d0.length) (c0)) l := h_l
  show VC _ _ _ _ _ [(0, Value.slice A0 (d0.length) (c0)), (3, Value.int .i64 (((k : Nat) : Int))), (2, Value.int .i64 (((c0 : Nat) : Int)))] [(0, mout (wm W) (m0)), (1, l_m)]
  have ll_l := slice_len (OwnL.ow h_l rfl)
  refine VC.seq ?_
  refine VC.rs ?_
  refine VO.mv ?_
  refine VO.mv ?_
  refine VO.y rfl (.lenS rfl tsl25) ?_
  refine VO.y rfl (.lss rfl rfl) ?_
  refine VO.kp [0, 1] [(0, mout (wm W) (m0)), (1, l_m)] ?_
  refine VO.k4 0 2 3 9 ?_
  refine VC.cond rfl (fun hc1 => ?_) (fun hc1 => ?_)
  · -- T
    refine VC.skip ?_
    refine outN ?_
    refine VC.seq ?_
    refine VC.block ?_
    refine VC.reg ?_
    refine VO.mv ?_
    refine VO.mv ?_
    refine VO.mv ?_
    refine VO.mv ?_
    obtain ⟨x2, hx2⟩ : ∃ z_, (l)[k]? = some z_ := ⟨_, List.getElem?_eq_getElem bd⟩
    obtain ⟨gg2, oo2, ec2, ea2, hce2, hre2⟩ := h_l.elem hx2
    cases ea2
    obtain rfl := (show _ = _ from hre2)
    have xb2 := x2.toNat_lt
    refine VO.y rfl (.ixI k rfl rfl tsl25 rfl bd) ?_
    refine VO.y rfl (.ld1 1 rfl tk5 rfl hce2) ?_
    refine VO.y rfl (.cplB rfl bd) ?_
    refine VO.y rfl (.ixI k rfl rfl tsl25 rfl bd) ?_
    refine VO.upd (e := .byte) (k := 1) (i := k) (x' := UInt8.ofNat (255 - x2.toNat)) 1 0 rfl rfl (.inr ⟨tk5, rfl⟩) rfl rfl rfl (OwnL.ow h_l rfl) rfl hx2 rfl (fun mi ec he => upd1 he rfl rfl (rd_byteN bd)) (fun mu4 hu4 => ?_)
    have hl4 := slice_len hu4
    refine VO.k4 0 2 3 9 ?_
    refine outBN ?_
    refine outN ?_
    refine VC.reg ?_
    refine VO.mv ?_
    refine VO.y rfl (.add (c := ((k + 1 : Nat) : Int)) rfl rfl (by omega) ⟨bd, bd⟩) ?_
    refine VO.as ?_
    refine VO.k4 0 2 3 9 ?_
    exact outN ⟨⟨k + 1, (l).set k (UInt8.ofNat (255 - x2.toNat)), mu4⟩, ⟨by omega, by exact over_next hl ‹l[k]? = some _›, (Ow.ownl hu4 rfl mnil)⟩, bd, ⟨⟨rfl, rfl, rfl, trivial⟩, fun _ h => Inv.sub h [0, 1]⟩⟩
  · -- F
    refine VC.exit ?_
    refine outE ?_
    refine outE ?_
    refine outBB ?_
    refine outN ?_
    refine VC.block ?_
    refine VC.loop (G := (List UInt8) × Mem × Nat) (fun g => [(0, Value.slice A0 ((g.2.2)) (c0)), (2, Value.int .i64 (((c0 : Nat) : Int))), (3, Value.int .i64 (((k : Nat) : Int))), (9, Value.bool (decide (((k : Nat) : Int) < ((d0.length : Nat) : Int))))]) (fun g => [(0, mout (wm W) (m0)), (1, (g.2.1))]) (fun g => (∃ j, (g.1) = d0.map cplB ++ List.replicate j 99) ∧ ((g.2.2) ≤ c0) ∧ (OwnL .byte (g.2.1) mnil (.slice A0 ((g.2.2)) (c0)) (g.1))) (fun g => c0 - (g.2.2)) (l, l_m, d0.length) (⟨by (exact ⟨0, by rw [hl, List.take_of_length_le (by omega), List.drop_of_length_le (by omega)]; simp⟩), by omega, h_l⟩) ⟨⟨rfl, rfl, rfl, rfl, trivial⟩, fun _ h => h.sub [0, 1]⟩ ?_
    rintro ⟨l2, l2_m, l2_n⟩ ⟨hl2, hc, h_l2⟩
    replace hl2 : ∃ j, l2 = d0.map cplB ++ List.replicate j 99 := hl2
    replace hc : l2_n ≤ c0 := hc
    replace h_l2 : OwnL .byte l2_m mnil (.slice A0 (l2_n) (c0)) l2 := h_l2
    show VC _ _ _ _ _ [(0, Value.slice A0 (l2_n) (c0)), (2, Value.int .i64 (((c0 : Nat) : Int))), (3, Value.int .i64 (((k : Nat) : Int))), (9, Value.bool (decide (((k : Nat) : Int) < ((d0.length : Nat) : Int))))] [(0, mout (wm W) (m0)), (1, l2_m)]
    have ll_l2 := slice_len (OwnL.ow h_l2 rfl)
    refine VC.seq ?_
    refine VC.rs ?_
    refine VO.mv ?_
    refine VO.y rfl (.lenS rfl tsl25) ?_
    refine VO.mv ?_
    refine VO.y rfl (.lss rfl rfl) ?_
    refine VO.k5 0 2 3 9 23 ?_
    refine VC.cond rfl (fun hc5 => ?_) (fun hc5 => ?_)
    · -- FT
      refine VC.skip ?_
      refine outN ?_
      refine VC.block ?_
      refine VC.reg ?_
      refine VO.mv ?_
      refine VO.bsl (cs := [Value.int .u8 (99)]) 107 rfl rfl tsl25 tz5 rfl rfl (fun g6 => ?_)
      refine VO.inv ((109, mnil) :: _) (fun _ h => h.nilc 109) ?_
      have hxl8 := slice_len (OwnL.ow h_l2 rfl)
      refine VO.appI (e := .byte) (xs := l2) (cap := c0) (A := A0) (l := l2_n) 1 109 107 rfl rfl rfl tsl25 rfl rfl rfl (OwnL.ow h_l2 rfl) (Ow.of (m := mnil) rfl (rd_byteN bd)) Try.underlying25 (cellsAt_one rfl rfl) bd (fun m8 ho8 => ?_)
      refine VO.as ?_
      refine VO.k5 0 2 3 9 23 ?_
      refine outBN ?_
      exact outN ⟨⟨l2 ++ [UInt8.ofNat 99], m8, l2_n + 1⟩, ⟨by exact over_more hl2, by dsimp only; omega, (Ow.ownl ho8 rfl mnil)⟩, by (dsimp only; omega), ⟨⟨rfl, rfl, rfl, rfl, trivial⟩, fun _ h => Inv.sub h [0, 1]⟩⟩
    · -- FF
      refine VC.exit ?_
      refine outE ?_
      refine outE ?_
      refine outBB ?_
      have hcut0 := Ow.pre (j := d0.length) (OwnL.ow h_l2 rfl) bd
      refine ⟨_, _, res_run (rs := []) rfl .nil, fun W_ hI => out_of (l := [l2_m]) hI [1] rfl rfl (mle_refl _) (fun hS_ => ?_)⟩
      dsimp only [packV]
      have hm0_ : (d0.map cplB : Ty.Den (.sl .byte)) = (l2).take d0.length := by first | rfl | (obtain ⟨j, rfl⟩ := hl2; simp)
      refine ⟨?_, ?_⟩
      rotate_left
      · rw [hm0_]; exact (Ow.up hcut0 (hS_.1 _ (.head _)))
      all_goals (first | rfl | (simp [*]; done))
theorem fin0_ApartBytes_ok {P : Prop} (h : P := by first | omega | (simp only [List.length_append, List.length_nil, List.length_cons, List.length_take, List.length_drop] at *; omega) | (have h_ := apart_len hl4 hw4 ‹l[_]? = some _› ‹was[_]? = some _›; omega) | (exact e1 _ (List.mem_of_getElem? ‹d0[_]? = some _›))) : P := h
theorem ApartBytes_ok (W : World) {m0 : Mem} (hm : mle (m0) (wm W)) {v0 : Value} {d0 : List (List UInt8)} (h0 : Ow (.sl (.sl .byte)) m0 [v0] d0) (e0 : d0.length ≤ 1000) (e1 : ∀ x ∈ d0, x.length ≤ 140737488355000) : CallR Try.prog 26 [v0] W (m0) (fun v m' => v = .bool true) := by
  obtain ⟨A0, c0, e0_, l0, k0⟩ := h0.slice
  subst e0_
  simp only [maxLen] at k0
  refine CallR.ofB (n := 77) hm Try.func26 rfl rfl rfl ?_
  refine VC.rs ?_
  refine VO.as ?_
  refine VO.k2 0 2 ?_
  refine VC.rs ?_
  refine VO.mv ?_
  refine VO.y rfl (.lenS rfl tsl49) ?_
  refine VO.mks (e := (.sl .byte)) (a := ((d0.length : Nat) : Int)) (k := d0.length) 101 rfl rfl rfl rfl tsl49 tz25 (y := []) (Ow.nil _ mnil) (by simp only [maxLen]; (exact fin0_ApartBytes_ok)) (by exact fin0_ApartBytes_ok) (by decide) (fun v1 m1 hk1 => ?_)
  obtain ⟨A1, c1, rfl, l1, k1⟩ := hk1.slice
  simp only [maxLen] at k1
  have ln1 : (List.replicate d0.length ([] : List UInt8)).length = d0.length := List.length_replicate
  refine VO.as ?_
  refine VO.k3 0 2 3 ?_
  refine VC.seq ?_
  refine VC.rs ?_
  refine VO.as ?_
  refine VO.kp [101, 0, 1] [(101, m1), (0, mout (wm W) (m0)), (1, m0)] ?_
  refine VO.k4 0 2 3 4 ?_
  refine VC.block ?_
  refine VC.loop (G := Nat × (List (List UInt8)) × Mem) (fun g => [(3, Value.slice A1 ((List.replicate d0.length ([] : List UInt8)).length) (c1)), (4, Value.int .i64 ((((g.1) : Nat) : Int))), (0, Value.slice A0 (d0.length) (c0)), (2, Value.bool false)]) (fun g => [(101, (g.2.2)), (0, mout (wm W) (m0)), (1, m0)]) (fun g => ((g.1) ≤ d0.length) ∧ ((g.2.1) = d0.take (g.1) ++ List.replicate (d0.length - (g.1)) []) ∧ (Ow (.sl (.sl .byte)) (g.2.2) [.slice A1 ((List.replicate d0.length ([] : List UInt8)).length) (c1)] (g.2.1))) (fun g => d0.length - (g.1)) (0, List.replicate d0.length ([] : List UInt8), m1) (⟨by omega, by simp, hk1⟩) ⟨⟨rfl, rfl, rfl, rfl, trivial⟩, fun _ h => h.sub [101, 0, 1]⟩ ?_
  rintro ⟨i, was, was_m⟩ ⟨hi, hw, h_was⟩
  replace hi : i ≤ d0.length := hi
  replace hw : was = d0.take i ++ List.replicate (d0.length - i) [] := hw
  replace h_was : Ow (.sl (.sl .byte)) was_m [.slice A1 ((List.replicate d0.length ([] : List UInt8)).length) (c1)] was := h_was
  show VC _ _ _ _ _ [(3, Value.slice A1 ((List.replicate d0.length ([] : List UInt8)).length) (c1)), (4, Value.int .i64 (((i : Nat) : Int))), (0, Value.slice A0 (d0.length) (c0)), (2, Value.bool false)] [(101, was_m), (0, mout (wm W) (m0)), (1, m0)]
  have ll_was := slice_len h_was
  refine VC.seq ?_
  refine VC.rs ?_
  refine VO.mv ?_
  refine VO.mv ?_
  refine VO.y rfl (.lenS rfl tsl49) ?_
  refine VO.y rfl (.lss rfl rfl) ?_
  refine VO.k5 0 2 3 4 14 ?_
  refine VC.cond rfl (fun hc2 => ?_) (fun hc2 => ?_)
  · -- T
    refine VC.skip ?_
    refine outN ?_
    refine VC.seq ?_
    refine VC.block ?_
    refine VC.reg ?_
    refine VO.mv ?_
    refine VO.mv ?_
    refine VO.mv ?_
    refine VO.mv ?_
    obtain ⟨x3, hx3⟩ : ∃ z_, (d0)[i]? = some z_ := ⟨_, List.getElem?_eq_getElem (by exact fin0_ApartBytes_ok)⟩
    obtain ⟨gg3, oo3, ec3, ea3, hce3, hre3⟩ := (Ow.rd h0 (mle_refl _)).elem hx3
    cases ea3
    have hr3 := hre3
    obtain ⟨A3_, c3_, rfl, _⟩ := hre3
    have rr3 := Rd.room hr3
    refine VO.y rfl (.ixI i rfl rfl tsl49 rfl (by exact fin0_ApartBytes_ok)) ?_
    refine VO.y rfl (.ld1 1 rfl tk25 rfl hce3) ?_
    refine VO.callN 104 rfl fnOk53 rfl (fun W hW => CopyBytes_ok W (Rd.mono hr3 (hW.at (i := 1) rfl)) (by exact fin0_ApartBytes_ok)) (fun v4 m4 hv4 => ?_)
    obtain ⟨s4_0, rfl, f4_0⟩ := hv4
    obtain ⟨A4_0, c4_0, eq4_0, l4_0, k4_0⟩ := f4_0.slice
    subst eq4_0
    simp only [maxLen] at k4_0
    obtain ⟨x5, hx5⟩ : ∃ z_, (was)[i]? = some z_ := ⟨_, List.getElem?_eq_getElem (by exact fin0_ApartBytes_ok)⟩
    obtain ⟨gg5, oo5, ec5, ea5, hce5, hre5⟩ := (Ow.rd h_was (mle_refl _)).elem hx5
    cases ea5
    have hr5 := hre5
    obtain ⟨A5_, c5_, rfl, _⟩ := hre5
    have rr5 := Rd.room hr5
    refine VO.y rfl (.ixI i rfl rfl tsl49 rfl (by exact fin0_ApartBytes_ok)) ?_
    refine VO.setE (e := (.sl .byte)) (k := 1) (i := i) 101 104 rfl rfl (.inr ⟨tk25, rfl⟩) rfl rfl rfl rfl h_was rfl hx5 (x' := x3) (Ow.up (OwnL.ow (Ow.ownl f4_0 rfl mnil) rfl) ((Seps.one (mle_refl _)).1 _ (.head _))) (fun mu6 hu6 => ?_)
    have hl6 := slice_len hu6
    refine VO.k5 0 2 3 4 14 ?_
    refine outBN ?_
    refine outN ?_
    refine VC.reg ?_
    refine VO.mv ?_
    refine VO.y rfl (.add (c := ((i + 1 : Nat) : Int)) rfl rfl (by omega) ⟨by exact fin0_ApartBytes_ok, by exact fin0_ApartBytes_ok⟩) ?_
    refine VO.as ?_
    refine VO.kp [101, 0, 1] [(101, mu6), (0, mout (wm W) (m0)), (1, m0)] ?_
    refine VO.k5 0 2 3 4 14 ?_
    exact outN ⟨⟨i + 1, (was).set i x3, mu6⟩, ⟨by omega, by exact fill_next hw ‹d0[i]? = some _›, hu6⟩, by exact fin0_ApartBytes_ok, ⟨⟨rfl, rfl, rfl, rfl, trivial⟩, fun _ h => Inv.sub h [101, 0, 1]⟩⟩
  · -- F
    refine VC.exit ?_
    refine outE ?_
    refine outE ?_
    refine outBB ?_
    refine outN ?_
    refine VC.seq ?_
    refine VC.rs ?_
    refine VO.as ?_
    refine VO.k6 0 2 3 4 5 14 ?_
    refine VC.block ?_
    refine VC.loop (G := Nat × (List (List UInt8)) × Mem) (fun g => [(0, Value.slice A0 (d0.length) (c0)), (5, Value.int .i64 ((((g.1) : Nat) : Int))), (3, Value.slice A1 ((List.replicate d0.length ([] : List UInt8)).length) (c1)), (4, Value.int .i64 (((i : Nat) : Int))), (14, Value.bool (decide (((i : Nat) : Int) < ((d0.length : Nat) : Int))))]) (fun g => [(101, was_m), (0, mout (wm W) (m0)), (1, (g.2.2))]) (fun g => (was = d0) ∧ ((g.1) ≤ d0.length) ∧ ((g.2.1) = (d0.take (g.1)).map (List.map cplB) ++ d0.drop (g.1)) ∧ (Ow (.sl (.sl .byte)) (g.2.2) [.slice A0 (d0.length) (c0)] (g.2.1))) (fun g => d0.length - (g.1)) (0, d0, m0) (⟨by exact fill_all hw (by omega), by omega, by simp, h0⟩) ⟨⟨rfl, rfl, rfl, rfl, rfl, trivial⟩, fun _ h => h.sub [101, 0, 1]⟩ ?_
    rintro ⟨j, l, l_m⟩ ⟨hw2, hj, hl, h_l⟩
    replace hw2 : was = d0 := hw2
    replace hj : j ≤ d0.length := hj
    replace hl : l = (d0.take j).map (List.map cplB) ++ d0.drop j := hl
    replace h_l : Ow (.sl (.sl .byte)) l_m [.slice A0 (d0.length) (c0)] l := h_l
    show VC _ _ _ _ _ [(0, Value.slice A0 (d0.length) (c0)), (5, Value.int .i64 (((j : Nat) : Int))), (3, Value.slice A1 ((List.replicate d0.length ([] : List UInt8)).length) (c1)), (4, Value.int .i64 (((i : Nat) : Int))), (14, Value.bool (decide (((i : Nat) : Int) < ((d0.length : Nat) : Int))))] [(101, was_m), (0, mout (wm W) (m0)), (1, l_m)]
    have ll_l := slice_len h_l
    refine VC.seq ?_
    refine VC.rs ?_
    refine VO.mv ?_
    refine VO.mv ?_
    refine VO.y rfl (.lenS rfl tsl49) ?_
    refine VO.y rfl (.lss rfl rfl) ?_
    refine VO.kp [101, 0, 1] [(101, was_m), (0, mout (wm W) (m0)), (1, l_m)] ?_
    refine VO.k6 0 3 4 5 14 28 ?_
    refine VC.cond rfl (fun hc7 => ?_) (fun hc7 => ?_)
    · -- FT
      refine VC.skip ?_
      refine outN ?_
      refine VC.seq ?_
      refine VC.block ?_
      refine VC.seq ?_
      refine VC.seq ?_
      refine VC.regD _ 8 [(0, true), (1, true), (2, true), (3, true), (4, true), (5, true), (6, true), (7, true)] follows (by kernel_rfl) (fun _ h => h.sub [101, 0, 1]) ?_
      refine VD.y rfl rfl (.inl rfl) (.mv rfl) ?_
      refine VD.y rfl rfl (.inl rfl) (.mv rfl) ?_
      obtain ⟨x8, hx8⟩ : ∃ z_, (l)[j]? = some z_ := ⟨_, List.getElem?_eq_getElem (by exact fin0_ApartBytes_ok)⟩
      obtain ⟨gg8, oo8, ec8, ea8, hce8, hre8⟩ := (Ow.rd h_l (mle_refl _)).elem hx8
      cases ea8
      have hr8 := hre8
      obtain ⟨A8_, c8_, rfl, _⟩ := hre8
      have rr8 := Rd.room hr8
      refine VD.y rfl rfl (.inl rfl) (.ixI j rfl rfl tsl49 rfl (by exact fin0_ApartBytes_ok)) ?_
      refine VD.y rfl rfl (.inl rfl) (.ld1 1 rfl tk25 rfl hce8) ?_
      refine VD.y rfl rfl (.inl rfl) (.mv rfl) ?_
      refine VD.y rfl rfl (.inl rfl) (.mv rfl) ?_
      obtain ⟨x9, hx9⟩ : ∃ z_, (was)[j]? = some z_ := ⟨_, List.getElem?_eq_getElem (by exact fin0_ApartBytes_ok)⟩
      obtain ⟨gg9, oo9, ec9, ea9, hce9, hre9⟩ := (Ow.rd h_was (mle_refl _)).elem hx9
      cases ea9
      have hr9 := hre9
      obtain ⟨A9_, c9_, rfl, _⟩ := hre9
      have rr9 := Rd.room hr9
      refine VD.y rfl rfl (.inl rfl) (.ixI j rfl rfl tsl49 rfl (by exact fin0_ApartBytes_ok)) ?_
      refine VD.y rfl rfl (.inl rfl) (.ld1 101 rfl tk25 rfl hce9) ?_
      refine VD.nil rfl ?_ rfl
      refine VO.callN 110 rfl fnOk21 rfl (fun W hW => SameBytes_ok W (Rd.mono hr8 (hW.at (i := 1) rfl)) (Rd.mono hr9 (hW.at (i := 101) rfl))) (fun v10 m10 hv10 => ?_)
      subst hv10
      refine VO.y rfl (.notD rfl) ?_
      refine VO.k7 0 3 4 5 14 28 40 ?_
      refine outN ?_
      refine VC.cond rfl (fun hc11 => ?_) (fun hc11 => ?_)
      · -- FTT
        exact absurd (apart_same hl hw2 ‹l[j]? = some _› ‹was[j]? = some _›) hc11
      · -- FTF
        refine VC.skip ?_
        refine outN ?_
        refine VC.reg ?_
        refine VO.mv ?_
        refine VO.mv ?_
        refine VO.y rfl (.ixI j rfl rfl tsl49 rfl (by exact fin0_ApartBytes_ok)) ?_
        refine VO.y rfl (.ld1 1 rfl tk25 rfl hce8) ?_
        obtain ⟨mr13, me13, hH13, hE13, hB13⟩ := Ow.hole h_l hx8 hce8
        refine VO.parts 1 [1, 114] rfl hH13 ?_
        refine VO.call 114 rfl fnOk66 rfl rfl (fun W hW => OverBytes_ok W (hW.at (i := 114) rfl) hE13) (fun v13 m13 hv13 => ?_)
        obtain ⟨rfl, w13_0⟩ := hv13
        have wl13_0 := slice_len w13_0
        refine VO.gather (l := [mr13, m13]) 1 [1, 114] rfl (fun hg13 => ?_)
        have hL13 := Seps.back hg13 (fun hd_ => hB13 _ _ hd_ w13_0)
        have hl13 := slice_len hL13
        refine VO.k7 0 3 4 5 14 28 40 ?_
        refine outBN ?_
        refine outN ?_
        refine VC.reg ?_
        refine VO.mv ?_
        refine VO.y rfl (.add (c := ((j + 1 : Nat) : Int)) rfl rfl (by omega) ⟨by exact fin0_ApartBytes_ok, by exact fin0_ApartBytes_ok⟩) ?_
        refine VO.as ?_
        refine VO.kp [1, 101, 0] [(1, muns [mr13, m13]), (101, was_m), (0, mout (wm W) (m0))] ?_
        refine VO.k7 0 3 4 5 14 28 40 ?_
        exact outN ⟨⟨j + 1, (l).set j (x8.map cplB), muns [mr13, m13]⟩, ⟨by exact hw2, by omega, by exact (over_set hl ‹l[j]? = some _›).2, hL13⟩, by exact fin0_ApartBytes_ok, ⟨⟨rfl, rfl, rfl, rfl, rfl, trivial⟩, fun _ h => Inv.sub h [101, 0, 1]⟩⟩
    · -- FF
      refine VC.exit ?_
      refine outE ?_
      refine outE ?_
      refine outBB ?_
      refine outN ?_
      refine VC.seq ?_
      refine VC.rs ?_
      refine VO.as ?_
      refine VO.k7 0 3 4 5 6 14 28 ?_
      refine VC.block ?_
      refine VC.loop (G := Nat) (fun p => [(6, Value.int .i64 (((p : Nat) : Int))), (0, Value.slice A0 (d0.length) (c0)), (3, Value.slice A1 ((List.replicate d0.length ([] : List UInt8)).length) (c1)), (4, Value.int .i64 (((i : Nat) : Int))), (5, Value.int .i64 (((j : Nat) : Int))), (14, Value.bool (decide (((i : Nat) : Int) < ((d0.length : Nat) : Int)))), (28, Value.bool (decide (((j : Nat) : Int) < ((d0.length : Nat) : Int))))]) (fun p => [(101, was_m), (0, mout (wm W) (m0)), (1, l_m)]) (fun p => (was = d0) ∧ (p ≤ d0.length) ∧ (l = d0.map (List.map cplB))) (fun p => d0.length - p) 0 (⟨by exact hw2, by omega, by exact over_all hl (by omega)⟩) ⟨⟨rfl, rfl, rfl, rfl, rfl, rfl, rfl, trivial⟩, fun _ h => h.sub [101, 0, 1]⟩ ?_
      rintro p ⟨hw4, hp, hl4⟩
      refine VC.seq ?_
      refine VC.rs ?_
      refine VO.mv ?_
      refine VO.mv ?_
      refine VO.y rfl (.lenS rfl tsl49) ?_
      refine VO.y rfl (.lss rfl rfl) ?_
      refine VO.k8 0 3 4 5 6 14 28 49 ?_
      refine VC.cond rfl (fun hc15 => ?_) (fun hc15 => ?_)
      · -- FFT
        refine VC.skip ?_
        refine outN ?_
        refine VC.seq ?_
        refine VC.block ?_
        refine VC.rs ?_
        refine VO.as ?_
        refine VO.kp [101, 0, 1] [(101, was_m), (0, mout (wm W) (m0)), (1, l_m)] ?_
        refine VO.k9 0 3 4 5 6 7 14 28 49 ?_
        refine VC.block ?_
        refine VC.loop (G := Nat) (fun k => [(7, Value.int .i64 (((k : Nat) : Int))), (0, Value.slice A0 (d0.length) (c0)), (3, Value.slice A1 ((List.replicate d0.length ([] : List UInt8)).length) (c1)), (4, Value.int .i64 (((i : Nat) : Int))), (5, Value.int .i64 (((j : Nat) : Int))), (6, Value.int .i64 (((p : Nat) : Int))), (14, Value.bool (decide (((i : Nat) : Int) < ((d0.length : Nat) : Int)))), (28, Value.bool (decide (((j : Nat) : Int) < ((d0.length : Nat) : Int)))), (49, Value.bool (decide (((p : Nat) : Int) < ((d0.length : Nat) : Int))))]) (fun k => [(101, was_m), (0, mout (wm W) (m0)), (1, l_m)]) (fun k => (k ≤ 9223372036854775807)) (fun k => 9223372036854775807 - k) 0 (by omega) ⟨⟨rfl, rfl, rfl, rfl, rfl, rfl, rfl, rfl, rfl, trivial⟩, fun _ h => h.sub [101, 0, 1]⟩ ?_
        rintro k hk
        refine VC.seq ?_
        refine VC.rs ?_
        refine VO.mv ?_
        refine VO.mv ?_
        refine VO.mv ?_
        obtain ⟨x16, hx16⟩ : ∃ z_, (l)[p]? = some z_ := ⟨_, List.getElem?_eq_getElem (by exact fin0_ApartBytes_ok)⟩
        obtain ⟨gg16, oo16, ec16, ea16, hce16, hre16⟩ := (Ow.rd h_l (mle_refl _)).elem hx16
        cases ea16
        have hr16 := hre16
        obtain ⟨A16_, c16_, rfl, _⟩ := hre16
        have rr16 := Rd.room hr16
        refine VO.y rfl (.ixI p rfl rfl tsl49 rfl (by exact fin0_ApartBytes_ok)) ?_
        refine VO.y rfl (.ld1 1 rfl tk25 rfl hce16) ?_
        refine VO.y rfl (.lenS rfl tsl25) ?_
        refine VO.y rfl (.lss rfl rfl) ?_
        refine VO.k10 0 3 4 5 6 7 14 28 49 58 ?_
        refine VC.cond rfl (fun hc17 => ?_) (fun hc17 => ?_)
        · -- FFTT
          refine VC.skip ?_
          refine outN ?_
          refine VC.seq ?_
          refine VC.block ?_
          refine VC.seq ?_
          refine VC.regD _ 15 [(0, true), (1, true), (2, true), (3, true), (4, true), (5, true), (6, true), (7, true), (8, true), (9, true), (10, true), (11, true), (12, true), (13, true), (14, true)] follows (by kernel_rfl) (fun _ h => h.sub [101, 0, 1]) ?_
          refine VD.y rfl rfl (.inl rfl) (.mv rfl) ?_
          refine VD.y rfl rfl (.inl rfl) (.mv rfl) ?_
          refine VD.y rfl rfl (.inl rfl) (.ixI p rfl rfl tsl49 rfl (by exact fin0_ApartBytes_ok)) ?_
          refine VD.y rfl rfl (.inl rfl) (.ld1 1 rfl tk25 rfl hce16) ?_
          refine VD.y rfl rfl (.inl rfl) (.mv rfl) ?_
          obtain ⟨x19, hx19⟩ : ∃ z_, (x16)[k]? = some z_ := ⟨_, List.getElem?_eq_getElem (by exact fin0_ApartBytes_ok)⟩
          obtain ⟨gg19, oo19, ec19, ea19, hce19, hre19⟩ := hr16.elem hx19
          cases ea19
          obtain rfl := (show _ = _ from hre19)
          have xb19 := x19.toNat_lt
          refine VD.y rfl rfl (.inl rfl) (.ixI k rfl rfl tsl25 rfl (by exact fin0_ApartBytes_ok)) ?_
          refine VD.y rfl rfl (.inl rfl) (.ld1 1 rfl tk5 rfl hce19) ?_
          refine VD.y rfl rfl (.inl rfl) (.mv rfl) ?_
          refine VD.y rfl rfl (.inl rfl) (.mv rfl) ?_
          obtain ⟨x20, hx20⟩ : ∃ z_, (was)[p]? = some z_ := ⟨_, List.getElem?_eq_getElem (by exact fin0_ApartBytes_ok)⟩
          obtain ⟨gg20, oo20, ec20, ea20, hce20, hre20⟩ := (Ow.rd h_was (mle_refl _)).elem hx20
          cases ea20
          have hr20 := hre20
          obtain ⟨A20_, c20_, rfl, _⟩ := hre20
          have rr20 := Rd.room hr20
          refine VD.y rfl rfl (.inl rfl) (.ixI p rfl rfl tsl49 rfl (by exact fin0_ApartBytes_ok)) ?_
          refine VD.y rfl rfl (.inl rfl) (.ld1 101 rfl tk25 rfl hce20) ?_
          refine VD.y rfl rfl (.inl rfl) (.mv rfl) ?_
          obtain ⟨x21, hx21⟩ : ∃ z_, (x20)[k]? = some z_ := ⟨_, List.getElem?_eq_getElem (by exact fin0_ApartBytes_ok)⟩
          obtain ⟨gg21, oo21, ec21, ea21, hce21, hre21⟩ := hr20.elem hx21
          cases ea21
          obtain rfl := (show _ = _ from hre21)
          have xb21 := x21.toNat_lt
          refine VD.y rfl rfl (.inl rfl) (.ixI k rfl rfl tsl25 rfl (by exact fin0_ApartBytes_ok)) ?_
          refine VD.y rfl rfl (.inl rfl) (.ld1 101 rfl tk5 rfl hce21) ?_
          refine VD.y rfl rfl (.inl rfl) (.cplB rfl (by exact fin0_ApartBytes_ok)) ?_
          refine VD.nil rfl ?_ rfl
          refine VO.y rfl (.neq rfl rfl) ?_
          refine VO.k11 0 3 4 5 6 7 14 28 49 58 76 ?_
          refine outN ?_
          refine VC.cond rfl (fun hc22 => ?_) (fun hc22 => ?_)
          · -- FFTTT
            exact absurd (by have h_ := apart_eq (f := cplB) hl4 hw4 ‹l[p]? = some _› ‹was[p]? = some _› (by assumption) (by assumption); rw [h_, cplB_toNat]) hc22
          · -- FFTTF
            refine VC.skip ?_
            refine outBN ?_
            refine outN ?_
            refine VC.reg ?_
            refine VO.mv ?_
            refine VO.y rfl (.add (c := ((k + 1 : Nat) : Int)) rfl rfl (by omega) ⟨by exact fin0_ApartBytes_ok, by exact fin0_ApartBytes_ok⟩) ?_
            refine VO.as ?_
            refine VO.kp [101, 0, 1] [(101, was_m), (0, mout (wm W) (m0)), (1, l_m)] ?_
            refine VO.k11 0 3 4 5 6 7 14 28 49 58 76 ?_
            exact outN ⟨k + 1, by omega, by exact fin0_ApartBytes_ok, ⟨⟨rfl, rfl, rfl, rfl, rfl, rfl, rfl, rfl, rfl, trivial⟩, fun _ h => Inv.sub h [101, 0, 1]⟩⟩
        · -- FFTF
          refine VC.exit ?_
          refine outE ?_
          refine outE ?_
          refine outBB ?_
          refine outBN ?_
          refine outN ?_
          refine VC.reg ?_
          refine VO.mv ?_
          refine VO.y rfl (.add (c := ((p + 1 : Nat) : Int)) rfl rfl (by omega) ⟨by exact fin0_ApartBytes_ok, by exact fin0_ApartBytes_ok⟩) ?_
          refine VO.as ?_
          refine VO.k10 0 3 4 5 6 7 14 28 49 58 ?_
          exact outN ⟨p + 1, ⟨by exact hw4, by omega, by exact hl4⟩, by exact fin0_ApartBytes_ok, ⟨⟨rfl, rfl, rfl, rfl, rfl, rfl, rfl, trivial⟩, fun _ h => Inv.sub h [101, 0, 1]⟩⟩
      · -- FFF
        refine VC.exit ?_
        refine outE ?_
        refine outE ?_
        refine outBB ?_
        refine outN ?_
        refine VC.rs ?_
        refine VO.as ?_
        refine VO.kp [101, 0, 1] [(101, was_m), (0, mout (wm W) (m0)), (1, l_m)] ?_
        refine VO.k9 0 2 3 4 5 6 14 28 49 ?_
        refine VC.ret ?_
        refine ⟨_, _, res_run (rs := [.tmp 2]) rfl (.tmp rfl .nil), fun W_ hI => out_of (l := []) hI [] rfl rfl (mle_refl _) (fun hS_ => ?_)⟩
        dsimp only [packV]
        all_goals (first | rfl | (simp [*]; done))
theorem fin0_overOps_ok {P : Prop} (h : P := by first | omega | (simp only [List.length_append, List.length_nil, List.length_cons, List.length_take, List.length_drop] at *; omega) | (have h_ := e0 _ (List.mem_of_getElem? (over_set hl ‹l[_]? = some _›).1); omega) | (have h_ := e0 _ (List.mem_of_getElem? (over_set hl ‹l[_]? = some _›).1); simp only [List.length_append, List.length_cons, List.length_nil] at *; omega)) : P := h
theorem overOps_ok (W : World) {m0 : Mem} (hm : mle (m0) (wm W)) {v0 : Value} {d0 : List DOp} (h0 : Ow (.sl TOp) m0 [v0] d0) (e0 : ∀ o ∈ d0, o.2.1.length ≤ 140737488400000) : CallR Try.prog 103 [v0] W (m0) (fun v m' => v = .tuple #[] ∧ Ow (.sl TOp) m' [v0] (d0.map overOp)) := by
  obtain ⟨A0, c0, e0_, l0, k0⟩ := h0.slice
  subst e0_
  simp only [maxLen] at k0
  refine CallR.ofB (n := 30) hm Try.func103 rfl rfl rfl ?_
  refine VC.rs ?_
  refine VO.mv ?_
  refine VO.y rfl (.capS rfl tsl30) ?_
  refine VO.as ?_
  refine VO.k2 0 2 ?_
  refine VC.seq ?_
  refine VC.rs ?_
  refine VO.as ?_
  refine VO.k3 0 2 3 ?_
  refine VC.block ?_
  refine VC.loop (G := Nat × (List DOp) × Mem) (fun g => [(0, Value.slice A0 (d0.length) (c0)), (3, Value.int .i64 ((((g.1) : Nat) : Int))), (2, Value.int .i64 (((c0 : Nat) : Int)))]) (fun g => [(0, mout (wm W) (m0)), (1, (g.2.2))]) (fun g => ((g.1) ≤ d0.length) ∧ ((g.2.1) = (d0.take (g.1)).map overOp ++ d0.drop (g.1)) ∧ (OwnL TOp (g.2.2) mnil (.slice A0 (d0.length) (c0)) (g.2.1))) (fun g => d0.length - (g.1)) (0, d0, m0) (⟨by omega, by simp, (Ow.ownl h0 rfl mnil)⟩) ⟨⟨rfl, rfl, rfl, trivial⟩, fun _ h => h.sub [0, 1]⟩ ?_
  rintro ⟨k, l, l_m⟩ ⟨hk, hl, h_l⟩
  replace hk : k ≤ d0.length := hk
  replace hl : l = (d0.take k).map overOp ++ d0.drop k := hl
  replace h_l : OwnL TOp l_m mnil (.slice A0 (d0.length) (c0)) l := h_l
  show VC _ _ _ _ _ [(0, Value.slice A0 (d0.length) (c0)), (3, Value.int .i64 (((k : Nat) : Int))), (2, Value.int .i64 (((c0 : Nat) : Int)))] [(0, mout (wm W) (m0)), (1, l_m)]
  have ll_l := slice_len (OwnL.ow h_l rfl)
  refine VC.seq ?_
  refine VC.rs ?_
  refine VO.mv ?_
  refine VO.mv ?_
  refine VO.y rfl (.lenS rfl tsl30) ?_
  refine VO.y rfl (.lss rfl rfl) ?_
  refine VO.kp [0, 1] [(0, mout (wm W) (m0)), (1, l_m)] ?_
  refine VO.k4 0 2 3 9 ?_
  refine VC.cond rfl (fun hc1 => ?_) (fun hc1 => ?_)
  · -- T
    refine VC.skip ?_
    refine outN ?_
    refine VC.seq ?_
    refine VC.block ?_
    refine VC.reg ?_
    refine VO.mv ?_
    refine VO.mv ?_
    refine VO.mv ?_
    refine VO.mv ?_
    obtain ⟨x2, hx2⟩ : ∃ z_, (l)[k]? = some z_ := ⟨_, List.getElem?_eq_getElem (by exact fin0_overOps_ok)⟩
    obtain ⟨gg2, oo2, ec2, ea2, hce2, hre2⟩ := h_l.elem hx2
    cases ea2
    obtain ⟨rfl, q2_1, q2_2⟩ := open_Op (x0 := x2.1) (x1 := x2.2.1) (x2 := x2.2.2) hre2
    simp only [maxLen] at q2_1
    simp only [maxLen] at q2_2
    refine VO.y rfl (.ixI k rfl rfl tsl30 rfl (by exact fin0_overOps_ok)) ?_
    refine VO.y rfl (.fa rfl tst78 rfl) ?_
    refine VO.y rfl (.ld1 1 rfl tk9 rfl (hce2.at1 (j := 1) rfl)) ?_
    refine VO.y rfl (.scat rfl rfl (by exact fin0_overOps_ok)) ?_
    refine VO.y rfl (.ixI k rfl rfl tsl30 rfl (by exact fin0_overOps_ok)) ?_
    refine VO.y rfl (.fa rfl tst78 rfl) ?_
    refine VO.upd (e := TOp) (k := 1) (i := k) (x' := (x2.1, x2.2.1 ++ ([126]), x2.2.2)) 1 1 rfl rfl (.inr ⟨tk9, rfl⟩) rfl rfl rfl (OwnL.ow h_l rfl) rfl hx2 rfl (fun mi ec he => by obtain ⟨rfl, z1, z2⟩ := open_Op (x0 := x2.1) (x1 := x2.2.1) (x2 := x2.2.2) (he.rd (mle_refl _)); exact Ow.of (m := mnil) rfl (mk_Op x2.1 (x2.2.1 ++ ([126])) x2.2.2 (by simp only [maxLen]; (exact fin0_overOps_ok)) z2)) (fun mu4 hu4 => ?_)
    have hl4 := slice_len hu4
    refine VO.k4 0 2 3 9 ?_
    refine outBN ?_
    refine outN ?_
    refine VC.reg ?_
    refine VO.mv ?_
    refine VO.y rfl (.add (c := ((k + 1 : Nat) : Int)) rfl rfl (by omega) ⟨by exact fin0_overOps_ok, by exact fin0_overOps_ok⟩) ?_
    refine VO.as ?_
    refine VO.k4 0 2 3 9 ?_
    exact outN ⟨⟨k + 1, (l).set k (x2.1, x2.2.1 ++ ([126]), x2.2.2), mu4⟩, ⟨by omega, by exact (over_set (f := overOp) hl ‹l[k]? = some _›).2, (Ow.ownl hu4 rfl mnil)⟩, by exact fin0_overOps_ok, ⟨⟨rfl, rfl, rfl, trivial⟩, fun _ h => Inv.sub h [0, 1]⟩⟩
  · -- F
    refine VC.exit ?_
    refine outE ?_
    refine outE ?_
    refine outBB ?_
    refine outN ?_
    refine VC.block ?_
    refine VC.loop (G := (List DOp) × Mem × Nat) (fun g => [(0, Value.slice A0 ((g.2.2)) (c0)), (2, Value.int .i64 (((c0 : Nat) : Int))), (3, Value.int .i64 (((k : Nat) : Int))), (9, Value.bool (decide (((k : Nat) : Int) < ((d0.length : Nat) : Int))))]) (fun g => [(0, mout (wm W) (m0)), (1, (g.2.1))]) (fun g => (∃ j, (g.1) = d0.map overOp ++ List.replicate j (false, [111, 118, 101, 114], [])) ∧ ((g.2.2) ≤ c0) ∧ (OwnL TOp (g.2.1) mnil (.slice A0 ((g.2.2)) (c0)) (g.1))) (fun g => c0 - (g.2.2)) (l, l_m, d0.length) (⟨by (exact ⟨0, by rw [hl, List.take_of_length_le (by omega), List.drop_of_length_le (by omega)]; simp⟩), by omega, h_l⟩) ⟨⟨rfl, rfl, rfl, rfl, trivial⟩, fun _ h => h.sub [0, 1]⟩ ?_
    rintro ⟨l2, l2_m, l2_n⟩ ⟨hl2, hc, h_l2⟩
    replace hl2 : ∃ j, l2 = d0.map overOp ++ List.replicate j (false, [111, 118, 101, 114], []) := hl2
    replace hc : l2_n ≤ c0 := hc
    replace h_l2 : OwnL TOp l2_m mnil (.slice A0 (l2_n) (c0)) l2 := h_l2
    show VC _ _ _ _ _ [(0, Value.slice A0 (l2_n) (c0)), (2, Value.int .i64 (((c0 : Nat) : Int))), (3, Value.int .i64 (((k : Nat) : Int))), (9, Value.bool (decide (((k : Nat) : Int) < ((d0.length : Nat) : Int))))] [(0, mout (wm W) (m0)), (1, l2_m)]
    have ll_l2 := slice_len (OwnL.ow h_l2 rfl)
    refine VC.seq ?_
    refine VC.rs ?_
    refine VO.mv ?_
    refine VO.y rfl (.lenS rfl tsl30) ?_
    refine VO.mv ?_
    refine VO.y rfl (.lss rfl rfl) ?_
    refine VO.k5 0 2 3 9 25 ?_
    refine VC.cond rfl (fun hc5 => ?_) (fun hc5 => ?_)
    · -- FT
      refine VC.skip ?_
      refine outN ?_
      refine VC.block ?_
      refine VC.reg ?_
      refine VO.mv ?_
      refine VO.y rfl (.bst (cs := [Value.bool false, str ([111, 118, 101, 114]), str ([])]) rfl tst78 tz78 rfl) ?_
      refine VO.bsl (cs := [Value.bool false, str ([111, 118, 101, 114]), str ([])]) 107 rfl rfl tsl30 tz78 rfl rfl (fun g6 => ?_)
      refine VO.inv ((109, mnil) :: _) (fun _ h => h.nilc 109) ?_
      have hxl8 := slice_len (OwnL.ow h_l2 rfl)
      refine VO.appI (e := TOp) (xs := l2) (cap := c0) (A := A0) (l := l2_n) 1 109 107 rfl rfl rfl tsl30 rfl rfl rfl (OwnL.ow h_l2 rfl) (Ow.of (m := mnil) rfl (mk_Op (m := _) false ([111, 118, 101, 114]) [] (by simp only [maxLen]; (exact fin0_overOps_ok)) (by simp only [maxLen]; (exact fin0_overOps_ok)))) Try.underlying30 (cellsAt_one rfl rfl) (by exact fin0_overOps_ok) (fun m8 ho8 => ?_)
      refine VO.as ?_
      refine VO.k5 0 2 3 9 25 ?_
      refine outBN ?_
      exact outN ⟨⟨l2 ++ [(false, [111, 118, 101, 114], [])], m8, l2_n + 1⟩, ⟨by exact over_more hl2, by dsimp only; omega, (Ow.ownl ho8 rfl mnil)⟩, by (dsimp only; omega), ⟨⟨rfl, rfl, rfl, rfl, trivial⟩, fun _ h => Inv.sub h [0, 1]⟩⟩
    · -- FF
      refine VC.exit ?_
      refine outE ?_
      refine outE ?_
      refine outBB ?_
      have hcut0 := Ow.pre (j := d0.length) (OwnL.ow h_l2 rfl) (by exact fin0_overOps_ok)
      refine ⟨_, _, res_run (rs := []) rfl .nil, fun W_ hI => out_of (l := [l2_m]) hI [1] rfl rfl (mle_refl _) (fun hS_ => ?_)⟩
      dsimp only [packV]
      have hm0_ : (d0.map overOp : Ty.Den (.sl TOp)) = (l2).take d0.length := by first | rfl | (obtain ⟨j, rfl⟩ := hl2; simp)
      refine ⟨?_, ?_⟩
      rotate_left
      · rw [hm0_]; exact (Ow.up hcut0 (hS_.1 _ (.head _)))
      all_goals (first | rfl | (simp [*]; done))
theorem fin0_ApartOps_ok {P : Prop} (h : P := by first | omega | (simp only [List.length_append, List.length_nil, List.length_cons, List.length_take, List.length_drop] at *; omega) | (have h_ := apart_len hl4 hw4 ‹l[_]? = some _› ‹was[_]? = some _›; omega) | (have h_ := key_of hw4 e1 ‹was[_]? = some _› (by assumption); simp only [List.length_append, List.length_cons, List.length_nil] at *; omega) | (exact (e1 _ (List.mem_of_getElem? ‹d0[_]? = some _›)).1)) : P := h
theorem ApartOps_ok (W : World) {m0 : Mem} (hm : mle (m0) (wm W)) {v0 : Value} {d0 : List (List DOp)} (h0 : Ow (.sl (.sl TOp)) m0 [v0] d0) (e0 : d0.length ≤ 1000) (e1 : ∀ x ∈ d0, x.length ≤ 3518437208800 ∧ ∀ o ∈ x, o.2.1.length ≤ 140737488400000) : CallR Try.prog 70 [v0] W (m0) (fun v m' => v = .bool true) := by
  obtain ⟨A0, c0, e0_, l0, k0⟩ := h0.slice
  subst e0_
  simp only [maxLen] at k0
  refine CallR.ofB (n := 79) hm Try.func70 rfl rfl rfl ?_
  refine VC.rs ?_
  refine VO.as ?_
  refine VO.k2 0 2 ?_
  refine VC.rs ?_
  refine VO.mv ?_
  refine VO.y rfl (.lenS rfl tsl91) ?_
  refine VO.mks (e := (.sl TOp)) (a := ((d0.length : Nat) : Int)) (k := d0.length) 101 rfl rfl rfl rfl tsl91 tz30 (y := []) (Ow.nil _ mnil) (by simp only [maxLen]; (exact fin0_ApartOps_ok)) (by exact fin0_ApartOps_ok) (by decide) (fun v1 m1 hk1 => ?_)
  obtain ⟨A1, c1, rfl, l1, k1⟩ := hk1.slice
  simp only [maxLen] at k1
  have ln1 : (List.replicate d0.length ([] : List DOp)).length = d0.length := List.length_replicate
  refine VO.as ?_
  refine VO.k3 0 2 3 ?_
  refine VC.seq ?_
  refine VC.rs ?_
  refine VO.as ?_
  refine VO.kp [101, 0, 1] [(101, m1), (0, mout (wm W) (m0)), (1, m0)] ?_
  refine VO.k4 0 2 3 4 ?_
  refine VC.block ?_
  refine VC.loop (G := Nat × (List (List DOp)) × Mem) (fun g => [(3, Value.slice A1 ((List.replicate d0.length ([] : List DOp)).length) (c1)), (4, Value.int .i64 ((((g.1) : Nat) : Int))), (0, Value.slice A0 (d0.length) (c0)), (2, Value.bool false)]) (fun g => [(101, (g.2.2)), (0, mout (wm W) (m0)), (1, m0)]) (fun g => ((g.1) ≤ d0.length) ∧ ((g.2.1) = d0.take (g.1) ++ List.replicate (d0.length - (g.1)) []) ∧ (Ow (.sl (.sl TOp)) (g.2.2) [.slice A1 ((List.replicate d0.length ([] : List DOp)).length) (c1)] (g.2.1))) (fun g => d0.length - (g.1)) (0, List.replicate d0.length ([] : List DOp), m1) (⟨by omega, by simp, hk1⟩) ⟨⟨rfl, rfl, rfl, rfl, trivial⟩, fun _ h => h.sub [101, 0, 1]⟩ ?_
  rintro ⟨i, was, was_m⟩ ⟨hi, hw, h_was⟩
  replace hi : i ≤ d0.length := hi
  replace hw : was = d0.take i ++ List.replicate (d0.length - i) [] := hw
  replace h_was : Ow (.sl (.sl TOp)) was_m [.slice A1 ((List.replicate d0.length ([] : List DOp)).length) (c1)] was := h_was
  show VC _ _ _ _ _ [(3, Value.slice A1 ((List.replicate d0.length ([] : List DOp)).length) (c1)), (4, Value.int .i64 (((i : Nat) : Int))), (0, Value.slice A0 (d0.length) (c0)), (2, Value.bool false)] [(101, was_m), (0, mout (wm W) (m0)), (1, m0)]
  have ll_was := slice_len h_was
  refine VC.seq ?_
  refine VC.rs ?_
  refine VO.mv ?_
  refine VO.mv ?_
  refine VO.y rfl (.lenS rfl tsl91) ?_
  refine VO.y rfl (.lss rfl rfl) ?_
  refine VO.k5 0 2 3 4 14 ?_
  refine VC.cond rfl (fun hc2 => ?_) (fun hc2 => ?_)
  · -- T
    refine VC.skip ?_
    refine outN ?_
    refine VC.seq ?_
    refine VC.block ?_
    refine VC.reg ?_
    refine VO.mv ?_
    refine VO.mv ?_
    refine VO.mv ?_
    refine VO.mv ?_
    obtain ⟨x3, hx3⟩ : ∃ z_, (d0)[i]? = some z_ := ⟨_, List.getElem?_eq_getElem (by exact fin0_ApartOps_ok)⟩
    obtain ⟨gg3, oo3, ec3, ea3, hce3, hre3⟩ := (Ow.rd h0 (mle_refl _)).elem hx3
    cases ea3
    have hr3 := hre3
    obtain ⟨A3_, c3_, rfl, _⟩ := hre3
    have rr3 := Rd.room hr3
    refine VO.y rfl (.ixI i rfl rfl tsl91 rfl (by exact fin0_ApartOps_ok)) ?_
    refine VO.y rfl (.ld1 1 rfl tk30 rfl hce3) ?_
    refine VO.callN 104 rfl fnOk102 rfl (fun W hW => CopyOps_ok W (Rd.mono hr3 (hW.at (i := 1) rfl)) (by exact fin0_ApartOps_ok)) (fun v4 m4 hv4 => ?_)
    obtain ⟨s4_0, rfl, f4_0⟩ := hv4
    obtain ⟨A4_0, c4_0, eq4_0, l4_0, k4_0⟩ := f4_0.slice
    subst eq4_0
    simp only [maxLen] at k4_0
    obtain ⟨x5, hx5⟩ : ∃ z_, (was)[i]? = some z_ := ⟨_, List.getElem?_eq_getElem (by exact fin0_ApartOps_ok)⟩
    obtain ⟨gg5, oo5, ec5, ea5, hce5, hre5⟩ := (Ow.rd h_was (mle_refl _)).elem hx5
    cases ea5
    have hr5 := hre5
    obtain ⟨A5_, c5_, rfl, _⟩ := hre5
    have rr5 := Rd.room hr5
    refine VO.y rfl (.ixI i rfl rfl tsl91 rfl (by exact fin0_ApartOps_ok)) ?_
    refine VO.setE (e := (.sl TOp)) (k := 1) (i := i) 101 104 rfl rfl (.inr ⟨tk30, rfl⟩) rfl rfl rfl rfl h_was rfl hx5 (x' := x3) (Ow.up (OwnL.ow (Ow.ownl f4_0 rfl mnil) rfl) ((Seps.one (mle_refl _)).1 _ (.head _))) (fun mu6 hu6 => ?_)
    have hl6 := slice_len hu6
    refine VO.k5 0 2 3 4 14 ?_
    refine outBN ?_
    refine outN ?_
    refine VC.reg ?_
    refine VO.mv ?_
    refine VO.y rfl (.add (c := ((i + 1 : Nat) : Int)) rfl rfl (by omega) ⟨by exact fin0_ApartOps_ok, by exact fin0_ApartOps_ok⟩) ?_
    refine VO.as ?_
    refine VO.kp [101, 0, 1] [(101, mu6), (0, mout (wm W) (m0)), (1, m0)] ?_
    refine VO.k5 0 2 3 4 14 ?_
    exact outN ⟨⟨i + 1, (was).set i x3, mu6⟩, ⟨by omega, by exact fill_next hw ‹d0[i]? = some _›, hu6⟩, by exact fin0_ApartOps_ok, ⟨⟨rfl, rfl, rfl, rfl, trivial⟩, fun _ h => Inv.sub h [101, 0, 1]⟩⟩
  · -- F
    refine VC.exit ?_
    refine outE ?_
    refine outE ?_
    refine outBB ?_
    refine outN ?_
    refine VC.seq ?_
    refine VC.rs ?_
    refine VO.as ?_
    refine VO.k6 0 2 3 4 5 14 ?_
    refine VC.block ?_
    refine VC.loop (G := Nat × (List (List DOp)) × Mem) (fun g => [(0, Value.slice A0 (d0.length) (c0)), (5, Value.int .i64 ((((g.1) : Nat) : Int))), (3, Value.slice A1 ((List.replicate d0.length ([] : List DOp)).length) (c1)), (4, Value.int .i64 (((i : Nat) : Int))), (14, Value.bool (decide (((i : Nat) : Int) < ((d0.length : Nat) : Int))))]) (fun g => [(101, was_m), (0, mout (wm W) (m0)), (1, (g.2.2))]) (fun g => (was = d0) ∧ ((g.1) ≤ d0.length) ∧ ((g.2.1) = (d0.take (g.1)).map (List.map overOp) ++ d0.drop (g.1)) ∧ (Ow (.sl (.sl TOp)) (g.2.2) [.slice A0 (d0.length) (c0)] (g.2.1))) (fun g => d0.length - (g.1)) (0, d0, m0) (⟨by exact fill_all hw (by omega), by omega, by simp, h0⟩) ⟨⟨rfl, rfl, rfl, rfl, rfl, trivial⟩, fun _ h => h.sub [101, 0, 1]⟩ ?_
    rintro ⟨j, l, l_m⟩ ⟨hw2, hj, hl, h_l⟩
    replace hw2 : was = d0 := hw2
    replace hj : j ≤ d0.length := hj
    replace hl : l = (d0.take j).map (List.map overOp) ++ d0.drop j := hl
    replace h_l : Ow (.sl (.sl TOp)) l_m [.slice A0 (d0.length) (c0)] l := h_l
    show VC _ _ _ _ _ [(0, Value.slice A0 (d0.length) (c0)), (5, Value.int .i64 (((j : Nat) : Int))), (3, Value.slice A1 ((List.replicate d0.length ([] : List DOp)).length) (c1)), (4, Value.int .i64 (((i : Nat) : Int))), (14, Value.bool (decide (((i : Nat) : Int) < ((d0.length : Nat) : Int))))] [(101, was_m), (0, mout (wm W) (m0)), (1, l_m)]
    have ll_l := slice_len h_l
    refine VC.seq ?_
    refine VC.rs ?_
    refine VO.mv ?_
    refine VO.mv ?_
    refine VO.y rfl (.lenS rfl tsl91) ?_
    refine VO.y rfl (.lss rfl rfl) ?_
    refine VO.kp [101, 0, 1] [(101, was_m), (0, mout (wm W) (m0)), (1, l_m)] ?_
    refine VO.k6 0 3 4 5 14 28 ?_
    refine VC.cond rfl (fun hc7 => ?_) (fun hc7 => ?_)
    · -- FT
      refine VC.skip ?_
      refine outN ?_
      refine VC.seq ?_
      refine VC.block ?_
      refine VC.seq ?_
      refine VC.seq ?_
      refine VC.regD _ 8 [(0, true), (1, true), (2, true), (3, true), (4, true), (5, true), (6, true), (7, true)] follows (by kernel_rfl) (fun _ h => h.sub [101, 0, 1]) ?_
      refine VD.y rfl rfl (.inl rfl) (.mv rfl) ?_
      refine VD.y rfl rfl (.inl rfl) (.mv rfl) ?_
      obtain ⟨x8, hx8⟩ : ∃ z_, (l)[j]? = some z_ := ⟨_, List.getElem?_eq_getElem (by exact fin0_ApartOps_ok)⟩
      obtain ⟨gg8, oo8, ec8, ea8, hce8, hre8⟩ := (Ow.rd h_l (mle_refl _)).elem hx8
      cases ea8
      have hr8 := hre8
      obtain ⟨A8_, c8_, rfl, _⟩ := hre8
      have rr8 := Rd.room hr8
      refine VD.y rfl rfl (.inl rfl) (.ixI j rfl rfl tsl91 rfl (by exact fin0_ApartOps_ok)) ?_
      refine VD.y rfl rfl (.inl rfl) (.ld1 1 rfl tk30 rfl hce8) ?_
      refine VD.y rfl rfl (.inl rfl) (.mv rfl) ?_
      refine VD.y rfl rfl (.inl rfl) (.mv rfl) ?_
      obtain ⟨x9, hx9⟩ : ∃ z_, (was)[j]? = some z_ := ⟨_, List.getElem?_eq_getElem (by exact fin0_ApartOps_ok)⟩
      obtain ⟨gg9, oo9, ec9, ea9, hce9, hre9⟩ := (Ow.rd h_was (mle_refl _)).elem hx9
      cases ea9
      have hr9 := hre9
      obtain ⟨A9_, c9_, rfl, _⟩ := hre9
      have rr9 := Rd.room hr9
      refine VD.y rfl rfl (.inl rfl) (.ixI j rfl rfl tsl91 rfl (by exact fin0_ApartOps_ok)) ?_
      refine VD.y rfl rfl (.inl rfl) (.ld1 101 rfl tk30 rfl hce9) ?_
      refine VD.nil rfl ?_ rfl
      refine VO.callN 110 rfl fnOk100 rfl (fun W hW => SameOps_ok W (Rd.mono hr8 (hW.at (i := 1) rfl)) (Rd.mono hr9 (hW.at (i := 101) rfl))) (fun v10 m10 hv10 => ?_)
      subst hv10
      refine VO.y rfl (.notD rfl) ?_
      refine VO.k7 0 3 4 5 14 28 40 ?_
      refine outN ?_
      refine VC.cond rfl (fun hc11 => ?_) (fun hc11 => ?_)
      · -- FTT
        exact absurd (apart_same hl hw2 ‹l[j]? = some _› ‹was[j]? = some _›) hc11
      · -- FTF
        refine VC.skip ?_
        refine outN ?_
        refine VC.reg ?_
        refine VO.mv ?_
        refine VO.mv ?_
        refine VO.y rfl (.ixI j rfl rfl tsl91 rfl (by exact fin0_ApartOps_ok)) ?_
        refine VO.y rfl (.ld1 1 rfl tk30 rfl hce8) ?_
        obtain ⟨mr13, me13, hH13, hE13, hB13⟩ := Ow.hole h_l hx8 hce8
        refine VO.parts 1 [1, 114] rfl hH13 ?_
        refine VO.call 114 rfl fnOk103 rfl rfl (fun W hW => overOps_ok W (hW.at (i := 114) rfl) hE13 (by exact fun o ho => (e1 _ (List.mem_of_getElem? (over_set hl ‹l[_]? = some _›).1)).2 o ho)) (fun v13 m13 hv13 => ?_)
        obtain ⟨rfl, w13_0⟩ := hv13
        have wl13_0 := slice_len w13_0
        refine VO.gather (l := [mr13, m13]) 1 [1, 114] rfl (fun hg13 => ?_)
        have hL13 := Seps.back hg13 (fun hd_ => hB13 _ _ hd_ w13_0)
        have hl13 := slice_len hL13
        refine VO.k7 0 3 4 5 14 28 40 ?_
        refine outBN ?_
        refine outN ?_
        refine VC.reg ?_
        refine VO.mv ?_
        refine VO.y rfl (.add (c := ((j + 1 : Nat) : Int)) rfl rfl (by omega) ⟨by exact fin0_ApartOps_ok, by exact fin0_ApartOps_ok⟩) ?_
        refine VO.as ?_
        refine VO.kp [1, 101, 0] [(1, muns [mr13, m13]), (101, was_m), (0, mout (wm W) (m0))] ?_
        refine VO.k7 0 3 4 5 14 28 40 ?_
        exact outN ⟨⟨j + 1, (l).set j (x8.map overOp), muns [mr13, m13]⟩, ⟨by exact hw2, by omega, by exact (over_set hl ‹l[j]? = some _›).2, hL13⟩, by exact fin0_ApartOps_ok, ⟨⟨rfl, rfl, rfl, rfl, rfl, trivial⟩, fun _ h => Inv.sub h [101, 0, 1]⟩⟩
    · -- FF
      refine VC.exit ?_
      refine outE ?_
      refine outE ?_
      refine outBB ?_
      refine outN ?_
      refine VC.seq ?_
      refine VC.rs ?_
      refine VO.as ?_
      refine VO.k7 0 3 4 5 6 14 28 ?_
      refine VC.block ?_
      refine VC.loop (G := Nat) (fun p => [(6, Value.int .i64 (((p : Nat) : Int))), (0, Value.slice A0 (d0.length) (c0)), (3, Value.slice A1 ((List.replicate d0.length ([] : List DOp)).length) (c1)), (4, Value.int .i64 (((i : Nat) : Int))), (5, Value.int .i64 (((j : Nat) : Int))), (14, Value.bool (decide (((i : Nat) : Int) < ((d0.length : Nat) : Int)))), (28, Value.bool (decide (((j : Nat) : Int) < ((d0.length : Nat) : Int))))]) (fun p => [(101, was_m), (0, mout (wm W) (m0)), (1, l_m)]) (fun p => (was = d0) ∧ (p ≤ d0.length) ∧ (l = d0.map (List.map overOp))) (fun p => d0.length - p) 0 (⟨by exact hw2, by omega, by exact over_all hl (by omega)⟩) ⟨⟨rfl, rfl, rfl, rfl, rfl, rfl, rfl, trivial⟩, fun _ h => h.sub [101, 0, 1]⟩ ?_
      rintro p ⟨hw4, hp, hl4⟩
      refine VC.seq ?_
      refine VC.rs ?_
      refine VO.mv ?_
      refine VO.mv ?_
      refine VO.y rfl (.lenS rfl tsl91) ?_
      refine VO.y rfl (.lss rfl rfl) ?_
      refine VO.k8 0 3 4 5 6 14 28 49 ?_
      refine VC.cond rfl (fun hc15 => ?_) (fun hc15 => ?_)
      · -- FFT
        refine VC.skip ?_
        refine outN ?_
        refine VC.seq ?_
        refine VC.block ?_
        refine VC.rs ?_
        refine VO.as ?_
        refine VO.kp [101, 0, 1] [(101, was_m), (0, mout (wm W) (m0)), (1, l_m)] ?_
        refine VO.k9 0 3 4 5 6 7 14 28 49 ?_
        refine VC.block ?_
        refine VC.loop (G := Nat) (fun k => [(7, Value.int .i64 (((k : Nat) : Int))), (0, Value.slice A0 (d0.length) (c0)), (3, Value.slice A1 ((List.replicate d0.length ([] : List DOp)).length) (c1)), (4, Value.int .i64 (((i : Nat) : Int))), (5, Value.int .i64 (((j : Nat) : Int))), (6, Value.int .i64 (((p : Nat) : Int))), (14, Value.bool (decide (((i : Nat) : Int) < ((d0.length : Nat) : Int)))), (28, Value.bool (decide (((j : Nat) : Int) < ((d0.length : Nat) : Int)))), (49, Value.bool (decide (((p : Nat) : Int) < ((d0.length : Nat) : Int))))]) (fun k => [(101, was_m), (0, mout (wm W) (m0)), (1, l_m)]) (fun k => (k ≤ 9223372036854775807)) (fun k => 9223372036854775807 - k) 0 (by omega) ⟨⟨rfl, rfl, rfl, rfl, rfl, rfl, rfl, rfl, rfl, trivial⟩, fun _ h => h.sub [101, 0, 1]⟩ ?_
        rintro k hk
        refine VC.seq ?_
        refine VC.rs ?_
        refine VO.mv ?_
        refine VO.mv ?_
        refine VO.mv ?_
        obtain ⟨x16, hx16⟩ : ∃ z_, (l)[p]? = some z_ := ⟨_, List.getElem?_eq_getElem (by exact fin0_ApartOps_ok)⟩
        obtain ⟨gg16, oo16, ec16, ea16, hce16, hre16⟩ := (Ow.rd h_l (mle_refl _)).elem hx16
        cases ea16
        have hr16 := hre16
        obtain ⟨A16_, c16_, rfl, _⟩ := hre16
        have rr16 := Rd.room hr16
        refine VO.y rfl (.ixI p rfl rfl tsl91 rfl (by exact fin0_ApartOps_ok)) ?_
        refine VO.y rfl (.ld1 1 rfl tk30 rfl hce16) ?_
        refine VO.y rfl (.lenS rfl tsl30) ?_
        refine VO.y rfl (.lss rfl rfl) ?_
        refine VO.k10 0 3 4 5 6 7 14 28 49 58 ?_
        refine VC.cond rfl (fun hc17 => ?_) (fun hc17 => ?_)
        · -- FFTT
          refine VC.skip ?_
          refine outN ?_
          refine VC.seq ?_
          refine VC.block ?_
          refine VC.seq ?_
          refine VC.regD _ 17 [(0, true), (1, true), (2, true), (3, true), (4, true), (5, true), (6, true), (7, true), (8, true), (9, true), (10, true), (11, true), (12, true), (13, true), (14, true), (15, true), (16, true)] follows (by kernel_rfl) (fun _ h => h.sub [101, 0, 1]) ?_
          refine VD.y rfl rfl (.inl rfl) (.mv rfl) ?_
          refine VD.y rfl rfl (.inl rfl) (.mv rfl) ?_
          refine VD.y rfl rfl (.inl rfl) (.ixI p rfl rfl tsl91 rfl (by exact fin0_ApartOps_ok)) ?_
          refine VD.y rfl rfl (.inl rfl) (.ld1 1 rfl tk30 rfl hce16) ?_
          refine VD.y rfl rfl (.inl rfl) (.mv rfl) ?_
          obtain ⟨x19, hx19⟩ : ∃ z_, (x16)[k]? = some z_ := ⟨_, List.getElem?_eq_getElem (by exact fin0_ApartOps_ok)⟩
          obtain ⟨gg19, oo19, ec19, ea19, hce19, hre19⟩ := hr16.elem hx19
          cases ea19
          obtain ⟨rfl, q19_1, q19_2⟩ := open_Op (x0 := x19.1) (x1 := x19.2.1) (x2 := x19.2.2) hre19
          simp only [maxLen] at q19_1
          simp only [maxLen] at q19_2
          refine VD.y rfl rfl (.inl rfl) (.ixI k rfl rfl tsl30 rfl (by exact fin0_ApartOps_ok)) ?_
          refine VD.y rfl rfl (.inl rfl) (.fa rfl tst78 rfl) ?_
          refine VD.y rfl rfl (.inl rfl) (.ld1 1 rfl tk9 rfl (hce19.at1 (j := 1) rfl)) ?_
          refine VD.y rfl rfl (.inl rfl) (.mv rfl) ?_
          refine VD.y rfl rfl (.inl rfl) (.mv rfl) ?_
          obtain ⟨x20, hx20⟩ : ∃ z_, (was)[p]? = some z_ := ⟨_, List.getElem?_eq_getElem (by exact fin0_ApartOps_ok)⟩
          obtain ⟨gg20, oo20, ec20, ea20, hce20, hre20⟩ := (Ow.rd h_was (mle_refl _)).elem hx20
          cases ea20
          have hr20 := hre20
          obtain ⟨A20_, c20_, rfl, _⟩ := hre20
          have rr20 := Rd.room hr20
          refine VD.y rfl rfl (.inl rfl) (.ixI p rfl rfl tsl91 rfl (by exact fin0_ApartOps_ok)) ?_
          refine VD.y rfl rfl (.inl rfl) (.ld1 101 rfl tk30 rfl hce20) ?_
          refine VD.y rfl rfl (.inl rfl) (.mv rfl) ?_
          obtain ⟨x21, hx21⟩ : ∃ z_, (x20)[k]? = some z_ := ⟨_, List.getElem?_eq_getElem (by exact fin0_ApartOps_ok)⟩
          obtain ⟨gg21, oo21, ec21, ea21, hce21, hre21⟩ := hr20.elem hx21
          cases ea21
          obtain ⟨rfl, q21_1, q21_2⟩ := open_Op (x0 := x21.1) (x1 := x21.2.1) (x2 := x21.2.2) hre21
          simp only [maxLen] at q21_1
          simp only [maxLen] at q21_2
          refine VD.y rfl rfl (.inl rfl) (.ixI k rfl rfl tsl30 rfl (by exact fin0_ApartOps_ok)) ?_
          refine VD.y rfl rfl (.inl rfl) (.fa rfl tst78 rfl) ?_
          refine VD.y rfl rfl (.inl rfl) (.ld1 101 rfl tk9 rfl (hce21.at1 (j := 1) rfl)) ?_
          refine VD.y rfl rfl (.inl rfl) (.scat rfl rfl (by exact fin0_ApartOps_ok)) ?_
          refine VD.nil rfl ?_ rfl
          refine VO.y rfl (.sneq rfl rfl) ?_
          refine VO.k11 0 3 4 5 6 7 14 28 49 58 78 ?_
          refine outN ?_
          refine VC.cond rfl (fun hc22 => ?_) (fun hc22 => ?_)
          · -- FFTTT
            exact absurd (by have h_ := apart_eq (f := overOp) hl4 hw4 ‹l[p]? = some _› ‹was[p]? = some _› (by assumption) (by assumption); rw [h_]; rfl) hc22
          · -- FFTTF
            refine VC.skip ?_
            refine outBN ?_
            refine outN ?_
            refine VC.reg ?_
            refine VO.mv ?_
            refine VO.y rfl (.add (c := ((k + 1 : Nat) : Int)) rfl rfl (by omega) ⟨by exact fin0_ApartOps_ok, by exact fin0_ApartOps_ok⟩) ?_
            refine VO.as ?_
            refine VO.kp [101, 0, 1] [(101, was_m), (0, mout (wm W) (m0)), (1, l_m)] ?_
            refine VO.k11 0 3 4 5 6 7 14 28 49 58 78 ?_
            exact outN ⟨k + 1, by omega, by exact fin0_ApartOps_ok, ⟨⟨rfl, rfl, rfl, rfl, rfl, rfl, rfl, rfl, rfl, trivial⟩, fun _ h => Inv.sub h [101, 0, 1]⟩⟩
        · -- FFTF
          refine VC.exit ?_
          refine outE ?_
          refine outE ?_
          refine outBB ?_
          refine outBN ?_
          refine outN ?_
          refine VC.reg ?_
          refine VO.mv ?_
          refine VO.y rfl (.add (c := ((p + 1 : Nat) : Int)) rfl rfl (by omega) ⟨by exact fin0_ApartOps_ok, by exact fin0_ApartOps_ok⟩) ?_
          refine VO.as ?_
          refine VO.k10 0 3 4 5 6 7 14 28 49 58 ?_
          exact outN ⟨p + 1, ⟨by exact hw4, by omega, by exact hl4⟩, by exact fin0_ApartOps_ok, ⟨⟨rfl, rfl, rfl, rfl, rfl, rfl, rfl, trivial⟩, fun _ h => Inv.sub h [101, 0, 1]⟩⟩
      · -- FFF
        refine VC.exit ?_
        refine outE ?_
        refine outE ?_
        refine outBB ?_
        refine outN ?_
        refine VC.rs ?_
        refine VO.as ?_
        refine VO.kp [101, 0, 1] [(101, was_m), (0, mout (wm W) (m0)), (1, l_m)] ?_
        refine VO.k9 0 2 3 4 5 6 14 28 49 ?_
        refine VC.ret ?_
        refine ⟨_, _, res_run (rs := [.tmp 2]) rfl (.tmp rfl .nil), fun W_ hI => out_of (l := []) hI [] rfl rfl (mle_refl _) (fun hS_ => ?_)⟩
        dsimp only [packV]
        all_goals (first | rfl | (simp [*]; done))
end
section
set_option linter.unusedVariables false
def zC : DCommit := (0, 0, [])
def cEnc (c : DCommit) : Bytes := venc c.1.toNat ++ (venc c.2.1.toNat ++ batchEnc c.2.2)
def cEncode (c : DCommit) : Bytes × Int := if cCheck c = 0 then (cEnc c, 0) else ([], cCheck c)
def cPart (B : Bytes) : DCommit := ((sX B 1048576 : Int), (sX (B.drop (sN B 1048576)) 1048576 : Int), (bRead (B.drop (sN B 1048576 + sN (B.drop (sN B 1048576)) 1048576))).1)
def cDecode (B : Bytes) : DCommit × Int :=
  if sE B 1048576 = 0 ∧ sE (B.drop (sN B 1048576)) 1048576 = 0 ∧ (bRead (B.drop (sN B 1048576 + sN (B.drop (sN B 1048576)) 1048576))).2.2 = 0 ∧
    ((sN B 1048576 : Int) + (sN (B.drop (sN B 1048576)) 1048576 : Int) + (bRead (B.drop (sN B 1048576 + sN (B.drop (sN B 1048576)) 1048576))).2.1 = B.length) ∧ cCheck (cPart B) = 0 then (cPart B, 0) else (zC, 5)
def rDecode (B : Bytes) : DCommit × Int :=
  let a := rNum B 1048576 (0, false)
  let b := rNum B 1048576 a.2
  let l := nextRef B b.2
  if l.2.2 = false ∧ l.2.1 = B.length ∧ cCheck (a.1, b.1, l.1) = 0 then ((a.1, b.1, l.1), 0) else (zC, 5)
theorem s_there {x : Nat} {m : Int} (h : (x : Int) ≤ m) (hm : m ≤ 9223372036854775807) (r : Bytes) : sX (venc x ++ r) m = x ∧ sN (venc x ++ r) m = (venc x).length ∧ sE (venc x ++ r) m = 0 := by
  have hs : vsmall (venc x ++ r) m = some (x, (venc x).length) := by unfold vsmall; rw [vread_there (by omega)]; exact if_pos h
  unfold sX sN sE; rw [hs]; exact ⟨rfl, rfl, rfl⟩
theorem s_back {B : Bytes} {m : Int} (h : sE B m = 0) : B = venc (sX B m) ++ B.drop (sN B m) := by
  unfold sE sX sN vsmall at *
  cases hv : vread B with
  | none => rw [hv] at h; cases h
  | some p =>
    obtain ⟨y, n⟩ := p
    rw [hv] at h
    dsimp only at h ⊢
    by_cases hy : (y : Int) ≤ m
    · rw [if_pos hy]; exact (vread_back hv).1
    · rw [if_neg hy] at h; cases h
theorem cCheck_zero {c : DCommit} (h : cCheck c = 0) : 1 ≤ c.1 ∧ c.1 ≤ 1048576 ∧ 1 ≤ c.2.1 ∧ c.2.1 ≤ 1048576 ∧ batchCheck c.2.2 = 0 := by
  unfold cCheck at h
  split at h
  · split at h
    · exact ⟨by omega, by omega, by omega, by omega, h⟩
    · cases h
  · cases h
theorem cDecode_there {c : DCommit} (h : cCheck c = 0) : cDecode (cEnc c) = (c, 0) := by
  obtain ⟨h1, h2, h3, h4, h5⟩ := cCheck_zero h
  obtain ⟨a1, a2, a3⟩ := s_there (x := c.1.toNat) (m := 1048576) (by omega) (by omega) (venc c.2.1.toNat ++ batchEnc c.2.2)
  obtain ⟨b1, b2, b3⟩ := s_there (x := c.2.1.toNat) (m := 1048576) (by omega) (by omega) (batchEnc c.2.2)
  have r := bRead_there h5 []
  rw [List.append_nil] at r
  have hd : (cEnc c).drop (venc c.1.toNat).length = venc c.2.1.toNat ++ batchEnc c.2.2 := by rw [cEnc, List.drop_left]
  have hd2 : (cEnc c).drop ((venc c.1.toNat).length + (venc c.2.1.toNat).length) = batchEnc c.2.2 := by rw [← List.drop_drop, hd, List.drop_left]
  have hp : cPart (cEnc c) = c := by
    unfold cPart
    rw [show sX (cEnc c) 1048576 = c.1.toNat from a1, show sN (cEnc c) 1048576 = _ from a2, hd, b1, b2, hd2, r]
    exact Prod.ext (by simp only; omega) (Prod.ext (by simp only; omega) rfl)
  unfold cDecode
  rw [hp, show sE (cEnc c) 1048576 = 0 from a3, show sN (cEnc c) 1048576 = _ from a2, hd, b2, b3, hd2, r]
  rw [if_pos ⟨rfl, rfl, rfl, by simp only [cEnc, List.length_append]; omega, h⟩]
theorem cDecode_back {B : Bytes} (h : (cDecode B).2 = 0) : cCheck (cDecode B).1 = 0 ∧ B = cEnc (cDecode B).1 := by
  unfold cDecode at h ⊢
  split at h
  · rename_i hh
    rw [if_pos hh]
    obtain ⟨h1, h2, h3, h4, h5⟩ := hh
    refine ⟨h5, ?_⟩
    have e1 := s_back h1
    have e2 := s_back h2
    generalize hr : bRead (B.drop (sN B 1048576 + sN (B.drop (sN B 1048576)) 1048576)) = p at *
    obtain ⟨l, n, f⟩ := p
    dsimp only at h3 h4
    subst h3
    obtain ⟨k1, k2, k3, k4⟩ := bRead_back hr
    have hl : (B.drop (sN B 1048576 + sN (B.drop (sN B 1048576)) 1048576)).length ≤ n.toNat := by simp only [List.length_drop]; omega
    rw [List.drop_of_length_le hl, List.append_nil, ← List.drop_drop] at k4
    unfold cEnc cPart
    rw [hr]
    simp only [Int.toNat_natCast]
    rw [← k4, ← e2, ← e1]
  · cases h
theorem cDecode_bad {B : Bytes} (h : ¬ (cDecode B).2 = 0) : cDecode B = (zC, 5) := by
  unfold cDecode at h ⊢
  split at h
  · exact absurd rfl h
  · rename_i hh; rw [if_neg hh]
theorem nextRef_there {B : Bytes} {a : Nat} {l : List DOp} {r : Bytes} (h : B.drop a = batchEnc l ++ r) (ha : a ≤ B.length) (hc : batchCheck l = 0) : nextRef B ((a : Int), false) = (l, (((a + (batchEnc l).length : Nat) : Int), false)) := by
  have hl := batch_len hc
  rw [batchEnc, List.append_assoc] at h
  have n1 := num_there (m := 8) h (by omega) (by omega)
  have n2 := pOps_there (drop_past h) (drop_le h ha) (fun o ho => batchCheck_mem hc ho) (Nat.zero_le _)
  have n3 := (pOps_same (B := B) l.length [] (((a + (venc l.length).length : Nat) : Int), false)).2 (by rw [n2])
  unfold nextRef
  rw [n1]
  dsimp only
  rw [Int.toNat_natCast, ← n3, n2]
  dsimp only
  rw [if_neg (by rw [hc]; decide)]
  simp only [batchEnc, List.length_append, Nat.add_assoc]
theorem nextRef_back {B : Bytes} {s e : RS} {l : List DOp} (hs : rOk B s) (h : nextRef B s = (l, e)) (he : e.2 = false) : s.2 = false ∧ rOk B e ∧ batchCheck l = 0 ∧ B.drop s.1.toNat = batchEnc l ++ B.drop e.1.toNat := by
  have hk := rNum_ok (m := 8) hs (by omega)
  unfold nextRef at h
  generalize hn : rNum B 8 s = p at *
  obtain ⟨k, s1⟩ := p
  dsimp only at h hk
  have hsame := pOps_same (B := B) k.toNat [] s1
  generalize hr : pOps2 B k.toNat [] s1 = q at *
  obtain ⟨l1, e1⟩ := q
  dsimp only at h hsame
  by_cases hb : e1.2 = true ∨ ¬ batchCheck l1 = 0
  · rw [if_pos hb] at h
    cases h; cases he
  · rw [if_neg hb] at h
    cases h
    have hc : batchCheck l = 0 := Decidable.byContradiction fun hq => hb (.inr hq)
    obtain ⟨a1, a2, a3, a4⟩ := pOps_back _ hk.1 (by have := hk.2.2.2.1 (by omega); simp; omega) (hsame.2 (by rw [hsame.1, he])) he
    obtain ⟨b1, b2, b3, b4, b5⟩ := num_back hs (by omega) hn a1
    exact ⟨b1, a2, hc, by rw [batchEnc, a4, List.append_assoc, ← a3, ← b5]⟩
theorem rDecode_there {c : DCommit} (h : cCheck c = 0) : rDecode (cEnc c) = (c, 0) := by
  obtain ⟨h1, h2, h3, h4, h5⟩ := cCheck_zero h
  have e1 : (cEnc c).drop 0 = venc c.1.toNat ++ (venc c.2.1.toNat ++ batchEnc c.2.2) := rfl
  have n1 := num_there (m := 1048576) e1 (by omega) (by omega)
  have e2 := drop_past e1
  have n2 := num_there (m := 1048576) e2 (by omega) (by omega)
  have e3 := drop_past e2
  have n3 := nextRef_there (r := []) (by rw [e3, List.append_nil]) (drop_le e2 (drop_le e1 (Nat.zero_le _))) h5
  unfold rDecode
  rw [show ((0 : Int), false) = (((0 : Nat) : Int), false) from rfl, n1]
  dsimp only
  rw [n2]
  dsimp only
  rw [n3]
  dsimp only
  have ec : (((c.1.toNat : Nat) : Int), ((c.2.1.toNat : Nat) : Int), c.2.2) = c := Prod.ext (by simp only; omega) (Prod.ext (by simp only; omega) rfl)
  rw [ec, if_pos ⟨rfl, by simp only [cEnc, List.length_append]; omega, h⟩]
theorem rDecode_back {B : Bytes} (h : (rDecode B).2 = 0) : cCheck (rDecode B).1 = 0 ∧ B = cEnc (rDecode B).1 := by
  have h0 : rOk B (0, false) := ⟨Int.le_refl _, by simp⟩
  have k1 := rNum_ok (m := 1048576) h0 (by omega)
  unfold rDecode at h ⊢
  dsimp only at h ⊢
  generalize ha : rNum B 1048576 (0, false) = a at *
  obtain ⟨x, s1⟩ := a
  dsimp only at h k1 ⊢
  have k2 := rNum_ok (m := 1048576) k1.1 (by omega)
  generalize hb : rNum B 1048576 s1 = b at *
  obtain ⟨y, s2⟩ := b
  dsimp only at h k2 ⊢
  generalize hl : nextRef B s2 = l at *
  obtain ⟨l, e⟩ := l
  dsimp only at h ⊢
  split at h
  · rename_i hh
    rw [if_pos hh]
    obtain ⟨h1, h2, h3⟩ := hh
    refine ⟨h3, ?_⟩
    obtain ⟨a1, a2, a3, a4⟩ := nextRef_back k2.1 hl h1
    obtain ⟨b1, b2, b3, b4, b5⟩ := num_back k1.1 (by omega) hb a1
    obtain ⟨c1, c2, c3, c4, c5⟩ := num_back h0 (by omega) ha b1
    rw [List.drop_of_length_le (by omega : B.length ≤ e.1.toNat), List.append_nil] at a4
    rw [a4] at b5
    rw [b5] at c5
    exact c5
  · cases h
theorem rDecode_bad {B : Bytes} (h : ¬ (rDecode B).2 = 0) : rDecode B = (zC, 5) := by
  unfold rDecode at h ⊢
  dsimp only at h ⊢
  split at h
  · exact absurd rfl h
  · rename_i hh; rw [if_neg hh]
theorem decode_same (B : Bytes) : rDecode B = cDecode B := by
  by_cases h : (cDecode B).2 = 0
  · obtain ⟨h1, h2⟩ := cDecode_back h
    have := rDecode_there h1
    rw [← h2] at this
    rw [this]
    exact Prod.ext rfl h.symm
  · by_cases h' : (rDecode B).2 = 0
    · obtain ⟨h1, h2⟩ := rDecode_back h'
      have := cDecode_there h1
      rw [← h2] at this
      rw [this] at h
      exact absurd rfl h
    · rw [cDecode_bad h, rDecode_bad h']
theorem cEncode_bad {c : DCommit} (h : ¬ cCheck c = 0) : cEncode c = ([], cCheck c) := if_neg h
theorem cEncode_good {c : DCommit} (h : ¬ ¬ cCheck c = 0) : cEncode c = bAppend (venc c.1.toNat ++ venc c.2.1.toNat) c.2.2 := by
  have h' := Decidable.not_not.1 h
  unfold cEncode bAppend cEnc
  rw [if_pos h', if_pos (cCheck_zero h').2.2.2.2, List.append_assoc]
theorem cEncode_len (c : DCommit) : (cEncode c).1.length ≤ 700 := by
  by_cases h : cCheck c = 0
  · obtain ⟨h1, h2, h3, h4, h5⟩ := cCheck_zero h
    rw [cEncode_good (fun hn => hn h)]
    have := bAppend_len (venc c.1.toNat ++ venc c.2.1.toNat) c.2.2
    have := venc_len (x := c.1.toNat) (by omega)
    have := venc_len (x := c.2.1.toNat) (by omega)
    simp only [List.length_append] at *; omega
  · rw [cEncode_bad h]; simp
theorem cDecode_fits (B : Bytes) : (cDecode B).1.2.2.length ≤ 8 ∧ ∀ o ∈ (cDecode B).1.2.2, o.2.1.length ≤ 16 := by
  unfold cDecode
  split
  · exact ⟨(bRead_fits _).1, bRead_keys _⟩
  · exact ⟨by decide, fun o h => by cases h⟩
theorem cDecode_e1 {B : Bytes} (h : ¬ sE B 1048576 = 0) : cDecode B = (zC, 5) := if_neg fun hh => h hh.1
theorem cDecode_e2 {B : Bytes} (h : ¬ sE (B.drop (sN B 1048576)) 1048576 = 0) : cDecode B = (zC, 5) := if_neg fun hh => h hh.2.1
theorem cDecode_e3 {B : Bytes} (h : ¬ (bRead (B.drop (sN B 1048576 + sN (B.drop (sN B 1048576)) 1048576))).2.2 = 0) : cDecode B = (zC, 5) := if_neg fun hh => h hh.2.2.1
theorem cDecode_e4 {B : Bytes} (h : ¬ ((sN B 1048576 : Int) + (sN (B.drop (sN B 1048576)) 1048576 : Int) + (bRead (B.drop (sN B 1048576 + sN (B.drop (sN B 1048576)) 1048576))).2.1 = B.length)) : cDecode B = (zC, 5) := if_neg fun hh => h hh.2.2.2.1
theorem cDecode_e5 {B : Bytes} (h : ¬ cCheck (cPart B) = 0) : cDecode B = (zC, 5) := if_neg fun hh => h hh.2.2.2.2
theorem cDecode_ok {B : Bytes} (h1 : ¬ ¬ sE B 1048576 = 0) (h2 : ¬ ¬ sE (B.drop (sN B 1048576)) 1048576 = 0) (h3 : ¬ ¬ (bRead (B.drop (sN B 1048576 + sN (B.drop (sN B 1048576)) 1048576))).2.2 = 0)
    (h4 : ¬ ¬ ((sN B 1048576 : Int) + (sN (B.drop (sN B 1048576)) 1048576 : Int) + (bRead (B.drop (sN B 1048576 + sN (B.drop (sN B 1048576)) 1048576))).2.1 = B.length)) (h5 : ¬ ¬ cCheck (cPart B) = 0) : cDecode B = (cPart B, 0) :=
  if_pos ⟨Decidable.not_not.1 h1, Decidable.not_not.1 h2, Decidable.not_not.1 h3, Decidable.not_not.1 h4, Decidable.not_not.1 h5⟩
end
section
set_option linter.unusedVariables false
def ofC (e n : Int) : DCommit := (e, n, [(true, [97], [49])])
theorem none_iff {e n i : Int} {l : List DCommit} : ((cFollowsAt e n i l).1 = 0 ∧ (cFollowsAt e n i l).2 = 0) ↔ (cFollowsAt e n i l).1 = 0 := ⟨fun h => h.1, fun h => by rw [follows_zero h]; exact ⟨rfl, rfl⟩⟩
theorem rDecode_no1 {B : Bytes} (h : ¬ ((nextRef B (rNum B 1048576 (rNum B 1048576 (0, false)).2).2).2.2 = false ∧ (nextRef B (rNum B 1048576 (rNum B 1048576 (0, false)).2).2).2.1 = (B.length : Int))) : cDecode B = (zC, 5) := by
  rw [← decode_same]; unfold rDecode; exact if_neg fun hh => h ⟨hh.1, hh.2.1⟩
theorem rDecode_no2 {B : Bytes} (h : ¬ cCheck ((rNum B 1048576 (0, false)).1, (rNum B 1048576 (rNum B 1048576 (0, false)).2).1, (nextRef B (rNum B 1048576 (rNum B 1048576 (0, false)).2).2).1) = 0) : cDecode B = (zC, 5) := by
  rw [← decode_same]; unfold rDecode; exact if_neg fun hh => h hh.2.2
theorem rDecode_yes {B : Bytes} (h : ¬ ¬ ((nextRef B (rNum B 1048576 (rNum B 1048576 (0, false)).2).2).2.2 = false ∧ (nextRef B (rNum B 1048576 (rNum B 1048576 (0, false)).2).2).2.1 = (B.length : Int)))
    (h2 : ¬ ¬ cCheck ((rNum B 1048576 (0, false)).1, (rNum B 1048576 (rNum B 1048576 (0, false)).2).1, (nextRef B (rNum B 1048576 (rNum B 1048576 (0, false)).2).2).1) = 0) :
    cDecode B = (((rNum B 1048576 (0, false)).1, (rNum B 1048576 (rNum B 1048576 (0, false)).2).1, (nextRef B (rNum B 1048576 (rNum B 1048576 (0, false)).2).2).1), 0) := by
  rw [← decode_same]; unfold rDecode; exact if_pos ⟨(Decidable.not_not.1 h).1, (Decidable.not_not.1 h).2, Decidable.not_not.1 h2⟩
end
section
set_option linter.unusedVariables false
theorem Rd.relen {e : Ty} {m : Mem} {A : Option Addr} {l k c : Nat} {xs : List e.Den} (h : Rd (.sl e) m [.slice A l c] xs) (hk : k = xs.length) : Rd (.sl e) m [.slice A k c] xs := by
  obtain ⟨A', c', h1, h2⟩ := h
  simp only [List.cons.injEq, Value.slice.injEq, and_true] at h1
  obtain ⟨rfl, _, rfl⟩ := h1
  exact ⟨_, _, by rw [hk], h2⟩
theorem Ow.full {e : Ty} {m : Mem} {A : Option Addr} {l c : Nat} {x : List e.Den × List e.Den} (h : Ow (.spl e) m [.slice A l c] x) : l = x.1.length ∧ Ow (.sl e) m [.slice A (x.1 ++ x.2).length c] (x.1 ++ x.2) := by
  obtain ⟨A', c', m0, m1, rc, h1, h2, h3, h4, h5, h6⟩ := h
  simp only [List.cons.injEq, Value.slice.injEq, and_true] at h1
  obtain ⟨rfl, rfl, rfl⟩ := h1
  exact ⟨rfl, _, m0, m1, rc, rfl, h2, h3, h4, h5, h6⟩
theorem Ow.mkSpl {e : Ty} {m : Mem} {A : Option Addr} {l c k : Nat} {xs ys : List e.Den} (h : Ow (.sl e) m [.slice A l c] (xs ++ ys)) (hk : k = xs.length) : Ow (.spl e) m [.slice A k c] (xs, ys) := by
  have hl := slice_len h
  obtain ⟨v, m0, m1, rc, h1, h2, h3, h4, h5, h6⟩ := h
  simp only [List.cons.injEq, and_true] at h1
  subst h1
  exact ⟨A, c, m0, m1, rc, by rw [hk], h2, h3, h4, by rw [← hl] at h5; exact h5, h6⟩
theorem Ow.pre2 {e : Ty} {m : Mem} {A : Option Addr} {l c : Nat} {xs ys : List e.Den} (h : Ow (.sl e) m [.slice A l c] (xs ++ ys)) : Ow (.sl e) m [.slice A xs.length c] xs := by
  have := Ow.pre (j := xs.length) h (by simp)
  rwa [List.take_left] at this
theorem Ow.nilSpl (e : Ty) (m : Mem) : Ow (.spl e) m [.slice none 0 0] ([], []) := Ow.mkSpl (xs := []) (ys := []) (Ow.nil e m) rfl
theorem Rd.nilSpl (e : Ty) (m : Mem) : Rd (.spl e) m [.slice none 0 0] ([], []) := (Ow.nilSpl e m).rd (mle_refl _)
theorem OwAll.map {α β : Type} {R : Mem → List Value → α → Prop} {S : Mem → List Value → β → Prop} (f : α → β) (hf : ∀ m c x, R m c x → S m c (f x)) : ∀ {xs : List α} {m : Mem} {cs : List Value}, OwAll R m cs xs → OwAll S m cs (xs.map f)
  | [], _, _, h => h
  | _ :: _, _, _, ⟨c1, c2, m1, m2, h1, h2, h3, h4, h5, h6⟩ => ⟨c1, c2, m1, m2, h1, h2, h3, h4, hf _ _ _ h5, h6.map f hf⟩
theorem Rd.mapL {e e' : Ty} (f : e.Den → e'.Den) (hz : e'.sz = e.sz) (hf : ∀ m c x, Rd e m c x → Rd e' m c (f x)) {m : Mem} {cs : List Value} {xs : List e.Den} (h : Rd (.sl e) m cs xs) : Rd (.sl e') m cs (xs.map f) := by
  obtain ⟨A, c, h1, h2, h3, h4⟩ := h
  have hl : (xs.map f).length = xs.length := List.length_map ..
  refine ⟨A, c, by rw [hl]; exact h1, by rw [hl]; exact h2, h3, ?_⟩
  rw [hl, hz]
  exact h4.imp id fun ⟨g, off, all, k1, k2, k3⟩ => ⟨g, off, all, k1, k2, k3.map _ (hf m)⟩
theorem Ow.mapL {e e' : Ty} (f : e.Den → e'.Den) (hz : e'.sz = e.sz) (hf : ∀ m c x, Ow e m c x → Ow e' m c (f x)) {m : Mem} {cs : List Value} {xs : List e.Den} (h : Ow (.sl e) m cs xs) : Ow (.sl e') m cs (xs.map f) := by
  obtain ⟨v, m0, m1, rc, h1, h2, h3, h4, h5, h6⟩ := h
  have hl : (xs.map f).length = xs.length := List.length_map ..
  refine ⟨v, m0, m1, rc, h1, h2, h3, h4, ?_, h6.map _ hf⟩
  rw [hl, hz]; exact h5
theorem VO.apart {P : Program} {n : Nat} {w0 : World} {σ : Env} {Ω : Ctx} {ops : Array Oper} {K : Env → Ctx → Prop} {r : List Oper} (ids : List Nat) {l : List Mem} (hg : cgets Ω ids = some l) (h : l.Pairwise mdj → VO P n w0 ops r σ Ω K) : VO P n w0 ops r σ Ω K :=
  fun Q hQ a W he hi => h (hi.gets hg).1 Q hQ a W he hi
theorem VD.apart {P : Program} {n : Nat} {w0 : World} {σ : Env} {Ω ΩS : Ctx} {ops : Array Oper} {K : Env → Ctx → Prop} {t : Nat} {ss : List (Nat × Bool)} (ids : List Nat) {l : List Mem} (hg : cgets Ω ids = some l) (h : l.Pairwise mdj → VD P n w0 ops ΩS t ss σ Ω K) : VD P n w0 ops ΩS t ss σ Ω K :=
  fun Q hn hQ listed a W he hi => h (hi.gets hg).1 Q hn hQ listed a W he hi
theorem VD.gbsl {P : Program} {n : Nat} {w0 : World} {σ : Env} {Ω ΩS : Ctx} {ops : Array Oper} {t : Nat} {K : Env → Ctx → Prop} {ty : TypeId} {pos : String} {af : Array Edge} {i : Nat} {rr : List (Nat × Bool)} {dd : Nat} {t' e : TypeId} {s b len : Nat} {l : List (Nat × Operand)} {ps : List (Nat × Value)} {z cs : List Value} {jj : Nat} {b' : Bool} (j : Nat) (hd : Nat.blt dd n = true) (ho : ops[i]? = some ⟨some dd, .buildSlice t' len l.toArray, ty, pos, af, some (jj, b')⟩) (hg : gyes σ ops jj b')
    (hl : evp σ l = some ps) (ht : tsl P t' = some (e, s, b)) (hz : tz P e = some z)
    (hsmall : Nat.ble (len * s) 16777216 = true) (hb : bld (fun i => some (i * s, s)) ((List.range (len * s)).map fun j => z.toArray[j % z.toArray.size]!) ps = some cs) (hS : ∀ W, Inv w0 Ω W → Inv w0 ΩS W)
    (h : ∀ g, VD P n w0 ops ΩS t rr ((dd, .slice (some ⟨g, 0, none⟩) len len) :: σ) ((j, mone g (.cells cs.toArray e (0, 0))) :: Ω) K) : VD P n w0 ops ΩS t ((i, false) :: rr) σ Ω K :=
  VD.s (fun v => (dd, v) :: σ) ho (fun v _ he => he.put hd v) (.inr ⟨_, _, rfl, hg⟩) (Stp.bsl j hl ht hz hsmall hb) (fun _ _ ⟨_, _, hΩ⟩ W hW => hS W (by subst hΩ; exact hW.tl)) (fun _ _ ⟨g, hv, hΩ⟩ => hv ▸ hΩ ▸ h g)
abbrev Hd := Option Addr × Nat × Nat
def hv (h : Hd) : Value := .slice h.1 h.2.1 h.2.2
/-- two numbers and a list; two numbers and a list's header. -/
abbrev tC (e : Ty) : Ty := .pair (.int .i64) (.pair (.int .i64) (.sl e))
abbrev tH : Ty := .pair (.int .i64) (.pair (.int .i64) .hdr)
abbrev DH := Int × Int × Hd
/-- this one, but for where the ops are. -/
def Pc (e : Ty) (m : Mem) (h : DH) (x : (tC e).Den) : Prop := h.1 = x.1 ∧ h.2.1 = x.2.1 ∧ Rd (.sl e) m [hv h.2.2] x.2.2
inductive F2 {α β : Type} (R : α → β → Prop) : List α → List β → Prop
  | nil : F2 R [] []
  | cons {a : α} {b : β} {l : List α} {r : List β} (h : R a b) (t : F2 R l r) : F2 R (a :: l) (b :: r)
theorem F2.mono {α β : Type} {R S : α → β → Prop} {l : List α} {r : List β} (h : F2 R l r) (hs : ∀ a b, R a b → S a b) : F2 S l r := by
  induction h with
  | nil => exact .nil
  | cons h _ ih => exact .cons (hs _ _ h) ih
theorem F2.len {α β : Type} {R : α → β → Prop} {l : List α} {r : List β} (h : F2 R l r) : l.length = r.length := by
  induction h with
  | nil => rfl
  | cons _ _ ih => simp [ih]
theorem F2.get {α β : Type} {R : α → β → Prop} {l : List α} {r : List β} (h : F2 R l r) {i : Nat} {a : α} (ha : l[i]? = some a) : ∃ b, r[i]? = some b ∧ R a b := by
  induction h generalizing i with
  | nil => simp at ha
  | cons h _ ih =>
    cases i with
    | zero => simp at ha; subst ha; exact ⟨_, rfl, h⟩
    | succ i => simp at ha; simpa using ih ha
variable {e : Ty}
theorem Pc.mono {m m' : Mem} {h : DH} {x : (tC e).Den} (hp : Pc e m h x) (hm : mle m m') : Pc e m' h x := ⟨hp.1, hp.2.1, hp.2.2.mono hm⟩
theorem Ow.peel1 {m : Mem} {cs : List Value} {x : (tC e).Den} (h : Ow (tC e) m cs x) : ∃ h' : DH, Ow tH mnil cs h' ∧ Pc e m h' x ∧ Ow (.sl e) m [hv h'.2.2] x.2.2 := by
  obtain ⟨c1, c2, m1, m2, rfl, _, _, hm2, ⟨rfl, k1⟩, c3, c4, m3, m4, rfl, _, _, hm4, ⟨rfl, k2⟩, k3⟩ := h
  obtain ⟨A, c, rfl, _, _⟩ := Ow.slice1 k3
  have k4 := k3.up (hm4.trans hm2)
  exact ⟨(x.1, x.2.1, A, x.2.2.length, c), Ow.of rfl (m := mnil) ⟨_, _, rfl, ⟨rfl, k1⟩, _, _, rfl, ⟨rfl, k2⟩, rfl⟩, ⟨rfl, rfl, k4.rd (mle_refl _)⟩, k4⟩
theorem OwAll.peel : ∀ {xs : List (tC e).Den} {m : Mem} {cs : List Value}, OwAll (Ow (tC e)) m cs xs → ∃ hs : List DH, OwAll (Ow tH) mnil cs hs ∧ F2 (Pc e m) hs xs ∧ OwAll (Ow (.sl e)) m (hs.map fun h => hv h.2.2) (xs.map fun x => x.2.2)
  | [], _, _, h => ⟨[], h, .nil, rfl⟩
  | x :: r, m, _, ⟨c1, c2, m1, m2, h1, h2, h3, h4, h5, h6⟩ => by
    obtain ⟨h', k1, k2, k3⟩ := h5.peel1
    obtain ⟨hs, l1, l2, l3⟩ := OwAll.peel h6
    exact ⟨h' :: hs, ⟨c1, c2, mnil, mnil, h1, mdj_nil _, mle_nil _, mle_nil _, k1, l1⟩, .cons (k2.mono h3) (l2.mono fun _ _ h => h.mono h4), ⟨[hv h'.2.2], _, m1, m2, rfl, h2, h3, h4, k3, l3⟩⟩
theorem Ow.peelL {m : Mem} {cs : List Value} {xs : List (tC e).Den} (h : Ow (.sl (tC e)) m cs xs) : ∃ (hs : List DH) (ma mo : Mem), mdj ma mo ∧ mle ma m ∧ mle mo m ∧ Ow (.sl tH) ma cs hs ∧ F2 (Pc e mo) hs xs ∧ OwAll (Ow (.sl e)) mo (hs.map fun h => hv h.2.2) (xs.map fun x => x.2.2) := by
  obtain ⟨v, m0, m1, rc, rfl, h2, h3, h4, h5, h6⟩ := h
  obtain ⟨hs, l1, l2, l3⟩ := OwAll.peel h6
  refine ⟨hs, m0, m1, h2, h3, h4, ⟨v, m0, mnil, rc, rfl, mdj_nil _, mle_refl _, mle_nil _, ?_, l1⟩, l2, l3⟩
  rw [l2.len]; exact h5
theorem OwAll.peelL : ∀ {xss : List (List (tC e).Den)} {m : Mem} {cs : List Value}, OwAll (Ow (.sl (tC e))) m cs xss → ∃ (hss : List (List DH)) (ma mo : Mem), mdj ma mo ∧ mle ma m ∧ mle mo m ∧ OwAll (Ow (.sl tH)) ma cs hss ∧ F2 (F2 (Pc e mo)) hss xss ∧
    OwAll (Ow (.sl e)) mo (hss.flatten.map fun h => hv h.2.2) (xss.flatten.map fun x => x.2.2)
  | [], _, _, h => ⟨[], mnil, mnil, mdj_nil _, mle_nil _, mle_nil _, h, .nil, rfl⟩
  | x :: r, m, _, ⟨c1, c2, m1, m2, h1, h2, h3, h4, h5, h6⟩ => by
    obtain ⟨hs, a1, o1, k1, k2, k3, k4, k5, k6⟩ := h5.peelL
    obtain ⟨hss, a2, o2, l1, l2, l3, l4, l5, l6⟩ := OwAll.peelL h6
    have d1 : mdj a1 a2 := h2.mono k2 l2
    have d2 : mdj o1 o2 := h2.mono k3 l3
    refine ⟨hs :: hss, mun a1 a2, mun o1 o2, ?_, mun_le (k2.trans h3) (l2.trans h4), mun_le (k3.trans h3) (l3.trans h4), ⟨c1, c2, a1, a2, h1, d1, mle_un_left _ _, mle_un_right d1, k4, l4⟩,
      .cons (k5.mono fun _ _ h => h.mono (mle_un_left _ _)) (l5.mono fun _ _ h => h.mono fun _ _ h => h.mono (mle_un_right d2)), ?_⟩
    · exact mdj_un (mdj_un k1.symm (h2.mono k2 l3).symm).symm (mdj_un (h2.mono k3 l2) l1.symm).symm
    · simp only [List.flatten_cons, List.map_append]
      exact OwAll.app d2 (mle_un_left _ _) (mle_un_right d2) k6 l6
theorem Ow.peelLL {m : Mem} {cs : List Value} {xss : List (List (tC e).Den)} (h : Ow (.sl (.sl (tC e))) m cs xss) : ∃ (hss : List (List DH)) (ml mo : Mem), Seps m [ml, mo] ∧ Ow (.sl (.sl tH)) ml cs hss ∧ F2 (F2 (Pc e mo)) hss xss ∧
    OwAll (Ow (.sl e)) mo (hss.flatten.map fun h => hv h.2.2) (xss.flatten.map fun x => x.2.2) := by
  obtain ⟨v, m0, m1, rc, rfl, h2, h3, h4, h5, h6⟩ := h
  obtain ⟨hss, a, o, k1, k2, k3, k4, k5, k6⟩ := OwAll.peelL h6
  have d := h2.mono (mle_refl _) k2
  have d2 := h2.mono (mle_refl _) k3
  refine ⟨hss, mun m0 a, o, .two (mdj_un d2 k1) (mun_le h3 (k2.trans h4)) (k3.trans h4), ⟨v, m0, a, rc, rfl, d, mle_un_left _ _, mle_un_right d, ?_, k4⟩, k5, k6⟩
  rw [k5.len]; exact h5
theorem hdrs_are : ∀ {hs : List Hd} {m : Mem} {rc : List Value}, OwAll (Ow .hdr) m rc hs → rc = hs.map hv
  | [], _, _, h => h
  | _ :: _, _, _, ⟨c1, c2, m1, m2, h1, _, _, _, h5, h6⟩ => by
    rw [h1, show c1 = _ from h5, hdrs_are h6]; rfl
theorem OwAll.len {α : Type} {R : Mem → List Value → α → Prop} {k : Nat} (hk : ∀ m c x, R m c x → c.length = k) : ∀ {xs : List α} {m : Mem} {cs : List Value}, OwAll R m cs xs → cs.length = xs.length * k
  | [], _, _, h => by rw [show _ = [] from h]; simp
  | _ :: r, _, _, ⟨c1, c2, m1, m2, h1, _, _, _, h5, h6⟩ => by
    rw [h1, List.length_append, hk _ _ _ h5, OwAll.len hk h6, List.length_cons, Nat.add_mul]; omega
/-- The headers of one's own, and what they lead to. -/
theorem Ow.mkOps {M mp mo : Mem} {v : Value} {hs : List Hd} {os : List (List e.Den)} (hS : Seps M [mp, mo]) (h : Ow (.sl .hdr) mp [v] hs) (ho : OwAll (Ow (.sl e)) mo (hs.map hv) os) : Ow (.sl (.sl e)) M [v] os := by
  obtain ⟨v', m0, m1, rc, h1, h2, h3, h4, h5, h6⟩ := h
  obtain rfl := hdrs_are h6
  have hl : hs.length = os.length := by
    have := ho.len (k := 1) (fun _ _ _ h => h.len)
    simpa using this
  have hd : mdj mp mo := by have := hS.2; simp at this; exact this
  refine ⟨v', m0, mo, _, h1, hd.mono h3 (mle_refl _), h3.trans (hS.1 _ (.head _)), hS.1 _ (.tail _ (.head _)), ?_, ho⟩
  rw [← hl]; exact h5
theorem row_all {m : Mem} : ∀ {hs : List DH} {xs : List (tC e).Den} {cs : List Value}, F2 (Pc e m) hs xs → All2c (Rd tH m) cs hs → All2c (Rd (tC e) m) cs xs
  | _, _, _, .nil, h => h
  | _, _, _, .cons (b := b) hp hr, ⟨c1, c2, h1, ⟨a1, a2, e1, h2, b1, b2, e2, h3, h4⟩, h5⟩ => by
    refine ⟨c1, c2, h1, ⟨a1, a2, e1, ?_, b1, b2, e2, ?_, ?_⟩, row_all hr h5⟩
    · rw [← hp.1]; exact h2
    · rw [← hp.2.1]; exact h3
    · have h4' : b2 = [hv _] := h4
      rw [h4']; exact hp.2.2
theorem row_rd {m : Mem} {v : Value} {hs : List DH} {xs : List (tC e).Den} (h : Rd (.sl tH) m [v] hs) (hp : F2 (Pc e m) hs xs) : Rd (.sl (tC e)) m [v] xs := by
  obtain ⟨A, c, h1, h2, h3, h4⟩ := h
  have hl := hp.len
  refine ⟨A, c, by rw [← hl]; exact h1, by rw [← hl]; exact h2, h3, ?_⟩
  rw [← hl]
  exact h4.imp id fun ⟨g, off, all, k1, k2, k3⟩ => ⟨g, off, all, k1, k2, row_all hp k3⟩
end
end Go.Proofs.Ytbjkfnnabnacfaa
