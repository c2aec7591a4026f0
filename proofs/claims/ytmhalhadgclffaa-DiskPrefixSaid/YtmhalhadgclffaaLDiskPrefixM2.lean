/- Part 2 of the proof of LDiskPrefix: what it needs of the library, the walks and the plain laws. Conditions: those named in each theorem. -/
import Derived.Test.YtmhalhadgclffaaLDiskPrefixM1
namespace Go.Proofs.Ytmhalhadgclffaa
section
section
variable {P : Program} {n : Nat} {w0 : World} {σ : Env} {Ω : Ctx} {ops : Array Oper} {K : Env → Ctx → Prop}
theorem Stp.appO {e : Ty} {s x : Operand} {t xt et xe : TypeId} {b g c : Nat} {d : Option Nat} {gd : Option (Nat × Bool)} {ty : TypeId} {pos : String} {af : Array Edge} {v : Value} {xs : List e.Den} {y : e.Den} {yc z : List Value} (i j k : Nat) {m mj mk : Mem} (hsv : ev σ s = some v) (hxv : ev σ x = some (.slice (some ⟨g, 0, none⟩) 1 c)) (ht : tsl P t = some (et, e.sz, b)) (hz : tz P et = some z) (hzl : z.length = e.sz)
    (hm : cget Ω i = some m) (hj : cget (cdel Ω i) j = some mj) (hk : cget Ω k = some mk) (hown : Ow (.sl e) m [v] xs) (hy : Ow e mj yc y) (hxt : P.underlying xt = some (.slice xe)) (hc : cellsAt mk g 0 e.sz yc) (hml : xs.length + 1 ≤ maxLen) (hb : (xs.length + 1) * b ≤ 140737488355328) (hb0 : b ≠ 0) :
    Stp P n w0 σ Ω ⟨d, .call { callee := .builtin .append, args := [s, x].toArray, argTypes := [t, xt].toArray }, ty, pos, af, gd⟩ (fun v' Ω' => ∃ m', Ow (.sl e) m' [v'] (xs ++ [y]) ∧ Ω' = (i, m') :: cdel (cdel Ω i) j) :=
  fun a W he hi K' Q hK => by
    obtain ⟨m0, m1, rc, hS, hA, hL⟩ := hown.opn
    obtain ⟨q1, q2, q3, q4, _⟩ := hi.gets (ids := [i, j]) (l := [m, mj]) (by simp [cgets, hm, hj])
    have dmj : mdj m mj := by simpa using q1
    have d01 : mdj m0 m1 := by have := hS.2; simpa using this
    have l0 := hS.1 m0 (.head _)
    have l1 := hS.1 m1 (.tail _ (.head _))
    have d1j : mdj m1 mj := dmj.mono l1 (mle_refl _)
    have hnew : mdj m0 (mun m1 mj) := (mdj_un d01.symm (dmj.mono l0 (mle_refl _)).symm).symm
    have hΩ2 : Inv w0 ((i, m0) :: (j, mun m1 mj) :: cdel (cdel Ω i) j) W := by
      have hdel : Inv w0 (cdel (cdel Ω i) j) W := q4
      have f1 : ∀ p ∈ cdel (cdel Ω i) j, mdj m p.2 := fun p hp => q3 m (.head _) p hp
      have f2 : ∀ p ∈ cdel (cdel Ω i) j, mdj mj p.2 := fun p hp => q3 mj (.tail _ (.head _)) p hp
      refine ⟨hi.os, hi.tape, hi.output, hi.size, fun p hp => ?_, List.pairwise_cons.2 ⟨fun p hp => ?_, List.pairwise_cons.2 ⟨fun p hp => ?_, hdel.dj⟩⟩⟩
      · rcases List.mem_cons.1 hp with rfl | hp
        · exact l0.trans (hi.at hm)
        · rcases List.mem_cons.1 hp with rfl | hp
          · exact mun_le (l1.trans (hi.at hm)) (q2 mj (.tail _ (.head _)))
          · exact hdel.le p hp
      · rcases List.mem_cons.1 hp with rfl | hp
        · exact hnew
        · exact (f1 p hp).mono l0 (mle_refl _)
      · exact mdj_un ((f1 p hp).mono l1 (mle_refl _)) (f2 p hp)
    have hsrc : SrcW P W e.sz xt (.slice (some ⟨g, 0, none⟩) 1 c) 1 yc := by
      refine ⟨⟨_, hxt, by simp⟩, by rw [hy.len]; omega, fun W' hW => ?_, fun W' => by simp [Builtin.lenOf]⟩
      have hc2 : cellsAt (wm W') g 0 (1 * e.sz) yc := by
        rw [Nat.one_mul]
        refine hc.mono (fun q o ho => ?_)
        have := hi.at hk q o ho
        unfold wm at this ⊢
        rw [hW]; exact this
      exact firstCells_row hc2
    refine app_wp (i := i) (m := m0) (m0 := m0) he hΩ2 hsv hxv ht hz hzl (by simp [cget]) (mle_refl _) hA hsrc hy.nice hml hb hb0 fun v' m' W' hA' hi' => ?_
    have hc' : cset ((i, m0) :: (j, mun m1 mj) :: cdel (cdel Ω i) j) i m' = (i, m') :: (j, mun m1 mj) :: cdel (cdel Ω i) j := by simp [cset]
    rw [hc'] at hi'
    have hdj : mdj m' (mun m1 mj) := (List.pairwise_cons.1 hi'.dj).1 _ (.head _)
    have hall : OwAll (Ow e) (mun m1 mj) (rc ++ yc) (xs ++ [y]) := OwAll.app d1j (mle_un_left _ _) (mle_un_right d1j) hL (.one hy (mle_refl _))
    have how : Ow (.sl e) (mun m' (mun m1 mj)) [v'] (xs ++ [y]) := ⟨v', m', mun m1 mj, rc ++ yc, rfl, hdj, mle_un_left _ _, mle_un_right hdj, by simpa using hA', hall⟩
    refine hK v' ((i, mun m' (mun m1 mj)) :: cdel (cdel Ω i) j) W' ⟨_, how, rfl⟩ ?_
    refine ⟨hi'.os, hi'.tape, hi'.output, hi'.size, fun p hp => ?_, List.pairwise_cons.2 ⟨fun p hp => ?_, (List.pairwise_cons.1 (List.pairwise_cons.1 hi'.dj).2).2⟩⟩
    · rcases List.mem_cons.1 hp with rfl | hp
      · exact mun_le (hi'.le (i, m') (.head _)) (hi'.le (j, mun m1 mj) (.tail _ (.head _)))
      · exact hi'.le p (.tail _ (.tail _ hp))
    · exact mdj_un ((List.pairwise_cons.1 hi'.dj).1 p (.tail _ hp)) ((List.pairwise_cons.1 (List.pairwise_cons.1 hi'.dj).2).1 p hp)
theorem VD.appO {tt q : Nat} {ss : List (Nat × Bool)} {ΩS : Ctx} {ty : TypeId} {pos : String} {af : Array Edge} {e : Ty} {s x : Operand} {t xt et xe : TypeId} {b dd g c : Nat} {v : Value} {xs : List e.Den} {y : e.Den} {yc z : List Value} (i j k : Nat) {m mj mk : Mem} (hd : Nat.blt dd n = true) (ho : ops[q]? = some ⟨some dd, .call { callee := .builtin .append, args := [s, x].toArray, argTypes := [t, xt].toArray }, ty, pos, af, none⟩) (hsv : ev σ s = some v) (hxv : ev σ x = some (.slice (some ⟨g, 0, none⟩) 1 c)) (ht : tsl P t = some (et, e.sz, b)) (hz : tz P et = some z) (hzl : z.length = e.sz)
    (hm : cget Ω i = some m) (hj : cget (cdel Ω i) j = some mj) (hk : cget Ω k = some mk) (hown : Ow (.sl e) m [v] xs) (hy : Ow e mj yc y) (hxt : P.underlying xt = some (.slice xe)) (hc : cellsAt mk g 0 e.sz yc) (hml : xs.length + 1 ≤ maxLen) (hb : (xs.length + 1) * b ≤ 140737488355328) (hb0 : b ≠ 0) (hS : ∀ m' W, Inv w0 ((i, m') :: cdel (cdel Ω i) j) W → Inv w0 ΩS W)
    (h : ∀ v' m', Ow (.sl e) m' [v'] (xs ++ [y]) → VD P n w0 ops ΩS tt ss ((dd, v') :: σ) ((i, m') :: cdel (cdel Ω i) j) K) : VD P n w0 ops ΩS tt ((q, false) :: ss) σ Ω K :=
  VD.s (fun v => (dd, v) :: σ) ho (fun v _ he => he.put hd v) (.inl rfl) (Stp.appO i j k hsv hxv ht hz hzl hm hj hk hown hy hxt hc hml hb hb0) (fun _ _ ⟨m', _, hΩ⟩ W hW => hS m' W (by subst hΩ; exact hW)) (fun v _ ⟨m', hp, hΩ⟩ => hΩ ▸ h v m' hp)
theorem VO.gmks {e : Ty} {dd : Nat} {t et : TypeId} {b k : Nat} {x u : Operand} {kk kk' : IntKind} {a : Int} {z : List Value} {y : e.Den} {jj : Nat} {b' : Bool} {r : List Oper} {ty : TypeId} {pos : String} {af : Array Edge} (i : Nat) (hd : Nat.blt dd n = true) (hg : gyes σ ops jj b') (hx : ev σ x = some (.int kk a)) (hu : ev σ u = some (.int kk' a)) (ha : a = k) (ht : tsl P t = some (et, e.sz, b)) (hz : tz P et = some z)
    (hy : Ow e mnil z y) (hml : k ≤ maxLen) (hb : k * b ≤ 140737488355328) (hb0 : b ≠ 0) (h : ∀ v m', Ow (.sl e) m' [v] (List.replicate k y) → VO P n w0 ops r ((dd, v) :: σ) ((i, m') :: Ω) K) :
    VO P n w0 ops (⟨some dd, .makeSlice t x u, ty, pos, af, some (jj, b')⟩ :: r) σ Ω K :=
  fun Q hQ act W he hi => wpList_step fun K' hK => by
    rw [if_pos (by simp [Region.wanted, yielded_of he hg])]
    obtain ⟨h1, i', h2, h3, h4⟩ := tsl_run ht
    obtain ⟨v, hv, hzero⟩ : ∃ v : Value, v.cells.toList = z ∧ i'.zero = some v := by
      unfold tz at hz
      rw [h2] at hz
      simp only at hz
      split at hz
      · rename_i v hv
        split at hz
        · simp only [Option.some.injEq] at hz; exact ⟨v, hz, hv⟩
        · cases hz
      · cases hz
    have hzl : z.length = e.sz := hy.len
    have hml' : (k : Int) ≤ 9223372036854775807 := by simp only [maxLen] at hml; omega
    have hcells : madeCells v.cells (k * e.sz) = ((List.replicate k z).flatten).toArray := by
      apply Array.toList_inj.1
      have hs : v.cells.size = e.sz := by rw [← hzl, ← hv]; simp
      unfold madeCells
      rw [Array.toList_map, Array.toList_range, hs]
      exact rep_cells hv hzl k
    have hrun : (Instr.makeSlice t (.int kk (k : Int)) (.int kk' (k : Int))).run P W = .ok (.slice (some ⟨W.heap.size, 0, none⟩) k k) (W.alloc (.cells ((List.replicate k z).flatten).toArray et (0, 0))) := by
      have hlim : (i'.bytes : Int) * (k : Int) ≤ 281474976710656 := by
        have : ((k * b : Nat) : Int) ≤ ((140737488355328 : Nat) : Int) := Int.ofNat_le.2 hb
        rw [h4, Int.mul_comm]
        rw [Int.natCast_mul] at this
        omega
      have := run_make (P := P) W t et i' v h1 h2 hzero kk kk' k k (by omega) (Int.le_refl _) hlim hml'
      simp only [Int.toNat_natCast, h3, hcells] at this
      exact this
    unfold Oper.wp
    have hex : (execOp act.eval ⟨some dd, .makeSlice t x u, ty, pos, af, some (jj, b')⟩).run P W = .ok (.value (.slice (some ⟨W.heap.size, 0, none⟩) k k)) (W.alloc (.cells ((List.replicate k z).flatten).toArray et (0, 0))) := by
      subst ha
      simp [execOp, he.eval hx, he.eval hu, hrun]
    rw [hex]
    have hl : (List.replicate k z).flatten.length = k * e.sz := by simp [hzl]
    have hA : OwnA e.sz (mone W.heap.size (.cells ((List.replicate k z).flatten).toArray et (0, 0))) (.slice (some ⟨W.heap.size, 0, none⟩) k k) k (List.replicate k z).flatten := by
      have := OwnA.row (sz := e.sz) W.heap.size 0 k k et (List.replicate k z).flatten (by rw [hl]; omega) (Nat.le_refl _) hml
      rwa [List.drop_zero, List.take_of_length_le (by rw [hl]; omega)] at this
    exact hK _ _ (h _ _ (Ow.cls (.two (mdj_nil _) (mle_refl _) (mle_nil _)) (by rw [List.length_replicate]; exact hA) (OwAll.rep hy k)) Q hQ _ _ (he.put hd _) (hi.alloc i _))
end
end
section
set_option linter.unusedVariables false
set_option linter.unusedSimpArgs false
set_option maxRecDepth 4000
theorem fnOk38 : fnOk Try.prog 38 = true := by kernel_rfl
theorem tk3 : tk Try.prog 3 = some none := by kernel_rfl
theorem tk4 : tk Try.prog 4 = some none := by kernel_rfl
theorem tst58 : tst Try.prog 58 = some [(0, 1), (1, 1), (2, 1), (3, 1), (4, 1), (5, 4), (9, 1)] := by kernel_rfl
theorem tst64 : tst Try.prog 64 = some [(0, 1), (1, 1), (2, 1), (3, 1)] := by kernel_rfl
theorem tz58 : tz Try.prog 58 = some [.bool false, .bool false, .bool false, .int .i64 0, .int .i64 0, .slice none 0 0, .slice none 0 0, .slice none 0 0, .slice none 0 0, .slice none 0 0] := by kernel_rfl
theorem tk27 : tk Try.prog 27 = some none := by kernel_rfl
theorem dNew_ok (W : World) : CallR Try.prog 10 [] W (mnil) (fun v m' => ∃ (s0 : Nat), v = .pointer (some ⟨s0, 0, none⟩) ∧ Ow (.ptr TdiskDisk) m' [.pointer (some ⟨s0, 0, none⟩)] (s0, newD)) := by
  refine CallR.ofA (n := 3) Try.func10 rfl rfl rfl ?_
  refine VC.rs ?_
  refine VO.as ?_
  refine VO.k1 0 ?_
  refine VC.rs ?_
  refine VO.y rfl (.bst (cs := [Value.bool true, Value.bool false, Value.bool false, Value.int .i64 (0), Value.int .i64 (0), Value.slice none (0) (0), Value.slice none (0) (0), Value.slice none (0) (0), Value.slice none (0) (0), Value.slice none (0) (0)]) rfl tst58 tz58 rfl) ?_
  refine VO.box (cs := [Value.bool true, Value.bool false, Value.bool false, Value.int .i64 (0), Value.int .i64 (0), Value.slice none (0) (0), Value.slice none (0) (0), Value.slice none (0) (0), Value.slice none (0) (0), Value.slice none (0) (0)]) 102 rfl rfl rfl (fun g1 => ?_)
  refine VO.as ?_
  refine VO.k1 0 ?_
  refine VC.ret ?_
  refine ⟨_, _, res_run (rs := [.tmp 0]) rfl (.tmp rfl .nil), fun W_ hI => out_of (l := [mone g1 (.cells [Value.bool true, Value.bool false, Value.bool false, Value.int .i64 (0), Value.int .i64 (0), Value.slice none (0) (0), Value.slice none (0) (0), Value.slice none (0) (0), Value.slice none (0) (0), Value.slice none (0) (0)].toArray 58 (0, 0))]) hI [102] rfl rfl (mle_refl _) (fun hS_ => ?_)⟩
  dsimp only [packV]
  have he0 : (newD : DdiskDisk) = (true, false, false, 0, 0, ([], [], [], []), []) := by first | rfl | (simp [*]; done)
  refine ⟨g1, ?_, ?_⟩
  rotate_left
  · rw [he0]; exact (mkP_diskDisk true false false 0 0 [] [] [] [] [] (Seps.nilAt 5 (Seps.nilAt 4 (Seps.nilAt 3 (Seps.nilAt 2 (Seps.nilAt 1 hS_))))) bdk bdk (Ow.nil _ _) (Ow.nil _ _) (Ow.nil _ _) (Ow.nil _ _) (Ow.nil _ _))
  all_goals (first | rfl | (simp [*]; done))
theorem dIs_ok (W : World) (d0 : Int) (h0 : inK .i64 d0) : CallR Try.prog 39 [.int .i64 d0] W (mnil) (fun v m' => v = .bool (decide (inF d0))) := by
  have h0' := h0; simp only [inK] at h0'
  refine CallR.ofA (n := 9) Try.func39 rfl rfl rfl ?_
  refine VC.rs ?_
  refine VO.as ?_
  refine VO.k2 0 2 ?_
  refine VC.rs ?_
  refine VO.mv ?_
  refine VO.y rfl (.geq rfl rfl) ?_
  refine VO.mv ?_
  refine VO.dec (t := 5) rfl (fun hc1 => ?_) (fun hc1 => ?_)
  · -- T
    refine VO.gy rfl ⟨_, rfl, rfl⟩ (.mv rfl) ?_
    refine VO.gy rfl ⟨_, rfl, rfl⟩ (.lss rfl rfl) ?_
    refine VO.y rfl (.pT rfl rfl) ?_
    refine VO.as ?_
    refine VO.k2 0 2 ?_
    refine VC.ret ?_
    refine ⟨_, _, res_run (rs := [.tmp 2]) rfl (.tmp rfl .nil), fun W_ hI => out_of (l := []) hI [] rfl rfl (mle_refl _) (fun hS_ => ?_)⟩
    dsimp only [packV]
    all_goals (first | rfl | (simp [inF, *]))
  · -- F
    refine VO.gN ?_
    refine VO.gN ?_
    refine VO.y rfl (.pF rfl rfl) ?_
    refine VO.as ?_
    refine VO.k2 0 2 ?_
    refine VC.ret ?_
    refine ⟨_, _, res_run (rs := [.tmp 2]) rfl (.tmp rfl .nil), fun W_ hI => out_of (l := []) hI [] rfl rfl (mle_refl _) (fun hS_ => ?_)⟩
    dsimp only [packV]
    all_goals (first | rfl | (simp [inF, *]))
theorem dNone_ok (W : World) {m0 : Mem} (hm : mle (m0) (wm W)) {g0 : Nat} {d0 : DdiskDisk} (h0 : Ow (.ptr TdiskDisk) m0 [.pointer (some ⟨g0, 0, none⟩)] (g0, d0)) : CallR Try.prog 38 [.pointer (some ⟨g0, 0, none⟩)] W (m0) (fun v m' => v = .bool (decide (d0.1 = false)) ∧ Ow (.ptr TdiskDisk) m' [.pointer (some ⟨g0, 0, none⟩)] (g0, d0)) := by
  refine CallR.ofB (n := 12) hm Try.func38 rfl rfl rfl ?_
  refine VC.rs ?_
  refine VO.as ?_
  refine VO.k2 0 2 ?_
  refine VC.rs ?_
  refine VO.mv ?_
  refine VO.y rfl (.pnil rfl rfl Try.underlying25 rfl) ?_
  refine VO.mv ?_
  refine VO.gy rfl ⟨_, rfl, rfl⟩ (.mv rfl) ?_
  refine VO.gy rfl ⟨_, rfl, rfl⟩ (.nilp rfl) ?_
  refine VO.gy rfl ⟨_, rfl, rfl⟩ (.fa rfl tst58 rfl) ?_
  obtain ⟨q1_E, q1_A5, q1_c5, q1_A6, q1_c6, q1_A7, q1_c7, q1_A8, q1_c8, q1_A9, q1_c9, q1_n5, q1_n6, q1_n7, q1_n8, q1_n9, _, q1_S, q1_3, q1_4, q1_5, q1_6, q1_7, q1_8, q1_9⟩ := openP_diskDisk (x0 := d0.1) (x1 := d0.2.1) (x2 := d0.2.2.1) (x3 := d0.2.2.2.1) (x4 := d0.2.2.2.2.1) (x5 := d0.2.2.2.2.2.1.1) (x6 := d0.2.2.2.2.2.1.2.1) (x7 := d0.2.2.2.2.2.1.2.2.1) (x8 := d0.2.2.2.2.2.1.2.2.2) (x9 := d0.2.2.2.2.2.2) h0
  simp only [inK] at q1_3
  simp only [inK] at q1_4
  have q1_r5 := Rd.room (q1_5.rd (mle_refl _))
  have q1_r6 := Rd.room (q1_6.rd (mle_refl _))
  have q1_r7 := Rd.room (q1_7.rd (mle_refl _))
  have q1_r8 := Rd.room (q1_8.rd (mle_refl _))
  have q1_r9 := Rd.room (q1_9.rd (mle_refl _))
  refine VO.inv _ (fun _ h => h.parts (i := 1) rfl q1_S [107, 102, 103, 104, 105, 106]) ?_
  refine VO.gy rfl ⟨_, rfl, rfl⟩ (.ld1 107 rfl tk4 rfl (cellsAt_one rfl rfl)) ?_
  refine VO.gy rfl ⟨_, rfl, rfl⟩ (.not rfl) ?_
  refine VO.y rfl (.pF rfl rfl) ?_
  refine VO.as ?_
  refine VO.gather (l := [mone g0 (.cells [Value.bool d0.1, Value.bool d0.2.1, Value.bool d0.2.2.1, Value.int .i64 (d0.2.2.2.1), Value.int .i64 (d0.2.2.2.2.1), Value.slice q1_A5 (d0.2.2.2.2.2.1.1.length) (q1_c5), Value.slice q1_A6 (d0.2.2.2.2.2.1.2.1.length) (q1_c6), Value.slice q1_A7 (d0.2.2.2.2.2.1.2.2.1.length) (q1_c7), Value.slice q1_A8 (d0.2.2.2.2.2.1.2.2.2.length) (q1_c8), Value.slice q1_A9 (d0.2.2.2.2.2.2.length) (q1_c9)].toArray q1_E (0, 0)), q1_n5, q1_n6, q1_n7, q1_n8, q1_n9]) 108 [107, 102, 103, 104, 105, 106] rfl (fun hg8 => ?_)
  have ho8 : Ow (.ptr TdiskDisk) (muns [mone g0 (.cells [Value.bool d0.1, Value.bool d0.2.1, Value.bool d0.2.2.1, Value.int .i64 (d0.2.2.2.1), Value.int .i64 (d0.2.2.2.2.1), Value.slice q1_A5 (d0.2.2.2.2.2.1.1.length) (q1_c5), Value.slice q1_A6 (d0.2.2.2.2.2.1.2.1.length) (q1_c6), Value.slice q1_A7 (d0.2.2.2.2.2.1.2.2.1.length) (q1_c7), Value.slice q1_A8 (d0.2.2.2.2.2.1.2.2.2.length) (q1_c8), Value.slice q1_A9 (d0.2.2.2.2.2.2.length) (q1_c9)].toArray q1_E (0, 0)), q1_n5, q1_n6, q1_n7, q1_n8, q1_n9]) [.pointer (some ⟨g0, 0, none⟩)] (g0, d0) := (show Ow (.ptr TdiskDisk) _ _ (_, d0) from (mkP_diskDisk d0.1 d0.2.1 d0.2.2.1 d0.2.2.2.1 d0.2.2.2.2.1 d0.2.2.2.2.2.1.1 d0.2.2.2.2.2.1.2.1 d0.2.2.2.2.2.1.2.2.1 d0.2.2.2.2.2.1.2.2.2 d0.2.2.2.2.2.2 hg8 bdk bdk (OwnL.ow (Ow.ownl q1_5 rfl mnil) rfl) (OwnL.ow (Ow.ownl q1_6 rfl mnil) rfl) (OwnL.ow (Ow.ownl q1_7 rfl mnil) rfl) (OwnL.ow (Ow.ownl q1_8 rfl mnil) rfl) q1_9))
  refine VO.k2 0 2 ?_
  refine VC.ret ?_
  refine ⟨_, _, res_run (rs := [.tmp 2]) rfl (.tmp rfl .nil), fun W_ hI => out_of (l := [muns [mone g0 (.cells [Value.bool d0.1, Value.bool d0.2.1, Value.bool d0.2.2.1, Value.int .i64 (d0.2.2.2.1), Value.int .i64 (d0.2.2.2.2.1), Value.slice q1_A5 (d0.2.2.2.2.2.1.1.length) (q1_c5), Value.slice q1_A6 (d0.2.2.2.2.2.1.2.1.length) (q1_c6), Value.slice q1_A7 (d0.2.2.2.2.2.1.2.2.1.length) (q1_c7), Value.slice q1_A8 (d0.2.2.2.2.2.1.2.2.2.length) (q1_c8), Value.slice q1_A9 (d0.2.2.2.2.2.2.length) (q1_c9)].toArray q1_E (0, 0)), q1_n5, q1_n6, q1_n7, q1_n8, q1_n9]]) hI [108] rfl rfl (mle_refl _) (fun hS_ => ?_)⟩
  dsimp only [packV]
  have hm0_ : (d0 : DdiskDisk) = d0 := by first | rfl | (simp [*]; done)
  refine ⟨?_, ?_⟩
  rotate_left
  · rw [hm0_]; exact (Ow.up ho8 (hS_.1 _ (.head _)))
  all_goals (first | rfl | (cases d0.1 <;> rfl))
theorem dWrong_ok (W : World) {m0 : Mem} (hm : mle (m0) (wm W)) {g0 : Nat} {d0 : DdiskDisk} (h0 : Ow (.ptr TdiskDisk) m0 [.pointer (some ⟨g0, 0, none⟩)] (g0, d0)) : CallR Try.prog 35 [.pointer (some ⟨g0, 0, none⟩)] W (m0) (fun v m' => v = .int .i64 (wrongD d0) ∧ Ow (.ptr TdiskDisk) m' [.pointer (some ⟨g0, 0, none⟩)] (g0, d0)) := by
  refine CallR.ofB (n := 11) hm Try.func35 rfl rfl rfl ?_
  refine VC.rs ?_
  refine VO.as ?_
  refine VO.k2 0 2 ?_
  refine VC.seq ?_
  refine VC.block ?_
  refine VC.rs ?_
  refine VO.mv ?_
  refine VO.call 1 rfl fnOk38 rfl rfl (fun W hW => dNone_ok W (hW.at (i := 1) rfl) h0) (fun v1 m1 hv1 => ?_)
  obtain ⟨rfl, w1_0⟩ := hv1
  refine VO.as ?_
  refine VO.k3 0 2 3 ?_
  refine VC.cond rfl (fun hc2 => ?_) (fun hc2 => ?_)
  · -- T
    refine VC.rs ?_
    refine VO.as ?_
    refine VO.keep [1, 0] [(1, m1), (0, mout (wm W) (m0))] (by kernel_rfl) ?_
    refine VO.k3 0 2 3 ?_
    refine VC.ret ?_
    refine outBR ?_
    refine outR ?_
    refine ⟨_, _, res_run (rs := [.tmp 2]) rfl (.tmp rfl .nil), fun W_ hI => out_of (l := [m1]) hI [1] rfl rfl (mle_refl _) (fun hS_ => ?_)⟩
    dsimp only [packV]
    have hm0_ : (d0 : DdiskDisk) = d0 := by first | rfl | (simp [*]; done)
    refine ⟨?_, ?_⟩
    rotate_left
    · rw [hm0_]; exact (Ow.up w1_0 (hS_.1 _ (.head _)))
    all_goals (first | rfl | (simp [wrongD, *]))
  · -- F
    refine VC.rs ?_
    refine VO.mv ?_
    refine VO.y rfl (.nilp rfl) ?_
    refine VO.y rfl (.fa rfl tst58 rfl) ?_
    obtain ⟨q3_E, q3_A5, q3_c5, q3_A6, q3_c6, q3_A7, q3_c7, q3_A8, q3_c8, q3_A9, q3_c9, q3_n5, q3_n6, q3_n7, q3_n8, q3_n9, _, q3_S, q3_3, q3_4, q3_5, q3_6, q3_7, q3_8, q3_9⟩ := openP_diskDisk (x0 := d0.1) (x1 := d0.2.1) (x2 := d0.2.2.1) (x3 := d0.2.2.2.1) (x4 := d0.2.2.2.2.1) (x5 := d0.2.2.2.2.2.1.1) (x6 := d0.2.2.2.2.2.1.2.1) (x7 := d0.2.2.2.2.2.1.2.2.1) (x8 := d0.2.2.2.2.2.1.2.2.2) (x9 := d0.2.2.2.2.2.2) w1_0
    simp only [inK] at q3_3
    simp only [inK] at q3_4
    have q3_r5 := Rd.room (q3_5.rd (mle_refl _))
    have q3_r6 := Rd.room (q3_6.rd (mle_refl _))
    have q3_r7 := Rd.room (q3_7.rd (mle_refl _))
    have q3_r8 := Rd.room (q3_8.rd (mle_refl _))
    have q3_r9 := Rd.room (q3_9.rd (mle_refl _))
    refine VO.inv _ (fun _ h => h.parts (i := 1) rfl q3_S [109, 104, 105, 106, 107, 108]) ?_
    refine VO.y rfl (.ld1 109 rfl tk4 rfl (cellsAt_one rfl rfl)) ?_
    refine VO.as ?_
    refine VO.gather (l := [mone g0 (.cells [Value.bool d0.1, Value.bool d0.2.1, Value.bool d0.2.2.1, Value.int .i64 (d0.2.2.2.1), Value.int .i64 (d0.2.2.2.2.1), Value.slice q3_A5 (d0.2.2.2.2.2.1.1.length) (q3_c5), Value.slice q3_A6 (d0.2.2.2.2.2.1.2.1.length) (q3_c6), Value.slice q3_A7 (d0.2.2.2.2.2.1.2.2.1.length) (q3_c7), Value.slice q3_A8 (d0.2.2.2.2.2.1.2.2.2.length) (q3_c8), Value.slice q3_A9 (d0.2.2.2.2.2.2.length) (q3_c9)].toArray q3_E (0, 0)), q3_n5, q3_n6, q3_n7, q3_n8, q3_n9]) 110 [109, 104, 105, 106, 107, 108] rfl (fun hg10 => ?_)
    have ho10 : Ow (.ptr TdiskDisk) (muns [mone g0 (.cells [Value.bool d0.1, Value.bool d0.2.1, Value.bool d0.2.2.1, Value.int .i64 (d0.2.2.2.1), Value.int .i64 (d0.2.2.2.2.1), Value.slice q3_A5 (d0.2.2.2.2.2.1.1.length) (q3_c5), Value.slice q3_A6 (d0.2.2.2.2.2.1.2.1.length) (q3_c6), Value.slice q3_A7 (d0.2.2.2.2.2.1.2.2.1.length) (q3_c7), Value.slice q3_A8 (d0.2.2.2.2.2.1.2.2.2.length) (q3_c8), Value.slice q3_A9 (d0.2.2.2.2.2.2.length) (q3_c9)].toArray q3_E (0, 0)), q3_n5, q3_n6, q3_n7, q3_n8, q3_n9]) [.pointer (some ⟨g0, 0, none⟩)] (g0, d0) := (show Ow (.ptr TdiskDisk) _ _ (_, d0) from (mkP_diskDisk d0.1 d0.2.1 d0.2.2.1 d0.2.2.2.1 d0.2.2.2.2.1 d0.2.2.2.2.2.1.1 d0.2.2.2.2.2.1.2.1 d0.2.2.2.2.2.1.2.2.1 d0.2.2.2.2.2.1.2.2.2 d0.2.2.2.2.2.2 hg10 bdk bdk (OwnL.ow (Ow.ownl q3_5 rfl mnil) rfl) (OwnL.ow (Ow.ownl q3_6 rfl mnil) rfl) (OwnL.ow (Ow.ownl q3_7 rfl mnil) rfl) (OwnL.ow (Ow.ownl q3_8 rfl mnil) rfl) q3_9))
    refine VO.keep [110, 0] [(110, muns [mone g0 (.cells [Value.bool d0.1, Value.bool d0.2.1, Value.bool d0.2.2.1, Value.int .i64 (d0.2.2.2.1), Value.int .i64 (d0.2.2.2.2.1), Value.slice q3_A5 (d0.2.2.2.2.2.1.1.length) (q3_c5), Value.slice q3_A6 (d0.2.2.2.2.2.1.2.1.length) (q3_c6), Value.slice q3_A7 (d0.2.2.2.2.2.1.2.2.1.length) (q3_c7), Value.slice q3_A8 (d0.2.2.2.2.2.1.2.2.2.length) (q3_c8), Value.slice q3_A9 (d0.2.2.2.2.2.2.length) (q3_c9)].toArray q3_E (0, 0)), q3_n5, q3_n6, q3_n7, q3_n8, q3_n9]), (0, mout (wm W) (m0))] (by kernel_rfl) ?_
    refine VO.k4 0 2 3 6 ?_
    refine VC.condB rfl (fun hc11 => ?_) (fun hc11 => ?_)
    · -- FT
      refine VC.rs ?_
      refine VO.as ?_
      refine VO.k4 0 2 3 6 ?_
      refine VC.ret ?_
      refine outBR ?_
      refine outR ?_
      refine ⟨_, _, res_run (rs := [.tmp 2]) rfl (.tmp rfl .nil), fun W_ hI => out_of (l := [muns [mone g0 (.cells [Value.bool d0.1, Value.bool d0.2.1, Value.bool d0.2.2.1, Value.int .i64 (d0.2.2.2.1), Value.int .i64 (d0.2.2.2.2.1), Value.slice q3_A5 (d0.2.2.2.2.2.1.1.length) (q3_c5), Value.slice q3_A6 (d0.2.2.2.2.2.1.2.1.length) (q3_c6), Value.slice q3_A7 (d0.2.2.2.2.2.1.2.2.1.length) (q3_c7), Value.slice q3_A8 (d0.2.2.2.2.2.1.2.2.2.length) (q3_c8), Value.slice q3_A9 (d0.2.2.2.2.2.2.length) (q3_c9)].toArray q3_E (0, 0)), q3_n5, q3_n6, q3_n7, q3_n8, q3_n9]]) hI [110] rfl rfl (mle_refl _) (fun hS_ => ?_)⟩
      dsimp only [packV]
      have hm0_ : (d0 : DdiskDisk) = d0 := by first | rfl | (simp [*]; done)
      refine ⟨?_, ?_⟩
      rotate_left
      · rw [hm0_]; exact (Ow.up ho10 (hS_.1 _ (.head _)))
      all_goals (first | rfl | (simp [wrongD, *]))
    · -- FF
      refine VC.skip ?_
      refine outBN ?_
      refine outN ?_
      refine VC.rs ?_
      refine VO.as ?_
      refine VO.k4 0 2 3 6 ?_
      refine VC.ret ?_
      refine ⟨_, _, res_run (rs := [.tmp 2]) rfl (.tmp rfl .nil), fun W_ hI => out_of (l := [muns [mone g0 (.cells [Value.bool d0.1, Value.bool d0.2.1, Value.bool d0.2.2.1, Value.int .i64 (d0.2.2.2.1), Value.int .i64 (d0.2.2.2.2.1), Value.slice q3_A5 (d0.2.2.2.2.2.1.1.length) (q3_c5), Value.slice q3_A6 (d0.2.2.2.2.2.1.2.1.length) (q3_c6), Value.slice q3_A7 (d0.2.2.2.2.2.1.2.2.1.length) (q3_c7), Value.slice q3_A8 (d0.2.2.2.2.2.1.2.2.2.length) (q3_c8), Value.slice q3_A9 (d0.2.2.2.2.2.2.length) (q3_c9)].toArray q3_E (0, 0)), q3_n5, q3_n6, q3_n7, q3_n8, q3_n9]]) hI [110] rfl rfl (mle_refl _) (fun hS_ => ?_)⟩
      dsimp only [packV]
      have hm0_ : (d0 : DdiskDisk) = d0 := by first | rfl | (simp [*]; done)
      refine ⟨?_, ?_⟩
      rotate_left
      · rw [hm0_]; exact (Ow.up ho10 (hS_.1 _ (.head _)))
      all_goals (first | rfl | (simp [wrongD, *]))
theorem dBurn_ok (W : World) {m0 : Mem} (hm : mle (m0) (wm W)) {g0 : Nat} {d0 : DdiskDisk} (h0 : Ow (.ptr TdiskDisk) m0 [.pointer (some ⟨g0, 0, none⟩)] (g0, d0)) (e0 : okD d0) (e1 : wD d0 ≤ 2*1000000000000) : CallR Try.prog 36 [.pointer (some ⟨g0, 0, none⟩)] W (m0) (fun v m' => v = .bool (decide ((burnD d0).2 = true)) ∧ Ow (.ptr TdiskDisk) m' [.pointer (some ⟨g0, 0, none⟩)] (g0, (burnD d0).1)) := by
  obtain ⟨hg, hfu, hst⟩ := e0; simp only [wD] at e1
  refine CallR.ofB (n := 29) hm Try.func36 rfl rfl rfl ?_
  refine VC.rs ?_
  refine VO.as ?_
  refine VO.k2 0 2 ?_
  refine VC.seq ?_
  refine VC.rs ?_
  refine VO.mv ?_
  refine VO.y rfl (.nilp rfl) ?_
  refine VO.y rfl (.fa rfl tst58 rfl) ?_
  obtain ⟨q1_E, q1_A5, q1_c5, q1_A6, q1_c6, q1_A7, q1_c7, q1_A8, q1_c8, q1_A9, q1_c9, q1_n5, q1_n6, q1_n7, q1_n8, q1_n9, _, q1_S, q1_3, q1_4, q1_5, q1_6, q1_7, q1_8, q1_9⟩ := openP_diskDisk (x0 := d0.1) (x1 := d0.2.1) (x2 := d0.2.2.1) (x3 := d0.2.2.2.1) (x4 := d0.2.2.2.2.1) (x5 := d0.2.2.2.2.2.1.1) (x6 := d0.2.2.2.2.2.1.2.1) (x7 := d0.2.2.2.2.2.1.2.2.1) (x8 := d0.2.2.2.2.2.1.2.2.2) (x9 := d0.2.2.2.2.2.2) h0
  simp only [inK] at q1_3
  simp only [inK] at q1_4
  have q1_r5 := Rd.room (q1_5.rd (mle_refl _))
  have q1_r6 := Rd.room (q1_6.rd (mle_refl _))
  have q1_r7 := Rd.room (q1_7.rd (mle_refl _))
  have q1_r8 := Rd.room (q1_8.rd (mle_refl _))
  have q1_r9 := Rd.room (q1_9.rd (mle_refl _))
  refine VO.inv _ (fun _ h => h.parts (i := 1) rfl q1_S [107, 102, 103, 104, 105, 106]) ?_
  refine VO.y rfl (.ld1 107 rfl tk4 rfl (cellsAt_one rfl rfl)) ?_
  refine VO.gather (l := [mone g0 (.cells [Value.bool d0.1, Value.bool d0.2.1, Value.bool d0.2.2.1, Value.int .i64 (d0.2.2.2.1), Value.int .i64 (d0.2.2.2.2.1), Value.slice q1_A5 (d0.2.2.2.2.2.1.1.length) (q1_c5), Value.slice q1_A6 (d0.2.2.2.2.2.1.2.1.length) (q1_c6), Value.slice q1_A7 (d0.2.2.2.2.2.1.2.2.1.length) (q1_c7), Value.slice q1_A8 (d0.2.2.2.2.2.1.2.2.2.length) (q1_c8), Value.slice q1_A9 (d0.2.2.2.2.2.2.length) (q1_c9)].toArray q1_E (0, 0)), q1_n5, q1_n6, q1_n7, q1_n8, q1_n9]) 108 [107, 102, 103, 104, 105, 106] rfl (fun hg8 => ?_)
  have ho8 : Ow (.ptr TdiskDisk) (muns [mone g0 (.cells [Value.bool d0.1, Value.bool d0.2.1, Value.bool d0.2.2.1, Value.int .i64 (d0.2.2.2.1), Value.int .i64 (d0.2.2.2.2.1), Value.slice q1_A5 (d0.2.2.2.2.2.1.1.length) (q1_c5), Value.slice q1_A6 (d0.2.2.2.2.2.1.2.1.length) (q1_c6), Value.slice q1_A7 (d0.2.2.2.2.2.1.2.2.1.length) (q1_c7), Value.slice q1_A8 (d0.2.2.2.2.2.1.2.2.2.length) (q1_c8), Value.slice q1_A9 (d0.2.2.2.2.2.2.length) (q1_c9)].toArray q1_E (0, 0)), q1_n5, q1_n6, q1_n7, q1_n8, q1_n9]) [.pointer (some ⟨g0, 0, none⟩)] (g0, d0) := (show Ow (.ptr TdiskDisk) _ _ (_, d0) from (mkP_diskDisk d0.1 d0.2.1 d0.2.2.1 d0.2.2.2.1 d0.2.2.2.2.1 d0.2.2.2.2.2.1.1 d0.2.2.2.2.2.1.2.1 d0.2.2.2.2.2.1.2.2.1 d0.2.2.2.2.2.1.2.2.2 d0.2.2.2.2.2.2 hg8 bdk bdk (OwnL.ow (Ow.ownl q1_5 rfl mnil) rfl) (OwnL.ow (Ow.ownl q1_6 rfl mnil) rfl) (OwnL.ow (Ow.ownl q1_7 rfl mnil) rfl) (OwnL.ow (Ow.ownl q1_8 rfl mnil) rfl) q1_9))
  refine VO.k3 0 2 6 ?_
  refine VC.condB rfl (fun hc9 => ?_) (fun hc9 => ?_)
  · -- T
    refine VC.seq ?_
    refine VC.rs ?_
    refine VO.mv ?_
    refine VO.y rfl (.nilp rfl) ?_
    refine VO.y rfl (.fa rfl tst58 rfl) ?_
    obtain ⟨q10_E, q10_A5, q10_c5, q10_A6, q10_c6, q10_A7, q10_c7, q10_A8, q10_c8, q10_A9, q10_c9, q10_n5, q10_n6, q10_n7, q10_n8, q10_n9, _, q10_S, q10_3, q10_4, q10_5, q10_6, q10_7, q10_8, q10_9⟩ := openP_diskDisk (x0 := d0.1) (x1 := d0.2.1) (x2 := d0.2.2.1) (x3 := d0.2.2.2.1) (x4 := d0.2.2.2.2.1) (x5 := d0.2.2.2.2.2.1.1) (x6 := d0.2.2.2.2.2.1.2.1) (x7 := d0.2.2.2.2.2.1.2.2.1) (x8 := d0.2.2.2.2.2.1.2.2.2) (x9 := d0.2.2.2.2.2.2) ho8
    simp only [inK] at q10_3
    simp only [inK] at q10_4
    have q10_r5 := Rd.room (q10_5.rd (mle_refl _))
    have q10_r6 := Rd.room (q10_6.rd (mle_refl _))
    have q10_r7 := Rd.room (q10_7.rd (mle_refl _))
    have q10_r8 := Rd.room (q10_8.rd (mle_refl _))
    have q10_r9 := Rd.room (q10_9.rd (mle_refl _))
    refine VO.inv _ (fun _ h => h.parts (i := 108) rfl q10_S [116, 111, 112, 113, 114, 115]) ?_
    refine VO.y rfl (.ld1 116 rfl tk3 rfl (cellsAt_one rfl rfl)) ?_
    refine VO.y rfl (.eql rfl rfl) ?_
    refine VO.gather (l := [mone g0 (.cells [Value.bool d0.1, Value.bool d0.2.1, Value.bool d0.2.2.1, Value.int .i64 (d0.2.2.2.1), Value.int .i64 (d0.2.2.2.2.1), Value.slice q10_A5 (d0.2.2.2.2.2.1.1.length) (q10_c5), Value.slice q10_A6 (d0.2.2.2.2.2.1.2.1.length) (q10_c6), Value.slice q10_A7 (d0.2.2.2.2.2.1.2.2.1.length) (q10_c7), Value.slice q10_A8 (d0.2.2.2.2.2.1.2.2.2.length) (q10_c8), Value.slice q10_A9 (d0.2.2.2.2.2.2.length) (q10_c9)].toArray q10_E (0, 0)), q10_n5, q10_n6, q10_n7, q10_n8, q10_n9]) 117 [116, 111, 112, 113, 114, 115] rfl (fun hg17 => ?_)
    have ho17 : Ow (.ptr TdiskDisk) (muns [mone g0 (.cells [Value.bool d0.1, Value.bool d0.2.1, Value.bool d0.2.2.1, Value.int .i64 (d0.2.2.2.1), Value.int .i64 (d0.2.2.2.2.1), Value.slice q10_A5 (d0.2.2.2.2.2.1.1.length) (q10_c5), Value.slice q10_A6 (d0.2.2.2.2.2.1.2.1.length) (q10_c6), Value.slice q10_A7 (d0.2.2.2.2.2.1.2.2.1.length) (q10_c7), Value.slice q10_A8 (d0.2.2.2.2.2.1.2.2.2.length) (q10_c8), Value.slice q10_A9 (d0.2.2.2.2.2.2.length) (q10_c9)].toArray q10_E (0, 0)), q10_n5, q10_n6, q10_n7, q10_n8, q10_n9]) [.pointer (some ⟨g0, 0, none⟩)] (g0, d0) := (show Ow (.ptr TdiskDisk) _ _ (_, d0) from (mkP_diskDisk d0.1 d0.2.1 d0.2.2.1 d0.2.2.2.1 d0.2.2.2.2.1 d0.2.2.2.2.2.1.1 d0.2.2.2.2.2.1.2.1 d0.2.2.2.2.2.1.2.2.1 d0.2.2.2.2.2.1.2.2.2 d0.2.2.2.2.2.2 hg17 bdk bdk (OwnL.ow (Ow.ownl q10_5 rfl mnil) rfl) (OwnL.ow (Ow.ownl q10_6 rfl mnil) rfl) (OwnL.ow (Ow.ownl q10_7 rfl mnil) rfl) (OwnL.ow (Ow.ownl q10_8 rfl mnil) rfl) q10_9))
    refine VO.keep [117, 0] [(117, muns [mone g0 (.cells [Value.bool d0.1, Value.bool d0.2.1, Value.bool d0.2.2.1, Value.int .i64 (d0.2.2.2.1), Value.int .i64 (d0.2.2.2.2.1), Value.slice q10_A5 (d0.2.2.2.2.2.1.1.length) (q10_c5), Value.slice q10_A6 (d0.2.2.2.2.2.1.2.1.length) (q10_c6), Value.slice q10_A7 (d0.2.2.2.2.2.1.2.2.1.length) (q10_c7), Value.slice q10_A8 (d0.2.2.2.2.2.1.2.2.2.length) (q10_c8), Value.slice q10_A9 (d0.2.2.2.2.2.2.length) (q10_c9)].toArray q10_E (0, 0)), q10_n5, q10_n6, q10_n7, q10_n8, q10_n9]), (0, mout (wm W) (m0))] (by kernel_rfl) ?_
    refine VO.k4 0 2 6 11 ?_
    refine VC.cond rfl (fun hc18 => ?_) (fun hc18 => ?_)
    · -- TT
      refine VC.rs ?_
      refine VO.mv ?_
      refine VO.y rfl (.nilp rfl) ?_
      refine VO.y rfl (.fa rfl tst58 rfl) ?_
      obtain ⟨q19_E, q19_A5, q19_c5, q19_A6, q19_c6, q19_A7, q19_c7, q19_A8, q19_c8, q19_A9, q19_c9, q19_n5, q19_n6, q19_n7, q19_n8, q19_n9, _, q19_S, q19_3, q19_4, q19_5, q19_6, q19_7, q19_8, q19_9⟩ := openP_diskDisk (x0 := d0.1) (x1 := d0.2.1) (x2 := d0.2.2.1) (x3 := d0.2.2.2.1) (x4 := d0.2.2.2.2.1) (x5 := d0.2.2.2.2.2.1.1) (x6 := d0.2.2.2.2.2.1.2.1) (x7 := d0.2.2.2.2.2.1.2.2.1) (x8 := d0.2.2.2.2.2.1.2.2.2) (x9 := d0.2.2.2.2.2.2) ho17
      simp only [inK] at q19_3
      simp only [inK] at q19_4
      have q19_r5 := Rd.room (q19_5.rd (mle_refl _))
      have q19_r6 := Rd.room (q19_6.rd (mle_refl _))
      have q19_r7 := Rd.room (q19_7.rd (mle_refl _))
      have q19_r8 := Rd.room (q19_8.rd (mle_refl _))
      have q19_r9 := Rd.room (q19_9.rd (mle_refl _))
      refine VO.inv _ (fun _ h => h.parts (i := 117) rfl q19_S [125, 120, 121, 122, 123, 124]) ?_
      refine VO.store (k := 1) (c' := [Value.bool d0.1, Value.bool true, Value.bool d0.2.2.1, Value.int .i64 (d0.2.2.2.1), Value.int .i64 (d0.2.2.2.2.1), Value.slice q19_A5 (d0.2.2.2.2.2.1.1.length) (q19_c5), Value.slice q19_A6 (d0.2.2.2.2.2.1.2.1.length) (q19_c6), Value.slice q19_A7 (d0.2.2.2.2.2.1.2.2.1.length) (q19_c7), Value.slice q19_A8 (d0.2.2.2.2.2.1.2.2.2.length) (q19_c8), Value.slice q19_A9 (d0.2.2.2.2.2.2.length) (q19_c9)]) 125 rfl rfl (.inr ⟨tk4, rfl⟩) rfl rfl rfl rfl rfl ?_
      refine VO.gather (l := [mone g0 (.cells [Value.bool d0.1, Value.bool true, Value.bool d0.2.2.1, Value.int .i64 (d0.2.2.2.1), Value.int .i64 (d0.2.2.2.2.1), Value.slice q19_A5 (d0.2.2.2.2.2.1.1.length) (q19_c5), Value.slice q19_A6 (d0.2.2.2.2.2.1.2.1.length) (q19_c6), Value.slice q19_A7 (d0.2.2.2.2.2.1.2.2.1.length) (q19_c7), Value.slice q19_A8 (d0.2.2.2.2.2.1.2.2.2.length) (q19_c8), Value.slice q19_A9 (d0.2.2.2.2.2.2.length) (q19_c9)].toArray q19_E (0, 0)), q19_n5, q19_n6, q19_n7, q19_n8, q19_n9]) 126 [125, 120, 121, 122, 123, 124] rfl (fun hg26 => ?_)
      have ho26 : Ow (.ptr TdiskDisk) (muns [mone g0 (.cells [Value.bool d0.1, Value.bool true, Value.bool d0.2.2.1, Value.int .i64 (d0.2.2.2.1), Value.int .i64 (d0.2.2.2.2.1), Value.slice q19_A5 (d0.2.2.2.2.2.1.1.length) (q19_c5), Value.slice q19_A6 (d0.2.2.2.2.2.1.2.1.length) (q19_c6), Value.slice q19_A7 (d0.2.2.2.2.2.1.2.2.1.length) (q19_c7), Value.slice q19_A8 (d0.2.2.2.2.2.1.2.2.2.length) (q19_c8), Value.slice q19_A9 (d0.2.2.2.2.2.2.length) (q19_c9)].toArray q19_E (0, 0)), q19_n5, q19_n6, q19_n7, q19_n8, q19_n9]) [.pointer (some ⟨g0, 0, none⟩)] (g0, (d0.1, true, d0.2.2)) := (mkP_diskDisk d0.1 true d0.2.2.1 d0.2.2.2.1 d0.2.2.2.2.1 d0.2.2.2.2.2.1.1 d0.2.2.2.2.2.1.2.1 d0.2.2.2.2.2.1.2.2.1 d0.2.2.2.2.2.1.2.2.2 d0.2.2.2.2.2.2 hg26 bdk bdk (OwnL.ow (Ow.ownl q19_5 rfl mnil) rfl) (OwnL.ow (Ow.ownl q19_6 rfl mnil) rfl) (OwnL.ow (Ow.ownl q19_7 rfl mnil) rfl) (OwnL.ow (Ow.ownl q19_8 rfl mnil) rfl) q19_9)
      refine VO.k4 0 2 6 11 ?_
      refine VC.rs ?_
      refine VO.as ?_
      refine VO.k4 0 2 6 11 ?_
      refine VC.ret ?_
      refine outR ?_
      refine outR ?_
      refine ⟨_, _, res_run (rs := [.tmp 2]) rfl (.tmp rfl .nil), fun W_ hI => out_of (l := [muns [mone g0 (.cells [Value.bool d0.1, Value.bool true, Value.bool d0.2.2.1, Value.int .i64 (d0.2.2.2.1), Value.int .i64 (d0.2.2.2.2.1), Value.slice q19_A5 (d0.2.2.2.2.2.1.1.length) (q19_c5), Value.slice q19_A6 (d0.2.2.2.2.2.1.2.1.length) (q19_c6), Value.slice q19_A7 (d0.2.2.2.2.2.1.2.2.1.length) (q19_c7), Value.slice q19_A8 (d0.2.2.2.2.2.1.2.2.2.length) (q19_c8), Value.slice q19_A9 (d0.2.2.2.2.2.2.length) (q19_c9)].toArray q19_E (0, 0)), q19_n5, q19_n6, q19_n7, q19_n8, q19_n9]]) hI [126] rfl rfl (mle_refl _) (fun hS_ => ?_)⟩
      dsimp only [packV]
      have hm0_ : ((burnD d0).1 : DdiskDisk) = (d0.1, true, d0.2.2) := by first | rfl | (simp [burnD, *]; done)
      refine ⟨?_, ?_⟩
      rotate_left
      · rw [hm0_]; exact (Ow.up ho26 (hS_.1 _ (.head _)))
      all_goals (first | rfl | (simp [burnD, *]; done))
    · -- TF
      refine VC.skip ?_
      refine outN ?_
      refine VC.reg ?_
      refine VO.mv ?_
      refine VO.y rfl (.nilp rfl) ?_
      refine VO.y rfl (.fa rfl tst58 rfl) ?_
      obtain ⟨q27_E, q27_A5, q27_c5, q27_A6, q27_c6, q27_A7, q27_c7, q27_A8, q27_c8, q27_A9, q27_c9, q27_n5, q27_n6, q27_n7, q27_n8, q27_n9, _, q27_S, q27_3, q27_4, q27_5, q27_6, q27_7, q27_8, q27_9⟩ := openP_diskDisk (x0 := d0.1) (x1 := d0.2.1) (x2 := d0.2.2.1) (x3 := d0.2.2.2.1) (x4 := d0.2.2.2.2.1) (x5 := d0.2.2.2.2.2.1.1) (x6 := d0.2.2.2.2.2.1.2.1) (x7 := d0.2.2.2.2.2.1.2.2.1) (x8 := d0.2.2.2.2.2.1.2.2.2) (x9 := d0.2.2.2.2.2.2) ho17
      simp only [inK] at q27_3
      simp only [inK] at q27_4
      have q27_r5 := Rd.room (q27_5.rd (mle_refl _))
      have q27_r6 := Rd.room (q27_6.rd (mle_refl _))
      have q27_r7 := Rd.room (q27_7.rd (mle_refl _))
      have q27_r8 := Rd.room (q27_8.rd (mle_refl _))
      have q27_r9 := Rd.room (q27_9.rd (mle_refl _))
      refine VO.inv _ (fun _ h => h.parts (i := 117) rfl q27_S [133, 128, 129, 130, 131, 132]) ?_
      refine VO.y rfl (.ld1 133 rfl tk3 rfl (cellsAt_one rfl rfl)) ?_
      refine VO.y rfl (.sub rfl rfl rfl ⟨bd, bd⟩) ?_
      refine VO.y rfl (.nilp rfl) ?_
      refine VO.y rfl (.fa rfl tst58 rfl) ?_
      refine VO.store (k := 1) (c' := [Value.bool d0.1, Value.bool d0.2.1, Value.bool d0.2.2.1, Value.int .i64 (d0.2.2.2.1 - 1), Value.int .i64 (d0.2.2.2.2.1), Value.slice q27_A5 (d0.2.2.2.2.2.1.1.length) (q27_c5), Value.slice q27_A6 (d0.2.2.2.2.2.1.2.1.length) (q27_c6), Value.slice q27_A7 (d0.2.2.2.2.2.1.2.2.1.length) (q27_c7), Value.slice q27_A8 (d0.2.2.2.2.2.1.2.2.2.length) (q27_c8), Value.slice q27_A9 (d0.2.2.2.2.2.2.length) (q27_c9)]) 133 rfl rfl (.inr ⟨tk3, rfl⟩) rfl rfl rfl rfl rfl ?_
      refine VO.gather (l := [mone g0 (.cells [Value.bool d0.1, Value.bool d0.2.1, Value.bool d0.2.2.1, Value.int .i64 (d0.2.2.2.1 - 1), Value.int .i64 (d0.2.2.2.2.1), Value.slice q27_A5 (d0.2.2.2.2.2.1.1.length) (q27_c5), Value.slice q27_A6 (d0.2.2.2.2.2.1.2.1.length) (q27_c6), Value.slice q27_A7 (d0.2.2.2.2.2.1.2.2.1.length) (q27_c7), Value.slice q27_A8 (d0.2.2.2.2.2.1.2.2.2.length) (q27_c8), Value.slice q27_A9 (d0.2.2.2.2.2.2.length) (q27_c9)].toArray q27_E (0, 0)), q27_n5, q27_n6, q27_n7, q27_n8, q27_n9]) 134 [133, 128, 129, 130, 131, 132] rfl (fun hg34 => ?_)
      have ho34 : Ow (.ptr TdiskDisk) (muns [mone g0 (.cells [Value.bool d0.1, Value.bool d0.2.1, Value.bool d0.2.2.1, Value.int .i64 (d0.2.2.2.1 - 1), Value.int .i64 (d0.2.2.2.2.1), Value.slice q27_A5 (d0.2.2.2.2.2.1.1.length) (q27_c5), Value.slice q27_A6 (d0.2.2.2.2.2.1.2.1.length) (q27_c6), Value.slice q27_A7 (d0.2.2.2.2.2.1.2.2.1.length) (q27_c7), Value.slice q27_A8 (d0.2.2.2.2.2.1.2.2.2.length) (q27_c8), Value.slice q27_A9 (d0.2.2.2.2.2.2.length) (q27_c9)].toArray q27_E (0, 0)), q27_n5, q27_n6, q27_n7, q27_n8, q27_n9]) [.pointer (some ⟨g0, 0, none⟩)] (g0, (d0.1, d0.2.1, d0.2.2.1, d0.2.2.2.1 - 1, d0.2.2.2.2)) := (mkP_diskDisk d0.1 d0.2.1 d0.2.2.1 (d0.2.2.2.1 - 1) d0.2.2.2.2.1 d0.2.2.2.2.2.1.1 d0.2.2.2.2.2.1.2.1 d0.2.2.2.2.2.1.2.2.1 d0.2.2.2.2.2.1.2.2.2 d0.2.2.2.2.2.2 hg34 bdk bdk (OwnL.ow (Ow.ownl q27_5 rfl mnil) rfl) (OwnL.ow (Ow.ownl q27_6 rfl mnil) rfl) (OwnL.ow (Ow.ownl q27_7 rfl mnil) rfl) (OwnL.ow (Ow.ownl q27_8 rfl mnil) rfl) q27_9)
      refine VO.k4 0 2 6 11 ?_
      refine outN ?_
      refine VC.rs ?_
      refine VO.mv ?_
      refine VO.y rfl (.nilp rfl) ?_
      refine VO.y rfl (.fa rfl tst58 rfl) ?_
      obtain ⟨q35_E, q35_A5, q35_c5, q35_A6, q35_c6, q35_A7, q35_c7, q35_A8, q35_c8, q35_A9, q35_c9, q35_n5, q35_n6, q35_n7, q35_n8, q35_n9, _, q35_S, q35_3, q35_4, q35_5, q35_6, q35_7, q35_8, q35_9⟩ := openP_diskDisk (x0 := d0.1) (x1 := d0.2.1) (x2 := d0.2.2.1) (x3 := d0.2.2.2.1 - 1) (x4 := d0.2.2.2.2.1) (x5 := d0.2.2.2.2.2.1.1) (x6 := d0.2.2.2.2.2.1.2.1) (x7 := d0.2.2.2.2.2.1.2.2.1) (x8 := d0.2.2.2.2.2.1.2.2.2) (x9 := d0.2.2.2.2.2.2) ho34
      simp only [inK] at q35_3
      simp only [inK] at q35_4
      have q35_r5 := Rd.room (q35_5.rd (mle_refl _))
      have q35_r6 := Rd.room (q35_6.rd (mle_refl _))
      have q35_r7 := Rd.room (q35_7.rd (mle_refl _))
      have q35_r8 := Rd.room (q35_8.rd (mle_refl _))
      have q35_r9 := Rd.room (q35_9.rd (mle_refl _))
      refine VO.inv _ (fun _ h => h.parts (i := 134) rfl q35_S [141, 136, 137, 138, 139, 140]) ?_
      refine VO.y rfl (.ld1 141 rfl tk3 rfl (cellsAt_one rfl rfl)) ?_
      refine VO.y rfl (.add rfl rfl rfl ⟨bd, bd⟩) ?_
      refine VO.y rfl (.nilp rfl) ?_
      refine VO.y rfl (.fa rfl tst58 rfl) ?_
      refine VO.store (k := 1) (c' := [Value.bool d0.1, Value.bool d0.2.1, Value.bool d0.2.2.1, Value.int .i64 (d0.2.2.2.1 - 1), Value.int .i64 (d0.2.2.2.2.1 + 1), Value.slice q35_A5 (d0.2.2.2.2.2.1.1.length) (q35_c5), Value.slice q35_A6 (d0.2.2.2.2.2.1.2.1.length) (q35_c6), Value.slice q35_A7 (d0.2.2.2.2.2.1.2.2.1.length) (q35_c7), Value.slice q35_A8 (d0.2.2.2.2.2.1.2.2.2.length) (q35_c8), Value.slice q35_A9 (d0.2.2.2.2.2.2.length) (q35_c9)]) 141 rfl rfl (.inr ⟨tk3, rfl⟩) rfl rfl rfl rfl rfl ?_
      refine VO.gather (l := [mone g0 (.cells [Value.bool d0.1, Value.bool d0.2.1, Value.bool d0.2.2.1, Value.int .i64 (d0.2.2.2.1 - 1), Value.int .i64 (d0.2.2.2.2.1 + 1), Value.slice q35_A5 (d0.2.2.2.2.2.1.1.length) (q35_c5), Value.slice q35_A6 (d0.2.2.2.2.2.1.2.1.length) (q35_c6), Value.slice q35_A7 (d0.2.2.2.2.2.1.2.2.1.length) (q35_c7), Value.slice q35_A8 (d0.2.2.2.2.2.1.2.2.2.length) (q35_c8), Value.slice q35_A9 (d0.2.2.2.2.2.2.length) (q35_c9)].toArray q35_E (0, 0)), q35_n5, q35_n6, q35_n7, q35_n8, q35_n9]) 142 [141, 136, 137, 138, 139, 140] rfl (fun hg42 => ?_)
      have ho42 : Ow (.ptr TdiskDisk) (muns [mone g0 (.cells [Value.bool d0.1, Value.bool d0.2.1, Value.bool d0.2.2.1, Value.int .i64 (d0.2.2.2.1 - 1), Value.int .i64 (d0.2.2.2.2.1 + 1), Value.slice q35_A5 (d0.2.2.2.2.2.1.1.length) (q35_c5), Value.slice q35_A6 (d0.2.2.2.2.2.1.2.1.length) (q35_c6), Value.slice q35_A7 (d0.2.2.2.2.2.1.2.2.1.length) (q35_c7), Value.slice q35_A8 (d0.2.2.2.2.2.1.2.2.2.length) (q35_c8), Value.slice q35_A9 (d0.2.2.2.2.2.2.length) (q35_c9)].toArray q35_E (0, 0)), q35_n5, q35_n6, q35_n7, q35_n8, q35_n9]) [.pointer (some ⟨g0, 0, none⟩)] (g0, (d0.1, d0.2.1, d0.2.2.1, d0.2.2.2.1 - 1, d0.2.2.2.2.1 + 1, d0.2.2.2.2.2)) := (mkP_diskDisk d0.1 d0.2.1 d0.2.2.1 (d0.2.2.2.1 - 1) (d0.2.2.2.2.1 + 1) d0.2.2.2.2.2.1.1 d0.2.2.2.2.2.1.2.1 d0.2.2.2.2.2.1.2.2.1 d0.2.2.2.2.2.1.2.2.2 d0.2.2.2.2.2.2 hg42 bdk bdk (OwnL.ow (Ow.ownl q35_5 rfl mnil) rfl) (OwnL.ow (Ow.ownl q35_6 rfl mnil) rfl) (OwnL.ow (Ow.ownl q35_7 rfl mnil) rfl) (OwnL.ow (Ow.ownl q35_8 rfl mnil) rfl) q35_9)
      refine VO.k4 0 2 6 11 ?_
      refine VC.rs ?_
      refine VO.as ?_
      refine VO.keep [142, 0] [(142, muns [mone g0 (.cells [Value.bool d0.1, Value.bool d0.2.1, Value.bool d0.2.2.1, Value.int .i64 (d0.2.2.2.1 - 1), Value.int .i64 (d0.2.2.2.2.1 + 1), Value.slice q35_A5 (d0.2.2.2.2.2.1.1.length) (q35_c5), Value.slice q35_A6 (d0.2.2.2.2.2.1.2.1.length) (q35_c6), Value.slice q35_A7 (d0.2.2.2.2.2.1.2.2.1.length) (q35_c7), Value.slice q35_A8 (d0.2.2.2.2.2.1.2.2.2.length) (q35_c8), Value.slice q35_A9 (d0.2.2.2.2.2.2.length) (q35_c9)].toArray q35_E (0, 0)), q35_n5, q35_n6, q35_n7, q35_n8, q35_n9]), (0, mout (wm W) (m0))] (by kernel_rfl) ?_
      refine VO.k4 0 2 6 11 ?_
      refine VC.ret ?_
      refine ⟨_, _, res_run (rs := [.tmp 2]) rfl (.tmp rfl .nil), fun W_ hI => out_of (l := [muns [mone g0 (.cells [Value.bool d0.1, Value.bool d0.2.1, Value.bool d0.2.2.1, Value.int .i64 (d0.2.2.2.1 - 1), Value.int .i64 (d0.2.2.2.2.1 + 1), Value.slice q35_A5 (d0.2.2.2.2.2.1.1.length) (q35_c5), Value.slice q35_A6 (d0.2.2.2.2.2.1.2.1.length) (q35_c6), Value.slice q35_A7 (d0.2.2.2.2.2.1.2.2.1.length) (q35_c7), Value.slice q35_A8 (d0.2.2.2.2.2.1.2.2.2.length) (q35_c8), Value.slice q35_A9 (d0.2.2.2.2.2.2.length) (q35_c9)].toArray q35_E (0, 0)), q35_n5, q35_n6, q35_n7, q35_n8, q35_n9]]) hI [142] rfl rfl (mle_refl _) (fun hS_ => ?_)⟩
      dsimp only [packV]
      have hm0_ : ((burnD d0).1 : DdiskDisk) = (d0.1, d0.2.1, d0.2.2.1, d0.2.2.2.1 - 1, d0.2.2.2.2.1 + 1, d0.2.2.2.2.2) := by first | rfl | (simp [burnD, *]; done)
      refine ⟨?_, ?_⟩
      rotate_left
      · rw [hm0_]; exact (Ow.up ho42 (hS_.1 _ (.head _)))
      all_goals (first | rfl | (simp [burnD, *]; done))
  · -- F
    refine VC.skip ?_
    refine outN ?_
    refine VC.rs ?_
    refine VO.mv ?_
    refine VO.y rfl (.nilp rfl) ?_
    refine VO.y rfl (.fa rfl tst58 rfl) ?_
    obtain ⟨q43_E, q43_A5, q43_c5, q43_A6, q43_c6, q43_A7, q43_c7, q43_A8, q43_c8, q43_A9, q43_c9, q43_n5, q43_n6, q43_n7, q43_n8, q43_n9, _, q43_S, q43_3, q43_4, q43_5, q43_6, q43_7, q43_8, q43_9⟩ := openP_diskDisk (x0 := d0.1) (x1 := d0.2.1) (x2 := d0.2.2.1) (x3 := d0.2.2.2.1) (x4 := d0.2.2.2.2.1) (x5 := d0.2.2.2.2.2.1.1) (x6 := d0.2.2.2.2.2.1.2.1) (x7 := d0.2.2.2.2.2.1.2.2.1) (x8 := d0.2.2.2.2.2.1.2.2.2) (x9 := d0.2.2.2.2.2.2) ho8
    simp only [inK] at q43_3
    simp only [inK] at q43_4
    have q43_r5 := Rd.room (q43_5.rd (mle_refl _))
    have q43_r6 := Rd.room (q43_6.rd (mle_refl _))
    have q43_r7 := Rd.room (q43_7.rd (mle_refl _))
    have q43_r8 := Rd.room (q43_8.rd (mle_refl _))
    have q43_r9 := Rd.room (q43_9.rd (mle_refl _))
    refine VO.inv _ (fun _ h => h.parts (i := 108) rfl q43_S [149, 144, 145, 146, 147, 148]) ?_
    refine VO.y rfl (.ld1 149 rfl tk3 rfl (cellsAt_one rfl rfl)) ?_
    refine VO.y rfl (.add rfl rfl rfl ⟨bd, bd⟩) ?_
    refine VO.y rfl (.nilp rfl) ?_
    refine VO.y rfl (.fa rfl tst58 rfl) ?_
    refine VO.store (k := 1) (c' := [Value.bool d0.1, Value.bool d0.2.1, Value.bool d0.2.2.1, Value.int .i64 (d0.2.2.2.1), Value.int .i64 (d0.2.2.2.2.1 + 1), Value.slice q43_A5 (d0.2.2.2.2.2.1.1.length) (q43_c5), Value.slice q43_A6 (d0.2.2.2.2.2.1.2.1.length) (q43_c6), Value.slice q43_A7 (d0.2.2.2.2.2.1.2.2.1.length) (q43_c7), Value.slice q43_A8 (d0.2.2.2.2.2.1.2.2.2.length) (q43_c8), Value.slice q43_A9 (d0.2.2.2.2.2.2.length) (q43_c9)]) 149 rfl rfl (.inr ⟨tk3, rfl⟩) rfl rfl rfl rfl rfl ?_
    refine VO.gather (l := [mone g0 (.cells [Value.bool d0.1, Value.bool d0.2.1, Value.bool d0.2.2.1, Value.int .i64 (d0.2.2.2.1), Value.int .i64 (d0.2.2.2.2.1 + 1), Value.slice q43_A5 (d0.2.2.2.2.2.1.1.length) (q43_c5), Value.slice q43_A6 (d0.2.2.2.2.2.1.2.1.length) (q43_c6), Value.slice q43_A7 (d0.2.2.2.2.2.1.2.2.1.length) (q43_c7), Value.slice q43_A8 (d0.2.2.2.2.2.1.2.2.2.length) (q43_c8), Value.slice q43_A9 (d0.2.2.2.2.2.2.length) (q43_c9)].toArray q43_E (0, 0)), q43_n5, q43_n6, q43_n7, q43_n8, q43_n9]) 150 [149, 144, 145, 146, 147, 148] rfl (fun hg50 => ?_)
    have ho50 : Ow (.ptr TdiskDisk) (muns [mone g0 (.cells [Value.bool d0.1, Value.bool d0.2.1, Value.bool d0.2.2.1, Value.int .i64 (d0.2.2.2.1), Value.int .i64 (d0.2.2.2.2.1 + 1), Value.slice q43_A5 (d0.2.2.2.2.2.1.1.length) (q43_c5), Value.slice q43_A6 (d0.2.2.2.2.2.1.2.1.length) (q43_c6), Value.slice q43_A7 (d0.2.2.2.2.2.1.2.2.1.length) (q43_c7), Value.slice q43_A8 (d0.2.2.2.2.2.1.2.2.2.length) (q43_c8), Value.slice q43_A9 (d0.2.2.2.2.2.2.length) (q43_c9)].toArray q43_E (0, 0)), q43_n5, q43_n6, q43_n7, q43_n8, q43_n9]) [.pointer (some ⟨g0, 0, none⟩)] (g0, (d0.1, d0.2.1, d0.2.2.1, d0.2.2.2.1, d0.2.2.2.2.1 + 1, d0.2.2.2.2.2)) := (mkP_diskDisk d0.1 d0.2.1 d0.2.2.1 d0.2.2.2.1 (d0.2.2.2.2.1 + 1) d0.2.2.2.2.2.1.1 d0.2.2.2.2.2.1.2.1 d0.2.2.2.2.2.1.2.2.1 d0.2.2.2.2.2.1.2.2.2 d0.2.2.2.2.2.2 hg50 bdk bdk (OwnL.ow (Ow.ownl q43_5 rfl mnil) rfl) (OwnL.ow (Ow.ownl q43_6 rfl mnil) rfl) (OwnL.ow (Ow.ownl q43_7 rfl mnil) rfl) (OwnL.ow (Ow.ownl q43_8 rfl mnil) rfl) q43_9)
    refine VO.keep [150, 0] [(150, muns [mone g0 (.cells [Value.bool d0.1, Value.bool d0.2.1, Value.bool d0.2.2.1, Value.int .i64 (d0.2.2.2.1), Value.int .i64 (d0.2.2.2.2.1 + 1), Value.slice q43_A5 (d0.2.2.2.2.2.1.1.length) (q43_c5), Value.slice q43_A6 (d0.2.2.2.2.2.1.2.1.length) (q43_c6), Value.slice q43_A7 (d0.2.2.2.2.2.1.2.2.1.length) (q43_c7), Value.slice q43_A8 (d0.2.2.2.2.2.1.2.2.2.length) (q43_c8), Value.slice q43_A9 (d0.2.2.2.2.2.2.length) (q43_c9)].toArray q43_E (0, 0)), q43_n5, q43_n6, q43_n7, q43_n8, q43_n9]), (0, mout (wm W) (m0))] (by kernel_rfl) ?_
    refine VO.k3 0 2 6 ?_
    refine VC.rs ?_
    refine VO.as ?_
    refine VO.k3 0 2 6 ?_
    refine VC.ret ?_
    refine ⟨_, _, res_run (rs := [.tmp 2]) rfl (.tmp rfl .nil), fun W_ hI => out_of (l := [muns [mone g0 (.cells [Value.bool d0.1, Value.bool d0.2.1, Value.bool d0.2.2.1, Value.int .i64 (d0.2.2.2.1), Value.int .i64 (d0.2.2.2.2.1 + 1), Value.slice q43_A5 (d0.2.2.2.2.2.1.1.length) (q43_c5), Value.slice q43_A6 (d0.2.2.2.2.2.1.2.1.length) (q43_c6), Value.slice q43_A7 (d0.2.2.2.2.2.1.2.2.1.length) (q43_c7), Value.slice q43_A8 (d0.2.2.2.2.2.1.2.2.2.length) (q43_c8), Value.slice q43_A9 (d0.2.2.2.2.2.2.length) (q43_c9)].toArray q43_E (0, 0)), q43_n5, q43_n6, q43_n7, q43_n8, q43_n9]]) hI [150] rfl rfl (mle_refl _) (fun hS_ => ?_)⟩
    dsimp only [packV]
    have hm0_ : ((burnD d0).1 : DdiskDisk) = (d0.1, d0.2.1, d0.2.2.1, d0.2.2.2.1, d0.2.2.2.2.1 + 1, d0.2.2.2.2.2) := by first | rfl | (simp [burnD, *]; done)
    refine ⟨?_, ?_⟩
    rotate_left
    · rw [hm0_]; exact (Ow.up ho50 (hS_.1 _ (.head _)))
    all_goals (first | rfl | (simp [burnD, *]; done))
theorem dDone_ok (W : World) {m0 : Mem} (hm : mle (m0) (wm W)) {v0 : Value} {d0 : List UInt8} (h0 : Ow (.sl .byte) m0 [v0] d0) {v1 : List Value} {d1 : Ddiskstep} (h1 : Rd Tdiskstep (mout (wm W) (m0)) v1 d1) (e0 : d1.1 = 1 → 0 ≤ d1.2.2.2 ∧ d1.2.2.2 ≤ d0.length) (e1 : d0.length + d1.2.2.1.length ≤ 140737488355000) : CallR Try.prog 40 [v0, .agg v1.toArray] W (m0) (fun v m' => ∃ (s0 : Value), v = s0 ∧ Ow (.sl .byte) m' [s0] (doneB d0 d1)) := by
  obtain ⟨A0, c0, e0_, l0, k0⟩ := h0.slice
  subst e0_
  simp only [maxLen] at k0
  obtain ⟨p1_A2, p1_c2, rfl, p1_0, p1_1, p1_2, p1_3⟩ := open_diskstep (x0 := d1.1) (x1 := d1.2.1) (x2 := d1.2.2.1) (x3 := d1.2.2.2) h1
  simp only [inK] at p1_0
  simp only [inK] at p1_1
  have p1_r2 := Rd.room p1_2
  simp only [inK] at p1_3
  refine CallR.ofB (n := 20) hm Try.func40 rfl rfl rfl ?_
  refine VC.rs ?_
  refine VO.box (cs := [Value.int .i64 (d1.1), Value.int .i64 (d1.2.1), Value.slice p1_A2 (d1.2.2.1.length) (p1_c2), Value.int .i64 (d1.2.2.2)]) 102 rfl rfl rfl (fun g1 => ?_)
  refine VO.as ?_
  refine VO.k4 0 1 3 4 ?_
  refine VC.seq ?_
  refine VC.rs ?_
  refine VO.y rfl (.fa rfl tst64 rfl) ?_
  refine VO.y rfl (.ld1 102 rfl tk3 rfl (cellsAt_one rfl rfl)) ?_
  refine VO.k5 0 1 3 4 6 ?_
  refine VC.block ?_
  refine VC.rs ?_
  refine VO.y rfl (.eql rfl rfl) ?_
  refine VO.as ?_
  refine VO.keep [102, 0, 1] [(102, mone g1 (.cells [Value.int .i64 (d1.1), Value.int .i64 (d1.2.1), Value.slice p1_A2 (d1.2.2.1.length) (p1_c2), Value.int .i64 (d1.2.2.2)].toArray 64 (0, 0))), (0, mout (wm W) (m0)), (1, m0)] (by kernel_rfl) ?_
  refine VO.k6 0 1 3 4 6 7 ?_
  refine VC.cond rfl (fun hc3 => ?_) (fun hc3 => ?_)
  · -- T
    refine VC.rs ?_
    refine VO.mv ?_
    refine VO.y rfl (.fa rfl tst64 rfl) ?_
    refine VO.y rfl (.ld1 102 rfl tk27 rfl (cellsAt_one rfl rfl)) ?_
    obtain ⟨mo4, cs4, hM4, hA4, hC4⟩ := (Ow.ownl h0 rfl mnil)
    obtain ⟨all4, hS4, hR4⟩ := Rd.srcI (P := Try.prog) (p1_2) Try.underlying27
    refine VO.app 1 rfl rfl rfl tsl27 tz5 rfl rfl hM4 hA4 (hS4 _ 0 rfl) hR4.nice bdm bd (by decide) (fun v4 m4 hN4 => ?_)
    have ho4 : OwnL .byte m4 mnil v4 (d0 ++ d1.2.2.1) := OwnL.more hC4 hN4 (All2c.mono hR4 fun _ _ h => Rd.flat rfl h _)
    obtain ⟨A4, c4, rfl, l4, k4⟩ := ho4.slice
    simp only [maxLen] at k4
    refine VO.as ?_
    refine VO.k6 0 1 3 4 6 7 ?_
    refine VC.ret ?_
    refine outBR ?_
    refine outR ?_
    refine ⟨_, _, res_run (rs := [.tmp 4]) rfl (.tmp rfl .nil), fun W_ hI => out_of (l := [m4]) hI [1] rfl rfl (mle_refl _) (fun hS_ => ?_)⟩
    dsimp only [packV]
    have he0 : (doneB d0 d1 : Ty.Den (.sl .byte)) = d0 ++ d1.2.2.1 := by first | rfl | (simp [doneB, *]; done)
    refine ⟨Value.slice A4 ((d0 ++ d1.2.2.1).length) (c4), ?_, ?_⟩
    rotate_left
    · rw [he0]; exact (Ow.up (OwnL.ow ho4 rfl) (hS_.1 _ (.head _)))
    all_goals (first | rfl | (simp [*]; done))
  · -- F
    refine VC.rs ?_
    refine VO.y rfl (.eql rfl rfl) ?_
    refine VO.as ?_
    refine VO.k7 0 1 3 4 6 7 13 ?_
    refine VC.cond rfl (fun hc5 => ?_) (fun hc5 => ?_)
    · -- FT
      refine VC.rs ?_
      refine VO.mv ?_
      refine VO.y rfl (.fa rfl tst64 rfl) ?_
      refine VO.y rfl (.ld1 102 rfl tk3 rfl (cellsAt_one rfl rfl)) ?_
      have hs6 := (OwnL.rd (Ow.ownl h0 rfl mnil) (mle_refl _) (mle_nil _)).pre (j := ((d1.2.2.2).toNat)) bd
      refine VO.y rfl (.slHI ((d1.2.2.2).toNat) rfl rfl tsl27 bd bd) ?_
      refine VO.as ?_
      refine VO.k7 0 1 3 4 6 7 13 ?_
      refine VC.ret ?_
      refine outBR ?_
      refine outR ?_
      refine ⟨_, _, res_run (rs := [.tmp 4]) rfl (.tmp rfl .nil), fun W_ hI => out_of (l := [m0]) hI [1] rfl rfl (mle_refl _) (fun hS_ => ?_)⟩
      dsimp only [packV]
      have he0 : (doneB d0 d1 : Ty.Den (.sl .byte)) = (d0).take ((d1.2.2.2).toNat) := by first | rfl | (simp [doneB, *]; done)
      refine ⟨Value.slice A0 ((d1.2.2.2).toNat) (c0), ?_, ?_⟩
      rotate_left
      · rw [he0]; exact (Ow.up (OwnL.ow ((Ow.ownl h0 rfl mnil).pre (j := ((d1.2.2.2).toNat)) bd) rfl) (hS_.1 _ (.head _)))
      all_goals (first | rfl | (simp [*]; done))
    · -- FF
      refine VC.skip ?_
      refine outBN ?_
      refine outN ?_
      refine VC.rs ?_
      refine VO.mv ?_
      refine VO.as ?_
      refine VO.k7 0 1 3 4 6 7 13 ?_
      refine VC.ret ?_
      refine ⟨_, _, res_run (rs := [.tmp 4]) rfl (.tmp rfl .nil), fun W_ hI => out_of (l := [m0]) hI [1] rfl rfl (mle_refl _) (fun hS_ => ?_)⟩
      dsimp only [packV]
      have he0 : (doneB d0 d1 : Ty.Den (.sl .byte)) = d0 := by first | rfl | (simp [doneB, *]; done)
      refine ⟨Value.slice A0 (d0.length) (c0), ?_, ?_⟩
      rotate_left
      · rw [he0]; exact (Ow.up (OwnL.ow (Ow.ownl h0 rfl mnil) rfl) (hS_.1 _ (.head _)))
      all_goals (first | rfl | (simp [*]; done))
end
section
set_option linter.unusedVariables false
set_option linter.unusedSimpArgs false
set_option maxRecDepth 4000
theorem fnOk40 : fnOk Try.prog 40 = true := by kernel_rfl
theorem tar28 : tar Try.prog 28 = some (4, 1) := by kernel_rfl
theorem tk56 : tk Try.prog 56 = some none := by kernel_rfl
theorem tk64 : tk Try.prog 64 = some (some 4) := by kernel_rfl
theorem tsl56 : tsl Try.prog 56 = some (64, 4, 48) := by kernel_rfl
theorem tz64 : tz Try.prog 64 = some [.int .i64 0, .int .i64 0, .slice none 0 0, .int .i64 0] := by kernel_rfl
theorem dHeld_ok (W : World) {m0 : Mem} (hm : mle (m0) (wm W)) {g0 : Nat} {d0 : DdiskDisk} (h0 : Ow (.ptr TdiskDisk) m0 [.pointer (some ⟨g0, 0, none⟩)] (g0, d0)) (d1 : Int) (h1 : inK .i64 d1) (e0 : okD d0) (e1 : wD d0 ≤ 2*1000000000000) (e2 : inF d1) : CallR Try.prog 41 [.pointer (some ⟨g0, 0, none⟩), .int .i64 d1] W (m0) (fun v m' => ∃ (s0 : Value), ∃ (p0 : Mem), ∃ (p1 : Mem), v = s0 ∧ Seps m' [p0, p1] ∧ Ow (.sl .byte) p0 [s0] (heldB d0.2.2.2.2.2.1 d0.2.2.2.2.2.2 d1) ∧ Ow (.ptr TdiskDisk) p1 [.pointer (some ⟨g0, 0, none⟩)] (g0, d0)) := by
  obtain ⟨hg, hfu, hst⟩ := e0; simp only [wD, sizeQ] at e1; have hin := e2; simp only [inF] at hin
  have h1' := h1; simp only [inK] at h1'
  refine CallR.ofB (n := 33) hm Try.func41 rfl rfl rfl ?_
  refine VC.rs ?_
  refine VO.as ?_
  refine VO.k3 0 1 4 ?_
  refine VC.rs ?_
  refine VO.mv ?_
  refine VO.mv ?_
  refine VO.y rfl (.nilp rfl) ?_
  refine VO.y rfl (.fa rfl tst58 rfl) ?_
  rcases (show d1 = (0 : Int) ∨ d1 = (1 : Int) ∨ d1 = (2 : Int) ∨ d1 = (3 : Int) from by first | omega | (simp only [List.length_append, List.length_nil, List.length_cons, List.length_take, List.length_drop] at *; omega)) with hi1 | hi1 | hi1 | hi1
  · -- 0
    refine VO.y rfl (.ixa (i := 0) (o := 5) rfl rfl tar28 hi1 rfl rfl) ?_
    obtain ⟨q2_E, q2_A5, q2_c5, q2_A6, q2_c6, q2_A7, q2_c7, q2_A8, q2_c8, q2_A9, q2_c9, q2_n5, q2_n6, q2_n7, q2_n8, q2_n9, _, q2_S, q2_3, q2_4, q2_5, q2_6, q2_7, q2_8, q2_9⟩ := openP_diskDisk (x0 := d0.1) (x1 := d0.2.1) (x2 := d0.2.2.1) (x3 := d0.2.2.2.1) (x4 := d0.2.2.2.2.1) (x5 := d0.2.2.2.2.2.1.1) (x6 := d0.2.2.2.2.2.1.2.1) (x7 := d0.2.2.2.2.2.1.2.2.1) (x8 := d0.2.2.2.2.2.1.2.2.2) (x9 := d0.2.2.2.2.2.2) h0
    simp only [inK] at q2_3
    simp only [inK] at q2_4
    have q2_r5 := Rd.room (q2_5.rd (mle_refl _))
    have q2_r6 := Rd.room (q2_6.rd (mle_refl _))
    have q2_r7 := Rd.room (q2_7.rd (mle_refl _))
    have q2_r8 := Rd.room (q2_8.rd (mle_refl _))
    have q2_r9 := Rd.room (q2_9.rd (mle_refl _))
    refine VO.inv _ (fun _ h => h.parts (i := 1) rfl q2_S [108, 103, 104, 105, 106, 107]) ?_
    refine VO.y rfl (.ld1 108 rfl tk27 rfl (cellsAt_one rfl rfl)) ?_
    refine VO.inv _ (fun _ h => h.nilc 110) ?_
    obtain ⟨mo9, cs9, hM9, hA9, hC9⟩ := (OwnL.nil .byte mnil mnil)
    obtain ⟨all9, hS9, hR9⟩ := Rd.srcI (P := Try.prog) ((OwnL.rd (Ow.ownl q2_5 rfl mnil) (mle_refl _) (mle_nil _))) Try.underlying27
    refine VO.app 110 rfl rfl rfl tsl27 tz5 rfl rfl hM9 hA9 (hS9 _ 103 rfl) hR9.nice bdm bd (by decide) (fun v9 m9 hN9 => ?_)
    have ho9 : OwnL .byte m9 mnil v9 (d0.2.2.2.2.2.1.1) := OwnL.more hC9 hN9 (All2c.mono hR9 fun _ _ h => Rd.flat rfl h _)
    obtain ⟨A9, c9, rfl, l9, k9⟩ := ho9.slice
    simp only [maxLen] at k9
    refine VO.as ?_
    refine VO.gather (l := [mone g0 (.cells [Value.bool d0.1, Value.bool d0.2.1, Value.bool d0.2.2.1, Value.int .i64 (d0.2.2.2.1), Value.int .i64 (d0.2.2.2.2.1), Value.slice q2_A5 (d0.2.2.2.2.2.1.1.length) (q2_c5), Value.slice q2_A6 (d0.2.2.2.2.2.1.2.1.length) (q2_c6), Value.slice q2_A7 (d0.2.2.2.2.2.1.2.2.1.length) (q2_c7), Value.slice q2_A8 (d0.2.2.2.2.2.1.2.2.2.length) (q2_c8), Value.slice q2_A9 (d0.2.2.2.2.2.2.length) (q2_c9)].toArray q2_E (0, 0)), q2_n5, q2_n6, q2_n7, q2_n8, q2_n9]) 111 [108, 103, 104, 105, 106, 107] rfl (fun hg11 => ?_)
    have ho11 : Ow (.ptr TdiskDisk) (muns [mone g0 (.cells [Value.bool d0.1, Value.bool d0.2.1, Value.bool d0.2.2.1, Value.int .i64 (d0.2.2.2.1), Value.int .i64 (d0.2.2.2.2.1), Value.slice q2_A5 (d0.2.2.2.2.2.1.1.length) (q2_c5), Value.slice q2_A6 (d0.2.2.2.2.2.1.2.1.length) (q2_c6), Value.slice q2_A7 (d0.2.2.2.2.2.1.2.2.1.length) (q2_c7), Value.slice q2_A8 (d0.2.2.2.2.2.1.2.2.2.length) (q2_c8), Value.slice q2_A9 (d0.2.2.2.2.2.2.length) (q2_c9)].toArray q2_E (0, 0)), q2_n5, q2_n6, q2_n7, q2_n8, q2_n9]) [.pointer (some ⟨g0, 0, none⟩)] (g0, d0) := (show Ow (.ptr TdiskDisk) _ _ (_, d0) from (mkP_diskDisk d0.1 d0.2.1 d0.2.2.1 d0.2.2.2.1 d0.2.2.2.2.1 d0.2.2.2.2.2.1.1 d0.2.2.2.2.2.1.2.1 d0.2.2.2.2.2.1.2.2.1 d0.2.2.2.2.2.1.2.2.2 d0.2.2.2.2.2.2 hg11 bdk bdk (OwnL.ow (Ow.ownl q2_5 rfl mnil) rfl) (OwnL.ow (Ow.ownl q2_6 rfl mnil) rfl) (OwnL.ow (Ow.ownl q2_7 rfl mnil) rfl) (OwnL.ow (Ow.ownl q2_8 rfl mnil) rfl) q2_9))
    refine VO.k4 0 1 4 5 ?_
    refine VC.seq ?_
    refine VC.rs ?_
    refine VO.mv ?_
    refine VO.y rfl (.nilp rfl) ?_
    refine VO.y rfl (.fa rfl tst58 rfl) ?_
    obtain ⟨q12_E, q12_A5, q12_c5, q12_A6, q12_c6, q12_A7, q12_c7, q12_A8, q12_c8, q12_A9, q12_c9, q12_n5, q12_n6, q12_n7, q12_n8, q12_n9, _, q12_S, q12_3, q12_4, q12_5, q12_6, q12_7, q12_8, q12_9⟩ := openP_diskDisk (x0 := d0.1) (x1 := d0.2.1) (x2 := d0.2.2.1) (x3 := d0.2.2.2.1) (x4 := d0.2.2.2.2.1) (x5 := d0.2.2.2.2.2.1.1) (x6 := d0.2.2.2.2.2.1.2.1) (x7 := d0.2.2.2.2.2.1.2.2.1) (x8 := d0.2.2.2.2.2.1.2.2.2) (x9 := d0.2.2.2.2.2.2) ho11
    simp only [inK] at q12_3
    simp only [inK] at q12_4
    have q12_r5 := Rd.room (q12_5.rd (mle_refl _))
    have q12_r6 := Rd.room (q12_6.rd (mle_refl _))
    have q12_r7 := Rd.room (q12_7.rd (mle_refl _))
    have q12_r8 := Rd.room (q12_8.rd (mle_refl _))
    have q12_r9 := Rd.room (q12_9.rd (mle_refl _))
    refine VO.inv _ (fun _ h => h.parts (i := 111) rfl q12_S [118, 113, 114, 115, 116, 117]) ?_
    refine VO.y rfl (.ld1 118 rfl tk56 rfl (cellsAt_one rfl rfl)) ?_
    refine VO.y rfl (.lenS rfl tsl56) ?_
    refine VO.mv ?_
    refine VO.keep [118, 113, 114, 115, 116, 117, 110, 0] [(118, mone g0 (.cells [Value.bool d0.1, Value.bool d0.2.1, Value.bool d0.2.2.1, Value.int .i64 (d0.2.2.2.1), Value.int .i64 (d0.2.2.2.2.1), Value.slice q12_A5 (d0.2.2.2.2.2.1.1.length) (q12_c5), Value.slice q12_A6 (d0.2.2.2.2.2.1.2.1.length) (q12_c6), Value.slice q12_A7 (d0.2.2.2.2.2.1.2.2.1.length) (q12_c7), Value.slice q12_A8 (d0.2.2.2.2.2.1.2.2.2.length) (q12_c8), Value.slice q12_A9 (d0.2.2.2.2.2.2.length) (q12_c9)].toArray q12_E (0, 0))), (113, q12_n5), (114, q12_n6), (115, q12_n7), (116, q12_n8), (117, q12_n9), (110, m9), (0, mout (wm W) (m0))] (by kernel_rfl) ?_
    refine VO.k7 0 1 4 5 18 19 20 ?_
    refine VC.block ?_
    refine VC.loop (G := Nat × (List UInt8) × (Option Addr) × Nat × Mem) (fun g => [(5, Value.slice (g.2.2.1) ((g.2.1).length) ((g.2.2.2.1))), (20, Value.int .i64 ((((g.1) : Nat) : Int))), (0, Value.pointer (some ⟨g0, 0, none⟩)), (1, Value.int .i64 (d1)), (4, Value.slice none (0) (0)), (18, Value.slice q12_A9 (d0.2.2.2.2.2.2.length) (q12_c9)), (19, Value.int .i64 (((d0.2.2.2.2.2.2.length : Nat) : Int)))]) (fun g => [(118, mone g0 (.cells [Value.bool d0.1, Value.bool d0.2.1, Value.bool d0.2.2.1, Value.int .i64 (d0.2.2.2.1), Value.int .i64 (d0.2.2.2.2.1), Value.slice q12_A5 (d0.2.2.2.2.2.1.1.length) (q12_c5), Value.slice q12_A6 (d0.2.2.2.2.2.1.2.1.length) (q12_c6), Value.slice q12_A7 (d0.2.2.2.2.2.1.2.2.1.length) (q12_c7), Value.slice q12_A8 (d0.2.2.2.2.2.1.2.2.2.length) (q12_c8), Value.slice q12_A9 (d0.2.2.2.2.2.2.length) (q12_c9)].toArray q12_E (0, 0))), (113, q12_n5), (114, q12_n6), (115, q12_n7), (116, q12_n8), (117, q12_n9), (110, (g.2.2.2.2)), (0, mout (wm W) (m0))]) (fun g => ((g.1) ≤ d0.2.2.2.2.2.2.length) ∧ ((g.2.1) = heldB d0.2.2.2.2.2.1 (d0.2.2.2.2.2.2.take (g.1)) d1) ∧ (OwnL .byte (g.2.2.2.2) mnil (.slice (g.2.2.1) (g.2.1).length (g.2.2.2.1)) (g.2.1))) (fun g => d0.2.2.2.2.2.2.length - (g.1)) (0, d0.2.2.2.2.2.1.1, A9, c9, m9) (⟨by omega, by first | exact (getF0 ‹d1 = (0 : Int)›).symm | exact (getF1 ‹d1 = (1 : Int)›).symm | exact (getF2 ‹d1 = (2 : Int)›).symm | exact (getF3 ‹d1 = (3 : Int)›).symm, ho9⟩) ⟨⟨rfl, rfl, rfl, rfl, rfl, rfl, rfl, trivial⟩, fun _ h => h.sub [118, 113, 114, 115, 116, 117, 110, 0]⟩ ?_
    rintro ⟨k, b, b_A, b_c, b_m⟩ ⟨hk, hb, h_b⟩
    replace hk : k ≤ d0.2.2.2.2.2.2.length := hk
    replace hb : b = heldB d0.2.2.2.2.2.1 (d0.2.2.2.2.2.2.take k) d1 := hb
    replace h_b : OwnL .byte b_m mnil (.slice b_A b.length b_c) b := h_b
    show VC _ _ _ _ _ [(5, Value.slice b_A (b.length) (b_c)), (20, Value.int .i64 (((k : Nat) : Int))), (0, Value.pointer (some ⟨g0, 0, none⟩)), (1, Value.int .i64 (d1)), (4, Value.slice none (0) (0)), (18, Value.slice q12_A9 (d0.2.2.2.2.2.2.length) (q12_c9)), (19, Value.int .i64 (((d0.2.2.2.2.2.2.length : Nat) : Int)))] [(118, mone g0 (.cells [Value.bool d0.1, Value.bool d0.2.1, Value.bool d0.2.2.1, Value.int .i64 (d0.2.2.2.1), Value.int .i64 (d0.2.2.2.2.1), Value.slice q12_A5 (d0.2.2.2.2.2.1.1.length) (q12_c5), Value.slice q12_A6 (d0.2.2.2.2.2.1.2.1.length) (q12_c6), Value.slice q12_A7 (d0.2.2.2.2.2.1.2.2.1.length) (q12_c7), Value.slice q12_A8 (d0.2.2.2.2.2.1.2.2.2.length) (q12_c8), Value.slice q12_A9 (d0.2.2.2.2.2.2.length) (q12_c9)].toArray q12_E (0, 0))), (113, q12_n5), (114, q12_n6), (115, q12_n7), (116, q12_n8), (117, q12_n9), (110, b_m), (0, mout (wm W) (m0))]
    have l_b : b.length ≤ b_c := by obtain ⟨_, _, he, hl, _⟩ := h_b.slice; simp only [Value.slice.injEq] at he; omega
    have k_b : b_c ≤ 9223372036854775807 := by obtain ⟨_, _, he, _, hl⟩ := h_b.slice; simp only [Value.slice.injEq, maxLen] at he hl; omega
    refine VC.rs ?_
    refine VO.y rfl (.lss rfl rfl) ?_
    refine VO.k8 0 1 4 5 18 19 20 21 ?_
    refine VC.seq ?_
    refine VC.cond rfl (fun hc19 => ?_) (fun hc19 => ?_)
    · -- 0T
      refine VC.skip ?_
      refine outN ?_
      refine VC.seq ?_
      refine VC.block ?_
      refine VC.rs ?_
      obtain ⟨x20, hx20⟩ : ∃ z_, (d0.2.2.2.2.2.2)[k]? = some z_ := ⟨_, List.getElem?_eq_getElem bd⟩
      obtain ⟨gg20, oo20, ec20, ea20, hce20, hre20⟩ := (Ow.rd q12_9 (mle_refl _)).elem hx20
      cases ea20
      obtain ⟨q20_A2, q20_c2, rfl, q20_0, q20_1, q20_2, q20_3⟩ := open_diskstep (x0 := x20.1) (x1 := x20.2.1) (x2 := x20.2.2.1) (x3 := x20.2.2.2) hre20
      simp only [inK] at q20_0
      simp only [inK] at q20_1
      have q20_r2 := Rd.room q20_2
      simp only [inK] at q20_3
      refine VO.y rfl (.ixI k rfl rfl tsl56 rfl bd) ?_
      refine VO.y rfl (.ldA 117 rfl tk64 rfl hce20) ?_
      refine VO.alloc 122 rfl tz64 (fun g21 => ?_)
      refine VO.store (k := 4) (c' := [Value.int .i64 (x20.1), Value.int .i64 (x20.2.1), Value.slice q20_A2 (x20.2.2.1.length) (q20_c2), Value.int .i64 (x20.2.2.2)]) 122 rfl rfl (.inl tk64) rfl rfl rfl rfl rfl ?_
      refine VO.k9 0 1 4 5 7 18 19 20 21 ?_
      refine VC.rs ?_
      refine VO.y rfl (.fa rfl tst64 rfl) ?_
      refine VO.y rfl (.ld1 122 rfl tk3 rfl (cellsAt_one rfl rfl)) ?_
      refine VO.mv ?_
      refine VO.y rfl (.eql rfl rfl) ?_
      refine VO.keep [122, 118, 113, 114, 115, 116, 117, 110, 0] [(122, mone g21 (.cells [Value.int .i64 (x20.1), Value.int .i64 (x20.2.1), Value.slice q20_A2 (x20.2.2.1.length) (q20_c2), Value.int .i64 (x20.2.2.2)].toArray 64 (0, 0))), (118, mone g0 (.cells [Value.bool d0.1, Value.bool d0.2.1, Value.bool d0.2.2.1, Value.int .i64 (d0.2.2.2.1), Value.int .i64 (d0.2.2.2.2.1), Value.slice q12_A5 (d0.2.2.2.2.2.1.1.length) (q12_c5), Value.slice q12_A6 (d0.2.2.2.2.2.1.2.1.length) (q12_c6), Value.slice q12_A7 (d0.2.2.2.2.2.1.2.2.1.length) (q12_c7), Value.slice q12_A8 (d0.2.2.2.2.2.1.2.2.2.length) (q12_c8), Value.slice (some ⟨gg20, oo20, none⟩) (d0.2.2.2.2.2.2.length) (q12_c9)].toArray q12_E (0, 0))), (113, q12_n5), (114, q12_n6), (115, q12_n7), (116, q12_n8), (117, q12_n9), (110, b_m), (0, mout (wm W) (m0))] (by kernel_rfl) ?_
      refine VO.k10 0 1 4 5 7 18 19 20 21 27 ?_
      refine VC.cond rfl (fun hc23 => ?_) (fun hc23 => ?_)
      · -- 0TT
        refine VC.reg ?_
        refine VO.mv ?_
        refine VO.y rfl (.ldA 122 rfl tk64 rfl (cellsAt_one rfl rfl)) ?_
        refine VO.call 110 rfl fnOk40 rfl rfl (fun W hW => dDone_ok W (hW.at (i := 110) rfl) (OwnL.ow h_b rfl) (Rd.mono hre20 (hW.out (i := 110) (j := 117) rfl rfl)) (by exact held_cut hg hb ‹d0.2.2.2.2.2.2[k]? = some _› e2 ‹_ = d1›) (by (have h_ := held_room hb ‹d0.2.2.2.2.2.2[k]? = some _›; simp only [sizeQ] at h_; omega))) (fun v24 m24 hv24 => ?_)
        obtain ⟨s24_0, rfl, f24_0⟩ := hv24
        obtain ⟨A24_0, c24_0, eq24_0, l24_0, k24_0⟩ := f24_0.slice
        subst eq24_0
        simp only [maxLen] at k24_0
        refine VO.as ?_
        refine VO.k10 0 1 4 5 7 18 19 20 21 27 ?_
        refine outBN ?_
        refine outN ?_
        refine VC.reg ?_
        refine VO.y rfl (.add (c := ((k + 1 : Nat) : Int)) rfl rfl (by omega) ⟨bd, bd⟩) ?_
        refine VO.mv ?_
        refine VO.k10 0 1 4 5 7 18 19 20 21 27 ?_
        exact outN ⟨⟨k + 1, doneB b x20, A24_0, c24_0, m24⟩, ⟨by omega, by first | exact held_yes hb ‹d0.2.2.2.2.2.2[k]? = some _› ‹_ = d1› | exact held_no hb ‹d0.2.2.2.2.2.2[k]? = some _› ‹¬ _ = d1›, (Ow.ownl f24_0 rfl mnil)⟩, bd, ⟨⟨rfl, rfl, rfl, rfl, rfl, rfl, rfl, trivial⟩, fun _ h => Inv.sub h [118, 113, 114, 115, 116, 117, 110, 0]⟩⟩
      · -- 0TF
        refine VC.skip ?_
        refine outBN ?_
        refine outN ?_
        refine VC.reg ?_
        refine VO.y rfl (.add (c := ((k + 1 : Nat) : Int)) rfl rfl (by omega) ⟨bd, bd⟩) ?_
        refine VO.mv ?_
        refine VO.k10 0 1 4 5 7 18 19 20 21 27 ?_
        exact outN ⟨⟨k + 1, b, b_A, b_c, b_m⟩, ⟨by omega, by first | exact held_yes hb ‹d0.2.2.2.2.2.2[k]? = some _› ‹_ = d1› | exact held_no hb ‹d0.2.2.2.2.2.2[k]? = some _› ‹¬ _ = d1›, h_b⟩, bd, ⟨⟨rfl, rfl, rfl, rfl, rfl, rfl, rfl, trivial⟩, fun _ h => Inv.sub h [118, 113, 114, 115, 116, 117, 110, 0]⟩⟩
    · -- 0F
      refine VC.exit ?_
      refine outE ?_
      refine outE ?_
      refine outBB ?_
      refine outN ?_
      refine VC.rs ?_
      refine VO.mv ?_
      refine VO.as ?_
      refine VO.k8 0 1 4 5 18 19 20 21 ?_
      refine VC.ret ?_
      refine ⟨_, _, res_run (rs := [.tmp 4]) rfl (.tmp rfl .nil), fun W_ hI => out_of (l := [b_m, mone g0 (.cells [Value.bool d0.1, Value.bool d0.2.1, Value.bool d0.2.2.1, Value.int .i64 (d0.2.2.2.1), Value.int .i64 (d0.2.2.2.2.1), Value.slice q12_A5 (d0.2.2.2.2.2.1.1.length) (q12_c5), Value.slice q12_A6 (d0.2.2.2.2.2.1.2.1.length) (q12_c6), Value.slice q12_A7 (d0.2.2.2.2.2.1.2.2.1.length) (q12_c7), Value.slice q12_A8 (d0.2.2.2.2.2.1.2.2.2.length) (q12_c8), Value.slice q12_A9 (d0.2.2.2.2.2.2.length) (q12_c9)].toArray q12_E (0, 0)), q12_n5, q12_n6, q12_n7, q12_n8, q12_n9]) hI [110, 118, 113, 114, 115, 116, 117] rfl rfl (mle_refl _) (fun hS_ => ?_)⟩
      dsimp only [packV]
      have he0 : (heldB d0.2.2.2.2.2.1 d0.2.2.2.2.2.2 d1 : Ty.Den (.sl .byte)) = b := by first | rfl | (rw [hb, List.take_of_length_le (by omega)])
      have hm0_ : (d0 : DdiskDisk) = d0 := by first | rfl | (rw [hb, List.take_of_length_le (by omega)])
      refine ⟨Value.slice b_A (b.length) (b_c), muns [b_m], muns [mone g0 (.cells [Value.bool d0.1, Value.bool d0.2.1, Value.bool d0.2.2.1, Value.int .i64 (d0.2.2.2.1), Value.int .i64 (d0.2.2.2.2.1), Value.slice q12_A5 (d0.2.2.2.2.2.1.1.length) (q12_c5), Value.slice q12_A6 (d0.2.2.2.2.2.1.2.1.length) (q12_c6), Value.slice q12_A7 (d0.2.2.2.2.2.1.2.2.1.length) (q12_c7), Value.slice q12_A8 (d0.2.2.2.2.2.1.2.2.2.length) (q12_c8), Value.slice q12_A9 (d0.2.2.2.2.2.2.length) (q12_c9)].toArray q12_E (0, 0)), q12_n5, q12_n6, q12_n7, q12_n8, q12_n9], ?_, ?_, ?_, ?_⟩
      rotate_left
      · exact Seps.grp (ls := [[b_m], [mone g0 (.cells [Value.bool d0.1, Value.bool d0.2.1, Value.bool d0.2.2.1, Value.int .i64 (d0.2.2.2.1), Value.int .i64 (d0.2.2.2.2.1), Value.slice q12_A5 (d0.2.2.2.2.2.1.1.length) (q12_c5), Value.slice q12_A6 (d0.2.2.2.2.2.1.2.1.length) (q12_c6), Value.slice q12_A7 (d0.2.2.2.2.2.1.2.2.1.length) (q12_c7), Value.slice q12_A8 (d0.2.2.2.2.2.1.2.2.2.length) (q12_c8), Value.slice q12_A9 (d0.2.2.2.2.2.2.length) (q12_c9)].toArray q12_E (0, 0)), q12_n5, q12_n6, q12_n7, q12_n8, q12_n9]]) hS_
      · rw [he0]; exact (Ow.up (OwnL.ow h_b rfl) ((Seps.self hS_ (List.Sublist.cons_cons _ (List.Sublist.cons _ (List.Sublist.cons _ (List.Sublist.cons _ (List.Sublist.cons _ (List.Sublist.cons _ (List.Sublist.cons _ List.Sublist.slnil)))))))).1 _ (.head _)))
      · rw [hm0_]; exact (show Ow (.ptr TdiskDisk) _ _ (_, d0) from (mkP_diskDisk d0.1 d0.2.1 d0.2.2.1 d0.2.2.2.1 d0.2.2.2.2.1 d0.2.2.2.2.2.1.1 d0.2.2.2.2.2.1.2.1 d0.2.2.2.2.2.1.2.2.1 d0.2.2.2.2.2.1.2.2.2 d0.2.2.2.2.2.2 (Seps.self hS_ (List.Sublist.cons _ (List.Sublist.cons_cons _ (List.Sublist.cons_cons _ (List.Sublist.cons_cons _ (List.Sublist.cons_cons _ (List.Sublist.cons_cons _ (List.Sublist.cons_cons _ List.Sublist.slnil)))))))) bdk bdk (OwnL.ow (Ow.ownl q12_5 rfl mnil) rfl) (OwnL.ow (Ow.ownl q12_6 rfl mnil) rfl) (OwnL.ow (Ow.ownl q12_7 rfl mnil) rfl) (OwnL.ow (Ow.ownl q12_8 rfl mnil) rfl) q12_9))
      all_goals (first | rfl | (simp [*]; done))
  · -- 1
    refine VO.y rfl (.ixa (i := 1) (o := 6) rfl rfl tar28 hi1 rfl rfl) ?_
    obtain ⟨q25_E, q25_A5, q25_c5, q25_A6, q25_c6, q25_A7, q25_c7, q25_A8, q25_c8, q25_A9, q25_c9, q25_n5, q25_n6, q25_n7, q25_n8, q25_n9, _, q25_S, q25_3, q25_4, q25_5, q25_6, q25_7, q25_8, q25_9⟩ := openP_diskDisk (x0 := d0.1) (x1 := d0.2.1) (x2 := d0.2.2.1) (x3 := d0.2.2.2.1) (x4 := d0.2.2.2.2.1) (x5 := d0.2.2.2.2.2.1.1) (x6 := d0.2.2.2.2.2.1.2.1) (x7 := d0.2.2.2.2.2.1.2.2.1) (x8 := d0.2.2.2.2.2.1.2.2.2) (x9 := d0.2.2.2.2.2.2) h0
    simp only [inK] at q25_3
    simp only [inK] at q25_4
    have q25_r5 := Rd.room (q25_5.rd (mle_refl _))
    have q25_r6 := Rd.room (q25_6.rd (mle_refl _))
    have q25_r7 := Rd.room (q25_7.rd (mle_refl _))
    have q25_r8 := Rd.room (q25_8.rd (mle_refl _))
    have q25_r9 := Rd.room (q25_9.rd (mle_refl _))
    refine VO.inv _ (fun _ h => h.parts (i := 1) rfl q25_S [131, 126, 127, 128, 129, 130]) ?_
    refine VO.y rfl (.ld1 131 rfl tk27 rfl (cellsAt_one rfl rfl)) ?_
    refine VO.inv _ (fun _ h => h.nilc 133) ?_
    obtain ⟨mo32, cs32, hM32, hA32, hC32⟩ := (OwnL.nil .byte mnil mnil)
    obtain ⟨all32, hS32, hR32⟩ := Rd.srcI (P := Try.prog) ((OwnL.rd (Ow.ownl q25_6 rfl mnil) (mle_refl _) (mle_nil _))) Try.underlying27
    refine VO.app 133 rfl rfl rfl tsl27 tz5 rfl rfl hM32 hA32 (hS32 _ 127 rfl) hR32.nice bdm bd (by decide) (fun v32 m32 hN32 => ?_)
    have ho32 : OwnL .byte m32 mnil v32 (d0.2.2.2.2.2.1.2.1) := OwnL.more hC32 hN32 (All2c.mono hR32 fun _ _ h => Rd.flat rfl h _)
    obtain ⟨A32, c32, rfl, l32, k32⟩ := ho32.slice
    simp only [maxLen] at k32
    refine VO.as ?_
    refine VO.gather (l := [mone g0 (.cells [Value.bool d0.1, Value.bool d0.2.1, Value.bool d0.2.2.1, Value.int .i64 (d0.2.2.2.1), Value.int .i64 (d0.2.2.2.2.1), Value.slice q25_A5 (d0.2.2.2.2.2.1.1.length) (q25_c5), Value.slice q25_A6 (d0.2.2.2.2.2.1.2.1.length) (q25_c6), Value.slice q25_A7 (d0.2.2.2.2.2.1.2.2.1.length) (q25_c7), Value.slice q25_A8 (d0.2.2.2.2.2.1.2.2.2.length) (q25_c8), Value.slice q25_A9 (d0.2.2.2.2.2.2.length) (q25_c9)].toArray q25_E (0, 0)), q25_n5, q25_n6, q25_n7, q25_n8, q25_n9]) 134 [131, 126, 127, 128, 129, 130] rfl (fun hg34 => ?_)
    have ho34 : Ow (.ptr TdiskDisk) (muns [mone g0 (.cells [Value.bool d0.1, Value.bool d0.2.1, Value.bool d0.2.2.1, Value.int .i64 (d0.2.2.2.1), Value.int .i64 (d0.2.2.2.2.1), Value.slice q25_A5 (d0.2.2.2.2.2.1.1.length) (q25_c5), Value.slice q25_A6 (d0.2.2.2.2.2.1.2.1.length) (q25_c6), Value.slice q25_A7 (d0.2.2.2.2.2.1.2.2.1.length) (q25_c7), Value.slice q25_A8 (d0.2.2.2.2.2.1.2.2.2.length) (q25_c8), Value.slice q25_A9 (d0.2.2.2.2.2.2.length) (q25_c9)].toArray q25_E (0, 0)), q25_n5, q25_n6, q25_n7, q25_n8, q25_n9]) [.pointer (some ⟨g0, 0, none⟩)] (g0, d0) := (show Ow (.ptr TdiskDisk) _ _ (_, d0) from (mkP_diskDisk d0.1 d0.2.1 d0.2.2.1 d0.2.2.2.1 d0.2.2.2.2.1 d0.2.2.2.2.2.1.1 d0.2.2.2.2.2.1.2.1 d0.2.2.2.2.2.1.2.2.1 d0.2.2.2.2.2.1.2.2.2 d0.2.2.2.2.2.2 hg34 bdk bdk (OwnL.ow (Ow.ownl q25_5 rfl mnil) rfl) (OwnL.ow (Ow.ownl q25_6 rfl mnil) rfl) (OwnL.ow (Ow.ownl q25_7 rfl mnil) rfl) (OwnL.ow (Ow.ownl q25_8 rfl mnil) rfl) q25_9))
    refine VO.k4 0 1 4 5 ?_
    refine VC.seq ?_
    refine VC.rs ?_
    refine VO.mv ?_
    refine VO.y rfl (.nilp rfl) ?_
    refine VO.y rfl (.fa rfl tst58 rfl) ?_
    obtain ⟨q35_E, q35_A5, q35_c5, q35_A6, q35_c6, q35_A7, q35_c7, q35_A8, q35_c8, q35_A9, q35_c9, q35_n5, q35_n6, q35_n7, q35_n8, q35_n9, _, q35_S, q35_3, q35_4, q35_5, q35_6, q35_7, q35_8, q35_9⟩ := openP_diskDisk (x0 := d0.1) (x1 := d0.2.1) (x2 := d0.2.2.1) (x3 := d0.2.2.2.1) (x4 := d0.2.2.2.2.1) (x5 := d0.2.2.2.2.2.1.1) (x6 := d0.2.2.2.2.2.1.2.1) (x7 := d0.2.2.2.2.2.1.2.2.1) (x8 := d0.2.2.2.2.2.1.2.2.2) (x9 := d0.2.2.2.2.2.2) ho34
    simp only [inK] at q35_3
    simp only [inK] at q35_4
    have q35_r5 := Rd.room (q35_5.rd (mle_refl _))
    have q35_r6 := Rd.room (q35_6.rd (mle_refl _))
    have q35_r7 := Rd.room (q35_7.rd (mle_refl _))
    have q35_r8 := Rd.room (q35_8.rd (mle_refl _))
    have q35_r9 := Rd.room (q35_9.rd (mle_refl _))
    refine VO.inv _ (fun _ h => h.parts (i := 134) rfl q35_S [141, 136, 137, 138, 139, 140]) ?_
    refine VO.y rfl (.ld1 141 rfl tk56 rfl (cellsAt_one rfl rfl)) ?_
    refine VO.y rfl (.lenS rfl tsl56) ?_
    refine VO.mv ?_
    refine VO.keep [141, 136, 137, 138, 139, 140, 133, 0] [(141, mone g0 (.cells [Value.bool d0.1, Value.bool d0.2.1, Value.bool d0.2.2.1, Value.int .i64 (d0.2.2.2.1), Value.int .i64 (d0.2.2.2.2.1), Value.slice q35_A5 (d0.2.2.2.2.2.1.1.length) (q35_c5), Value.slice q35_A6 (d0.2.2.2.2.2.1.2.1.length) (q35_c6), Value.slice q35_A7 (d0.2.2.2.2.2.1.2.2.1.length) (q35_c7), Value.slice q35_A8 (d0.2.2.2.2.2.1.2.2.2.length) (q35_c8), Value.slice q35_A9 (d0.2.2.2.2.2.2.length) (q35_c9)].toArray q35_E (0, 0))), (136, q35_n5), (137, q35_n6), (138, q35_n7), (139, q35_n8), (140, q35_n9), (133, m32), (0, mout (wm W) (m0))] (by kernel_rfl) ?_
    refine VO.k7 0 1 4 5 18 19 20 ?_
    refine VC.block ?_
    refine VC.loop (G := Nat × (List UInt8) × (Option Addr) × Nat × Mem) (fun g => [(5, Value.slice (g.2.2.1) ((g.2.1).length) ((g.2.2.2.1))), (20, Value.int .i64 ((((g.1) : Nat) : Int))), (0, Value.pointer (some ⟨g0, 0, none⟩)), (1, Value.int .i64 (d1)), (4, Value.slice none (0) (0)), (18, Value.slice q35_A9 (d0.2.2.2.2.2.2.length) (q35_c9)), (19, Value.int .i64 (((d0.2.2.2.2.2.2.length : Nat) : Int)))]) (fun g => [(141, mone g0 (.cells [Value.bool d0.1, Value.bool d0.2.1, Value.bool d0.2.2.1, Value.int .i64 (d0.2.2.2.1), Value.int .i64 (d0.2.2.2.2.1), Value.slice q35_A5 (d0.2.2.2.2.2.1.1.length) (q35_c5), Value.slice q35_A6 (d0.2.2.2.2.2.1.2.1.length) (q35_c6), Value.slice q35_A7 (d0.2.2.2.2.2.1.2.2.1.length) (q35_c7), Value.slice q35_A8 (d0.2.2.2.2.2.1.2.2.2.length) (q35_c8), Value.slice q35_A9 (d0.2.2.2.2.2.2.length) (q35_c9)].toArray q35_E (0, 0))), (136, q35_n5), (137, q35_n6), (138, q35_n7), (139, q35_n8), (140, q35_n9), (133, (g.2.2.2.2)), (0, mout (wm W) (m0))]) (fun g => ((g.1) ≤ d0.2.2.2.2.2.2.length) ∧ ((g.2.1) = heldB d0.2.2.2.2.2.1 (d0.2.2.2.2.2.2.take (g.1)) d1) ∧ (OwnL .byte (g.2.2.2.2) mnil (.slice (g.2.2.1) (g.2.1).length (g.2.2.2.1)) (g.2.1))) (fun g => d0.2.2.2.2.2.2.length - (g.1)) (0, d0.2.2.2.2.2.1.2.1, A32, c32, m32) (⟨by omega, by first | exact (getF0 ‹d1 = (0 : Int)›).symm | exact (getF1 ‹d1 = (1 : Int)›).symm | exact (getF2 ‹d1 = (2 : Int)›).symm | exact (getF3 ‹d1 = (3 : Int)›).symm, ho32⟩) ⟨⟨rfl, rfl, rfl, rfl, rfl, rfl, rfl, trivial⟩, fun _ h => h.sub [141, 136, 137, 138, 139, 140, 133, 0]⟩ ?_
    rintro ⟨k, b, b_A, b_c, b_m⟩ ⟨hk, hb, h_b⟩
    replace hk : k ≤ d0.2.2.2.2.2.2.length := hk
    replace hb : b = heldB d0.2.2.2.2.2.1 (d0.2.2.2.2.2.2.take k) d1 := hb
    replace h_b : OwnL .byte b_m mnil (.slice b_A b.length b_c) b := h_b
    show VC _ _ _ _ _ [(5, Value.slice b_A (b.length) (b_c)), (20, Value.int .i64 (((k : Nat) : Int))), (0, Value.pointer (some ⟨g0, 0, none⟩)), (1, Value.int .i64 (d1)), (4, Value.slice none (0) (0)), (18, Value.slice q35_A9 (d0.2.2.2.2.2.2.length) (q35_c9)), (19, Value.int .i64 (((d0.2.2.2.2.2.2.length : Nat) : Int)))] [(141, mone g0 (.cells [Value.bool d0.1, Value.bool d0.2.1, Value.bool d0.2.2.1, Value.int .i64 (d0.2.2.2.1), Value.int .i64 (d0.2.2.2.2.1), Value.slice q35_A5 (d0.2.2.2.2.2.1.1.length) (q35_c5), Value.slice q35_A6 (d0.2.2.2.2.2.1.2.1.length) (q35_c6), Value.slice q35_A7 (d0.2.2.2.2.2.1.2.2.1.length) (q35_c7), Value.slice q35_A8 (d0.2.2.2.2.2.1.2.2.2.length) (q35_c8), Value.slice q35_A9 (d0.2.2.2.2.2.2.length) (q35_c9)].toArray q35_E (0, 0))), (136, q35_n5), (137, q35_n6), (138, q35_n7), (139, q35_n8), (140, q35_n9), (133, b_m), (0, mout (wm W) (m0))]
    have l_b : b.length ≤ b_c := by obtain ⟨_, _, he, hl, _⟩ := h_b.slice; simp only [Value.slice.injEq] at he; omega
    have k_b : b_c ≤ 9223372036854775807 := by obtain ⟨_, _, he, _, hl⟩ := h_b.slice; simp only [Value.slice.injEq, maxLen] at he hl; omega
    refine VC.rs ?_
    refine VO.y rfl (.lss rfl rfl) ?_
    refine VO.k8 0 1 4 5 18 19 20 21 ?_
    refine VC.seq ?_
    refine VC.cond rfl (fun hc42 => ?_) (fun hc42 => ?_)
    · -- 1T
      refine VC.skip ?_
      refine outN ?_
      refine VC.seq ?_
      refine VC.block ?_
      refine VC.rs ?_
      obtain ⟨x43, hx43⟩ : ∃ z_, (d0.2.2.2.2.2.2)[k]? = some z_ := ⟨_, List.getElem?_eq_getElem bd⟩
      obtain ⟨gg43, oo43, ec43, ea43, hce43, hre43⟩ := (Ow.rd q35_9 (mle_refl _)).elem hx43
      cases ea43
      obtain ⟨q43_A2, q43_c2, rfl, q43_0, q43_1, q43_2, q43_3⟩ := open_diskstep (x0 := x43.1) (x1 := x43.2.1) (x2 := x43.2.2.1) (x3 := x43.2.2.2) hre43
      simp only [inK] at q43_0
      simp only [inK] at q43_1
      have q43_r2 := Rd.room q43_2
      simp only [inK] at q43_3
      refine VO.y rfl (.ixI k rfl rfl tsl56 rfl bd) ?_
      refine VO.y rfl (.ldA 140 rfl tk64 rfl hce43) ?_
      refine VO.alloc 145 rfl tz64 (fun g44 => ?_)
      refine VO.store (k := 4) (c' := [Value.int .i64 (x43.1), Value.int .i64 (x43.2.1), Value.slice q43_A2 (x43.2.2.1.length) (q43_c2), Value.int .i64 (x43.2.2.2)]) 145 rfl rfl (.inl tk64) rfl rfl rfl rfl rfl ?_
      refine VO.k9 0 1 4 5 7 18 19 20 21 ?_
      refine VC.rs ?_
      refine VO.y rfl (.fa rfl tst64 rfl) ?_
      refine VO.y rfl (.ld1 145 rfl tk3 rfl (cellsAt_one rfl rfl)) ?_
      refine VO.mv ?_
      refine VO.y rfl (.eql rfl rfl) ?_
      refine VO.keep [145, 141, 136, 137, 138, 139, 140, 133, 0] [(145, mone g44 (.cells [Value.int .i64 (x43.1), Value.int .i64 (x43.2.1), Value.slice q43_A2 (x43.2.2.1.length) (q43_c2), Value.int .i64 (x43.2.2.2)].toArray 64 (0, 0))), (141, mone g0 (.cells [Value.bool d0.1, Value.bool d0.2.1, Value.bool d0.2.2.1, Value.int .i64 (d0.2.2.2.1), Value.int .i64 (d0.2.2.2.2.1), Value.slice q35_A5 (d0.2.2.2.2.2.1.1.length) (q35_c5), Value.slice q35_A6 (d0.2.2.2.2.2.1.2.1.length) (q35_c6), Value.slice q35_A7 (d0.2.2.2.2.2.1.2.2.1.length) (q35_c7), Value.slice q35_A8 (d0.2.2.2.2.2.1.2.2.2.length) (q35_c8), Value.slice (some ⟨gg43, oo43, none⟩) (d0.2.2.2.2.2.2.length) (q35_c9)].toArray q35_E (0, 0))), (136, q35_n5), (137, q35_n6), (138, q35_n7), (139, q35_n8), (140, q35_n9), (133, b_m), (0, mout (wm W) (m0))] (by kernel_rfl) ?_
      refine VO.k10 0 1 4 5 7 18 19 20 21 27 ?_
      refine VC.cond rfl (fun hc46 => ?_) (fun hc46 => ?_)
      · -- 1TT
        refine VC.reg ?_
        refine VO.mv ?_
        refine VO.y rfl (.ldA 145 rfl tk64 rfl (cellsAt_one rfl rfl)) ?_
        refine VO.call 133 rfl fnOk40 rfl rfl (fun W hW => dDone_ok W (hW.at (i := 133) rfl) (OwnL.ow h_b rfl) (Rd.mono hre43 (hW.out (i := 133) (j := 140) rfl rfl)) (by exact held_cut hg hb ‹d0.2.2.2.2.2.2[k]? = some _› e2 ‹_ = d1›) (by (have h_ := held_room hb ‹d0.2.2.2.2.2.2[k]? = some _›; simp only [sizeQ] at h_; omega))) (fun v47 m47 hv47 => ?_)
        obtain ⟨s47_0, rfl, f47_0⟩ := hv47
        obtain ⟨A47_0, c47_0, eq47_0, l47_0, k47_0⟩ := f47_0.slice
        subst eq47_0
        simp only [maxLen] at k47_0
        refine VO.as ?_
        refine VO.k10 0 1 4 5 7 18 19 20 21 27 ?_
        refine outBN ?_
        refine outN ?_
        refine VC.reg ?_
        refine VO.y rfl (.add (c := ((k + 1 : Nat) : Int)) rfl rfl (by omega) ⟨bd, bd⟩) ?_
        refine VO.mv ?_
        refine VO.k10 0 1 4 5 7 18 19 20 21 27 ?_
        exact outN ⟨⟨k + 1, doneB b x43, A47_0, c47_0, m47⟩, ⟨by omega, by first | exact held_yes hb ‹d0.2.2.2.2.2.2[k]? = some _› ‹_ = d1› | exact held_no hb ‹d0.2.2.2.2.2.2[k]? = some _› ‹¬ _ = d1›, (Ow.ownl f47_0 rfl mnil)⟩, bd, ⟨⟨rfl, rfl, rfl, rfl, rfl, rfl, rfl, trivial⟩, fun _ h => Inv.sub h [141, 136, 137, 138, 139, 140, 133, 0]⟩⟩
      · -- 1TF
        refine VC.skip ?_
        refine outBN ?_
        refine outN ?_
        refine VC.reg ?_
        refine VO.y rfl (.add (c := ((k + 1 : Nat) : Int)) rfl rfl (by omega) ⟨bd, bd⟩) ?_
        refine VO.mv ?_
        refine VO.k10 0 1 4 5 7 18 19 20 21 27 ?_
        exact outN ⟨⟨k + 1, b, b_A, b_c, b_m⟩, ⟨by omega, by first | exact held_yes hb ‹d0.2.2.2.2.2.2[k]? = some _› ‹_ = d1› | exact held_no hb ‹d0.2.2.2.2.2.2[k]? = some _› ‹¬ _ = d1›, h_b⟩, bd, ⟨⟨rfl, rfl, rfl, rfl, rfl, rfl, rfl, trivial⟩, fun _ h => Inv.sub h [141, 136, 137, 138, 139, 140, 133, 0]⟩⟩
    · -- 1F
      refine VC.exit ?_
      refine outE ?_
      refine outE ?_
      refine outBB ?_
      refine outN ?_
      refine VC.rs ?_
      refine VO.mv ?_
      refine VO.as ?_
      refine VO.k8 0 1 4 5 18 19 20 21 ?_
      refine VC.ret ?_
      refine ⟨_, _, res_run (rs := [.tmp 4]) rfl (.tmp rfl .nil), fun W_ hI => out_of (l := [b_m, mone g0 (.cells [Value.bool d0.1, Value.bool d0.2.1, Value.bool d0.2.2.1, Value.int .i64 (d0.2.2.2.1), Value.int .i64 (d0.2.2.2.2.1), Value.slice q35_A5 (d0.2.2.2.2.2.1.1.length) (q35_c5), Value.slice q35_A6 (d0.2.2.2.2.2.1.2.1.length) (q35_c6), Value.slice q35_A7 (d0.2.2.2.2.2.1.2.2.1.length) (q35_c7), Value.slice q35_A8 (d0.2.2.2.2.2.1.2.2.2.length) (q35_c8), Value.slice q35_A9 (d0.2.2.2.2.2.2.length) (q35_c9)].toArray q35_E (0, 0)), q35_n5, q35_n6, q35_n7, q35_n8, q35_n9]) hI [133, 141, 136, 137, 138, 139, 140] rfl rfl (mle_refl _) (fun hS_ => ?_)⟩
      dsimp only [packV]
      have he0 : (heldB d0.2.2.2.2.2.1 d0.2.2.2.2.2.2 d1 : Ty.Den (.sl .byte)) = b := by first | rfl | (rw [hb, List.take_of_length_le (by omega)])
      have hm0_ : (d0 : DdiskDisk) = d0 := by first | rfl | (rw [hb, List.take_of_length_le (by omega)])
      refine ⟨Value.slice b_A (b.length) (b_c), muns [b_m], muns [mone g0 (.cells [Value.bool d0.1, Value.bool d0.2.1, Value.bool d0.2.2.1, Value.int .i64 (d0.2.2.2.1), Value.int .i64 (d0.2.2.2.2.1), Value.slice q35_A5 (d0.2.2.2.2.2.1.1.length) (q35_c5), Value.slice q35_A6 (d0.2.2.2.2.2.1.2.1.length) (q35_c6), Value.slice q35_A7 (d0.2.2.2.2.2.1.2.2.1.length) (q35_c7), Value.slice q35_A8 (d0.2.2.2.2.2.1.2.2.2.length) (q35_c8), Value.slice q35_A9 (d0.2.2.2.2.2.2.length) (q35_c9)].toArray q35_E (0, 0)), q35_n5, q35_n6, q35_n7, q35_n8, q35_n9], ?_, ?_, ?_, ?_⟩
      rotate_left
      · exact Seps.grp (ls := [[b_m], [mone g0 (.cells [Value.bool d0.1, Value.bool d0.2.1, Value.bool d0.2.2.1, Value.int .i64 (d0.2.2.2.1), Value.int .i64 (d0.2.2.2.2.1), Value.slice q35_A5 (d0.2.2.2.2.2.1.1.length) (q35_c5), Value.slice q35_A6 (d0.2.2.2.2.2.1.2.1.length) (q35_c6), Value.slice q35_A7 (d0.2.2.2.2.2.1.2.2.1.length) (q35_c7), Value.slice q35_A8 (d0.2.2.2.2.2.1.2.2.2.length) (q35_c8), Value.slice q35_A9 (d0.2.2.2.2.2.2.length) (q35_c9)].toArray q35_E (0, 0)), q35_n5, q35_n6, q35_n7, q35_n8, q35_n9]]) hS_
      · rw [he0]; exact (Ow.up (OwnL.ow h_b rfl) ((Seps.self hS_ (List.Sublist.cons_cons _ (List.Sublist.cons _ (List.Sublist.cons _ (List.Sublist.cons _ (List.Sublist.cons _ (List.Sublist.cons _ (List.Sublist.cons _ List.Sublist.slnil)))))))).1 _ (.head _)))
      · rw [hm0_]; exact (show Ow (.ptr TdiskDisk) _ _ (_, d0) from (mkP_diskDisk d0.1 d0.2.1 d0.2.2.1 d0.2.2.2.1 d0.2.2.2.2.1 d0.2.2.2.2.2.1.1 d0.2.2.2.2.2.1.2.1 d0.2.2.2.2.2.1.2.2.1 d0.2.2.2.2.2.1.2.2.2 d0.2.2.2.2.2.2 (Seps.self hS_ (List.Sublist.cons _ (List.Sublist.cons_cons _ (List.Sublist.cons_cons _ (List.Sublist.cons_cons _ (List.Sublist.cons_cons _ (List.Sublist.cons_cons _ (List.Sublist.cons_cons _ List.Sublist.slnil)))))))) bdk bdk (OwnL.ow (Ow.ownl q35_5 rfl mnil) rfl) (OwnL.ow (Ow.ownl q35_6 rfl mnil) rfl) (OwnL.ow (Ow.ownl q35_7 rfl mnil) rfl) (OwnL.ow (Ow.ownl q35_8 rfl mnil) rfl) q35_9))
      all_goals (first | rfl | (simp [*]; done))
  · -- 2
    refine VO.y rfl (.ixa (i := 2) (o := 7) rfl rfl tar28 hi1 rfl rfl) ?_
    obtain ⟨q48_E, q48_A5, q48_c5, q48_A6, q48_c6, q48_A7, q48_c7, q48_A8, q48_c8, q48_A9, q48_c9, q48_n5, q48_n6, q48_n7, q48_n8, q48_n9, _, q48_S, q48_3, q48_4, q48_5, q48_6, q48_7, q48_8, q48_9⟩ := openP_diskDisk (x0 := d0.1) (x1 := d0.2.1) (x2 := d0.2.2.1) (x3 := d0.2.2.2.1) (x4 := d0.2.2.2.2.1) (x5 := d0.2.2.2.2.2.1.1) (x6 := d0.2.2.2.2.2.1.2.1) (x7 := d0.2.2.2.2.2.1.2.2.1) (x8 := d0.2.2.2.2.2.1.2.2.2) (x9 := d0.2.2.2.2.2.2) h0
    simp only [inK] at q48_3
    simp only [inK] at q48_4
    have q48_r5 := Rd.room (q48_5.rd (mle_refl _))
    have q48_r6 := Rd.room (q48_6.rd (mle_refl _))
    have q48_r7 := Rd.room (q48_7.rd (mle_refl _))
    have q48_r8 := Rd.room (q48_8.rd (mle_refl _))
    have q48_r9 := Rd.room (q48_9.rd (mle_refl _))
    refine VO.inv _ (fun _ h => h.parts (i := 1) rfl q48_S [154, 149, 150, 151, 152, 153]) ?_
    refine VO.y rfl (.ld1 154 rfl tk27 rfl (cellsAt_one rfl rfl)) ?_
    refine VO.inv _ (fun _ h => h.nilc 156) ?_
    obtain ⟨mo55, cs55, hM55, hA55, hC55⟩ := (OwnL.nil .byte mnil mnil)
    obtain ⟨all55, hS55, hR55⟩ := Rd.srcI (P := Try.prog) ((OwnL.rd (Ow.ownl q48_7 rfl mnil) (mle_refl _) (mle_nil _))) Try.underlying27
    refine VO.app 156 rfl rfl rfl tsl27 tz5 rfl rfl hM55 hA55 (hS55 _ 151 rfl) hR55.nice bdm bd (by decide) (fun v55 m55 hN55 => ?_)
    have ho55 : OwnL .byte m55 mnil v55 (d0.2.2.2.2.2.1.2.2.1) := OwnL.more hC55 hN55 (All2c.mono hR55 fun _ _ h => Rd.flat rfl h _)
    obtain ⟨A55, c55, rfl, l55, k55⟩ := ho55.slice
    simp only [maxLen] at k55
    refine VO.as ?_
    refine VO.gather (l := [mone g0 (.cells [Value.bool d0.1, Value.bool d0.2.1, Value.bool d0.2.2.1, Value.int .i64 (d0.2.2.2.1), Value.int .i64 (d0.2.2.2.2.1), Value.slice q48_A5 (d0.2.2.2.2.2.1.1.length) (q48_c5), Value.slice q48_A6 (d0.2.2.2.2.2.1.2.1.length) (q48_c6), Value.slice q48_A7 (d0.2.2.2.2.2.1.2.2.1.length) (q48_c7), Value.slice q48_A8 (d0.2.2.2.2.2.1.2.2.2.length) (q48_c8), Value.slice q48_A9 (d0.2.2.2.2.2.2.length) (q48_c9)].toArray q48_E (0, 0)), q48_n5, q48_n6, q48_n7, q48_n8, q48_n9]) 157 [154, 149, 150, 151, 152, 153] rfl (fun hg57 => ?_)
    have ho57 : Ow (.ptr TdiskDisk) (muns [mone g0 (.cells [Value.bool d0.1, Value.bool d0.2.1, Value.bool d0.2.2.1, Value.int .i64 (d0.2.2.2.1), Value.int .i64 (d0.2.2.2.2.1), Value.slice q48_A5 (d0.2.2.2.2.2.1.1.length) (q48_c5), Value.slice q48_A6 (d0.2.2.2.2.2.1.2.1.length) (q48_c6), Value.slice q48_A7 (d0.2.2.2.2.2.1.2.2.1.length) (q48_c7), Value.slice q48_A8 (d0.2.2.2.2.2.1.2.2.2.length) (q48_c8), Value.slice q48_A9 (d0.2.2.2.2.2.2.length) (q48_c9)].toArray q48_E (0, 0)), q48_n5, q48_n6, q48_n7, q48_n8, q48_n9]) [.pointer (some ⟨g0, 0, none⟩)] (g0, d0) := (show Ow (.ptr TdiskDisk) _ _ (_, d0) from (mkP_diskDisk d0.1 d0.2.1 d0.2.2.1 d0.2.2.2.1 d0.2.2.2.2.1 d0.2.2.2.2.2.1.1 d0.2.2.2.2.2.1.2.1 d0.2.2.2.2.2.1.2.2.1 d0.2.2.2.2.2.1.2.2.2 d0.2.2.2.2.2.2 hg57 bdk bdk (OwnL.ow (Ow.ownl q48_5 rfl mnil) rfl) (OwnL.ow (Ow.ownl q48_6 rfl mnil) rfl) (OwnL.ow (Ow.ownl q48_7 rfl mnil) rfl) (OwnL.ow (Ow.ownl q48_8 rfl mnil) rfl) q48_9))
    refine VO.k4 0 1 4 5 ?_
    refine VC.seq ?_
    refine VC.rs ?_
    refine VO.mv ?_
    refine VO.y rfl (.nilp rfl) ?_
    refine VO.y rfl (.fa rfl tst58 rfl) ?_
    obtain ⟨q58_E, q58_A5, q58_c5, q58_A6, q58_c6, q58_A7, q58_c7, q58_A8, q58_c8, q58_A9, q58_c9, q58_n5, q58_n6, q58_n7, q58_n8, q58_n9, _, q58_S, q58_3, q58_4, q58_5, q58_6, q58_7, q58_8, q58_9⟩ := openP_diskDisk (x0 := d0.1) (x1 := d0.2.1) (x2 := d0.2.2.1) (x3 := d0.2.2.2.1) (x4 := d0.2.2.2.2.1) (x5 := d0.2.2.2.2.2.1.1) (x6 := d0.2.2.2.2.2.1.2.1) (x7 := d0.2.2.2.2.2.1.2.2.1) (x8 := d0.2.2.2.2.2.1.2.2.2) (x9 := d0.2.2.2.2.2.2) ho57
    simp only [inK] at q58_3
    simp only [inK] at q58_4
    have q58_r5 := Rd.room (q58_5.rd (mle_refl _))
    have q58_r6 := Rd.room (q58_6.rd (mle_refl _))
    have q58_r7 := Rd.room (q58_7.rd (mle_refl _))
    have q58_r8 := Rd.room (q58_8.rd (mle_refl _))
    have q58_r9 := Rd.room (q58_9.rd (mle_refl _))
    refine VO.inv _ (fun _ h => h.parts (i := 157) rfl q58_S [164, 159, 160, 161, 162, 163]) ?_
    refine VO.y rfl (.ld1 164 rfl tk56 rfl (cellsAt_one rfl rfl)) ?_
    refine VO.y rfl (.lenS rfl tsl56) ?_
    refine VO.mv ?_
    refine VO.keep [164, 159, 160, 161, 162, 163, 156, 0] [(164, mone g0 (.cells [Value.bool d0.1, Value.bool d0.2.1, Value.bool d0.2.2.1, Value.int .i64 (d0.2.2.2.1), Value.int .i64 (d0.2.2.2.2.1), Value.slice q58_A5 (d0.2.2.2.2.2.1.1.length) (q58_c5), Value.slice q58_A6 (d0.2.2.2.2.2.1.2.1.length) (q58_c6), Value.slice q58_A7 (d0.2.2.2.2.2.1.2.2.1.length) (q58_c7), Value.slice q58_A8 (d0.2.2.2.2.2.1.2.2.2.length) (q58_c8), Value.slice q58_A9 (d0.2.2.2.2.2.2.length) (q58_c9)].toArray q58_E (0, 0))), (159, q58_n5), (160, q58_n6), (161, q58_n7), (162, q58_n8), (163, q58_n9), (156, m55), (0, mout (wm W) (m0))] (by kernel_rfl) ?_
    refine VO.k7 0 1 4 5 18 19 20 ?_
    refine VC.block ?_
    refine VC.loop (G := Nat × (List UInt8) × (Option Addr) × Nat × Mem) (fun g => [(5, Value.slice (g.2.2.1) ((g.2.1).length) ((g.2.2.2.1))), (20, Value.int .i64 ((((g.1) : Nat) : Int))), (0, Value.pointer (some ⟨g0, 0, none⟩)), (1, Value.int .i64 (d1)), (4, Value.slice none (0) (0)), (18, Value.slice q58_A9 (d0.2.2.2.2.2.2.length) (q58_c9)), (19, Value.int .i64 (((d0.2.2.2.2.2.2.length : Nat) : Int)))]) (fun g => [(164, mone g0 (.cells [Value.bool d0.1, Value.bool d0.2.1, Value.bool d0.2.2.1, Value.int .i64 (d0.2.2.2.1), Value.int .i64 (d0.2.2.2.2.1), Value.slice q58_A5 (d0.2.2.2.2.2.1.1.length) (q58_c5), Value.slice q58_A6 (d0.2.2.2.2.2.1.2.1.length) (q58_c6), Value.slice q58_A7 (d0.2.2.2.2.2.1.2.2.1.length) (q58_c7), Value.slice q58_A8 (d0.2.2.2.2.2.1.2.2.2.length) (q58_c8), Value.slice q58_A9 (d0.2.2.2.2.2.2.length) (q58_c9)].toArray q58_E (0, 0))), (159, q58_n5), (160, q58_n6), (161, q58_n7), (162, q58_n8), (163, q58_n9), (156, (g.2.2.2.2)), (0, mout (wm W) (m0))]) (fun g => ((g.1) ≤ d0.2.2.2.2.2.2.length) ∧ ((g.2.1) = heldB d0.2.2.2.2.2.1 (d0.2.2.2.2.2.2.take (g.1)) d1) ∧ (OwnL .byte (g.2.2.2.2) mnil (.slice (g.2.2.1) (g.2.1).length (g.2.2.2.1)) (g.2.1))) (fun g => d0.2.2.2.2.2.2.length - (g.1)) (0, d0.2.2.2.2.2.1.2.2.1, A55, c55, m55) (⟨by omega, by first | exact (getF0 ‹d1 = (0 : Int)›).symm | exact (getF1 ‹d1 = (1 : Int)›).symm | exact (getF2 ‹d1 = (2 : Int)›).symm | exact (getF3 ‹d1 = (3 : Int)›).symm, ho55⟩) ⟨⟨rfl, rfl, rfl, rfl, rfl, rfl, rfl, trivial⟩, fun _ h => h.sub [164, 159, 160, 161, 162, 163, 156, 0]⟩ ?_
    rintro ⟨k, b, b_A, b_c, b_m⟩ ⟨hk, hb, h_b⟩
    replace hk : k ≤ d0.2.2.2.2.2.2.length := hk
    replace hb : b = heldB d0.2.2.2.2.2.1 (d0.2.2.2.2.2.2.take k) d1 := hb
    replace h_b : OwnL .byte b_m mnil (.slice b_A b.length b_c) b := h_b
    show VC _ _ _ _ _ [(5, Value.slice b_A (b.length) (b_c)), (20, Value.int .i64 (((k : Nat) : Int))), (0, Value.pointer (some ⟨g0, 0, none⟩)), (1, Value.int .i64 (d1)), (4, Value.slice none (0) (0)), (18, Value.slice q58_A9 (d0.2.2.2.2.2.2.length) (q58_c9)), (19, Value.int .i64 (((d0.2.2.2.2.2.2.length : Nat) : Int)))] [(164, mone g0 (.cells [Value.bool d0.1, Value.bool d0.2.1, Value.bool d0.2.2.1, Value.int .i64 (d0.2.2.2.1), Value.int .i64 (d0.2.2.2.2.1), Value.slice q58_A5 (d0.2.2.2.2.2.1.1.length) (q58_c5), Value.slice q58_A6 (d0.2.2.2.2.2.1.2.1.length) (q58_c6), Value.slice q58_A7 (d0.2.2.2.2.2.1.2.2.1.length) (q58_c7), Value.slice q58_A8 (d0.2.2.2.2.2.1.2.2.2.length) (q58_c8), Value.slice q58_A9 (d0.2.2.2.2.2.2.length) (q58_c9)].toArray q58_E (0, 0))), (159, q58_n5), (160, q58_n6), (161, q58_n7), (162, q58_n8), (163, q58_n9), (156, b_m), (0, mout (wm W) (m0))]
    have l_b : b.length ≤ b_c := by obtain ⟨_, _, he, hl, _⟩ := h_b.slice; simp only [Value.slice.injEq] at he; omega
    have k_b : b_c ≤ 9223372036854775807 := by obtain ⟨_, _, he, _, hl⟩ := h_b.slice; simp only [Value.slice.injEq, maxLen] at he hl; omega
    refine VC.rs ?_
    refine VO.y rfl (.lss rfl rfl) ?_
    refine VO.k8 0 1 4 5 18 19 20 21 ?_
    refine VC.seq ?_
    refine VC.cond rfl (fun hc65 => ?_) (fun hc65 => ?_)
    · -- 2T
      refine VC.skip ?_
      refine outN ?_
      refine VC.seq ?_
      refine VC.block ?_
      refine VC.rs ?_
      obtain ⟨x66, hx66⟩ : ∃ z_, (d0.2.2.2.2.2.2)[k]? = some z_ := ⟨_, List.getElem?_eq_getElem bd⟩
      obtain ⟨gg66, oo66, ec66, ea66, hce66, hre66⟩ := (Ow.rd q58_9 (mle_refl _)).elem hx66
      cases ea66
      obtain ⟨q66_A2, q66_c2, rfl, q66_0, q66_1, q66_2, q66_3⟩ := open_diskstep (x0 := x66.1) (x1 := x66.2.1) (x2 := x66.2.2.1) (x3 := x66.2.2.2) hre66
      simp only [inK] at q66_0
      simp only [inK] at q66_1
      have q66_r2 := Rd.room q66_2
      simp only [inK] at q66_3
      refine VO.y rfl (.ixI k rfl rfl tsl56 rfl bd) ?_
      refine VO.y rfl (.ldA 163 rfl tk64 rfl hce66) ?_
      refine VO.alloc 168 rfl tz64 (fun g67 => ?_)
      refine VO.store (k := 4) (c' := [Value.int .i64 (x66.1), Value.int .i64 (x66.2.1), Value.slice q66_A2 (x66.2.2.1.length) (q66_c2), Value.int .i64 (x66.2.2.2)]) 168 rfl rfl (.inl tk64) rfl rfl rfl rfl rfl ?_
      refine VO.k9 0 1 4 5 7 18 19 20 21 ?_
      refine VC.rs ?_
      refine VO.y rfl (.fa rfl tst64 rfl) ?_
      refine VO.y rfl (.ld1 168 rfl tk3 rfl (cellsAt_one rfl rfl)) ?_
      refine VO.mv ?_
      refine VO.y rfl (.eql rfl rfl) ?_
      refine VO.keep [168, 164, 159, 160, 161, 162, 163, 156, 0] [(168, mone g67 (.cells [Value.int .i64 (x66.1), Value.int .i64 (x66.2.1), Value.slice q66_A2 (x66.2.2.1.length) (q66_c2), Value.int .i64 (x66.2.2.2)].toArray 64 (0, 0))), (164, mone g0 (.cells [Value.bool d0.1, Value.bool d0.2.1, Value.bool d0.2.2.1, Value.int .i64 (d0.2.2.2.1), Value.int .i64 (d0.2.2.2.2.1), Value.slice q58_A5 (d0.2.2.2.2.2.1.1.length) (q58_c5), Value.slice q58_A6 (d0.2.2.2.2.2.1.2.1.length) (q58_c6), Value.slice q58_A7 (d0.2.2.2.2.2.1.2.2.1.length) (q58_c7), Value.slice q58_A8 (d0.2.2.2.2.2.1.2.2.2.length) (q58_c8), Value.slice (some ⟨gg66, oo66, none⟩) (d0.2.2.2.2.2.2.length) (q58_c9)].toArray q58_E (0, 0))), (159, q58_n5), (160, q58_n6), (161, q58_n7), (162, q58_n8), (163, q58_n9), (156, b_m), (0, mout (wm W) (m0))] (by kernel_rfl) ?_
      refine VO.k10 0 1 4 5 7 18 19 20 21 27 ?_
      refine VC.cond rfl (fun hc69 => ?_) (fun hc69 => ?_)
      · -- 2TT
        refine VC.reg ?_
        refine VO.mv ?_
        refine VO.y rfl (.ldA 168 rfl tk64 rfl (cellsAt_one rfl rfl)) ?_
        refine VO.call 156 rfl fnOk40 rfl rfl (fun W hW => dDone_ok W (hW.at (i := 156) rfl) (OwnL.ow h_b rfl) (Rd.mono hre66 (hW.out (i := 156) (j := 163) rfl rfl)) (by exact held_cut hg hb ‹d0.2.2.2.2.2.2[k]? = some _› e2 ‹_ = d1›) (by (have h_ := held_room hb ‹d0.2.2.2.2.2.2[k]? = some _›; simp only [sizeQ] at h_; omega))) (fun v70 m70 hv70 => ?_)
        obtain ⟨s70_0, rfl, f70_0⟩ := hv70
        obtain ⟨A70_0, c70_0, eq70_0, l70_0, k70_0⟩ := f70_0.slice
        subst eq70_0
        simp only [maxLen] at k70_0
        refine VO.as ?_
        refine VO.k10 0 1 4 5 7 18 19 20 21 27 ?_
        refine outBN ?_
        refine outN ?_
        refine VC.reg ?_
        refine VO.y rfl (.add (c := ((k + 1 : Nat) : Int)) rfl rfl (by omega) ⟨bd, bd⟩) ?_
        refine VO.mv ?_
        refine VO.k10 0 1 4 5 7 18 19 20 21 27 ?_
        exact outN ⟨⟨k + 1, doneB b x66, A70_0, c70_0, m70⟩, ⟨by omega, by first | exact held_yes hb ‹d0.2.2.2.2.2.2[k]? = some _› ‹_ = d1› | exact held_no hb ‹d0.2.2.2.2.2.2[k]? = some _› ‹¬ _ = d1›, (Ow.ownl f70_0 rfl mnil)⟩, bd, ⟨⟨rfl, rfl, rfl, rfl, rfl, rfl, rfl, trivial⟩, fun _ h => Inv.sub h [164, 159, 160, 161, 162, 163, 156, 0]⟩⟩
      · -- 2TF
        refine VC.skip ?_
        refine outBN ?_
        refine outN ?_
        refine VC.reg ?_
        refine VO.y rfl (.add (c := ((k + 1 : Nat) : Int)) rfl rfl (by omega) ⟨bd, bd⟩) ?_
        refine VO.mv ?_
        refine VO.k10 0 1 4 5 7 18 19 20 21 27 ?_
        exact outN ⟨⟨k + 1, b, b_A, b_c, b_m⟩, ⟨by omega, by first | exact held_yes hb ‹d0.2.2.2.2.2.2[k]? = some _› ‹_ = d1› | exact held_no hb ‹d0.2.2.2.2.2.2[k]? = some _› ‹¬ _ = d1›, h_b⟩, bd, ⟨⟨rfl, rfl, rfl, rfl, rfl, rfl, rfl, trivial⟩, fun _ h => Inv.sub h [164, 159, 160, 161, 162, 163, 156, 0]⟩⟩
    · -- 2F
      refine VC.exit ?_
      refine outE ?_
      refine outE ?_
      refine outBB ?_
      refine outN ?_
      refine VC.rs ?_
      refine VO.mv ?_
      refine VO.as ?_
      refine VO.k8 0 1 4 5 18 19 20 21 ?_
      refine VC.ret ?_
      refine ⟨_, _, res_run (rs := [.tmp 4]) rfl (.tmp rfl .nil), fun W_ hI => out_of (l := [b_m, mone g0 (.cells [Value.bool d0.1, Value.bool d0.2.1, Value.bool d0.2.2.1, Value.int .i64 (d0.2.2.2.1), Value.int .i64 (d0.2.2.2.2.1), Value.slice q58_A5 (d0.2.2.2.2.2.1.1.length) (q58_c5), Value.slice q58_A6 (d0.2.2.2.2.2.1.2.1.length) (q58_c6), Value.slice q58_A7 (d0.2.2.2.2.2.1.2.2.1.length) (q58_c7), Value.slice q58_A8 (d0.2.2.2.2.2.1.2.2.2.length) (q58_c8), Value.slice q58_A9 (d0.2.2.2.2.2.2.length) (q58_c9)].toArray q58_E (0, 0)), q58_n5, q58_n6, q58_n7, q58_n8, q58_n9]) hI [156, 164, 159, 160, 161, 162, 163] rfl rfl (mle_refl _) (fun hS_ => ?_)⟩
      dsimp only [packV]
      have he0 : (heldB d0.2.2.2.2.2.1 d0.2.2.2.2.2.2 d1 : Ty.Den (.sl .byte)) = b := by first | rfl | (rw [hb, List.take_of_length_le (by omega)])
      have hm0_ : (d0 : DdiskDisk) = d0 := by first | rfl | (rw [hb, List.take_of_length_le (by omega)])
      refine ⟨Value.slice b_A (b.length) (b_c), muns [b_m], muns [mone g0 (.cells [Value.bool d0.1, Value.bool d0.2.1, Value.bool d0.2.2.1, Value.int .i64 (d0.2.2.2.1), Value.int .i64 (d0.2.2.2.2.1), Value.slice q58_A5 (d0.2.2.2.2.2.1.1.length) (q58_c5), Value.slice q58_A6 (d0.2.2.2.2.2.1.2.1.length) (q58_c6), Value.slice q58_A7 (d0.2.2.2.2.2.1.2.2.1.length) (q58_c7), Value.slice q58_A8 (d0.2.2.2.2.2.1.2.2.2.length) (q58_c8), Value.slice q58_A9 (d0.2.2.2.2.2.2.length) (q58_c9)].toArray q58_E (0, 0)), q58_n5, q58_n6, q58_n7, q58_n8, q58_n9], ?_, ?_, ?_, ?_⟩
      rotate_left
      · exact Seps.grp (ls := [[b_m], [mone g0 (.cells [Value.bool d0.1, Value.bool d0.2.1, Value.bool d0.2.2.1, Value.int .i64 (d0.2.2.2.1), Value.int .i64 (d0.2.2.2.2.1), Value.slice q58_A5 (d0.2.2.2.2.2.1.1.length) (q58_c5), Value.slice q58_A6 (d0.2.2.2.2.2.1.2.1.length) (q58_c6), Value.slice q58_A7 (d0.2.2.2.2.2.1.2.2.1.length) (q58_c7), Value.slice q58_A8 (d0.2.2.2.2.2.1.2.2.2.length) (q58_c8), Value.slice q58_A9 (d0.2.2.2.2.2.2.length) (q58_c9)].toArray q58_E (0, 0)), q58_n5, q58_n6, q58_n7, q58_n8, q58_n9]]) hS_
      · rw [he0]; exact (Ow.up (OwnL.ow h_b rfl) ((Seps.self hS_ (List.Sublist.cons_cons _ (List.Sublist.cons _ (List.Sublist.cons _ (List.Sublist.cons _ (List.Sublist.cons _ (List.Sublist.cons _ (List.Sublist.cons _ List.Sublist.slnil)))))))).1 _ (.head _)))
      · rw [hm0_]; exact (show Ow (.ptr TdiskDisk) _ _ (_, d0) from (mkP_diskDisk d0.1 d0.2.1 d0.2.2.1 d0.2.2.2.1 d0.2.2.2.2.1 d0.2.2.2.2.2.1.1 d0.2.2.2.2.2.1.2.1 d0.2.2.2.2.2.1.2.2.1 d0.2.2.2.2.2.1.2.2.2 d0.2.2.2.2.2.2 (Seps.self hS_ (List.Sublist.cons _ (List.Sublist.cons_cons _ (List.Sublist.cons_cons _ (List.Sublist.cons_cons _ (List.Sublist.cons_cons _ (List.Sublist.cons_cons _ (List.Sublist.cons_cons _ List.Sublist.slnil)))))))) bdk bdk (OwnL.ow (Ow.ownl q58_5 rfl mnil) rfl) (OwnL.ow (Ow.ownl q58_6 rfl mnil) rfl) (OwnL.ow (Ow.ownl q58_7 rfl mnil) rfl) (OwnL.ow (Ow.ownl q58_8 rfl mnil) rfl) q58_9))
      all_goals (first | rfl | (simp [*]; done))
  · -- 3
    refine VO.y rfl (.ixa (i := 3) (o := 8) rfl rfl tar28 hi1 rfl rfl) ?_
    obtain ⟨q71_E, q71_A5, q71_c5, q71_A6, q71_c6, q71_A7, q71_c7, q71_A8, q71_c8, q71_A9, q71_c9, q71_n5, q71_n6, q71_n7, q71_n8, q71_n9, _, q71_S, q71_3, q71_4, q71_5, q71_6, q71_7, q71_8, q71_9⟩ := openP_diskDisk (x0 := d0.1) (x1 := d0.2.1) (x2 := d0.2.2.1) (x3 := d0.2.2.2.1) (x4 := d0.2.2.2.2.1) (x5 := d0.2.2.2.2.2.1.1) (x6 := d0.2.2.2.2.2.1.2.1) (x7 := d0.2.2.2.2.2.1.2.2.1) (x8 := d0.2.2.2.2.2.1.2.2.2) (x9 := d0.2.2.2.2.2.2) h0
    simp only [inK] at q71_3
    simp only [inK] at q71_4
    have q71_r5 := Rd.room (q71_5.rd (mle_refl _))
    have q71_r6 := Rd.room (q71_6.rd (mle_refl _))
    have q71_r7 := Rd.room (q71_7.rd (mle_refl _))
    have q71_r8 := Rd.room (q71_8.rd (mle_refl _))
    have q71_r9 := Rd.room (q71_9.rd (mle_refl _))
    refine VO.inv _ (fun _ h => h.parts (i := 1) rfl q71_S [177, 172, 173, 174, 175, 176]) ?_
    refine VO.y rfl (.ld1 177 rfl tk27 rfl (cellsAt_one rfl rfl)) ?_
    refine VO.inv _ (fun _ h => h.nilc 179) ?_
    obtain ⟨mo78, cs78, hM78, hA78, hC78⟩ := (OwnL.nil .byte mnil mnil)
    obtain ⟨all78, hS78, hR78⟩ := Rd.srcI (P := Try.prog) ((OwnL.rd (Ow.ownl q71_8 rfl mnil) (mle_refl _) (mle_nil _))) Try.underlying27
    refine VO.app 179 rfl rfl rfl tsl27 tz5 rfl rfl hM78 hA78 (hS78 _ 175 rfl) hR78.nice bdm bd (by decide) (fun v78 m78 hN78 => ?_)
    have ho78 : OwnL .byte m78 mnil v78 (d0.2.2.2.2.2.1.2.2.2) := OwnL.more hC78 hN78 (All2c.mono hR78 fun _ _ h => Rd.flat rfl h _)
    obtain ⟨A78, c78, rfl, l78, k78⟩ := ho78.slice
    simp only [maxLen] at k78
    refine VO.as ?_
    refine VO.gather (l := [mone g0 (.cells [Value.bool d0.1, Value.bool d0.2.1, Value.bool d0.2.2.1, Value.int .i64 (d0.2.2.2.1), Value.int .i64 (d0.2.2.2.2.1), Value.slice q71_A5 (d0.2.2.2.2.2.1.1.length) (q71_c5), Value.slice q71_A6 (d0.2.2.2.2.2.1.2.1.length) (q71_c6), Value.slice q71_A7 (d0.2.2.2.2.2.1.2.2.1.length) (q71_c7), Value.slice q71_A8 (d0.2.2.2.2.2.1.2.2.2.length) (q71_c8), Value.slice q71_A9 (d0.2.2.2.2.2.2.length) (q71_c9)].toArray q71_E (0, 0)), q71_n5, q71_n6, q71_n7, q71_n8, q71_n9]) 180 [177, 172, 173, 174, 175, 176] rfl (fun hg80 => ?_)
    have ho80 : Ow (.ptr TdiskDisk) (muns [mone g0 (.cells [Value.bool d0.1, Value.bool d0.2.1, Value.bool d0.2.2.1, Value.int .i64 (d0.2.2.2.1), Value.int .i64 (d0.2.2.2.2.1), Value.slice q71_A5 (d0.2.2.2.2.2.1.1.length) (q71_c5), Value.slice q71_A6 (d0.2.2.2.2.2.1.2.1.length) (q71_c6), Value.slice q71_A7 (d0.2.2.2.2.2.1.2.2.1.length) (q71_c7), Value.slice q71_A8 (d0.2.2.2.2.2.1.2.2.2.length) (q71_c8), Value.slice q71_A9 (d0.2.2.2.2.2.2.length) (q71_c9)].toArray q71_E (0, 0)), q71_n5, q71_n6, q71_n7, q71_n8, q71_n9]) [.pointer (some ⟨g0, 0, none⟩)] (g0, d0) := (show Ow (.ptr TdiskDisk) _ _ (_, d0) from (mkP_diskDisk d0.1 d0.2.1 d0.2.2.1 d0.2.2.2.1 d0.2.2.2.2.1 d0.2.2.2.2.2.1.1 d0.2.2.2.2.2.1.2.1 d0.2.2.2.2.2.1.2.2.1 d0.2.2.2.2.2.1.2.2.2 d0.2.2.2.2.2.2 hg80 bdk bdk (OwnL.ow (Ow.ownl q71_5 rfl mnil) rfl) (OwnL.ow (Ow.ownl q71_6 rfl mnil) rfl) (OwnL.ow (Ow.ownl q71_7 rfl mnil) rfl) (OwnL.ow (Ow.ownl q71_8 rfl mnil) rfl) q71_9))
    refine VO.k4 0 1 4 5 ?_
    refine VC.seq ?_
    refine VC.rs ?_
    refine VO.mv ?_
    refine VO.y rfl (.nilp rfl) ?_
    refine VO.y rfl (.fa rfl tst58 rfl) ?_
    obtain ⟨q81_E, q81_A5, q81_c5, q81_A6, q81_c6, q81_A7, q81_c7, q81_A8, q81_c8, q81_A9, q81_c9, q81_n5, q81_n6, q81_n7, q81_n8, q81_n9, _, q81_S, q81_3, q81_4, q81_5, q81_6, q81_7, q81_8, q81_9⟩ := openP_diskDisk (x0 := d0.1) (x1 := d0.2.1) (x2 := d0.2.2.1) (x3 := d0.2.2.2.1) (x4 := d0.2.2.2.2.1) (x5 := d0.2.2.2.2.2.1.1) (x6 := d0.2.2.2.2.2.1.2.1) (x7 := d0.2.2.2.2.2.1.2.2.1) (x8 := d0.2.2.2.2.2.1.2.2.2) (x9 := d0.2.2.2.2.2.2) ho80
    simp only [inK] at q81_3
    simp only [inK] at q81_4
    have q81_r5 := Rd.room (q81_5.rd (mle_refl _))
    have q81_r6 := Rd.room (q81_6.rd (mle_refl _))
    have q81_r7 := Rd.room (q81_7.rd (mle_refl _))
    have q81_r8 := Rd.room (q81_8.rd (mle_refl _))
    have q81_r9 := Rd.room (q81_9.rd (mle_refl _))
    refine VO.inv _ (fun _ h => h.parts (i := 180) rfl q81_S [187, 182, 183, 184, 185, 186]) ?_
    refine VO.y rfl (.ld1 187 rfl tk56 rfl (cellsAt_one rfl rfl)) ?_
    refine VO.y rfl (.lenS rfl tsl56) ?_
    refine VO.mv ?_
    refine VO.keep [187, 182, 183, 184, 185, 186, 179, 0] [(187, mone g0 (.cells [Value.bool d0.1, Value.bool d0.2.1, Value.bool d0.2.2.1, Value.int .i64 (d0.2.2.2.1), Value.int .i64 (d0.2.2.2.2.1), Value.slice q81_A5 (d0.2.2.2.2.2.1.1.length) (q81_c5), Value.slice q81_A6 (d0.2.2.2.2.2.1.2.1.length) (q81_c6), Value.slice q81_A7 (d0.2.2.2.2.2.1.2.2.1.length) (q81_c7), Value.slice q81_A8 (d0.2.2.2.2.2.1.2.2.2.length) (q81_c8), Value.slice q81_A9 (d0.2.2.2.2.2.2.length) (q81_c9)].toArray q81_E (0, 0))), (182, q81_n5), (183, q81_n6), (184, q81_n7), (185, q81_n8), (186, q81_n9), (179, m78), (0, mout (wm W) (m0))] (by kernel_rfl) ?_
    refine VO.k7 0 1 4 5 18 19 20 ?_
    refine VC.block ?_
    refine VC.loop (G := Nat × (List UInt8) × (Option Addr) × Nat × Mem) (fun g => [(5, Value.slice (g.2.2.1) ((g.2.1).length) ((g.2.2.2.1))), (20, Value.int .i64 ((((g.1) : Nat) : Int))), (0, Value.pointer (some ⟨g0, 0, none⟩)), (1, Value.int .i64 (d1)), (4, Value.slice none (0) (0)), (18, Value.slice q81_A9 (d0.2.2.2.2.2.2.length) (q81_c9)), (19, Value.int .i64 (((d0.2.2.2.2.2.2.length : Nat) : Int)))]) (fun g => [(187, mone g0 (.cells [Value.bool d0.1, Value.bool d0.2.1, Value.bool d0.2.2.1, Value.int .i64 (d0.2.2.2.1), Value.int .i64 (d0.2.2.2.2.1), Value.slice q81_A5 (d0.2.2.2.2.2.1.1.length) (q81_c5), Value.slice q81_A6 (d0.2.2.2.2.2.1.2.1.length) (q81_c6), Value.slice q81_A7 (d0.2.2.2.2.2.1.2.2.1.length) (q81_c7), Value.slice q81_A8 (d0.2.2.2.2.2.1.2.2.2.length) (q81_c8), Value.slice q81_A9 (d0.2.2.2.2.2.2.length) (q81_c9)].toArray q81_E (0, 0))), (182, q81_n5), (183, q81_n6), (184, q81_n7), (185, q81_n8), (186, q81_n9), (179, (g.2.2.2.2)), (0, mout (wm W) (m0))]) (fun g => ((g.1) ≤ d0.2.2.2.2.2.2.length) ∧ ((g.2.1) = heldB d0.2.2.2.2.2.1 (d0.2.2.2.2.2.2.take (g.1)) d1) ∧ (OwnL .byte (g.2.2.2.2) mnil (.slice (g.2.2.1) (g.2.1).length (g.2.2.2.1)) (g.2.1))) (fun g => d0.2.2.2.2.2.2.length - (g.1)) (0, d0.2.2.2.2.2.1.2.2.2, A78, c78, m78) (⟨by omega, by first | exact (getF0 ‹d1 = (0 : Int)›).symm | exact (getF1 ‹d1 = (1 : Int)›).symm | exact (getF2 ‹d1 = (2 : Int)›).symm | exact (getF3 ‹d1 = (3 : Int)›).symm, ho78⟩) ⟨⟨rfl, rfl, rfl, rfl, rfl, rfl, rfl, trivial⟩, fun _ h => h.sub [187, 182, 183, 184, 185, 186, 179, 0]⟩ ?_
    rintro ⟨k, b, b_A, b_c, b_m⟩ ⟨hk, hb, h_b⟩
    replace hk : k ≤ d0.2.2.2.2.2.2.length := hk
    replace hb : b = heldB d0.2.2.2.2.2.1 (d0.2.2.2.2.2.2.take k) d1 := hb
    replace h_b : OwnL .byte b_m mnil (.slice b_A b.length b_c) b := h_b
    show VC _ _ _ _ _ [(5, Value.slice b_A (b.length) (b_c)), (20, Value.int .i64 (((k : Nat) : Int))), (0, Value.pointer (some ⟨g0, 0, none⟩)), (1, Value.int .i64 (d1)), (4, Value.slice none (0) (0)), (18, Value.slice q81_A9 (d0.2.2.2.2.2.2.length) (q81_c9)), (19, Value.int .i64 (((d0.2.2.2.2.2.2.length : Nat) : Int)))] [(187, mone g0 (.cells [Value.bool d0.1, Value.bool d0.2.1, Value.bool d0.2.2.1, Value.int .i64 (d0.2.2.2.1), Value.int .i64 (d0.2.2.2.2.1), Value.slice q81_A5 (d0.2.2.2.2.2.1.1.length) (q81_c5), Value.slice q81_A6 (d0.2.2.2.2.2.1.2.1.length) (q81_c6), Value.slice q81_A7 (d0.2.2.2.2.2.1.2.2.1.length) (q81_c7), Value.slice q81_A8 (d0.2.2.2.2.2.1.2.2.2.length) (q81_c8), Value.slice q81_A9 (d0.2.2.2.2.2.2.length) (q81_c9)].toArray q81_E (0, 0))), (182, q81_n5), (183, q81_n6), (184, q81_n7), (185, q81_n8), (186, q81_n9), (179, b_m), (0, mout (wm W) (m0))]
    have l_b : b.length ≤ b_c := by obtain ⟨_, _, he, hl, _⟩ := h_b.slice; simp only [Value.slice.injEq] at he; omega
    have k_b : b_c ≤ 9223372036854775807 := by obtain ⟨_, _, he, _, hl⟩ := h_b.slice; simp only [Value.slice.injEq, maxLen] at he hl; omega
    refine VC.rs ?_
    refine VO.y rfl (.lss rfl rfl) ?_
    refine VO.k8 0 1 4 5 18 19 20 21 ?_
    refine VC.seq ?_
    refine VC.cond rfl (fun hc88 => ?_) (fun hc88 => ?_)
    · -- 3T
      refine VC.skip ?_
      refine outN ?_
      refine VC.seq ?_
      refine VC.block ?_
      refine VC.rs ?_
      obtain ⟨x89, hx89⟩ : ∃ z_, (d0.2.2.2.2.2.2)[k]? = some z_ := ⟨_, List.getElem?_eq_getElem bd⟩
      obtain ⟨gg89, oo89, ec89, ea89, hce89, hre89⟩ := (Ow.rd q81_9 (mle_refl _)).elem hx89
      cases ea89
      obtain ⟨q89_A2, q89_c2, rfl, q89_0, q89_1, q89_2, q89_3⟩ := open_diskstep (x0 := x89.1) (x1 := x89.2.1) (x2 := x89.2.2.1) (x3 := x89.2.2.2) hre89
      simp only [inK] at q89_0
      simp only [inK] at q89_1
      have q89_r2 := Rd.room q89_2
      simp only [inK] at q89_3
      refine VO.y rfl (.ixI k rfl rfl tsl56 rfl bd) ?_
      refine VO.y rfl (.ldA 186 rfl tk64 rfl hce89) ?_
      refine VO.alloc 191 rfl tz64 (fun g90 => ?_)
      refine VO.store (k := 4) (c' := [Value.int .i64 (x89.1), Value.int .i64 (x89.2.1), Value.slice q89_A2 (x89.2.2.1.length) (q89_c2), Value.int .i64 (x89.2.2.2)]) 191 rfl rfl (.inl tk64) rfl rfl rfl rfl rfl ?_
      refine VO.k9 0 1 4 5 7 18 19 20 21 ?_
      refine VC.rs ?_
      refine VO.y rfl (.fa rfl tst64 rfl) ?_
      refine VO.y rfl (.ld1 191 rfl tk3 rfl (cellsAt_one rfl rfl)) ?_
      refine VO.mv ?_
      refine VO.y rfl (.eql rfl rfl) ?_
      refine VO.keep [191, 187, 182, 183, 184, 185, 186, 179, 0] [(191, mone g90 (.cells [Value.int .i64 (x89.1), Value.int .i64 (x89.2.1), Value.slice q89_A2 (x89.2.2.1.length) (q89_c2), Value.int .i64 (x89.2.2.2)].toArray 64 (0, 0))), (187, mone g0 (.cells [Value.bool d0.1, Value.bool d0.2.1, Value.bool d0.2.2.1, Value.int .i64 (d0.2.2.2.1), Value.int .i64 (d0.2.2.2.2.1), Value.slice q81_A5 (d0.2.2.2.2.2.1.1.length) (q81_c5), Value.slice q81_A6 (d0.2.2.2.2.2.1.2.1.length) (q81_c6), Value.slice q81_A7 (d0.2.2.2.2.2.1.2.2.1.length) (q81_c7), Value.slice q81_A8 (d0.2.2.2.2.2.1.2.2.2.length) (q81_c8), Value.slice (some ⟨gg89, oo89, none⟩) (d0.2.2.2.2.2.2.length) (q81_c9)].toArray q81_E (0, 0))), (182, q81_n5), (183, q81_n6), (184, q81_n7), (185, q81_n8), (186, q81_n9), (179, b_m), (0, mout (wm W) (m0))] (by kernel_rfl) ?_
      refine VO.k10 0 1 4 5 7 18 19 20 21 27 ?_
      refine VC.cond rfl (fun hc92 => ?_) (fun hc92 => ?_)
      · -- 3TT
        refine VC.reg ?_
        refine VO.mv ?_
        refine VO.y rfl (.ldA 191 rfl tk64 rfl (cellsAt_one rfl rfl)) ?_
        refine VO.call 179 rfl fnOk40 rfl rfl (fun W hW => dDone_ok W (hW.at (i := 179) rfl) (OwnL.ow h_b rfl) (Rd.mono hre89 (hW.out (i := 179) (j := 186) rfl rfl)) (by exact held_cut hg hb ‹d0.2.2.2.2.2.2[k]? = some _› e2 ‹_ = d1›) (by (have h_ := held_room hb ‹d0.2.2.2.2.2.2[k]? = some _›; simp only [sizeQ] at h_; omega))) (fun v93 m93 hv93 => ?_)
        obtain ⟨s93_0, rfl, f93_0⟩ := hv93
        obtain ⟨A93_0, c93_0, eq93_0, l93_0, k93_0⟩ := f93_0.slice
        subst eq93_0
        simp only [maxLen] at k93_0
        refine VO.as ?_
        refine VO.k10 0 1 4 5 7 18 19 20 21 27 ?_
        refine outBN ?_
        refine outN ?_
        refine VC.reg ?_
        refine VO.y rfl (.add (c := ((k + 1 : Nat) : Int)) rfl rfl (by omega) ⟨bd, bd⟩) ?_
        refine VO.mv ?_
        refine VO.k10 0 1 4 5 7 18 19 20 21 27 ?_
        exact outN ⟨⟨k + 1, doneB b x89, A93_0, c93_0, m93⟩, ⟨by omega, by first | exact held_yes hb ‹d0.2.2.2.2.2.2[k]? = some _› ‹_ = d1› | exact held_no hb ‹d0.2.2.2.2.2.2[k]? = some _› ‹¬ _ = d1›, (Ow.ownl f93_0 rfl mnil)⟩, bd, ⟨⟨rfl, rfl, rfl, rfl, rfl, rfl, rfl, trivial⟩, fun _ h => Inv.sub h [187, 182, 183, 184, 185, 186, 179, 0]⟩⟩
      · -- 3TF
        refine VC.skip ?_
        refine outBN ?_
        refine outN ?_
        refine VC.reg ?_
        refine VO.y rfl (.add (c := ((k + 1 : Nat) : Int)) rfl rfl (by omega) ⟨bd, bd⟩) ?_
        refine VO.mv ?_
        refine VO.k10 0 1 4 5 7 18 19 20 21 27 ?_
        exact outN ⟨⟨k + 1, b, b_A, b_c, b_m⟩, ⟨by omega, by first | exact held_yes hb ‹d0.2.2.2.2.2.2[k]? = some _› ‹_ = d1› | exact held_no hb ‹d0.2.2.2.2.2.2[k]? = some _› ‹¬ _ = d1›, h_b⟩, bd, ⟨⟨rfl, rfl, rfl, rfl, rfl, rfl, rfl, trivial⟩, fun _ h => Inv.sub h [187, 182, 183, 184, 185, 186, 179, 0]⟩⟩
    · -- 3F
      refine VC.exit ?_
      refine outE ?_
      refine outE ?_
      refine outBB ?_
      refine outN ?_
      refine VC.rs ?_
      refine VO.mv ?_
      refine VO.as ?_
      refine VO.k8 0 1 4 5 18 19 20 21 ?_
      refine VC.ret ?_
      refine ⟨_, _, res_run (rs := [.tmp 4]) rfl (.tmp rfl .nil), fun W_ hI => out_of (l := [b_m, mone g0 (.cells [Value.bool d0.1, Value.bool d0.2.1, Value.bool d0.2.2.1, Value.int .i64 (d0.2.2.2.1), Value.int .i64 (d0.2.2.2.2.1), Value.slice q81_A5 (d0.2.2.2.2.2.1.1.length) (q81_c5), Value.slice q81_A6 (d0.2.2.2.2.2.1.2.1.length) (q81_c6), Value.slice q81_A7 (d0.2.2.2.2.2.1.2.2.1.length) (q81_c7), Value.slice q81_A8 (d0.2.2.2.2.2.1.2.2.2.length) (q81_c8), Value.slice q81_A9 (d0.2.2.2.2.2.2.length) (q81_c9)].toArray q81_E (0, 0)), q81_n5, q81_n6, q81_n7, q81_n8, q81_n9]) hI [179, 187, 182, 183, 184, 185, 186] rfl rfl (mle_refl _) (fun hS_ => ?_)⟩
      dsimp only [packV]
      have he0 : (heldB d0.2.2.2.2.2.1 d0.2.2.2.2.2.2 d1 : Ty.Den (.sl .byte)) = b := by first | rfl | (rw [hb, List.take_of_length_le (by omega)])
      have hm0_ : (d0 : DdiskDisk) = d0 := by first | rfl | (rw [hb, List.take_of_length_le (by omega)])
      refine ⟨Value.slice b_A (b.length) (b_c), muns [b_m], muns [mone g0 (.cells [Value.bool d0.1, Value.bool d0.2.1, Value.bool d0.2.2.1, Value.int .i64 (d0.2.2.2.1), Value.int .i64 (d0.2.2.2.2.1), Value.slice q81_A5 (d0.2.2.2.2.2.1.1.length) (q81_c5), Value.slice q81_A6 (d0.2.2.2.2.2.1.2.1.length) (q81_c6), Value.slice q81_A7 (d0.2.2.2.2.2.1.2.2.1.length) (q81_c7), Value.slice q81_A8 (d0.2.2.2.2.2.1.2.2.2.length) (q81_c8), Value.slice q81_A9 (d0.2.2.2.2.2.2.length) (q81_c9)].toArray q81_E (0, 0)), q81_n5, q81_n6, q81_n7, q81_n8, q81_n9], ?_, ?_, ?_, ?_⟩
      rotate_left
      · exact Seps.grp (ls := [[b_m], [mone g0 (.cells [Value.bool d0.1, Value.bool d0.2.1, Value.bool d0.2.2.1, Value.int .i64 (d0.2.2.2.1), Value.int .i64 (d0.2.2.2.2.1), Value.slice q81_A5 (d0.2.2.2.2.2.1.1.length) (q81_c5), Value.slice q81_A6 (d0.2.2.2.2.2.1.2.1.length) (q81_c6), Value.slice q81_A7 (d0.2.2.2.2.2.1.2.2.1.length) (q81_c7), Value.slice q81_A8 (d0.2.2.2.2.2.1.2.2.2.length) (q81_c8), Value.slice q81_A9 (d0.2.2.2.2.2.2.length) (q81_c9)].toArray q81_E (0, 0)), q81_n5, q81_n6, q81_n7, q81_n8, q81_n9]]) hS_
      · rw [he0]; exact (Ow.up (OwnL.ow h_b rfl) ((Seps.self hS_ (List.Sublist.cons_cons _ (List.Sublist.cons _ (List.Sublist.cons _ (List.Sublist.cons _ (List.Sublist.cons _ (List.Sublist.cons _ (List.Sublist.cons _ List.Sublist.slnil)))))))).1 _ (.head _)))
      · rw [hm0_]; exact (show Ow (.ptr TdiskDisk) _ _ (_, d0) from (mkP_diskDisk d0.1 d0.2.1 d0.2.2.1 d0.2.2.2.1 d0.2.2.2.2.1 d0.2.2.2.2.2.1.1 d0.2.2.2.2.2.1.2.1 d0.2.2.2.2.2.1.2.2.1 d0.2.2.2.2.2.1.2.2.2 d0.2.2.2.2.2.2 (Seps.self hS_ (List.Sublist.cons _ (List.Sublist.cons_cons _ (List.Sublist.cons_cons _ (List.Sublist.cons_cons _ (List.Sublist.cons_cons _ (List.Sublist.cons_cons _ (List.Sublist.cons_cons _ List.Sublist.slnil)))))))) bdk bdk (OwnL.ow (Ow.ownl q81_5 rfl mnil) rfl) (OwnL.ow (Ow.ownl q81_6 rfl mnil) rfl) (OwnL.ow (Ow.ownl q81_7 rfl mnil) rfl) (OwnL.ow (Ow.ownl q81_8 rfl mnil) rfl) q81_9))
      all_goals (first | rfl | (simp [*]; done))
theorem dSettle_ok (W : World) {m0 : Mem} (hm : mle (m0) (wm W)) {g0 : Nat} {d0 : DdiskDisk} (h0 : Ow (.ptr TdiskDisk) m0 [.pointer (some ⟨g0, 0, none⟩)] (g0, d0)) (d1 : Int) (h1 : inK .i64 d1) (e0 : okD d0) (e1 : wD d0 ≤ 2*1000000000000) (e2 : 0 ≤ d1 ∧ d1 ≤ d0.2.2.2.2.2.2.length) : CallR Try.prog 37 [.pointer (some ⟨g0, 0, none⟩), .int .i64 d1] W (m0) (fun v m' => v = .tuple #[] ∧ Ow (.ptr TdiskDisk) m' [.pointer (some ⟨g0, 0, none⟩)] (g0, settleD d0 d1.toNat)) := by
  obtain ⟨hg, hfu, hst⟩ := e0; simp only [wD, sizeQ] at e1
  have h1' := h1; simp only [inK] at h1'
  refine CallR.ofB (n := 42) hm Try.func37 rfl rfl rfl ?_
  refine VC.seq ?_
  refine VC.rs ?_
  refine VO.mv ?_
  refine VO.y rfl (.nilp rfl) ?_
  refine VO.y rfl (.fa rfl tst58 rfl) ?_
  obtain ⟨q1_E, q1_A5, q1_c5, q1_A6, q1_c6, q1_A7, q1_c7, q1_A8, q1_c8, q1_A9, q1_c9, q1_n5, q1_n6, q1_n7, q1_n8, q1_n9, _, q1_S, q1_3, q1_4, q1_5, q1_6, q1_7, q1_8, q1_9⟩ := openP_diskDisk (x0 := d0.1) (x1 := d0.2.1) (x2 := d0.2.2.1) (x3 := d0.2.2.2.1) (x4 := d0.2.2.2.2.1) (x5 := d0.2.2.2.2.2.1.1) (x6 := d0.2.2.2.2.2.1.2.1) (x7 := d0.2.2.2.2.2.1.2.2.1) (x8 := d0.2.2.2.2.2.1.2.2.2) (x9 := d0.2.2.2.2.2.2) h0
  simp only [inK] at q1_3
  simp only [inK] at q1_4
  have q1_r5 := Rd.room (q1_5.rd (mle_refl _))
  have q1_r6 := Rd.room (q1_6.rd (mle_refl _))
  have q1_r7 := Rd.room (q1_7.rd (mle_refl _))
  have q1_r8 := Rd.room (q1_8.rd (mle_refl _))
  have q1_r9 := Rd.room (q1_9.rd (mle_refl _))
  refine VO.inv _ (fun _ h => h.parts (i := 1) rfl q1_S [107, 102, 103, 104, 105, 106]) ?_
  refine VO.y rfl (.ld1 107 rfl tk56 rfl (cellsAt_one rfl rfl)) ?_
  refine VO.mv ?_
  have hs8 := (Ow.rd q1_9 (mle_refl _)).pre (j := ((d1).toNat)) (by first | omega | (simp only [List.length_append, List.length_nil, List.length_cons, List.length_take, List.length_drop] at *; omega) | (have h_ := (play_cut hg hb (get_take ‹(d0.2.2.2.2.2.2.take d1.toNat)[k]? = some _›)).1; simp only [inF] at h_; omega))
  refine VO.y rfl (.slHI ((d1).toNat) rfl rfl tsl56 (by first | omega | (simp only [List.length_append, List.length_nil, List.length_cons, List.length_take, List.length_drop] at *; omega) | (have h_ := (play_cut hg hb (get_take ‹(d0.2.2.2.2.2.2.take d1.toNat)[k]? = some _›)).1; simp only [inF] at h_; omega)) (by first | omega | (simp only [List.length_append, List.length_nil, List.length_cons, List.length_take, List.length_drop] at *; omega) | (have h_ := (play_cut hg hb (get_take ‹(d0.2.2.2.2.2.2.take d1.toNat)[k]? = some _›)).1; simp only [inF] at h_; omega))) ?_
  refine VO.y rfl (.lenS rfl tsl56) ?_
  refine VO.mv ?_
  refine VO.k5 0 1 11 12 13 ?_
  refine VC.block ?_
  refine VC.loop (G := Nat × (List UInt8) × (Option Addr) × Nat × Mem × (List UInt8) × (Option Addr) × Nat × Mem × (List UInt8) × (Option Addr) × Nat × Mem × (List UInt8) × (Option Addr) × Nat × Mem) (fun g => [(13, Value.int .i64 ((((g.1) : Nat) : Int))), (0, Value.pointer (some ⟨g0, 0, none⟩)), (1, Value.int .i64 (d1)), (11, Value.slice q1_A9 ((d1).toNat) (q1_c9)), (12, Value.int .i64 ((((d1).toNat : Nat) : Int)))]) (fun g => [(107, mone g0 (.cells [Value.bool d0.1, Value.bool d0.2.1, Value.bool d0.2.2.1, Value.int .i64 (d0.2.2.2.1), Value.int .i64 (d0.2.2.2.2.1), Value.slice (g.2.2.1) ((g.2.1).length) ((g.2.2.2.1)), Value.slice (g.2.2.2.2.2.2.1) ((g.2.2.2.2.2.1).length) ((g.2.2.2.2.2.2.2.1)), Value.slice (g.2.2.2.2.2.2.2.2.2.2.1) ((g.2.2.2.2.2.2.2.2.2.1).length) ((g.2.2.2.2.2.2.2.2.2.2.2.1)), Value.slice (g.2.2.2.2.2.2.2.2.2.2.2.2.2.2.1) ((g.2.2.2.2.2.2.2.2.2.2.2.2.2.1).length) ((g.2.2.2.2.2.2.2.2.2.2.2.2.2.2.2.1)), Value.slice q1_A9 (d0.2.2.2.2.2.2.length) (q1_c9)].toArray q1_E (0, 0))), (102, (g.2.2.2.2.1)), (103, (g.2.2.2.2.2.2.2.2.1)), (104, (g.2.2.2.2.2.2.2.2.2.2.2.2.1)), (105, (g.2.2.2.2.2.2.2.2.2.2.2.2.2.2.2.2)), (106, q1_n9), (0, mout (wm W) (m0))]) (fun g => ((g.1) ≤ d1.toNat) ∧ (((g.2.1), (g.2.2.2.2.2.1), (g.2.2.2.2.2.2.2.2.2.1), (g.2.2.2.2.2.2.2.2.2.2.2.2.2.1)) = play d0.2.2.2.2.2.1 (d0.2.2.2.2.2.2.take (g.1))) ∧ (OwnL .byte (g.2.2.2.2.1) mnil (.slice (g.2.2.1) (g.2.1).length (g.2.2.2.1)) (g.2.1)) ∧ (OwnL .byte (g.2.2.2.2.2.2.2.2.1) mnil (.slice (g.2.2.2.2.2.2.1) (g.2.2.2.2.2.1).length (g.2.2.2.2.2.2.2.1)) (g.2.2.2.2.2.1)) ∧ (OwnL .byte (g.2.2.2.2.2.2.2.2.2.2.2.2.1) mnil (.slice (g.2.2.2.2.2.2.2.2.2.2.1) (g.2.2.2.2.2.2.2.2.2.1).length (g.2.2.2.2.2.2.2.2.2.2.2.1)) (g.2.2.2.2.2.2.2.2.2.1)) ∧ (OwnL .byte (g.2.2.2.2.2.2.2.2.2.2.2.2.2.2.2.2) mnil (.slice (g.2.2.2.2.2.2.2.2.2.2.2.2.2.2.1) (g.2.2.2.2.2.2.2.2.2.2.2.2.2.1).length (g.2.2.2.2.2.2.2.2.2.2.2.2.2.2.2.1)) (g.2.2.2.2.2.2.2.2.2.2.2.2.2.1))) (fun g => d1.toNat - (g.1)) (0, d0.2.2.2.2.2.1.1, q1_A5, q1_c5, q1_n5, d0.2.2.2.2.2.1.2.1, q1_A6, q1_c6, q1_n6, d0.2.2.2.2.2.1.2.2.1, q1_A7, q1_c7, q1_n7, d0.2.2.2.2.2.1.2.2.2, q1_A8, q1_c8, q1_n8) (⟨by omega, by rfl, (Ow.ownl q1_5 rfl mnil), (Ow.ownl q1_6 rfl mnil), (Ow.ownl q1_7 rfl mnil), (Ow.ownl q1_8 rfl mnil)⟩) ⟨⟨rfl, rfl, rfl, rfl, rfl, trivial⟩, fun _ h => h.sub [107, 102, 103, 104, 105, 106, 0]⟩ ?_
  rintro ⟨k, b0, b0_A, b0_c, b0_m, b1, b1_A, b1_c, b1_m, b2, b2_A, b2_c, b2_m, b3, b3_A, b3_c, b3_m⟩ ⟨hk, hb, h_b0, h_b1, h_b2, h_b3⟩
  replace hk : k ≤ d1.toNat := hk
  replace hb : (b0, b1, b2, b3) = play d0.2.2.2.2.2.1 (d0.2.2.2.2.2.2.take k) := hb
  replace h_b0 : OwnL .byte b0_m mnil (.slice b0_A b0.length b0_c) b0 := h_b0
  replace h_b1 : OwnL .byte b1_m mnil (.slice b1_A b1.length b1_c) b1 := h_b1
  replace h_b2 : OwnL .byte b2_m mnil (.slice b2_A b2.length b2_c) b2 := h_b2
  replace h_b3 : OwnL .byte b3_m mnil (.slice b3_A b3.length b3_c) b3 := h_b3
  show VC _ _ _ _ _ [(13, Value.int .i64 (((k : Nat) : Int))), (0, Value.pointer (some ⟨g0, 0, none⟩)), (1, Value.int .i64 (d1)), (11, Value.slice q1_A9 ((d1).toNat) (q1_c9)), (12, Value.int .i64 ((((d1).toNat : Nat) : Int)))] [(107, mone g0 (.cells [Value.bool d0.1, Value.bool d0.2.1, Value.bool d0.2.2.1, Value.int .i64 (d0.2.2.2.1), Value.int .i64 (d0.2.2.2.2.1), Value.slice b0_A (b0.length) (b0_c), Value.slice b1_A (b1.length) (b1_c), Value.slice b2_A (b2.length) (b2_c), Value.slice b3_A (b3.length) (b3_c), Value.slice q1_A9 (d0.2.2.2.2.2.2.length) (q1_c9)].toArray q1_E (0, 0))), (102, b0_m), (103, b1_m), (104, b2_m), (105, b3_m), (106, q1_n9), (0, mout (wm W) (m0))]
  have l_b0 : b0.length ≤ b0_c := by obtain ⟨_, _, he, hl, _⟩ := h_b0.slice; simp only [Value.slice.injEq] at he; omega
  have k_b0 : b0_c ≤ 9223372036854775807 := by obtain ⟨_, _, he, _, hl⟩ := h_b0.slice; simp only [Value.slice.injEq, maxLen] at he hl; omega
  have l_b1 : b1.length ≤ b1_c := by obtain ⟨_, _, he, hl, _⟩ := h_b1.slice; simp only [Value.slice.injEq] at he; omega
  have k_b1 : b1_c ≤ 9223372036854775807 := by obtain ⟨_, _, he, _, hl⟩ := h_b1.slice; simp only [Value.slice.injEq, maxLen] at he hl; omega
  have l_b2 : b2.length ≤ b2_c := by obtain ⟨_, _, he, hl, _⟩ := h_b2.slice; simp only [Value.slice.injEq] at he; omega
  have k_b2 : b2_c ≤ 9223372036854775807 := by obtain ⟨_, _, he, _, hl⟩ := h_b2.slice; simp only [Value.slice.injEq, maxLen] at he hl; omega
  have l_b3 : b3.length ≤ b3_c := by obtain ⟨_, _, he, hl, _⟩ := h_b3.slice; simp only [Value.slice.injEq] at he; omega
  have k_b3 : b3_c ≤ 9223372036854775807 := by obtain ⟨_, _, he, _, hl⟩ := h_b3.slice; simp only [Value.slice.injEq, maxLen] at he hl; omega
  refine VC.rs ?_
  refine VO.y rfl (.lss rfl rfl) ?_
  refine VO.k6 0 1 11 12 13 14 ?_
  refine VC.seq ?_
  refine VC.cond rfl (fun hc9 => ?_) (fun hc9 => ?_)
  · -- T
    refine VC.skip ?_
    refine outN ?_
    refine VC.seq ?_
    refine VC.block ?_
    refine VC.rs ?_
    obtain ⟨x10, hx10⟩ : ∃ z_, ((d0.2.2.2.2.2.2).take ((d1).toNat))[k]? = some z_ := ⟨_, List.getElem?_eq_getElem (by first | omega | (simp only [List.length_append, List.length_nil, List.length_cons, List.length_take, List.length_drop] at *; omega) | (have h_ := (play_cut hg hb (get_take ‹(d0.2.2.2.2.2.2.take d1.toNat)[k]? = some _›)).1; simp only [inF] at h_; omega))⟩
    obtain ⟨gg10, oo10, ec10, ea10, hce10, hre10⟩ := (Ow.rd (q1_9.pre (j := ((d1).toNat)) (by first | omega | (simp only [List.length_append, List.length_nil, List.length_cons, List.length_take, List.length_drop] at *; omega) | (have h_ := (play_cut hg hb (get_take ‹(d0.2.2.2.2.2.2.take d1.toNat)[k]? = some _›)).1; simp only [inF] at h_; omega))) (mle_refl _)).elem hx10
    cases ea10
    obtain ⟨q10_A2, q10_c2, rfl, q10_0, q10_1, q10_2, q10_3⟩ := open_diskstep (x0 := x10.1) (x1 := x10.2.1) (x2 := x10.2.2.1) (x3 := x10.2.2.2) hre10
    simp only [inK] at q10_0
    simp only [inK] at q10_1
    have q10_r2 := Rd.room q10_2
    simp only [inK] at q10_3
    refine VO.y rfl (.ixI k rfl rfl tsl56 rfl (by first | omega | (simp only [List.length_append, List.length_nil, List.length_cons, List.length_take, List.length_drop] at *; omega) | (have h_ := (play_cut hg hb (get_take ‹(d0.2.2.2.2.2.2.take d1.toNat)[k]? = some _›)).1; simp only [inF] at h_; omega))) ?_
    refine VO.y rfl (.ldA 106 rfl tk64 rfl hce10) ?_
    refine VO.alloc 112 rfl tz64 (fun g11 => ?_)
    refine VO.store (k := 4) (c' := [Value.int .i64 (x10.1), Value.int .i64 (x10.2.1), Value.slice q10_A2 (x10.2.2.1.length) (q10_c2), Value.int .i64 (x10.2.2.2)]) 112 rfl rfl (.inl tk64) rfl rfl rfl rfl rfl ?_
    refine VO.keep [112, 107, 102, 103, 104, 105, 106, 0] [(112, mone g11 (.cells [Value.int .i64 (x10.1), Value.int .i64 (x10.2.1), Value.slice q10_A2 (x10.2.2.1.length) (q10_c2), Value.int .i64 (x10.2.2.2)].toArray 64 (0, 0))), (107, mone g0 (.cells [Value.bool d0.1, Value.bool d0.2.1, Value.bool d0.2.2.1, Value.int .i64 (d0.2.2.2.1), Value.int .i64 (d0.2.2.2.2.1), Value.slice b0_A (b0.length) (b0_c), Value.slice b1_A (b1.length) (b1_c), Value.slice b2_A (b2.length) (b2_c), Value.slice b3_A (b3.length) (b3_c), Value.slice (some ⟨gg10, oo10, none⟩) (d0.2.2.2.2.2.2.length) (q1_c9)].toArray q1_E (0, 0))), (102, b0_m), (103, b1_m), (104, b2_m), (105, b3_m), (106, q1_n9), (0, mout (wm W) (m0))] (by kernel_rfl) ?_
    refine VO.k7 0 1 5 11 12 13 14 ?_
    refine VC.regD _ 14 [(0, true), (1, true), (2, true), (3, true), (4, true), (5, true), (6, true), (7, true), (8, true), (9, true), (10, true), (12, true), (13, true), (11, false)] follows (by kernel_rfl) (fun _ h => h.sub [112, 107, 106, 0]) ?_
    refine VD.y rfl rfl (.inl rfl) (.mv rfl) ?_
    refine VD.y rfl rfl (.inl rfl) (.fa rfl tst64 rfl) ?_
    refine VD.y rfl rfl (.inl rfl) (.ld1 112 rfl tk3 rfl (cellsAt_one rfl rfl)) ?_
    refine VD.y rfl rfl (.inl rfl) (.mv rfl) ?_
    refine VD.y rfl rfl (.inl rfl) (.fa rfl tst64 rfl) ?_
    refine VD.y rfl rfl (.inl rfl) (.ld1 112 rfl tk3 rfl (cellsAt_one rfl rfl)) ?_
    refine VD.y rfl rfl (.inl rfl) (.nilp rfl) ?_
    refine VD.y rfl rfl (.inl rfl) (.fa rfl tst58 rfl) ?_
    rcases (show x10.2.1 = (0 : Int) ∨ x10.2.1 = (1 : Int) ∨ x10.2.1 = (2 : Int) ∨ x10.2.1 = (3 : Int) from by first | omega | (simp only [List.length_append, List.length_nil, List.length_cons, List.length_take, List.length_drop] at *; omega) | (have h_ := (play_cut hg hb (get_take ‹(d0.2.2.2.2.2.2.take d1.toNat)[k]? = some _›)).1; simp only [inF] at h_; omega)) with hi13 | hi13 | hi13 | hi13
    · -- T0
      refine VD.y rfl rfl (.inl rfl) (.ixa (i := 0) (o := 5) rfl rfl tar28 hi13 rfl rfl) ?_
      refine VD.y rfl rfl (.inl rfl) (.ld1 107 rfl tk27 rfl (cellsAt_one rfl rfl)) ?_
      refine VD.y rfl rfl (.inl rfl) (.ldA 112 rfl tk64 rfl (cellsAt_one rfl rfl)) ?_
      refine VD.y rfl rfl (.inl rfl) (.nilp rfl) ?_
      refine VD.y rfl rfl (.inl rfl) (.fa rfl tst58 rfl) ?_
      refine VD.call 102 rfl rfl (.inl rfl) fnOk40 rfl rfl (fun _ _ h => h.sub [112, 107, 106, 0]) (fun W hW => dDone_ok W (hW.at (i := 102) rfl) (OwnL.ow h_b0 rfl) (Rd.mono hre10 (hW.out (i := 102) (j := 106) rfl rfl)) (by first | (have h_ := (play_cut hg hb (get_take ‹(d0.2.2.2.2.2.2.take d1.toNat)[k]? = some _›)).2; rw [getF0 ‹_ = (0 : Int)›] at h_; exact h_) | (have h_ := (play_cut hg hb (get_take ‹(d0.2.2.2.2.2.2.take d1.toNat)[k]? = some _›)).2; rw [getF1 ‹_ = (1 : Int)›] at h_; exact h_) | (have h_ := (play_cut hg hb (get_take ‹(d0.2.2.2.2.2.2.take d1.toNat)[k]? = some _›)).2; rw [getF2 ‹_ = (2 : Int)›] at h_; exact h_) | (have h_ := (play_cut hg hb (get_take ‹(d0.2.2.2.2.2.2.take d1.toNat)[k]? = some _›)).2; rw [getF3 ‹_ = (3 : Int)›] at h_; exact h_)) (by first | (have h_ := play_room hb (get_take ‹(d0.2.2.2.2.2.2.take d1.toNat)[k]? = some _›); rw [getF0 ‹_ = (0 : Int)›] at h_; simp only [sizeQ] at h_; omega) | (have h_ := play_room hb (get_take ‹(d0.2.2.2.2.2.2.take d1.toNat)[k]? = some _›); rw [getF1 ‹_ = (1 : Int)›] at h_; simp only [sizeQ] at h_; omega) | (have h_ := play_room hb (get_take ‹(d0.2.2.2.2.2.2.take d1.toNat)[k]? = some _›); rw [getF2 ‹_ = (2 : Int)›] at h_; simp only [sizeQ] at h_; omega) | (have h_ := play_room hb (get_take ‹(d0.2.2.2.2.2.2.take d1.toNat)[k]? = some _›); rw [getF3 ‹_ = (3 : Int)›] at h_; simp only [sizeQ] at h_; omega))) (fun v14 m14 hv14 => ?_)
      obtain ⟨s14_0, rfl, f14_0⟩ := hv14
      obtain ⟨A14_0, c14_0, eq14_0, l14_0, k14_0⟩ := f14_0.slice
      subst eq14_0
      simp only [maxLen] at k14_0
      refine VD.nil rfl ?_ rfl
      refine VO.y rfl (.ixa (i := 0) (o := 5) rfl rfl tar28 hi13 rfl rfl) ?_
      refine VO.store (k := 1) (c' := [Value.bool d0.1, Value.bool d0.2.1, Value.bool d0.2.2.1, Value.int .i64 (d0.2.2.2.1), Value.int .i64 (d0.2.2.2.2.1), Value.slice A14_0 ((doneB b0 x10).length) (c14_0), Value.slice b1_A (b1.length) (b1_c), Value.slice b2_A (b2.length) (b2_c), Value.slice b3_A (b3.length) (b3_c), Value.slice (some ⟨gg10, oo10, none⟩) (d0.2.2.2.2.2.2.length) (q1_c9)]) 107 rfl rfl (.inr ⟨tk27, rfl⟩) rfl rfl rfl rfl rfl ?_
      refine VO.k7 0 1 5 11 12 13 14 ?_
      refine outBN ?_
      refine outN ?_
      refine VC.reg ?_
      refine VO.y rfl (.add (c := ((k + 1 : Nat) : Int)) rfl rfl (by omega) ⟨by first | omega | (simp only [List.length_append, List.length_nil, List.length_cons, List.length_take, List.length_drop] at *; omega) | (have h_ := (play_cut hg hb (get_take ‹(d0.2.2.2.2.2.2.take d1.toNat)[k]? = some _›)).1; simp only [inF] at h_; omega), by first | omega | (simp only [List.length_append, List.length_nil, List.length_cons, List.length_take, List.length_drop] at *; omega) | (have h_ := (play_cut hg hb (get_take ‹(d0.2.2.2.2.2.2.take d1.toNat)[k]? = some _›)).1; simp only [inF] at h_; omega)⟩) ?_
      refine VO.mv ?_
      refine VO.k7 0 1 5 11 12 13 14 ?_
      exact outN ⟨⟨k + 1, doneB b0 x10, A14_0, c14_0, m14, b1, b1_A, b1_c, b1_m, b2, b2_A, b2_c, b2_m, b3, b3_A, b3_c, b3_m⟩, ⟨by omega, by first | (have h_ := play_next hb (get_take ‹(d0.2.2.2.2.2.2.take d1.toNat)[k]? = some _›); rw [stepQ, setQ0 ‹_ = (0 : Int)›, getF0 ‹_ = (0 : Int)›] at h_; exact h_) | (have h_ := play_next hb (get_take ‹(d0.2.2.2.2.2.2.take d1.toNat)[k]? = some _›); rw [stepQ, setQ1 ‹_ = (1 : Int)›, getF1 ‹_ = (1 : Int)›] at h_; exact h_) | (have h_ := play_next hb (get_take ‹(d0.2.2.2.2.2.2.take d1.toNat)[k]? = some _›); rw [stepQ, setQ2 ‹_ = (2 : Int)›, getF2 ‹_ = (2 : Int)›] at h_; exact h_) | (have h_ := play_next hb (get_take ‹(d0.2.2.2.2.2.2.take d1.toNat)[k]? = some _›); rw [stepQ, setQ3 ‹_ = (3 : Int)›, getF3 ‹_ = (3 : Int)›] at h_; exact h_), (Ow.ownl f14_0 rfl mnil), h_b1, h_b2, h_b3⟩, by first | omega | (simp only [List.length_append, List.length_nil, List.length_cons, List.length_take, List.length_drop] at *; omega) | (have h_ := (play_cut hg hb (get_take ‹(d0.2.2.2.2.2.2.take d1.toNat)[k]? = some _›)).1; simp only [inF] at h_; omega), ⟨⟨rfl, rfl, rfl, rfl, rfl, trivial⟩, fun _ h => Inv.sub h [107, 102, 103, 104, 105, 106, 0]⟩⟩
    · -- T1
      refine VD.y rfl rfl (.inl rfl) (.ixa (i := 1) (o := 6) rfl rfl tar28 hi13 rfl rfl) ?_
      refine VD.y rfl rfl (.inl rfl) (.ld1 107 rfl tk27 rfl (cellsAt_one rfl rfl)) ?_
      refine VD.y rfl rfl (.inl rfl) (.ldA 112 rfl tk64 rfl (cellsAt_one rfl rfl)) ?_
      refine VD.y rfl rfl (.inl rfl) (.nilp rfl) ?_
      refine VD.y rfl rfl (.inl rfl) (.fa rfl tst58 rfl) ?_
      refine VD.call 103 rfl rfl (.inl rfl) fnOk40 rfl rfl (fun _ _ h => h.sub [112, 107, 106, 0]) (fun W hW => dDone_ok W (hW.at (i := 103) rfl) (OwnL.ow h_b1 rfl) (Rd.mono hre10 (hW.out (i := 103) (j := 106) rfl rfl)) (by first | (have h_ := (play_cut hg hb (get_take ‹(d0.2.2.2.2.2.2.take d1.toNat)[k]? = some _›)).2; rw [getF0 ‹_ = (0 : Int)›] at h_; exact h_) | (have h_ := (play_cut hg hb (get_take ‹(d0.2.2.2.2.2.2.take d1.toNat)[k]? = some _›)).2; rw [getF1 ‹_ = (1 : Int)›] at h_; exact h_) | (have h_ := (play_cut hg hb (get_take ‹(d0.2.2.2.2.2.2.take d1.toNat)[k]? = some _›)).2; rw [getF2 ‹_ = (2 : Int)›] at h_; exact h_) | (have h_ := (play_cut hg hb (get_take ‹(d0.2.2.2.2.2.2.take d1.toNat)[k]? = some _›)).2; rw [getF3 ‹_ = (3 : Int)›] at h_; exact h_)) (by first | (have h_ := play_room hb (get_take ‹(d0.2.2.2.2.2.2.take d1.toNat)[k]? = some _›); rw [getF0 ‹_ = (0 : Int)›] at h_; simp only [sizeQ] at h_; omega) | (have h_ := play_room hb (get_take ‹(d0.2.2.2.2.2.2.take d1.toNat)[k]? = some _›); rw [getF1 ‹_ = (1 : Int)›] at h_; simp only [sizeQ] at h_; omega) | (have h_ := play_room hb (get_take ‹(d0.2.2.2.2.2.2.take d1.toNat)[k]? = some _›); rw [getF2 ‹_ = (2 : Int)›] at h_; simp only [sizeQ] at h_; omega) | (have h_ := play_room hb (get_take ‹(d0.2.2.2.2.2.2.take d1.toNat)[k]? = some _›); rw [getF3 ‹_ = (3 : Int)›] at h_; simp only [sizeQ] at h_; omega))) (fun v15 m15 hv15 => ?_)
      obtain ⟨s15_0, rfl, f15_0⟩ := hv15
      obtain ⟨A15_0, c15_0, eq15_0, l15_0, k15_0⟩ := f15_0.slice
      subst eq15_0
      simp only [maxLen] at k15_0
      refine VD.nil rfl ?_ rfl
      refine VO.y rfl (.ixa (i := 1) (o := 6) rfl rfl tar28 hi13 rfl rfl) ?_
      refine VO.store (k := 1) (c' := [Value.bool d0.1, Value.bool d0.2.1, Value.bool d0.2.2.1, Value.int .i64 (d0.2.2.2.1), Value.int .i64 (d0.2.2.2.2.1), Value.slice b0_A (b0.length) (b0_c), Value.slice A15_0 ((doneB b1 x10).length) (c15_0), Value.slice b2_A (b2.length) (b2_c), Value.slice b3_A (b3.length) (b3_c), Value.slice (some ⟨gg10, oo10, none⟩) (d0.2.2.2.2.2.2.length) (q1_c9)]) 107 rfl rfl (.inr ⟨tk27, rfl⟩) rfl rfl rfl rfl rfl ?_
      refine VO.k7 0 1 5 11 12 13 14 ?_
      refine outBN ?_
      refine outN ?_
      refine VC.reg ?_
      refine VO.y rfl (.add (c := ((k + 1 : Nat) : Int)) rfl rfl (by omega) ⟨by first | omega | (simp only [List.length_append, List.length_nil, List.length_cons, List.length_take, List.length_drop] at *; omega) | (have h_ := (play_cut hg hb (get_take ‹(d0.2.2.2.2.2.2.take d1.toNat)[k]? = some _›)).1; simp only [inF] at h_; omega), by first | omega | (simp only [List.length_append, List.length_nil, List.length_cons, List.length_take, List.length_drop] at *; omega) | (have h_ := (play_cut hg hb (get_take ‹(d0.2.2.2.2.2.2.take d1.toNat)[k]? = some _›)).1; simp only [inF] at h_; omega)⟩) ?_
      refine VO.mv ?_
      refine VO.k7 0 1 5 11 12 13 14 ?_
      exact outN ⟨⟨k + 1, b0, b0_A, b0_c, b0_m, doneB b1 x10, A15_0, c15_0, m15, b2, b2_A, b2_c, b2_m, b3, b3_A, b3_c, b3_m⟩, ⟨by omega, by first | (have h_ := play_next hb (get_take ‹(d0.2.2.2.2.2.2.take d1.toNat)[k]? = some _›); rw [stepQ, setQ0 ‹_ = (0 : Int)›, getF0 ‹_ = (0 : Int)›] at h_; exact h_) | (have h_ := play_next hb (get_take ‹(d0.2.2.2.2.2.2.take d1.toNat)[k]? = some _›); rw [stepQ, setQ1 ‹_ = (1 : Int)›, getF1 ‹_ = (1 : Int)›] at h_; exact h_) | (have h_ := play_next hb (get_take ‹(d0.2.2.2.2.2.2.take d1.toNat)[k]? = some _›); rw [stepQ, setQ2 ‹_ = (2 : Int)›, getF2 ‹_ = (2 : Int)›] at h_; exact h_) | (have h_ := play_next hb (get_take ‹(d0.2.2.2.2.2.2.take d1.toNat)[k]? = some _›); rw [stepQ, setQ3 ‹_ = (3 : Int)›, getF3 ‹_ = (3 : Int)›] at h_; exact h_), h_b0, (Ow.ownl f15_0 rfl mnil), h_b2, h_b3⟩, by first | omega | (simp only [List.length_append, List.length_nil, List.length_cons, List.length_take, List.length_drop] at *; omega) | (have h_ := (play_cut hg hb (get_take ‹(d0.2.2.2.2.2.2.take d1.toNat)[k]? = some _›)).1; simp only [inF] at h_; omega), ⟨⟨rfl, rfl, rfl, rfl, rfl, trivial⟩, fun _ h => Inv.sub h [107, 102, 103, 104, 105, 106, 0]⟩⟩
    · -- T2
      refine VD.y rfl rfl (.inl rfl) (.ixa (i := 2) (o := 7) rfl rfl tar28 hi13 rfl rfl) ?_
      refine VD.y rfl rfl (.inl rfl) (.ld1 107 rfl tk27 rfl (cellsAt_one rfl rfl)) ?_
      refine VD.y rfl rfl (.inl rfl) (.ldA 112 rfl tk64 rfl (cellsAt_one rfl rfl)) ?_
      refine VD.y rfl rfl (.inl rfl) (.nilp rfl) ?_
      refine VD.y rfl rfl (.inl rfl) (.fa rfl tst58 rfl) ?_
      refine VD.call 104 rfl rfl (.inl rfl) fnOk40 rfl rfl (fun _ _ h => h.sub [112, 107, 106, 0]) (fun W hW => dDone_ok W (hW.at (i := 104) rfl) (OwnL.ow h_b2 rfl) (Rd.mono hre10 (hW.out (i := 104) (j := 106) rfl rfl)) (by first | (have h_ := (play_cut hg hb (get_take ‹(d0.2.2.2.2.2.2.take d1.toNat)[k]? = some _›)).2; rw [getF0 ‹_ = (0 : Int)›] at h_; exact h_) | (have h_ := (play_cut hg hb (get_take ‹(d0.2.2.2.2.2.2.take d1.toNat)[k]? = some _›)).2; rw [getF1 ‹_ = (1 : Int)›] at h_; exact h_) | (have h_ := (play_cut hg hb (get_take ‹(d0.2.2.2.2.2.2.take d1.toNat)[k]? = some _›)).2; rw [getF2 ‹_ = (2 : Int)›] at h_; exact h_) | (have h_ := (play_cut hg hb (get_take ‹(d0.2.2.2.2.2.2.take d1.toNat)[k]? = some _›)).2; rw [getF3 ‹_ = (3 : Int)›] at h_; exact h_)) (by first | (have h_ := play_room hb (get_take ‹(d0.2.2.2.2.2.2.take d1.toNat)[k]? = some _›); rw [getF0 ‹_ = (0 : Int)›] at h_; simp only [sizeQ] at h_; omega) | (have h_ := play_room hb (get_take ‹(d0.2.2.2.2.2.2.take d1.toNat)[k]? = some _›); rw [getF1 ‹_ = (1 : Int)›] at h_; simp only [sizeQ] at h_; omega) | (have h_ := play_room hb (get_take ‹(d0.2.2.2.2.2.2.take d1.toNat)[k]? = some _›); rw [getF2 ‹_ = (2 : Int)›] at h_; simp only [sizeQ] at h_; omega) | (have h_ := play_room hb (get_take ‹(d0.2.2.2.2.2.2.take d1.toNat)[k]? = some _›); rw [getF3 ‹_ = (3 : Int)›] at h_; simp only [sizeQ] at h_; omega))) (fun v16 m16 hv16 => ?_)
      obtain ⟨s16_0, rfl, f16_0⟩ := hv16
      obtain ⟨A16_0, c16_0, eq16_0, l16_0, k16_0⟩ := f16_0.slice
      subst eq16_0
      simp only [maxLen] at k16_0
      refine VD.nil rfl ?_ rfl
      refine VO.y rfl (.ixa (i := 2) (o := 7) rfl rfl tar28 hi13 rfl rfl) ?_
      refine VO.store (k := 1) (c' := [Value.bool d0.1, Value.bool d0.2.1, Value.bool d0.2.2.1, Value.int .i64 (d0.2.2.2.1), Value.int .i64 (d0.2.2.2.2.1), Value.slice b0_A (b0.length) (b0_c), Value.slice b1_A (b1.length) (b1_c), Value.slice A16_0 ((doneB b2 x10).length) (c16_0), Value.slice b3_A (b3.length) (b3_c), Value.slice (some ⟨gg10, oo10, none⟩) (d0.2.2.2.2.2.2.length) (q1_c9)]) 107 rfl rfl (.inr ⟨tk27, rfl⟩) rfl rfl rfl rfl rfl ?_
      refine VO.k7 0 1 5 11 12 13 14 ?_
      refine outBN ?_
      refine outN ?_
      refine VC.reg ?_
      refine VO.y rfl (.add (c := ((k + 1 : Nat) : Int)) rfl rfl (by omega) ⟨by first | omega | (simp only [List.length_append, List.length_nil, List.length_cons, List.length_take, List.length_drop] at *; omega) | (have h_ := (play_cut hg hb (get_take ‹(d0.2.2.2.2.2.2.take d1.toNat)[k]? = some _›)).1; simp only [inF] at h_; omega), by first | omega | (simp only [List.length_append, List.length_nil, List.length_cons, List.length_take, List.length_drop] at *; omega) | (have h_ := (play_cut hg hb (get_take ‹(d0.2.2.2.2.2.2.take d1.toNat)[k]? = some _›)).1; simp only [inF] at h_; omega)⟩) ?_
      refine VO.mv ?_
      refine VO.k7 0 1 5 11 12 13 14 ?_
      exact outN ⟨⟨k + 1, b0, b0_A, b0_c, b0_m, b1, b1_A, b1_c, b1_m, doneB b2 x10, A16_0, c16_0, m16, b3, b3_A, b3_c, b3_m⟩, ⟨by omega, by first | (have h_ := play_next hb (get_take ‹(d0.2.2.2.2.2.2.take d1.toNat)[k]? = some _›); rw [stepQ, setQ0 ‹_ = (0 : Int)›, getF0 ‹_ = (0 : Int)›] at h_; exact h_) | (have h_ := play_next hb (get_take ‹(d0.2.2.2.2.2.2.take d1.toNat)[k]? = some _›); rw [stepQ, setQ1 ‹_ = (1 : Int)›, getF1 ‹_ = (1 : Int)›] at h_; exact h_) | (have h_ := play_next hb (get_take ‹(d0.2.2.2.2.2.2.take d1.toNat)[k]? = some _›); rw [stepQ, setQ2 ‹_ = (2 : Int)›, getF2 ‹_ = (2 : Int)›] at h_; exact h_) | (have h_ := play_next hb (get_take ‹(d0.2.2.2.2.2.2.take d1.toNat)[k]? = some _›); rw [stepQ, setQ3 ‹_ = (3 : Int)›, getF3 ‹_ = (3 : Int)›] at h_; exact h_), h_b0, h_b1, (Ow.ownl f16_0 rfl mnil), h_b3⟩, by first | omega | (simp only [List.length_append, List.length_nil, List.length_cons, List.length_take, List.length_drop] at *; omega) | (have h_ := (play_cut hg hb (get_take ‹(d0.2.2.2.2.2.2.take d1.toNat)[k]? = some _›)).1; simp only [inF] at h_; omega), ⟨⟨rfl, rfl, rfl, rfl, rfl, trivial⟩, fun _ h => Inv.sub h [107, 102, 103, 104, 105, 106, 0]⟩⟩
    · -- T3
      refine VD.y rfl rfl (.inl rfl) (.ixa (i := 3) (o := 8) rfl rfl tar28 hi13 rfl rfl) ?_
      refine VD.y rfl rfl (.inl rfl) (.ld1 107 rfl tk27 rfl (cellsAt_one rfl rfl)) ?_
      refine VD.y rfl rfl (.inl rfl) (.ldA 112 rfl tk64 rfl (cellsAt_one rfl rfl)) ?_
      refine VD.y rfl rfl (.inl rfl) (.nilp rfl) ?_
      refine VD.y rfl rfl (.inl rfl) (.fa rfl tst58 rfl) ?_
      refine VD.call 105 rfl rfl (.inl rfl) fnOk40 rfl rfl (fun _ _ h => h.sub [112, 107, 106, 0]) (fun W hW => dDone_ok W (hW.at (i := 105) rfl) (OwnL.ow h_b3 rfl) (Rd.mono hre10 (hW.out (i := 105) (j := 106) rfl rfl)) (by first | (have h_ := (play_cut hg hb (get_take ‹(d0.2.2.2.2.2.2.take d1.toNat)[k]? = some _›)).2; rw [getF0 ‹_ = (0 : Int)›] at h_; exact h_) | (have h_ := (play_cut hg hb (get_take ‹(d0.2.2.2.2.2.2.take d1.toNat)[k]? = some _›)).2; rw [getF1 ‹_ = (1 : Int)›] at h_; exact h_) | (have h_ := (play_cut hg hb (get_take ‹(d0.2.2.2.2.2.2.take d1.toNat)[k]? = some _›)).2; rw [getF2 ‹_ = (2 : Int)›] at h_; exact h_) | (have h_ := (play_cut hg hb (get_take ‹(d0.2.2.2.2.2.2.take d1.toNat)[k]? = some _›)).2; rw [getF3 ‹_ = (3 : Int)›] at h_; exact h_)) (by first | (have h_ := play_room hb (get_take ‹(d0.2.2.2.2.2.2.take d1.toNat)[k]? = some _›); rw [getF0 ‹_ = (0 : Int)›] at h_; simp only [sizeQ] at h_; omega) | (have h_ := play_room hb (get_take ‹(d0.2.2.2.2.2.2.take d1.toNat)[k]? = some _›); rw [getF1 ‹_ = (1 : Int)›] at h_; simp only [sizeQ] at h_; omega) | (have h_ := play_room hb (get_take ‹(d0.2.2.2.2.2.2.take d1.toNat)[k]? = some _›); rw [getF2 ‹_ = (2 : Int)›] at h_; simp only [sizeQ] at h_; omega) | (have h_ := play_room hb (get_take ‹(d0.2.2.2.2.2.2.take d1.toNat)[k]? = some _›); rw [getF3 ‹_ = (3 : Int)›] at h_; simp only [sizeQ] at h_; omega))) (fun v17 m17 hv17 => ?_)
      obtain ⟨s17_0, rfl, f17_0⟩ := hv17
      obtain ⟨A17_0, c17_0, eq17_0, l17_0, k17_0⟩ := f17_0.slice
      subst eq17_0
      simp only [maxLen] at k17_0
      refine VD.nil rfl ?_ rfl
      refine VO.y rfl (.ixa (i := 3) (o := 8) rfl rfl tar28 hi13 rfl rfl) ?_
      refine VO.store (k := 1) (c' := [Value.bool d0.1, Value.bool d0.2.1, Value.bool d0.2.2.1, Value.int .i64 (d0.2.2.2.1), Value.int .i64 (d0.2.2.2.2.1), Value.slice b0_A (b0.length) (b0_c), Value.slice b1_A (b1.length) (b1_c), Value.slice b2_A (b2.length) (b2_c), Value.slice A17_0 ((doneB b3 x10).length) (c17_0), Value.slice (some ⟨gg10, oo10, none⟩) (d0.2.2.2.2.2.2.length) (q1_c9)]) 107 rfl rfl (.inr ⟨tk27, rfl⟩) rfl rfl rfl rfl rfl ?_
      refine VO.k7 0 1 5 11 12 13 14 ?_
      refine outBN ?_
      refine outN ?_
      refine VC.reg ?_
      refine VO.y rfl (.add (c := ((k + 1 : Nat) : Int)) rfl rfl (by omega) ⟨by first | omega | (simp only [List.length_append, List.length_nil, List.length_cons, List.length_take, List.length_drop] at *; omega) | (have h_ := (play_cut hg hb (get_take ‹(d0.2.2.2.2.2.2.take d1.toNat)[k]? = some _›)).1; simp only [inF] at h_; omega), by first | omega | (simp only [List.length_append, List.length_nil, List.length_cons, List.length_take, List.length_drop] at *; omega) | (have h_ := (play_cut hg hb (get_take ‹(d0.2.2.2.2.2.2.take d1.toNat)[k]? = some _›)).1; simp only [inF] at h_; omega)⟩) ?_
      refine VO.mv ?_
      refine VO.k7 0 1 5 11 12 13 14 ?_
      exact outN ⟨⟨k + 1, b0, b0_A, b0_c, b0_m, b1, b1_A, b1_c, b1_m, b2, b2_A, b2_c, b2_m, doneB b3 x10, A17_0, c17_0, m17⟩, ⟨by omega, by first | (have h_ := play_next hb (get_take ‹(d0.2.2.2.2.2.2.take d1.toNat)[k]? = some _›); rw [stepQ, setQ0 ‹_ = (0 : Int)›, getF0 ‹_ = (0 : Int)›] at h_; exact h_) | (have h_ := play_next hb (get_take ‹(d0.2.2.2.2.2.2.take d1.toNat)[k]? = some _›); rw [stepQ, setQ1 ‹_ = (1 : Int)›, getF1 ‹_ = (1 : Int)›] at h_; exact h_) | (have h_ := play_next hb (get_take ‹(d0.2.2.2.2.2.2.take d1.toNat)[k]? = some _›); rw [stepQ, setQ2 ‹_ = (2 : Int)›, getF2 ‹_ = (2 : Int)›] at h_; exact h_) | (have h_ := play_next hb (get_take ‹(d0.2.2.2.2.2.2.take d1.toNat)[k]? = some _›); rw [stepQ, setQ3 ‹_ = (3 : Int)›, getF3 ‹_ = (3 : Int)›] at h_; exact h_), h_b0, h_b1, h_b2, (Ow.ownl f17_0 rfl mnil)⟩, by first | omega | (simp only [List.length_append, List.length_nil, List.length_cons, List.length_take, List.length_drop] at *; omega) | (have h_ := (play_cut hg hb (get_take ‹(d0.2.2.2.2.2.2.take d1.toNat)[k]? = some _›)).1; simp only [inF] at h_; omega), ⟨⟨rfl, rfl, rfl, rfl, rfl, trivial⟩, fun _ h => Inv.sub h [107, 102, 103, 104, 105, 106, 0]⟩⟩
  · -- F
    refine VC.exit ?_
    refine outE ?_
    refine outE ?_
    refine outBB ?_
    refine outN ?_
    refine VC.reg ?_
    refine VO.mv ?_
    refine VO.mv ?_
    refine VO.y rfl (.nilp rfl) ?_
    refine VO.y rfl (.fa rfl tst58 rfl) ?_
    refine VO.y rfl (.ld1 107 rfl tk56 rfl (cellsAt_one rfl rfl)) ?_
    refine VO.mv ?_
    obtain ⟨A18, hA18, ho18⟩ := q1_9.drop' 4 ((d1).toNat) rfl (by first | omega | (simp only [List.length_append, List.length_nil, List.length_cons, List.length_take, List.length_drop] at *; omega) | (have h_ := (play_cut hg hb (get_take ‹(d0.2.2.2.2.2.2.take d1.toNat)[k]? = some _›)).1; simp only [inF] at h_; omega))
    refine VO.y rfl (.slLI ((d1).toNat) A18 rfl rfl tsl56 (by first | omega | (simp only [List.length_append, List.length_nil, List.length_cons, List.length_take, List.length_drop] at *; omega) | (have h_ := (play_cut hg hb (get_take ‹(d0.2.2.2.2.2.2.take d1.toNat)[k]? = some _›)).1; simp only [inF] at h_; omega)) hA18 (by first | omega | (simp only [List.length_append, List.length_nil, List.length_cons, List.length_take, List.length_drop] at *; omega) | (have h_ := (play_cut hg hb (get_take ‹(d0.2.2.2.2.2.2.take d1.toNat)[k]? = some _›)).1; simp only [inF] at h_; omega))) ?_
    refine VO.y rfl (.nilp rfl) ?_
    refine VO.y rfl (.fa rfl tst58 rfl) ?_
    refine VO.store (k := 1) (c' := [Value.bool d0.1, Value.bool d0.2.1, Value.bool d0.2.2.1, Value.int .i64 (d0.2.2.2.1), Value.int .i64 (d0.2.2.2.2.1), Value.slice b0_A (b0.length) (b0_c), Value.slice b1_A (b1.length) (b1_c), Value.slice b2_A (b2.length) (b2_c), Value.slice b3_A (b3.length) (b3_c), Value.slice A18 (d0.2.2.2.2.2.2.length - ((d1).toNat)) (q1_c9 - ((d1).toNat))]) 107 rfl rfl (.inr ⟨tk56, rfl⟩) rfl rfl rfl rfl rfl ?_
    refine VO.keep [107, 102, 103, 104, 105, 106, 0] [(107, mone g0 (.cells [Value.bool d0.1, Value.bool d0.2.1, Value.bool d0.2.2.1, Value.int .i64 (d0.2.2.2.1), Value.int .i64 (d0.2.2.2.2.1), Value.slice b0_A (b0.length) (b0_c), Value.slice b1_A (b1.length) (b1_c), Value.slice b2_A (b2.length) (b2_c), Value.slice b3_A (b3.length) (b3_c), Value.slice A18 (d0.2.2.2.2.2.2.length - ((d1).toNat)) (q1_c9 - ((d1).toNat))].toArray q1_E (0, 0))), (102, b0_m), (103, b1_m), (104, b2_m), (105, b3_m), (106, q1_n9), (0, mout (wm W) (m0))] (by kernel_rfl) ?_
    refine VO.k6 0 1 11 12 13 14 ?_
    refine ⟨_, _, res_run (rs := []) rfl .nil, fun W_ hI => out_of (l := [mone g0 (.cells [Value.bool d0.1, Value.bool d0.2.1, Value.bool d0.2.2.1, Value.int .i64 (d0.2.2.2.1), Value.int .i64 (d0.2.2.2.2.1), Value.slice b0_A (b0.length) (b0_c), Value.slice b1_A (b1.length) (b1_c), Value.slice b2_A (b2.length) (b2_c), Value.slice b3_A (b3.length) (b3_c), Value.slice A18 (d0.2.2.2.2.2.2.length - ((d1).toNat)) (q1_c9 - ((d1).toNat))].toArray q1_E (0, 0)), b0_m, b1_m, b2_m, b3_m, q1_n9]) hI [107, 102, 103, 104, 105, 106] rfl rfl (mle_refl _) (fun hS_ => ?_)⟩
    dsimp only [packV]
    have hm0_ : (settleD d0 d1.toNat : DdiskDisk) = (d0.1, d0.2.1, d0.2.2.1, d0.2.2.2.1, d0.2.2.2.2.1, (b0, b1, b2, b3), d0.2.2.2.2.2.2.drop ((d1).toNat)) := by first | rfl | ((have hk2 : k = d1.toNat := (by omega); subst hk2; unfold settleD; rw [← hb]))
    refine ⟨?_, ?_⟩
    rotate_left
    · rw [hm0_]; exact (mkP_diskDisk d0.1 d0.2.1 d0.2.2.1 d0.2.2.2.1 d0.2.2.2.2.1 b0 b1 b2 b3 (d0.2.2.2.2.2.2.drop ((d1).toNat)) hS_ (by simp only [inK]; (first | omega | (simp only [List.length_append, List.length_nil, List.length_cons, List.length_take, List.length_drop] at *; omega) | (have h_ := (play_cut hg hb (get_take ‹(d0.2.2.2.2.2.2.take d1.toNat)[k]? = some _›)).1; simp only [inF] at h_; omega))) (by simp only [inK]; (first | omega | (simp only [List.length_append, List.length_nil, List.length_cons, List.length_take, List.length_drop] at *; omega) | (have h_ := (play_cut hg hb (get_take ‹(d0.2.2.2.2.2.2.take d1.toNat)[k]? = some _›)).1; simp only [inF] at h_; omega))) (OwnL.ow h_b0 rfl) (OwnL.ow h_b1 rfl) (OwnL.ow h_b2 rfl) (OwnL.ow h_b3 rfl) ho18)
    all_goals (first | rfl | (simp [*]; done))
end
end Go.Proofs.Ytmhalhadgclffaa
