/- Part 4 of the proof of LShipHello: what it needs of the library, the walks and the plain laws. Conditions: those named in each theorem. -/
import Derived.Test.YtfaknkkaegjdaaaLShipHelloM3
namespace Go.Proofs.Ytfaknkkaegjdaaa
section
set_option linter.unusedVariables false
def putAll : List Int → Bytes
  | [] => []
  | x :: r => venc x.toNat ++ putAll r
theorem putAll_app : ∀ (a b : List Int), putAll (a ++ b) = putAll a ++ putAll b
  | [], _ => rfl
  | x :: r, b => by rw [List.cons_append, putAll, putAll, putAll_app r b, List.append_assoc]
theorem putAll_next {l : List Int} {d b : Bytes} {k : Nat} {x : Int} (h : b = d ++ putAll (l.take k)) (hx : l[k]? = some x) : b ++ venc x.toNat = d ++ putAll (l.take (k + 1)) := by
  rw [take_one hx, putAll_app, h, List.append_assoc]
  congr 1
  simp [putAll]
theorem putAll_len : ∀ {l : List Int}, (∀ x ∈ l, x < 18446744073709551616) → (putAll l).length ≤ 10 * l.length
  | [], _ => Nat.zero_le _
  | x :: r, h => by
    have h1 := venc_len (x := x.toNat) (by have := h x (.head _); omega)
    have h2 := putAll_len fun y hy => h y (.tail _ hy)
    rw [putAll, List.length_append, List.length_cons]; omega
def sEnc : List DStart → Bytes
  | [] => []
  | s :: r => venc s.1.toNat ++ (venc s.2.toNat ++ sEnc r)
def csEnc : List DCommit → Bytes
  | [] => []
  | c :: r => venc (cEnc c).length ++ (cEnc c ++ csEnc r)
theorem sEnc_app : ∀ (a b : List DStart), sEnc (a ++ b) = sEnc a ++ sEnc b
  | [], _ => rfl
  | x :: r, b => by rw [List.cons_append, sEnc, sEnc, sEnc_app r b]; simp only [List.append_assoc]
theorem csEnc_app : ∀ (a b : List DCommit), csEnc (a ++ b) = csEnc a ++ csEnc b
  | [], _ => rfl
  | x :: r, b => by rw [List.cons_append, csEnc, csEnc, csEnc_app r b]; simp only [List.append_assoc]
def lBody (m : DMessage) : Bytes :=
  if m.1 = 1 then venc m.2.2.1.toNat ++ (venc m.2.2.2.1.toNat ++ (venc m.2.2.2.2.1.length ++ sEnc m.2.2.2.2.1))
  else if m.1 = 2 then venc m.2.2.2.2.2.1.toNat ++ (venc m.2.2.2.2.2.2.1.toNat ++ (venc m.2.2.2.2.2.2.2.length ++ csEnc m.2.2.2.2.2.2.2)) else venc m.2.2.2.1.toNat
def lEnc (m : DMessage) : Bytes := venc m.1.toNat ++ (venc m.2.1.toNat ++ lBody m)
def lEncode (m : DMessage) : Bytes × Int := if lCheck m = 0 then (lEnc m, 0) else ([], lCheck m)
theorem start_eq {x y : DStart} (h : x.1 = y.1 ∧ x.2 = y.2) : x = y := Prod.ext h.1 h.2
theorem start_ne {x y : DStart} (h : ¬ (x.1 = y.1 ∧ x.2 = y.2)) : ¬ x = y := fun e => h (by rw [e]; exact ⟨rfl, rfl⟩)
theorem start_all {a b : List DStart} {k : Nat} (h : a.take k = b.take k) (ha : ¬ (k : Int) < a.length) (hl : (a.length : Int) = b.length) : a = b := take_all h ha hl
theorem sGo_facts {en : Int} : ∀ {l : List DStart} {le lf : Int} {i : Nat}, sGo en le lf i l → 0 ≤ le → le ≤ 1048576 → 0 ≤ lf → en ≤ 1048576 → le + (l.length : Int) ≤ 1048576 ∧ ∀ s ∈ l, (1 ≤ s.1 ∧ s.1 ≤ 1048576) ∧ 1 ≤ s.2 ∧ s.2 ≤ 1048576
  | [], le, lf, i, _, h0, h1, _, _ => ⟨by simp; omega, fun s h => by cases h⟩
  | x :: r, le, lf, i, h, h0, h1, h2, h3 => by
    obtain ⟨k1, k2, k3, k4, k5, k6⟩ := h
    obtain ⟨q1, q2⟩ := sGo_facts k6 (by omega) k2 (by omega) h3
    refine ⟨by simp only [List.length_cons]; omega, fun s hs => ?_⟩
    rcases List.mem_cons.1 hs with rfl | hs
    · exact ⟨⟨by omega, by omega⟩, by omega, by omega⟩
    · exact q2 s hs
section
variable {m : DMessage}
theorem lc_nums (h : lCheck m = 0) : 1 ≤ m.1 ∧ m.1 ≤ 3 ∧ 1 ≤ m.2.1 ∧ m.2.1 ≤ 1048576 := by
  unfold lCheck at h
  split at h
  · rename_i hh
    rcases hh.2 with ⟨a, _⟩ | ⟨a, _⟩ | ⟨a, _⟩ <;> omega
  · cases h
theorem lc_hello (h : lCheck m = 0) (k : m.1 = 1) : (1 ≤ m.2.2.1 ∧ m.2.2.1 ≤ 3) ∧ (0 ≤ m.2.2.2.1 ∧ m.2.2.2.1 ≤ 1048576) ∧ m.2.2.2.2.1.length ≤ 1048576 ∧ (∀ s ∈ m.2.2.2.2.1, (1 ≤ s.1 ∧ s.1 ≤ 1048576) ∧ 1 ≤ s.2 ∧ s.2 ≤ 1048576) ∧
    m.2.2.2.2.2.1 = 0 ∧ m.2.2.2.2.2.2.1 = 0 ∧ m.2.2.2.2.2.2.2 = [] := by
  unfold lCheck at h
  split at h
  · rename_i hh
    rcases hh.2 with ⟨_, b⟩ | ⟨a, _⟩ | ⟨a, _⟩
    · obtain ⟨b1, b2, b3, b4, b5, b6⟩ := b
      unfold sCheck at b2
      split at b2
      · rename_i hq
        obtain ⟨q1, q2⟩ := sGo_facts hq.2.2.2 (by omega) (by omega) (by omega) hq.2.1
        exact ⟨b1, ⟨hq.1, hq.2.1⟩, by omega, q2, b4, b5, List.eq_nil_of_length_eq_zero b6⟩
      · cases b2
    · omega
    · omega
  · cases h
theorem lc_ack (h : lCheck m = 0) (k1 : ¬ m.1 = 1) (k2 : ¬ m.1 = 2) : ackM m ∧ m.1 = 3 := by
  unfold lCheck at h
  split at h
  · rename_i hh
    rcases hh.2 with ⟨a, _⟩ | ⟨a, _⟩ | ⟨a, b⟩
    · omega
    · omega
    · exact ⟨b, a⟩
  · cases h
theorem cEnc_len {c : DCommit} (h : cCheck c = 0) : (cEnc c).length ≤ 700 := by
  have := cEncode_len c
  unfold cEncode at this
  rw [if_pos h] at this
  exact this
end
def lHd (m : DMessage) : Bytes := venc m.1.toNat ++ (venc m.2.1.toNat ++ (venc m.2.2.1.toNat ++ (venc m.2.2.2.1.toNat ++ venc m.2.2.2.2.1.length)))
def lHs (m : DMessage) : Bytes := venc m.1.toNat ++ (venc m.2.1.toNat ++ (venc m.2.2.2.2.2.1.toNat ++ (venc m.2.2.2.2.2.2.1.toNat ++ venc m.2.2.2.2.2.2.2.length)))
theorem lEncode_bad {m : DMessage} (h : ¬ lCheck m = 0) : lEncode m = ([], lCheck m) := if_neg h
theorem lEncode_hello {m : DMessage} (h : lCheck m = 0) (k : m.1 = 1) : lEncode m = (lHd m ++ sEnc m.2.2.2.2.1, 0) := by
  unfold lEncode; rw [if_pos h, lEnc, lBody, if_pos k, lHd]; simp only [List.append_assoc]
theorem lEncode_ship {m : DMessage} (h : lCheck m = 0) (k1 : ¬ m.1 = 1) (k : m.1 = 2) : lEncode m = (lHs m ++ csEnc m.2.2.2.2.2.2.2, 0) := by
  unfold lEncode; rw [if_pos h, lEnc, lBody, if_neg k1, if_pos k, lHs]; simp only [List.append_assoc]
theorem lEncode_ack {m : DMessage} (h : lCheck m = 0) (k1 : ¬ m.1 = 1) (k : ¬ m.1 = 2) : lEncode m = (venc m.1.toNat ++ (venc m.2.1.toNat ++ venc m.2.2.2.1.toNat), 0) := by
  unfold lEncode; rw [if_pos h, lEnc, lBody, if_neg k1, if_neg k]
theorem cEncode_is {c : DCommit} (h : cCheck c = 0) : cEncode c = (cEnc c, 0) := if_pos h
def rStart (B : Bytes) (s : RS) : DStart × RS := (((rNum B 1048576 s).1, (rNum B 1048576 (rNum B 1048576 s).2).1), (rNum B 1048576 (rNum B 1048576 s).2).2)
def pStarts (B : Bytes) : Nat → RS → List DStart × RS
  | 0, s => ([], s)
  | n + 1, s => if s.2 = true then ([], s) else ((rStart B s).1 :: (pStarts B n (rStart B s).2).1, (pStarts B n (rStart B s).2).2)
def pComms (R : RS → DCommit × RS) : Nat → RS → List DCommit × RS
  | 0, s => ([], s)
  | n + 1, s => if s.2 = true then ([], s) else ((R s).1 :: (pComms R n (R s).2).1, (pComms R n (R s).2).2)
def lRun (R : RS → DCommit × RS) (B : Bytes) : DMessage × RS :=
  let k := rNum B 3 (0, false)
  let e := rNum B 1048576 k.2
  if k.1 = 1 then
    let r := rNum B 3 e.2
    let n := rNum B 1048576 r.2
    let c := rNum B 1048576 n.2
    let l := pStarts B c.1.toNat c.2
    ((k.1, e.1, r.1, n.1, l.1, 0, 0, []), l.2)
  else if k.1 = 2 then
    let f := rNum B 1048576 e.2
    let p := rNum B 1048576 f.2
    let c := rNum B 4 p.2
    let l := pComms R c.1.toNat c.2
    ((k.1, e.1, 0, 0, [], f.1, p.1, l.1), l.2)
  else
    let n := rNum B 1048576 e.2
    ((k.1, e.1, 0, n.1, [], 0, 0, []), n.2)
def lDecG (R : RS → DCommit × RS) (B : Bytes) : DMessage × Int := if (lRun R B).2.2 = false ∧ (lRun R B).2.1 = (B.length : Int) ∧ lCheck (lRun R B).1 = 0 then ((lRun R B).1, 0) else (zeroM, 5)
structure Good (R : RS → DCommit × RS) (B : Bytes) : Prop where
  there : ∀ {a : Nat} {c : DCommit} {r : Bytes}, B.drop a = venc (cEnc c).length ++ (cEnc c ++ r) → a ≤ B.length → cCheck c = 0 → R ((a : Int), false) = (c, (((a + ((venc (cEnc c).length).length + (cEnc c).length) : Nat) : Int), false))
  back : ∀ {s e : RS} {c : DCommit}, rOk B s → R s = (c, e) → e.2 = false → s.2 = false ∧ rOk B e ∧ cCheck c = 0 ∧ B.drop s.1.toNat = venc (cEnc c).length ++ (cEnc c ++ B.drop e.1.toNat)
section
variable {B : Bytes} {R : RS → DCommit × RS}
theorem starts_there : ∀ {l : List DStart} {a : Nat} {r : Bytes}, B.drop a = sEnc l ++ r → a ≤ B.length → (∀ s ∈ l, (1 ≤ s.1 ∧ s.1 ≤ 1048576) ∧ 1 ≤ s.2 ∧ s.2 ≤ 1048576) → pStarts B l.length ((a : Int), false) = (l, (((a + (sEnc l).length : Nat) : Int), false))
  | [], a, r, _, _, _ => rfl
  | s :: l, a, r, h, ha, hs => by
    obtain ⟨⟨s1, s2⟩, s3, s4⟩ := hs s (.head _)
    rw [sEnc, List.append_assoc, List.append_assoc] at h
    have n1 := num_there (m := 1048576) h (by omega) (by omega)
    have h2 := drop_past h
    have n2 := num_there (m := 1048576) h2 (by omega) (by omega)
    have h3 := drop_past h2
    have ih := starts_there h3 (drop_le h2 (drop_le h ha)) (fun x hx => hs x (.tail _ hx))
    have hr : rStart B ((a : Int), false) = (s, (((a + (venc s.1.toNat).length + (venc s.2.toNat).length : Nat) : Int), false)) := by
      unfold rStart
      rw [n1]
      dsimp only
      rw [n2]
      exact Prod.ext (Prod.ext (by simp only; omega) (by simp only; omega)) rfl
    rw [List.length_cons]
    unfold pStarts
    rw [if_neg (by simp), hr]
    dsimp only
    rw [ih, sEnc]
    simp only [List.length_append, Nat.add_assoc]
theorem comms_there (hR : Good R B) : ∀ {l : List DCommit} {a : Nat} {r : Bytes}, B.drop a = csEnc l ++ r → a ≤ B.length → (∀ c ∈ l, cCheck c = 0) → pComms R l.length ((a : Int), false) = (l, (((a + (csEnc l).length : Nat) : Int), false))
  | [], a, r, _, _, _ => rfl
  | c :: l, a, r, h, ha, hs => by
    rw [csEnc, List.append_assoc, List.append_assoc] at h
    have n1 := hR.there h ha (hs c (.head _))
    have h2 := drop_past h
    have h3 := drop_past h2
    have ih := comms_there hR h3 (drop_le h2 (drop_le h ha)) (fun x hx => hs x (.tail _ hx))
    rw [List.length_cons]
    unfold pComms
    rw [if_neg (by simp), n1]
    dsimp only
    rw [← Nat.add_assoc, ih, csEnc]
    simp only [List.length_append, Nat.add_assoc]
theorem run_there (hR : Good R B) {m : DMessage} {r : Bytes} (h : B = lEnc m ++ r) (hc : lCheck m = 0) : lRun R B = (m, (((lEnc m).length : Int), false)) := by
  obtain ⟨c1, c2, c3, c4⟩ := lc_nums hc
  have e0 : B.drop 0 = venc m.1.toNat ++ (venc m.2.1.toNat ++ (lBody m ++ r)) := by rw [List.drop_zero, h, lEnc]; simp only [List.append_assoc]
  have n0 := num_there (m := 3) e0 (by omega) (by omega)
  have e1 := drop_past e0
  have n1 := num_there (m := 1048576) e1 (by omega) (by omega)
  have e2 := drop_past e1
  have l2 := drop_le e1 (drop_le e0 (Nat.zero_le _))
  have z : ((0 : Int), false) = (((0 : Nat) : Int), false) := rfl
  unfold lRun
  rw [z, n0]
  dsimp only
  rw [n1]
  dsimp only
  by_cases k1 : m.1 = 1
  · obtain ⟨⟨r1, r2⟩, ⟨r3, r4⟩, r5, r6, r7, r8, r9⟩ := lc_hello hc k1
    rw [lBody, if_pos k1] at e2
    simp only [List.append_assoc] at e2
    have n2 := num_there (m := 3) e2 (by omega) (by omega)
    have e3 := drop_past e2
    have n3 := num_there (m := 1048576) e3 (by omega) (by omega)
    have e4 := drop_past e3
    have n4 := num_there (m := 1048576) e4 (by omega) (by omega)
    have e5 := drop_past e4
    have n5 := starts_there e5 (drop_le e4 (drop_le e3 (drop_le e2 l2))) r6
    rw [if_pos (by omega), n2]
    dsimp only
    rw [n3]
    dsimp only
    rw [n4]
    dsimp only
    rw [Int.toNat_natCast, n5]
    refine Prod.ext (message_ext ?_ ?_ ?_ ?_ rfl r7.symm r8.symm r9.symm) ?_
    · simp only; omega
    · simp only; omega
    · simp only; omega
    · simp only; omega
    · simp only [lEnc, lBody, if_pos k1, List.length_append, Nat.add_assoc, Nat.zero_add]
  · rw [if_neg (by omega)]
    by_cases k2 : m.1 = 2
    · obtain ⟨⟨r1, r2⟩, ⟨r3, r4⟩, r5, r6, r7, r8, r9, r10, r11⟩ := lCheck_ship hc k2
      rw [lBody, if_neg k1, if_pos k2] at e2
      simp only [List.append_assoc] at e2
      have n2 := num_there (m := 1048576) e2 (by omega) (by omega)
      have e3 := drop_past e2
      have n3 := num_there (m := 1048576) e3 (by omega) (by omega)
      have e4 := drop_past e3
      have n4 := num_there (m := 4) e4 (by omega) (by omega)
      have e5 := drop_past e4
      have n5 := comms_there hR e5 (drop_le e4 (drop_le e3 (drop_le e2 l2))) (cFollowsAt_ok r7)
      rw [if_pos (by omega), n2]
      dsimp only
      rw [n3]
      dsimp only
      rw [n4]
      dsimp only
      rw [Int.toNat_natCast, n5]
      refine Prod.ext (message_ext ?_ ?_ r9.symm r10.symm (List.eq_nil_of_length_eq_zero r11).symm ?_ ?_ rfl) ?_
      · simp only; omega
      · simp only; omega
      · simp only; omega
      · simp only; omega
      · simp only [lEnc, lBody, if_neg k1, if_pos k2, List.length_append, Nat.add_assoc, Nat.zero_add]
    · obtain ⟨⟨⟨r1, r2⟩, r3, r4, r5, r6, r7⟩, r8⟩ := lc_ack hc k1 k2
      rw [lBody, if_neg k1, if_neg k2] at e2
      have n2 := num_there (m := 1048576) e2 (by omega) (by omega)
      rw [if_neg (by omega), n2]
      refine Prod.ext (message_ext ?_ ?_ r3.symm ?_ (List.eq_nil_of_length_eq_zero r4).symm r5.symm r6.symm (List.eq_nil_of_length_eq_zero r7).symm) ?_
      · simp only; omega
      · simp only; omega
      · simp only; omega
      · simp only [lEnc, lBody, if_neg k1, if_neg k2, List.length_append, Nat.add_assoc, Nat.zero_add]
end
theorem sEnc_len : ∀ {l : List DStart}, (∀ s ∈ l, (1 ≤ s.1 ∧ s.1 ≤ 1048576) ∧ 1 ≤ s.2 ∧ s.2 ≤ 1048576) → (sEnc l).length ≤ 20 * l.length
  | [], _ => Nat.zero_le _
  | s :: l, h => by
    obtain ⟨⟨h1, h2⟩, h3, h4⟩ := h s (.head _)
    have := venc_len (x := s.1.toNat) (by omega)
    have := venc_len (x := s.2.toNat) (by omega)
    have := sEnc_len fun x hx => h x (.tail _ hx)
    rw [sEnc, List.length_append, List.length_append, List.length_cons]; omega
theorem csEnc_len : ∀ {l : List DCommit}, (∀ c ∈ l, cCheck c = 0) → (csEnc l).length ≤ 710 * l.length
  | [], _ => Nat.zero_le _
  | c :: l, h => by
    have h1 := cEnc_len (h c (.head _))
    have := venc_len (x := (cEnc c).length) (by omega)
    have := csEnc_len fun x hx => h x (.tail _ hx)
    rw [csEnc, List.length_append, List.length_append, List.length_cons]; omega
theorem lEnc_len {m : DMessage} (h : lCheck m = 0) : (lEnc m).length ≤ 20971600 + 3000 := by
  obtain ⟨c1, c2, c3, c4⟩ := lc_nums h
  have a1 := venc_len (x := m.1.toNat) (by omega)
  have a2 := venc_len (x := m.2.1.toNat) (by omega)
  have hb : (lBody m).length ≤ 20971550 + 2900 := by
    by_cases k1 : m.1 = 1
    · obtain ⟨⟨r1, r2⟩, ⟨r3, r4⟩, r5, r6, _⟩ := lc_hello h k1
      have b1 := venc_len (x := m.2.2.1.toNat) (by omega)
      have b2 := venc_len (x := m.2.2.2.1.toNat) (by omega)
      have b3 := venc_len (x := m.2.2.2.2.1.length) (by omega)
      have b4 := sEnc_len r6
      rw [lBody, if_pos k1]; simp only [List.length_append]; omega
    · by_cases k2 : m.1 = 2
      · obtain ⟨⟨r1, r2⟩, ⟨r3, r4⟩, r5, r6, r7, _⟩ := lCheck_ship h k2
        have b1 := venc_len (x := m.2.2.2.2.2.1.toNat) (by omega)
        have b2 := venc_len (x := m.2.2.2.2.2.2.1.toNat) (by omega)
        have b3 := venc_len (x := m.2.2.2.2.2.2.2.length) (by omega)
        have b4 := csEnc_len (cFollowsAt_ok r7)
        rw [lBody, if_neg k1, if_pos k2]; simp only [List.length_append]; omega
      · obtain ⟨⟨⟨r1, r2⟩, _⟩, _⟩ := lc_ack h k1 k2
        have b1 := venc_len (x := m.2.2.2.1.toNat) (by omega)
        rw [lBody, if_neg k1, if_neg k2]; omega
  rw [lEnc, List.length_append, List.length_append]; omega
theorem lHd_len {m : DMessage} (h : lCheck m = 0) (k : m.1 = 1) : (lHd m).length ≤ 50 := by
  obtain ⟨c1, c2, c3, c4⟩ := lc_nums h
  obtain ⟨⟨r1, r2⟩, ⟨r3, r4⟩, r5, r6, _⟩ := lc_hello h k
  have := venc_len (x := m.1.toNat) (by omega)
  have := venc_len (x := m.2.1.toNat) (by omega)
  have := venc_len (x := m.2.2.1.toNat) (by omega)
  have := venc_len (x := m.2.2.2.1.toNat) (by omega)
  have := venc_len (x := m.2.2.2.2.1.length) (by omega)
  rw [lHd]; simp only [List.length_append]; omega
theorem lHs_len {m : DMessage} (h : lCheck m = 0) (k : m.1 = 2) : (lHs m).length ≤ 50 := by
  obtain ⟨c1, c2, c3, c4⟩ := lc_nums h
  obtain ⟨⟨r1, r2⟩, ⟨r3, r4⟩, r5, r6, r7, _⟩ := lCheck_ship h k
  have := venc_len (x := m.1.toNat) (by omega)
  have := venc_len (x := m.2.1.toNat) (by omega)
  have := venc_len (x := m.2.2.2.2.2.1.toNat) (by omega)
  have := venc_len (x := m.2.2.2.2.2.2.1.toNat) (by omega)
  have := venc_len (x := m.2.2.2.2.2.2.2.length) (by omega)
  rw [lHs]; simp only [List.length_append]; omega
theorem hd_room {m : DMessage} {b : Bytes} {k : Nat} (h : lCheck m = 0) (k1 : m.1 = 1) (hb : b = lHd m ++ sEnc (m.2.2.2.2.1.take k)) : b.length ≤ 50 + 20 * k := by
  have h1 := lHd_len h k1
  have h2 := sEnc_len fun s hs => (lc_hello h k1).2.2.2.1 s (List.mem_of_mem_take (i := k) hs)
  simp only [List.length_take] at h2
  rw [hb, List.length_append]; omega
theorem hs_room {m : DMessage} {b : Bytes} {k : Nat} (h : lCheck m = 0) (k1 : m.1 = 2) (hb : b = lHs m ++ csEnc (m.2.2.2.2.2.2.2.take k)) : b.length ≤ 50 + 710 * k := by
  have h1 := lHs_len h k1
  have h2 := csEnc_len fun c hc => cFollowsAt_ok (lCheck_ship h k1).2.2.2.2.1 c (List.mem_of_mem_take (i := k) hc)
  simp only [List.length_take] at h2
  rw [hb, List.length_append]; omega
theorem ship_nums {m : DMessage} (h : lCheck m = 0) (k : m.1 = 2) : (1 ≤ m.2.2.2.2.2.1 ∧ m.2.2.2.2.2.1 ≤ 1048576) ∧ (0 ≤ m.2.2.2.2.2.2.1 ∧ m.2.2.2.2.2.2.1 ≤ 1048576) ∧ m.2.2.2.2.2.2.2.length ≤ 4 := by
  obtain ⟨r1, ⟨r3, r4⟩, r5, r6, r7, _⟩ := lCheck_ship h k
  have := lc_nums h
  exact ⟨r1, ⟨r3, by omega⟩, r6⟩
theorem start_of {m : DMessage} (h : lCheck m = 0) (k1 : m.1 = 1) {k : Nat} {s : DStart} (hs : m.2.2.2.2.1[k]? = some s) : (1 ≤ s.1 ∧ s.1 ≤ 1048576) ∧ 1 ≤ s.2 ∧ s.2 ≤ 1048576 := (lc_hello h k1).2.2.2.1 s (List.mem_of_getElem? hs)
theorem comm_of {m : DMessage} (h : lCheck m = 0) (k1 : m.1 = 2) {k : Nat} {c : DCommit} (hc : m.2.2.2.2.2.2.2[k]? = some c) : cCheck c = 0 := cFollowsAt_ok (lCheck_ship h k1).2.2.2.2.1 c (List.mem_of_getElem? hc)
theorem lEncode_len (m : DMessage) : (lEncode m).1.length ≤ 20974600 := by
  unfold lEncode
  split
  · exact lEnc_len (by assumption)
  · exact Nat.zero_le _
section
variable {R R' : Bytes → RS → DCommit × RS}
theorem decG_there (hR : ∀ B : Bytes, B.length ≤ 9223372036854775807 → Good (R B) B) {m : DMessage} (hc : lCheck m = 0) : lDecG (R (lEnc m)) (lEnc m) = (m, 0) := by
  have h := run_there (hR (lEnc m) (by have := lEnc_len (m := m) (by assumption); omega)) (List.append_nil _).symm hc
  unfold lDecG
  rw [h, if_pos ⟨rfl, rfl, hc⟩]
end
theorem drop_at {B : Bytes} {a b : Int} (h0 : 0 ≤ a) (h : a ≤ b) : (B.drop a.toNat).drop (b - a).toNat = B.drop b.toNat := by
  rw [List.drop_drop]; congr 1; omega
theorem dropV_zero (A : Option Addr) (l c : Nat) : dropV (.slice A l c) 0 1 = .slice A l c := by
  unfold dropV
  have : (fun x : Addr => x.add (0 * 1)) = id := by funext x; simp [Addr.add]
  simp only [Nat.sub_zero, this, Option.map_id, id]
  split <;> rfl
theorem dropV_zero2 (A : Option Addr) (l c k : Nat) : dropV (dropV (.slice A l c) k 1) 0 1 = dropV (.slice A l c) k 1 := by
  rw [show dropV (.slice A l c) k 1 = .slice (if c = k then A else A.map (·.add (k * 1))) (l - k) (c - k) from rfl, dropV_zero]
theorem add_sub_it (a b : Int) : a + b - a = b := by omega
def lComm (B : Bytes) (s : RS) : DCommit × RS :=
  let n := rNum B ((B.length : Int) - s.1) s
  if n.2.2 = true ∨ (B.length : Int) - n.2.1 < n.1 then (zC, (n.2.1, true)) else ((cDecode ((B.drop n.2.1.toNat).take n.1.toNat)).1, (n.2.1 + n.1, decide (¬ (cDecode ((B.drop n.2.1.toNat).take n.1.toNat)).2 = 0)))
theorem good1 (B : Bytes) (hB : B.length ≤ 9223372036854775807) : Good (lComm B) B where
  there := fun {a c r} h ha hc => by
    have hl := drop_len h
    simp only [List.length_append] at hl
    have n1 := num_there (m := (B.length : Int) - (a : Int)) h (by omega) (by omega)
    have h2 := drop_past h
    have l2 := drop_le h ha
    have l3 := drop_le h2 l2
    unfold lComm
    dsimp only
    rw [n1]
    dsimp only
    have ht : (B.drop (((a + (venc (cEnc c).length).length : Nat) : Int)).toNat).take (((cEnc c).length : Nat) : Int).toNat = cEnc c := by
      rw [Int.toNat_natCast, Int.toNat_natCast, h2, List.take_left]
    rw [ht, cDecode_there hc, if_neg (by simp only [Bool.false_eq_true, false_or]; omega)]
    exact Prod.ext rfl (Prod.ext (by simp only; omega) (by simp))
  back := fun {s e c} hs h he => by
    have k := rNum_ok (m := (B.length : Int) - s.1) hs
    unfold lComm at h
    dsimp only at h
    have hm : (B.length : Int) - s.1 ≤ 9223372036854775807 := by have := hs.1; omega
    · have k := k hm
      generalize hn : rNum B ((B.length : Int) - s.1) s = p at *
      obtain ⟨x, s1⟩ := p
      dsimp only at h k
      by_cases hb : s1.2 = true ∨ (B.length : Int) - s1.1 < x
      · rw [if_pos hb] at h; cases h; cases he
      · rw [if_neg hb] at h
        cases h
        have hz : (cDecode ((B.drop s1.1.toNat).take x.toNat)).2 = 0 := by simpa using he
        obtain ⟨q1, q2⟩ := cDecode_back hz
        have hs2 : s1.2 = false := by cases hq : s1.2 with
          | false => rfl
          | true => exact absurd (.inl hq) hb
        obtain ⟨c1, c2, c3, c4, c5⟩ := num_back hs hm hn hs2
        have hx : ¬ (B.length : Int) - s1.1 < x := fun hq => hb (.inr hq)
        have hlen : (cEnc (cDecode ((B.drop s1.1.toNat).take x.toNat)).1).length = x.toNat := by
          rw [← q2]; simp only [List.length_take, List.length_drop]; have := c4.1; omega
        refine ⟨c1, ⟨by have := c4.1; simp only; omega, by simp only; omega⟩, q1, ?_⟩
        rw [c5, hlen]
        congr 1
        rw [← q2]
        simp only
        rw [show (s1.1 + x).toNat = s1.1.toNat + x.toNat by have := c4.1; omega, ← List.drop_drop, List.take_append_drop]
theorem lComm_ok0 {B : Bytes} {s : RS} (h : rOk B s) (hB : B.length ≤ 9223372036854775807) : rOk B (lComm B s).2 ∧ (rNum B ((B.length : Int) - s.1) s).2.1 ≤ (lComm B s).2.1 ∧ s.1 ≤ (rNum B ((B.length : Int) - s.1) s).2.1 := by
  have k := rNum_ok (m := (B.length : Int) - s.1) h (by have := h.1; omega)
  unfold lComm
  dsimp only
  split
  · exact ⟨⟨k.1.1, k.1.2⟩, Int.le_refl _, k.2.2.2.2⟩
  · rename_i hb
    have hx : ¬ (B.length : Int) - (rNum B ((B.length : Int) - s.1) s).2.1 < (rNum B ((B.length : Int) - s.1) s).1 := fun q => hb (.inr q)
    obtain ⟨⟨a1, a2⟩, a3, a4, a5, a6⟩ := k
    exact ⟨⟨by simp only; omega, by simp only; omega⟩, by simp only; omega, a6⟩
section
variable {B : Bytes} {a L : Int} {f : Bool}
theorem lComm_1 (hz : L = (B.length : Int) - a) (h : (rNum B L (a, f)).2.2 = true) : lComm B (a, f) = (zC, ((rNum B L (a, f)).2.1, true)) := by
  unfold lComm; dsimp only; rw [← hz, if_pos (.inl h)]
theorem lComm_2 (hz : L = (B.length : Int) - a) (h : (rNum B L (a, f)).2.2 = false) (h2 : (B.length : Int) - (rNum B L (a, f)).2.1 < (rNum B L (a, f)).1) : lComm B (a, f) = (zC, ((rNum B L (a, f)).2.1, true)) := by
  unfold lComm; dsimp only; rw [← hz, if_pos (.inr h2)]
theorem lComm_3 (hz : L = (B.length : Int) - a) (h : (rNum B L (a, f)).2.2 = false) (h2 : ¬ (B.length : Int) - (rNum B L (a, f)).2.1 < (rNum B L (a, f)).1) :
    lComm B (a, f) = ((cDecode ((B.drop (rNum B L (a, f)).2.1.toNat).take (rNum B L (a, f)).1.toNat)).1, ((rNum B L (a, f)).2.1 + (rNum B L (a, f)).1, decide (¬ (cDecode ((B.drop (rNum B L (a, f)).2.1.toNat).take (rNum B L (a, f)).1.toNat)).2 = 0))) := by
  unfold lComm; dsimp only; rw [← hz, if_neg (by rintro (q | q); rw [h] at q; cases q; exact h2 q)]
end
section
variable {B : Bytes} {R : RS → DCommit × RS}
theorem lDecG_yes {m : DMessage} {e : RS} (h : lRun R B = (m, e)) (h1 : e.2 = false) (h2 : e.1 = (B.length : Int)) (h3 : lCheck m = 0) : lDecG R B = (m, 0) := by
  unfold lDecG; rw [h, if_pos ⟨h1, h2, h3⟩]
theorem lDecG_no {m : DMessage} {e : RS} (h : lRun R B = (m, e)) (h1 : e.2 = true ∨ ¬ e.1 = (B.length : Int) ∨ ¬ lCheck m = 0) : lDecG R B = (zeroM, 5) := by
  unfold lDecG; rw [h, if_neg]
  rintro ⟨a, b, c⟩
  rcases h1 with h1 | h1 | h1
  · rw [show (m, e).2.2 = e.2 from rfl, h1] at a; cases a
  · exact h1 b
  · exact h1 c
theorem lRun_h {l : List DStart} {e : RS} (k : (rNum B 3 (0, false)).1 = 1)
    (hl : pStarts B (rNum B 1048576 (rNum B 1048576 (rNum B 3 (rNum B 1048576 (rNum B 3 (0, false)).2).2).2).2).1.toNat (rNum B 1048576 (rNum B 1048576 (rNum B 3 (rNum B 1048576 (rNum B 3 (0, false)).2).2).2).2).2 = (l, e)) :
    lRun R B = (((rNum B 3 (0, false)).1, (rNum B 1048576 (rNum B 3 (0, false)).2).1, (rNum B 3 (rNum B 1048576 (rNum B 3 (0, false)).2).2).1, (rNum B 1048576 (rNum B 3 (rNum B 1048576 (rNum B 3 (0, false)).2).2).2).1, l, 0, 0, []), e) := by
  unfold lRun; dsimp only; rw [if_pos k, hl]
theorem lRun_s {l : List DCommit} {e : RS} (k1 : ¬ (rNum B 3 (0, false)).1 = 1) (k : (rNum B 3 (0, false)).1 = 2)
    (hl : pComms R (rNum B 4 (rNum B 1048576 (rNum B 1048576 (rNum B 1048576 (rNum B 3 (0, false)).2).2).2).2).1.toNat (rNum B 4 (rNum B 1048576 (rNum B 1048576 (rNum B 1048576 (rNum B 3 (0, false)).2).2).2).2).2 = (l, e)) :
    lRun R B = (((rNum B 3 (0, false)).1, (rNum B 1048576 (rNum B 3 (0, false)).2).1, 0, 0, [], (rNum B 1048576 (rNum B 1048576 (rNum B 3 (0, false)).2).2).1, (rNum B 1048576 (rNum B 1048576 (rNum B 1048576 (rNum B 3 (0, false)).2).2).2).1, l), e) := by
  unfold lRun; dsimp only; rw [if_neg k1, if_pos k, hl]
theorem lRun_a (k1 : ¬ (rNum B 3 (0, false)).1 = 1) (k : ¬ (rNum B 3 (0, false)).1 = 2) :
    lRun R B = (((rNum B 3 (0, false)).1, (rNum B 1048576 (rNum B 3 (0, false)).2).1, 0, (rNum B 1048576 (rNum B 1048576 (rNum B 3 (0, false)).2).2).1, [], 0, 0, []), (rNum B 1048576 (rNum B 1048576 (rNum B 3 (0, false)).2).2).2) := by
  unfold lRun; dsimp only; rw [if_neg k1, if_neg k]
theorem lDecG_kind (k1 : ¬ (rNum B 3 (0, false)).1 = 1) (k2 : ¬ (rNum B 3 (0, false)).1 = 2) (k3 : ¬ (rNum B 3 (0, false)).1 = 3) : lDecG R B = (zeroM, 5) := by
  refine lDecG_no (lRun_a k1 k2) (.inr (.inr fun hc => ?_))
  have := lc_nums hc
  omega
theorem starts_step {L ss : List DStart} {e : RS} {n a : Int} {b : Bool} (h : (L, e) = (ss ++ (pStarts B n.toNat (a, b)).1, (pStarts B n.toNat (a, b)).2)) (hn : 0 < n) (hb : b = false) :
    (L, e) = ((ss ++ [(rStart B (a, b)).1]) ++ (pStarts B (n - 1).toNat (rStart B (a, b)).2).1, (pStarts B (n - 1).toNat (rStart B (a, b)).2).2) := by
  rw [h, show n.toNat = (n - 1).toNat + 1 by omega, pStarts, if_neg (by rw [hb]; simp), List.append_assoc]; rfl
theorem starts_fin {L ss : List DStart} {e : RS} {n a : Int} {b : Bool} (h : (L, e) = (ss ++ (pStarts B n.toNat (a, b)).1, (pStarts B n.toNat (a, b)).2)) (hn : n ≤ 0 ∨ b = true) : (L, e) = (ss, (a, b)) := by
  rw [h]
  cases hk : n.toNat with
  | zero => simp [pStarts]
  | succ k =>
    rcases hn with hn | hn
    · omega
    · rw [pStarts, if_pos hn]; simp
theorem comms_step {L ss : List DCommit} {e : RS} {n a : Int} {b : Bool} (h : (L, e) = (ss ++ (pComms R n.toNat (a, b)).1, (pComms R n.toNat (a, b)).2)) (hn : 0 < n) (hb : b = false) :
    (L, e) = ((ss ++ [(R (a, b)).1]) ++ (pComms R (n - 1).toNat (R (a, b)).2).1, (pComms R (n - 1).toNat (R (a, b)).2).2) := by
  rw [h, show n.toNat = (n - 1).toNat + 1 by omega, pComms, if_neg (by rw [hb]; simp), List.append_assoc]; rfl
theorem comms_fin {L ss : List DCommit} {e : RS} {n a : Int} {b : Bool} (h : (L, e) = (ss ++ (pComms R n.toNat (a, b)).1, (pComms R n.toNat (a, b)).2)) (hn : n ≤ 0 ∨ b = true) : (L, e) = (ss, (a, b)) := by
  rw [h]
  cases hk : n.toNat with
  | zero => simp [pComms]
  | succ k =>
    rcases hn with hn | hn
    · omega
    · rw [pComms, if_pos hn]; simp
end
def lDec (B : Bytes) : DMessage × Int := lDecG (lComm B) B
theorem lDecG_cases (R : RS → DCommit × RS) (B : Bytes) : (lDecG R B).2 = 0 ∧ lCheck (lDecG R B).1 = 0 ∨ lDecG R B = (zeroM, 5) := by
  unfold lDecG
  split
  · rename_i h; exact .inl ⟨rfl, h.2.2⟩
  · exact .inr rfl
theorem lDec_fits (B : Bytes) : (lDec B).1.2.2.2.2.1.length ≤ 1048576 ∧ (lDec B).1.2.2.2.2.2.2.2.length ≤ 4 ∧ ∀ c ∈ (lDec B).1.2.2.2.2.2.2.2, cCheck c = 0 := by
  rcases lDecG_cases (lComm B) B with ⟨_, h⟩ | h
  · by_cases k1 : (lDec B).1.1 = 1
    · obtain ⟨_, _, r5, _, _, _, r9⟩ := lc_hello h k1
      have r9' : (lDec B).1.2.2.2.2.2.2.2 = [] := r9
      exact ⟨r5, by rw [r9']; exact Nat.zero_le _, by rw [r9']; intro c hc; cases hc⟩
    · by_cases k2 : (lDec B).1.1 = 2
      · obtain ⟨_, _, _, r6, r7, _, _, _, r11⟩ := lCheck_ship h k2
        exact ⟨by have : (lDec B).1.2.2.2.2.1.length = 0 := r11; omega, r6, cFollowsAt_ok r7⟩
      · obtain ⟨⟨_, _, r4, _, _, r7⟩, _⟩ := lc_ack h k1 k2
        have r7' : (lDec B).1.2.2.2.2.2.2.2 = [] := List.eq_nil_of_length_eq_zero r7
        exact ⟨by have : (lDec B).1.2.2.2.2.1.length = 0 := r4; omega, by rw [r7']; exact Nat.zero_le _, by rw [r7']; intro c hc; cases hc⟩
  · unfold lDec; rw [h]
    exact ⟨Nat.zero_le _, Nat.zero_le _, fun c hc => by cases hc⟩
end
section
set_option linter.unusedVariables false
abbrev TBuf : Ty := (.sl .byte)
abbrev DBuf := (List UInt8)
instance decBuf : DecidableEq DBuf := inferInstance
theorem openO_Buf {m : Mem} {cs : List Value} {x0 : List UInt8} (h : Ow TBuf m cs x0) : ∃ (A0 : Option Addr), ∃ (c0 : Nat), ∃ (n0 : Mem), cs = [(.slice A0 x0.length c0 : Value)] ∧ Seps m [n0] ∧ Ow (.sl .byte) n0 [.slice A0 x0.length c0] x0 := by
  have z1 := h
  obtain ⟨A1, c1, rfl, _⟩ := Ow.slice1 h
  exact ⟨A1, c1, _, rfl, Seps.one (mle_refl _), z1⟩
theorem mkO_Buf {m : Mem} {n0 : Mem} (x0 : List UInt8) (hS : Seps m [n0]) {v0 : Value} (h0 : Ow (.sl .byte) n0 [v0] x0) : Ow TBuf m [v0] x0 := by
  exact (h0.up (hS.1 _ (.head _)))
theorem openP_Buf {m : Mem} {cs : List Value} {g : Nat} {x0 : List UInt8} (h : Ow (.ptr TBuf) m cs (g, x0)) : ∃ (E : TypeId), ∃ (A0 : Option Addr), ∃ (c0 : Nat), ∃ (n0 : Mem), cs = [.pointer (some ⟨g, 0, none⟩)] ∧ Seps m [mone g (.cells [(.slice A0 x0.length c0 : Value)].toArray E (0, 0)), n0] ∧ Ow (.sl .byte) n0 [.slice A0 x0.length c0] x0 := by
  obtain ⟨rfl, rc, E, m1, hd, l0, l1, h1⟩ := Ow.opnP h
  obtain ⟨A0, c0, n0, rfl, hS, f0⟩ := openO_Buf h1
  exact ⟨E, A0, c0, n0, rfl, Seps.app hd l0 l1 (Seps.one (mle_refl _)) hS, f0⟩
theorem mkP_Buf {m : Mem} {g : Nat} {E : TypeId} {n0 : Mem}{v0 : Value} (x0 : List UInt8) (hS : Seps m [mone g (.cells [v0].toArray E (0, 0)), n0]) (h0 : Ow (.sl .byte) n0 [v0] x0) : Ow (.ptr TBuf) m [.pointer (some ⟨g, 0, none⟩)] (g, x0) :=
  Ow.clsP hS fun hS => mkO_Buf x0 hS h0
end
section
set_option linter.unusedVariables false
set_option linter.unusedSimpArgs false
set_option maxRecDepth 4000
theorem fnOk128 : fnOk Try.prog 128 = true := by kernel_rfl
theorem fnOk131 : fnOk Try.prog 131 = true := by kernel_rfl
theorem fnOk132 : fnOk Try.prog 132 = true := by kernel_rfl
theorem teq90 (a0 : Int) (a1 : Int) : plainS Try.prog 90 [.int .i64 a0, .int .i64 a1] = true := by kernel_rfl
theorem fin0_lput_ok {P : Prop} (h : P := by first | omega | (simp only [List.length_append, List.length_nil, List.length_cons, List.length_take, List.length_drop] at *; omega) | (have h_ := e0 _ (List.mem_of_getElem? ‹d0[k]? = some _›); omega)) : P := h
theorem lput_ok (W : World) {m1 : Mem} (hm : mle (m1) (wm W)) {v0 : Value} {d0 : List Int} (h0 : Rd (.sl (.int .i64)) (mout (wm W) (m1)) [v0] d0) {g1 : Nat} {d1 : DBuf} (h1 : Ow (.ptr TBuf) m1 [.pointer (some ⟨g1, 0, none⟩)] (g1, d1)) (e0 : ∀ x ∈ d0, 0 ≤ x) (e1 : d1.length + 10 * d0.length ≤ 140737488355000) : CallR Try.prog 128 [v0, .pointer (some ⟨g1, 0, none⟩)] W (m1) (fun v m' => v = .tuple #[] ∧ Ow (.ptr TBuf) m' [.pointer (some ⟨g1, 0, none⟩)] (g1, d1 ++ putAll d0)) := by
  obtain ⟨A0, c0, rfl, l0, k0⟩ := h0.slice
  simp only [maxLen] at k0
  refine CallR.ofB (n := 16) hm Try.func128 rfl rfl rfl ?_
  refine VC.rs ?_
  refine VO.mv ?_
  refine VO.y rfl (.lenS rfl tsl96) ?_
  refine VO.mv ?_
  refine VO.k5 0 1 5 6 7 ?_
  refine VC.block ?_
  refine VC.loop (G := Nat × DBuf × Mem) (fun g => [(7, Value.int .i64 ((((g.1) : Nat) : Int))), (0, Value.slice A0 (d0.length) (c0)), (1, Value.pointer (some ⟨g1, 0, none⟩)), (5, Value.slice A0 (d0.length) (c0)), (6, Value.int .i64 (((d0.length : Nat) : Int)))]) (fun g => [(0, mout (wm W) (m1)), (1, (g.2.2))]) (fun g => ((g.1) ≤ d0.length) ∧ ((g.2.1) = d1 ++ putAll (d0.take (g.1))) ∧ ((g.2.1).length ≤ d1.length + 10 * (g.1)) ∧ (Ow (.ptr TBuf) (g.2.2) [.pointer (some ⟨g1, 0, none⟩)] (g1, (g.2.1)))) (fun g => d0.length - (g.1)) (0, d1, m1) (⟨by omega, by simp [putAll], by (dsimp only; omega), h1⟩) ⟨⟨rfl, rfl, rfl, rfl, rfl, trivial⟩, fun _ h => h.sub [0, 1]⟩ ?_
  rintro ⟨k, b, b_m⟩ ⟨hk, hb, hlb, h_b⟩
  replace hk : k ≤ d0.length := hk
  replace hb : b = d1 ++ putAll (d0.take k) := hb
  replace hlb : b.length ≤ d1.length + 10 * k := hlb
  replace h_b : Ow (.ptr TBuf) b_m [.pointer (some ⟨g1, 0, none⟩)] (g1, b) := h_b
  show VC _ _ _ _ _ [(7, Value.int .i64 (((k : Nat) : Int))), (0, Value.slice A0 (d0.length) (c0)), (1, Value.pointer (some ⟨g1, 0, none⟩)), (5, Value.slice A0 (d0.length) (c0)), (6, Value.int .i64 (((d0.length : Nat) : Int)))] [(0, mout (wm W) (m1)), (1, b_m)]
  refine VC.rs ?_
  refine VO.y rfl (.lss rfl rfl) ?_
  refine VO.k6 0 1 5 6 7 8 ?_
  refine VC.seq ?_
  refine VC.cond rfl (fun hc1 => ?_) (fun hc1 => ?_)
  · -- T
    refine VC.skip ?_
    refine outN ?_
    refine VC.seq ?_
    refine VC.block ?_
    refine VC.rs ?_
    obtain ⟨x2, hx2⟩ : ∃ z_, (d0)[k]? = some z_ := ⟨_, List.getElem?_eq_getElem (by exact fin0_lput_ok)⟩
    obtain ⟨gg2, oo2, ec2, ea2, hce2, hre2⟩ := h0.elem hx2
    cases ea2
    obtain ⟨rfl, q2⟩ := hre2; simp only [inK] at q2
    refine VO.y rfl (.ixI k rfl rfl tsl96 rfl (by exact fin0_lput_ok)) ?_
    refine VO.y rfl (.ld1 0 rfl tk3 rfl hce2) ?_
    refine VO.as ?_
    refine VO.keep [0, 1] [(0, mout (wm W) (m1)), (1, b_m)] (by kernel_rfl) ?_
    refine VO.k7 0 1 4 5 6 7 8 ?_
    refine VC.reg ?_
    obtain ⟨q3_E, q3_A0, q3_c0, q3_n0, _, q3_S, q3_0⟩ := openP_Buf (x0 := b) h_b
    have q3_r0 := Rd.room (q3_0.rd (mle_refl _))
    refine VO.inv _ (fun _ h => h.parts (i := 1) rfl q3_S [105, 104]) ?_
    refine VO.y rfl (.ld1 105 rfl tk23 rfl (cellsAt_one rfl rfl)) ?_
    refine VO.mv ?_
    refine VO.y rfl (.cvI (c := ((x2).toNat : Int)) rfl ⟨_, Try.underlying3⟩ Try.underlying112 (by rw [IntWalk.u64_in _ (by exact fin0_lput_ok)]; first | omega | (exact fin0_lput_ok))) ?_
    refine VO.callN 106 rfl fnOk97 rfl (fun W hW => vAppend_ok W (OwnL.rd (Ow.ownl q3_0 rfl mnil) (hW.at (i := 104) rfl) (mle_nil _)) ((x2).toNat) (by exact fin0_lput_ok) (by exact fin0_lput_ok)) (fun v6 m6 hv6 => ?_)
    obtain ⟨s6_0, rfl, f6_0⟩ := hv6
    have hfa7 := venc_len (x := ((x2).toNat)) (by first | omega | exact or64 (by assumption) _)
    obtain ⟨A6_0, c6_0, eq6_0, l6_0, k6_0⟩ := f6_0.slice
    subst eq6_0
    simp only [maxLen] at k6_0
    refine VO.store (k := 1) (c' := [Value.slice A6_0 ((b ++ venc ((x2).toNat)).length) (c6_0)]) 105 rfl rfl (.inr ⟨tk23, rfl⟩) rfl rfl rfl rfl rfl ?_
    refine VO.gather (l := [mone g1 (.cells [Value.slice A6_0 ((b ++ venc ((x2).toNat)).length) (c6_0)].toArray q3_E (0, 0)), m6]) 108 [105, 106] rfl (fun hg8 => ?_)
    have ho8 : Ow (.ptr TBuf) (muns [mone g1 (.cells [Value.slice A6_0 ((b ++ venc ((x2).toNat)).length) (c6_0)].toArray q3_E (0, 0)), m6]) [.pointer (some ⟨g1, 0, none⟩)] (g1, b ++ venc ((x2).toNat)) := (mkP_Buf (b ++ venc ((x2).toNat)) hg8 (OwnL.ow (Ow.ownl f6_0 rfl mnil) rfl))
    refine VO.k7 0 1 4 5 6 7 8 ?_
    refine outBN ?_
    refine outN ?_
    refine VC.reg ?_
    refine VO.y rfl (.add (c := ((k + 1 : Nat) : Int)) rfl rfl (by omega) ⟨by exact fin0_lput_ok, by exact fin0_lput_ok⟩) ?_
    refine VO.mv ?_
    refine VO.k7 0 1 4 5 6 7 8 ?_
    exact outN ⟨⟨k + 1, b ++ venc ((x2).toNat), muns [mone g1 (.cells [Value.slice A6_0 ((b ++ venc ((x2).toNat)).length) (c6_0)].toArray q3_E (0, 0)), m6]⟩, ⟨by omega, by exact putAll_next hb ‹d0[k]? = some _›, by (simp only [List.length_append] at *; omega), ho8⟩, by exact fin0_lput_ok, ⟨⟨rfl, rfl, rfl, rfl, rfl, trivial⟩, fun _ h => Inv.sub (Inv.num h 108 1 rfl) [0, 1]⟩⟩
  · -- F
    refine VC.exit ?_
    refine outE ?_
    refine outE ?_
    refine outBB ?_
    refine ⟨_, _, res_run (rs := []) rfl .nil, fun W_ hI => out_of (l := [b_m]) hI [1] rfl rfl (mle_refl _) (fun hS_ => ?_)⟩
    dsimp only [packV]
    have hm1_ : (d1 ++ putAll d0 : DBuf) = b := by first | rfl | (rw [hb, List.take_of_length_le (by omega)])
    refine ⟨?_, ?_⟩
    rotate_left
    · rw [hm1_]; exact (Ow.up h_b (hS_.1 _ (.head _)))
    all_goals (first | rfl | (simp [*]; done))
theorem fin0_lEncode_ok {P : Prop} (h : P := by first | omega | (simp only [List.length_append, List.length_nil, List.length_cons, List.length_take, List.length_drop] at *; omega) | (have n_ := lc_nums (Decidable.not_not.1 ‹¬ ¬ lCheck d0 = 0›); first | omega | (have q_ := lc_hello (Decidable.not_not.1 ‹¬ ¬ lCheck d0 = 0›) (by assumption); omega) | (have q_ := start_of (Decidable.not_not.1 ‹¬ ¬ lCheck d0 = 0›) (by assumption) ‹d0.2.2.2.2.1[k]? = some _›; omega) | (have q_ := ship_nums (Decidable.not_not.1 ‹¬ ¬ lCheck d0 = 0›) (by assumption); omega) | (have q_ := (lc_ack (Decidable.not_not.1 ‹¬ ¬ lCheck d0 = 0›) (by omega) (by omega)).1.1; omega) | (have q_ := cEnc_len (comm_of (Decidable.not_not.1 ‹¬ ¬ lCheck d0 = 0›) (by assumption) ‹d0.2.2.2.2.2.2.2[k]? = some _›); simp only [cEncode_is (comm_of (Decidable.not_not.1 ‹¬ ¬ lCheck d0 = 0›) (by assumption) ‹d0.2.2.2.2.2.2.2[k]? = some _›)] at *; omega) | (simp only [List.length_append, List.length_cons, List.length_nil] at *; omega))) : P := h
theorem fin1_lEncode_ok {P : Prop} (h : P := by intro x_ hx_; simp only [List.mem_cons, List.not_mem_nil, or_false] at hx_; have n_ := lc_nums (Decidable.not_not.1 ‹¬ ¬ lCheck d0 = 0›); first | omega | (have q_ := lc_hello (Decidable.not_not.1 ‹¬ ¬ lCheck d0 = 0›) (by assumption); omega) | (have q_ := start_of (Decidable.not_not.1 ‹¬ ¬ lCheck d0 = 0›) (by assumption) ‹d0.2.2.2.2.1[k]? = some _›; omega) | (have q_ := ship_nums (Decidable.not_not.1 ‹¬ ¬ lCheck d0 = 0›) (by assumption); omega) | (have q_ := (lc_ack (Decidable.not_not.1 ‹¬ ¬ lCheck d0 = 0›) (by omega) (by omega)).1.1; omega) | (have q_ := cEnc_len (comm_of (Decidable.not_not.1 ‹¬ ¬ lCheck d0 = 0›) (by assumption) ‹d0.2.2.2.2.2.2.2[k]? = some _›); simp only [cEncode_is (comm_of (Decidable.not_not.1 ‹¬ ¬ lCheck d0 = 0›) (by assumption) ‹d0.2.2.2.2.2.2.2[k]? = some _›)] at *; omega) | (simp only [List.length_append, List.length_cons, List.length_nil] at *; omega)) : P := h
theorem lEncode_ok (W : World) {v0 : List Value} {d0 : DMessage} (h0 : Rd TMessage (wm W) v0 d0) : CallR Try.prog 88 [.agg v0.toArray] W (mnil) (fun v m' => ∃ (s0 : Value), v = .tuple #[s0, .int .i64 ((lEncode d0).2)] ∧ Ow (.sl .byte) m' [s0] ((lEncode d0).1)) := by
  obtain ⟨p0_A4, p0_c4, p0_A7, p0_c7, rfl, p0_0, p0_1, p0_2, p0_3, p0_4, p0_5, p0_6, p0_7⟩ := open_Message (x0 := d0.1) (x1 := d0.2.1) (x2 := d0.2.2.1) (x3 := d0.2.2.2.1) (x4 := d0.2.2.2.2.1) (x5 := d0.2.2.2.2.2.1) (x6 := d0.2.2.2.2.2.2.1) (x7 := d0.2.2.2.2.2.2.2) h0
  simp only [inK] at p0_0
  simp only [inK] at p0_1
  simp only [inK] at p0_2
  simp only [inK] at p0_3
  have p0_r4 := Rd.room p0_4
  simp only [inK] at p0_5
  simp only [inK] at p0_6
  have p0_r7 := Rd.room p0_7
  refine CallR.ofA (n := 97) Try.func88 rfl rfl rfl ?_
  refine VC.rs ?_
  refine VO.box (cs := [Value.int .i64 (d0.1), Value.int .i64 (d0.2.1), Value.int .u8 (d0.2.2.1), Value.int .i64 (d0.2.2.2.1), Value.slice p0_A4 (d0.2.2.2.2.1.length) (p0_c4), Value.int .i64 (d0.2.2.2.2.2.1), Value.int .i64 (d0.2.2.2.2.2.2.1), Value.slice p0_A7 (d0.2.2.2.2.2.2.2.length) (p0_c7)]) 102 rfl rfl rfl (fun g1 => ?_)
  refine VO.as ?_
  refine VO.as ?_
  refine VO.k4 0 1 2 3 ?_
  refine VC.seq ?_
  refine VC.rs ?_
  refine VO.y rfl (.ldA 102 rfl tk72 rfl (cellsAt_one rfl rfl)) ?_
  refine VO.callN 103 rfl fnOk87 rfl (fun W hW => lCheck_ok W (Rd.mono h0 (hW.at (i := 0) rfl))) (fun v3 m3 hv3 => ?_)
  subst hv3
  have hfa4 := lCheck_range d0
  refine VO.as ?_
  refine VO.k5 0 1 2 3 4 ?_
  refine VC.rs ?_
  refine VO.mv ?_
  refine VO.y rfl (.neq rfl rfl) ?_
  refine VO.keep [102, 0] [(102, mone g1 (.cells [Value.int .i64 (d0.1), Value.int .i64 (d0.2.1), Value.int .u8 (d0.2.2.1), Value.int .i64 (d0.2.2.2.1), Value.slice p0_A4 (d0.2.2.2.2.1.length) (p0_c4), Value.int .i64 (d0.2.2.2.2.2.1), Value.int .i64 (d0.2.2.2.2.2.2.1), Value.slice p0_A7 (d0.2.2.2.2.2.2.2.length) (p0_c7)].toArray 72 (0, 0))), (0, wm W)] (by kernel_rfl) ?_
  refine VO.k6 0 1 2 3 4 16 ?_
  refine VC.cond rfl (fun hc5 => ?_) (fun hc5 => ?_)
  · -- T
    refine VC.rs ?_
    refine VO.mv ?_
    refine VO.as ?_
    refine VO.as ?_
    refine VO.k6 0 1 2 3 4 16 ?_
    refine VC.ret ?_
    refine outR ?_
    refine ⟨_, _, res_run (rs := [.tmp 2, .tmp 3]) rfl (.tmp rfl (.tmp rfl .nil)), fun W_ hI => out_of (l := []) hI [] rfl rfl (mle_refl _) (fun hS_ => ?_)⟩
    dsimp only [packV]
    have he0 : ((lEncode d0).1 : Ty.Den (.sl .byte)) = [] := by first | rfl | (first | (rw [lEncode_bad (by assumption)]; done) | (rw [lEncode_hello (Decidable.not_not.1 ‹¬ ¬ lCheck d0 = 0›) (by assumption), hb, List.take_of_length_le (by omega)]; done) | (rw [lEncode_ship (Decidable.not_not.1 ‹¬ ¬ lCheck d0 = 0›) (by assumption) (by assumption), hb, List.take_of_length_le (by omega)]; done) | (rw [lEncode_ack (Decidable.not_not.1 ‹¬ ¬ lCheck d0 = 0›) (by omega) (by omega)]; simp [putAll]; done))
    refine ⟨Value.slice none (0) (0), ?_, ?_⟩
    rotate_left
    · rw [he0]; exact (Ow.nil _ _)
    all_goals (first | rfl | (first | (rw [lEncode_bad (by assumption)] <;> rfl) | (rw [lEncode_hello (Decidable.not_not.1 ‹¬ ¬ lCheck d0 = 0›) (by assumption)] <;> rfl) | (rw [lEncode_ship (Decidable.not_not.1 ‹¬ ¬ lCheck d0 = 0›) (by assumption) (by assumption)] <;> rfl) | (rw [lEncode_ack (Decidable.not_not.1 ‹¬ ¬ lCheck d0 = 0›) (by omega) (by omega)] <;> rfl)))
  · -- F
    refine VC.skip ?_
    refine outN ?_
    refine VC.rs ?_
    refine VO.alloc 107 rfl tz23 (fun g6 => ?_)
    refine VO.k7 0 1 2 3 4 5 16 ?_
    refine VC.rs ?_
    refine VO.y rfl (.mkf rfl) ?_
    refine VO.as ?_
    refine VO.k8 0 1 2 3 4 5 6 16 ?_
    refine VC.rs ?_
    refine VO.mv ?_
    refine VO.y rfl (.fa rfl tst72 rfl) ?_
    refine VO.y rfl (.ld1 102 rfl tk3 rfl (cellsAt_one rfl rfl)) ?_
    refine VO.y rfl (.fa rfl tst72 rfl) ?_
    refine VO.y rfl (.ld1 102 rfl tk3 rfl (cellsAt_one rfl rfl)) ?_
    refine VO.bsl (cs := [Value.int .i64 (d0.1), Value.int .i64 (d0.2.1)]) 109 rfl rfl tsl96 tz3 rfl rfl (fun g8 => ?_)
    have ho11 : OwnL (.int .i64) (mone g8 (.cells [Value.int .i64 (d0.1), Value.int .i64 (d0.2.1)].toArray 3 (0, 0))) mnil (Value.slice (some ⟨g8, 0, none⟩) (2) (2)) [d0.1, d0.2.1] := OwnL.lit 2 (All2c.cons (c1 := [Value.int .i64 (d0.1)]) (show Rd (.int .i64) _ [_] _ from ⟨rfl, by simp only [inK]; (exact fin0_lEncode_ok)⟩) (All2c.cons (c1 := [Value.int .i64 (d0.2.1)]) (show Rd (.int .i64) _ [_] _ from ⟨rfl, by simp only [inK]; (exact fin0_lEncode_ok)⟩) All2c.nil)) rfl rfl
    refine VO.gather (l := [mone g6 (.cells [Value.slice none (0) (0)].toArray 23 (0, 0))]) 112 [107] rfl (fun hg12 => ?_)
    have ho12 : Ow (.ptr TBuf) (muns [mone g6 (.cells [Value.slice none (0) (0)].toArray 23 (0, 0))]) [.pointer (some ⟨g6, 0, none⟩)] (g6, []) := (mkP_Buf [] (Seps.nilAt 1 hg12) (Ow.nil _ _))
    refine VO.callV 112 rfl rfl fnOk128 rfl rfl (fun W hW => lput_ok W (hW.at (i := 112) rfl) (OwnL.rd ho11 (hW.out (i := 112) (j := 109) rfl rfl) (mle_nil _)) ho12 (by exact fin1_lEncode_ok) (by exact fin0_lEncode_ok)) (fun v10 m10 hv10 => ?_)
    obtain ⟨rfl, w10_1⟩ := hv10
    have hfa13 := (putAll_len (l := ([d0.1, d0.2.1])) (by intro x_ hx_; simp only [List.mem_cons, List.not_mem_nil, or_false] at hx_; omega))
    refine VO.keep [112, 102, 0] [(112, m10), (102, mone g1 (.cells [Value.int .i64 (d0.1), Value.int .i64 (d0.2.1), Value.int .u8 (d0.2.2.1), Value.int .i64 (d0.2.2.2.1), Value.slice p0_A4 (d0.2.2.2.2.1.length) (p0_c4), Value.int .i64 (d0.2.2.2.2.2.1), Value.int .i64 (d0.2.2.2.2.2.2.1), Value.slice p0_A7 (d0.2.2.2.2.2.2.2.length) (p0_c7)].toArray 72 (0, 0))), (0, wm W)] (by kernel_rfl) ?_
    refine VO.k8 0 1 2 3 4 5 6 16 ?_
    refine VC.seq ?_
    refine VC.rs ?_
    refine VO.y rfl (.fa rfl tst72 rfl) ?_
    refine VO.y rfl (.ld1 102 rfl tk3 rfl (cellsAt_one rfl rfl)) ?_
    refine VO.k9 0 1 2 3 4 5 6 16 27 ?_
    refine VC.block ?_
    refine VC.rs ?_
    refine VO.y rfl (.eql rfl rfl) ?_
    refine VO.as ?_
    refine VO.k10 0 1 2 3 4 5 6 16 27 28 ?_
    refine VC.cond rfl (fun hc14 => ?_) (fun hc14 => ?_)
    · -- FT
      refine VC.rs ?_
      refine VO.mv ?_
      refine VO.y rfl (.fa rfl tst72 rfl) ?_
      refine VO.y rfl (.ld1 102 rfl tk69 rfl (cellsAt_one rfl rfl)) ?_
      refine VO.y rfl (.cvI rfl ⟨_, Try.underlying69⟩ Try.underlying3 (IntWalk.i64_in _ (by exact fin0_lEncode_ok))) ?_
      refine VO.y rfl (.fa rfl tst72 rfl) ?_
      refine VO.y rfl (.ld1 102 rfl tk3 rfl (cellsAt_one rfl rfl)) ?_
      refine VO.y rfl (.fa rfl tst72 rfl) ?_
      refine VO.y rfl (.ld1 102 rfl tk70 rfl (cellsAt_one rfl rfl)) ?_
      refine VO.y rfl (.lenS rfl tsl70) ?_
      refine VO.bsl (cs := [Value.int .i64 (d0.2.2.1), Value.int .i64 (d0.2.2.2.1), Value.int .i64 (((d0.2.2.2.2.1.length : Nat) : Int))]) 116 rfl rfl tsl96 tz3 rfl rfl (fun g15 => ?_)
      have ho18 : OwnL (.int .i64) (mone g15 (.cells [Value.int .i64 (d0.2.2.1), Value.int .i64 (d0.2.2.2.1), Value.int .i64 (((d0.2.2.2.2.1.length : Nat) : Int))].toArray 3 (0, 0))) mnil (Value.slice (some ⟨g15, 0, none⟩) (3) (3)) [d0.2.2.1, d0.2.2.2.1, ((d0.2.2.2.2.1.length : Nat) : Int)] := OwnL.lit 3 (All2c.cons (c1 := [Value.int .i64 (d0.2.2.1)]) (show Rd (.int .i64) _ [_] _ from ⟨rfl, by simp only [inK]; (exact fin0_lEncode_ok)⟩) (All2c.cons (c1 := [Value.int .i64 (d0.2.2.2.1)]) (show Rd (.int .i64) _ [_] _ from ⟨rfl, by simp only [inK]; (exact fin0_lEncode_ok)⟩) (All2c.cons (c1 := [Value.int .i64 (((d0.2.2.2.2.1.length : Nat) : Int))]) (show Rd (.int .i64) _ [_] _ from ⟨rfl, by simp only [inK]; (exact fin0_lEncode_ok)⟩) All2c.nil))) rfl rfl
      refine VO.callV 112 rfl rfl fnOk128 rfl rfl (fun W hW => lput_ok W (hW.at (i := 112) rfl) (OwnL.rd ho18 (hW.out (i := 112) (j := 116) rfl rfl) (mle_nil _)) w10_1 (by exact fin1_lEncode_ok) (by exact fin0_lEncode_ok)) (fun v17 m17 hv17 => ?_)
      obtain ⟨rfl, w17_1⟩ := hv17
      have hfa19 := (putAll_len (l := ([d0.2.2.1, d0.2.2.2.1, ((d0.2.2.2.2.1.length : Nat) : Int)])) (by intro x_ hx_; simp only [List.mem_cons, List.not_mem_nil, or_false] at hx_; omega))
      refine VO.keep [112, 102, 0] [(112, m17), (102, mone g1 (.cells [Value.int .i64 (d0.1), Value.int .i64 (d0.2.1), Value.int .u8 (d0.2.2.1), Value.int .i64 (d0.2.2.2.1), Value.slice p0_A4 (d0.2.2.2.2.1.length) (p0_c4), Value.int .i64 (d0.2.2.2.2.2.1), Value.int .i64 (d0.2.2.2.2.2.2.1), Value.slice p0_A7 (d0.2.2.2.2.2.2.2.length) (p0_c7)].toArray 72 (0, 0))), (0, wm W)] (by kernel_rfl) ?_
      refine VO.k10 0 1 2 3 4 5 6 16 27 28 ?_
      refine VC.rs ?_
      refine VO.y rfl (.fa rfl tst72 rfl) ?_
      refine VO.y rfl (.ld1 102 rfl tk70 rfl (cellsAt_one rfl rfl)) ?_
      refine VO.y rfl (.lenS rfl tsl70) ?_
      refine VO.mv ?_
      refine VO.k13 0 1 2 3 4 5 6 16 27 28 42 43 44 ?_
      refine VC.block ?_
      refine VC.loop (G := Nat × DBuf × Mem) (fun g => [(44, Value.int .i64 ((((g.1) : Nat) : Int))), (0, Value.agg [Value.int .i64 (d0.1), Value.int .i64 (d0.2.1), Value.int .u8 (d0.2.2.1), Value.int .i64 (d0.2.2.2.1), Value.slice p0_A4 (d0.2.2.2.2.1.length) (p0_c4), Value.int .i64 (d0.2.2.2.2.2.1), Value.int .i64 (d0.2.2.2.2.2.2.1), Value.slice p0_A7 (d0.2.2.2.2.2.2.2.length) (p0_c7)].toArray), (1, Value.pointer (some ⟨g1, 0, none⟩)), (2, Value.slice none (0) (0)), (3, Value.int .i64 (0)), (4, Value.int .i64 (lCheck d0)), (5, Value.pointer (some ⟨g6, 0, none⟩)), (6, Value.func (.func 128) #[] #[Value.pointer (some ⟨g6, 0, none⟩)]), (16, Value.bool (decide (¬ (lCheck d0) = 0))), (27, Value.int .i64 (d0.1)), (28, Value.bool (decide (d0.1 = 1))), (42, Value.slice p0_A4 (d0.2.2.2.2.1.length) (p0_c4)), (43, Value.int .i64 (((d0.2.2.2.2.1.length : Nat) : Int)))]) (fun g => [(112, (g.2.2)), (102, mone g1 (.cells [Value.int .i64 (d0.1), Value.int .i64 (d0.2.1), Value.int .u8 (d0.2.2.1), Value.int .i64 (d0.2.2.2.1), Value.slice p0_A4 (d0.2.2.2.2.1.length) (p0_c4), Value.int .i64 (d0.2.2.2.2.2.1), Value.int .i64 (d0.2.2.2.2.2.2.1), Value.slice p0_A7 (d0.2.2.2.2.2.2.2.length) (p0_c7)].toArray 72 (0, 0))), (0, wm W)]) (fun g => ((g.1) ≤ d0.2.2.2.2.1.length) ∧ ((g.2.1) = lHd d0 ++ sEnc (d0.2.2.2.2.1.take (g.1))) ∧ (Ow (.ptr TBuf) (g.2.2) [.pointer (some ⟨g6, 0, none⟩)] (g6, (g.2.1)))) (fun g => d0.2.2.2.2.1.length - (g.1)) (0, ([] ++ putAll ([d0.1, d0.2.1])) ++ putAll ([d0.2.2.1, d0.2.2.2.1, ((d0.2.2.2.2.1.length : Nat) : Int)]), m17) (⟨by omega, by (simp [putAll, lHd, sEnc]), w17_1⟩) ⟨⟨rfl, rfl, rfl, rfl, rfl, rfl, rfl, rfl, rfl, rfl, rfl, rfl, rfl, trivial⟩, fun _ h => h.sub [112, 102, 0]⟩ ?_
      rintro ⟨k, b, b_m⟩ ⟨hk, hb, h_b⟩
      replace hk : k ≤ d0.2.2.2.2.1.length := hk
      replace hb : b = lHd d0 ++ sEnc (d0.2.2.2.2.1.take k) := hb
      replace h_b : Ow (.ptr TBuf) b_m [.pointer (some ⟨g6, 0, none⟩)] (g6, b) := h_b
      show VC _ _ _ _ _ [(44, Value.int .i64 (((k : Nat) : Int))), (0, Value.agg [Value.int .i64 (d0.1), Value.int .i64 (d0.2.1), Value.int .u8 (d0.2.2.1), Value.int .i64 (d0.2.2.2.1), Value.slice p0_A4 (d0.2.2.2.2.1.length) (p0_c4), Value.int .i64 (d0.2.2.2.2.2.1), Value.int .i64 (d0.2.2.2.2.2.2.1), Value.slice p0_A7 (d0.2.2.2.2.2.2.2.length) (p0_c7)].toArray), (1, Value.pointer (some ⟨g1, 0, none⟩)), (2, Value.slice none (0) (0)), (3, Value.int .i64 (0)), (4, Value.int .i64 (lCheck d0)), (5, Value.pointer (some ⟨g6, 0, none⟩)), (6, Value.func (.func 128) #[] #[Value.pointer (some ⟨g6, 0, none⟩)]), (16, Value.bool (decide (¬ (lCheck d0) = 0))), (27, Value.int .i64 (d0.1)), (28, Value.bool (decide (d0.1 = 1))), (42, Value.slice p0_A4 (d0.2.2.2.2.1.length) (p0_c4)), (43, Value.int .i64 (((d0.2.2.2.2.1.length : Nat) : Int)))] [(112, b_m), (102, mone g1 (.cells [Value.int .i64 (d0.1), Value.int .i64 (d0.2.1), Value.int .u8 (d0.2.2.1), Value.int .i64 (d0.2.2.2.1), Value.slice p0_A4 (d0.2.2.2.2.1.length) (p0_c4), Value.int .i64 (d0.2.2.2.2.2.1), Value.int .i64 (d0.2.2.2.2.2.2.1), Value.slice p0_A7 (d0.2.2.2.2.2.2.2.length) (p0_c7)].toArray 72 (0, 0))), (0, wm W)]
      have hlb := hd_room (Decidable.not_not.1 ‹¬ ¬ lCheck d0 = 0›) (by assumption) hb
      have hln := (lc_hello (Decidable.not_not.1 ‹¬ ¬ lCheck d0 = 0›) (by assumption)).2.2.1
      refine VC.rs ?_
      refine VO.y rfl (.lss rfl rfl) ?_
      refine VO.k14 0 1 2 3 4 5 6 16 27 28 42 43 44 45 ?_
      refine VC.seq ?_
      refine VC.cond rfl (fun hc20 => ?_) (fun hc20 => ?_)
      · -- FTT
        refine VC.skip ?_
        refine outN ?_
        refine VC.seq ?_
        refine VC.block ?_
        refine VC.rs ?_
        obtain ⟨x21, hx21⟩ : ∃ z_, (d0.2.2.2.2.1)[k]? = some z_ := ⟨_, List.getElem?_eq_getElem (by exact fin0_lEncode_ok)⟩
        obtain ⟨gg21, oo21, ec21, ea21, hce21, hre21⟩ := p0_4.elem hx21
        cases ea21
        obtain ⟨rfl, q21_0, q21_1⟩ := open_Start (x0 := x21.1) (x1 := x21.2) hre21
        simp only [inK] at q21_0
        simp only [inK] at q21_1
        refine VO.y rfl (.ixI k rfl rfl tsl70 rfl (by exact fin0_lEncode_ok)) ?_
        refine VO.y rfl (.ldA 0 rfl tk90 rfl hce21) ?_
        refine VO.alloc 123 rfl tz90 (fun g22 => ?_)
        refine VO.store (k := 2) (c' := [Value.int .i64 (x21.1), Value.int .i64 (x21.2)]) 123 rfl rfl (.inl tk90) rfl rfl rfl rfl rfl ?_
        refine VO.keep [123, 112, 102, 0] [(123, mone g22 (.cells [Value.int .i64 (x21.1), Value.int .i64 (x21.2)].toArray 90 (0, 0))), (112, b_m), (102, mone g1 (.cells [Value.int .i64 (d0.1), Value.int .i64 (d0.2.1), Value.int .u8 (d0.2.2.1), Value.int .i64 (d0.2.2.2.1), Value.slice (some ⟨gg21, oo21, none⟩) (d0.2.2.2.2.1.length) (p0_c4), Value.int .i64 (d0.2.2.2.2.2.1), Value.int .i64 (d0.2.2.2.2.2.2.1), Value.slice p0_A7 (d0.2.2.2.2.2.2.2.length) (p0_c7)].toArray 72 (0, 0))), (0, wm W)] (by kernel_rfl) ?_
        refine VO.k15 0 1 2 3 4 5 6 8 16 27 28 42 43 44 45 ?_
        refine VC.reg ?_
        refine VO.mv ?_
        refine VO.y rfl (.fa rfl tst90 rfl) ?_
        refine VO.y rfl (.ld1 123 rfl tk3 rfl (cellsAt_one rfl rfl)) ?_
        refine VO.y rfl (.fa rfl tst90 rfl) ?_
        refine VO.y rfl (.ld1 123 rfl tk3 rfl (cellsAt_one rfl rfl)) ?_
        refine VO.bsl (cs := [Value.int .i64 (x21.1), Value.int .i64 (x21.2)]) 125 rfl rfl tsl96 tz3 rfl rfl (fun g24 => ?_)
        have ho27 : OwnL (.int .i64) (mone g24 (.cells [Value.int .i64 (x21.1), Value.int .i64 (x21.2)].toArray 3 (0, 0))) mnil (Value.slice (some ⟨g24, 0, none⟩) (2) (2)) [x21.1, x21.2] := OwnL.lit 2 (All2c.cons (c1 := [Value.int .i64 (x21.1)]) (show Rd (.int .i64) _ [_] _ from ⟨rfl, by simp only [inK]; (exact fin0_lEncode_ok)⟩) (All2c.cons (c1 := [Value.int .i64 (x21.2)]) (show Rd (.int .i64) _ [_] _ from ⟨rfl, by simp only [inK]; (exact fin0_lEncode_ok)⟩) All2c.nil)) rfl rfl
        refine VO.callV 112 rfl rfl fnOk128 rfl rfl (fun W hW => lput_ok W (hW.at (i := 112) rfl) (OwnL.rd ho27 (hW.out (i := 112) (j := 125) rfl rfl) (mle_nil _)) h_b (by exact fin1_lEncode_ok) (by exact fin0_lEncode_ok)) (fun v26 m26 hv26 => ?_)
        obtain ⟨rfl, w26_1⟩ := hv26
        have hfa28 := (putAll_len (l := ([x21.1, x21.2])) (by intro x_ hx_; simp only [List.mem_cons, List.not_mem_nil, or_false] at hx_; omega))
        refine VO.k15 0 1 2 3 4 5 6 8 16 27 28 42 43 44 45 ?_
        refine outBN ?_
        refine outN ?_
        refine VC.reg ?_
        refine VO.y rfl (.add (c := ((k + 1 : Nat) : Int)) rfl rfl (by omega) ⟨by exact fin0_lEncode_ok, by exact fin0_lEncode_ok⟩) ?_
        refine VO.mv ?_
        refine VO.k15 0 1 2 3 4 5 6 8 16 27 28 42 43 44 45 ?_
        exact outN ⟨⟨k + 1, b ++ putAll ([x21.1, x21.2]), m26⟩, ⟨by omega, by (rw [hb, take_one ‹d0.2.2.2.2.1[k]? = some _›, sEnc_app]; simp [putAll, sEnc]), w26_1⟩, by exact fin0_lEncode_ok, ⟨⟨rfl, rfl, rfl, rfl, rfl, rfl, rfl, rfl, rfl, rfl, rfl, rfl, rfl, trivial⟩, fun _ h => Inv.sub h [112, 102, 0]⟩⟩
      · -- FTF
        refine VC.exit ?_
        refine outE ?_
        refine outE ?_
        refine outBB ?_
        refine outBN ?_
        refine outN ?_
        refine VC.rs ?_
        obtain ⟨q29_E, q29_A0, q29_c0, q29_n0, _, q29_S, q29_0⟩ := openP_Buf (x0 := b) h_b
        have q29_r0 := Rd.room (q29_0.rd (mle_refl _))
        refine VO.inv _ (fun _ h => h.parts (i := 112) rfl q29_S [131, 130]) ?_
        refine VO.y rfl (.ld1 131 rfl tk23 rfl (cellsAt_one rfl rfl)) ?_
        refine VO.as ?_
        refine VO.as ?_
        refine VO.keep [131, 130, 102, 0] [(131, mone g6 (.cells [Value.slice q29_A0 (b.length) (q29_c0)].toArray q29_E (0, 0))), (130, q29_n0), (102, mone g1 (.cells [Value.int .i64 (d0.1), Value.int .i64 (d0.2.1), Value.int .u8 (d0.2.2.1), Value.int .i64 (d0.2.2.2.1), Value.slice p0_A4 (d0.2.2.2.2.1.length) (p0_c4), Value.int .i64 (d0.2.2.2.2.2.1), Value.int .i64 (d0.2.2.2.2.2.2.1), Value.slice p0_A7 (d0.2.2.2.2.2.2.2.length) (p0_c7)].toArray 72 (0, 0))), (0, wm W)] (by kernel_rfl) ?_
        refine VO.k14 0 1 2 3 4 5 6 16 27 28 42 43 44 45 ?_
        refine VC.ret ?_
        refine ⟨_, _, res_run (rs := [.tmp 2, .tmp 3]) rfl (.tmp rfl (.tmp rfl .nil)), fun W_ hI => out_of (l := [q29_n0]) hI [130] rfl rfl (mle_refl _) (fun hS_ => ?_)⟩
        dsimp only [packV]
        have he0 : ((lEncode d0).1 : Ty.Den (.sl .byte)) = b := by first | rfl | (first | (rw [lEncode_bad (by assumption)]; done) | (rw [lEncode_hello (Decidable.not_not.1 ‹¬ ¬ lCheck d0 = 0›) (by assumption), hb, List.take_of_length_le (by omega)]; done) | (rw [lEncode_ship (Decidable.not_not.1 ‹¬ ¬ lCheck d0 = 0›) (by assumption) (by assumption), hb, List.take_of_length_le (by omega)]; done) | (rw [lEncode_ack (Decidable.not_not.1 ‹¬ ¬ lCheck d0 = 0›) (by omega) (by omega)]; simp [putAll]; done))
        refine ⟨Value.slice q29_A0 (b.length) (q29_c0), ?_, ?_⟩
        rotate_left
        · rw [he0]; exact (Ow.up (OwnL.ow (Ow.ownl q29_0 rfl mnil) rfl) (hS_.1 _ (.head _)))
        all_goals (first | rfl | (first | (rw [lEncode_bad (by assumption)] <;> rfl) | (rw [lEncode_hello (Decidable.not_not.1 ‹¬ ¬ lCheck d0 = 0›) (by assumption)] <;> rfl) | (rw [lEncode_ship (Decidable.not_not.1 ‹¬ ¬ lCheck d0 = 0›) (by assumption) (by assumption)] <;> rfl) | (rw [lEncode_ack (Decidable.not_not.1 ‹¬ ¬ lCheck d0 = 0›) (by omega) (by omega)] <;> rfl)))
    · -- FF
      refine VC.rs ?_
      refine VO.y rfl (.eql rfl rfl) ?_
      refine VO.as ?_
      refine VO.keep [112, 102, 0] [(112, m10), (102, mone g1 (.cells [Value.int .i64 (d0.1), Value.int .i64 (d0.2.1), Value.int .u8 (d0.2.2.1), Value.int .i64 (d0.2.2.2.1), Value.slice p0_A4 (d0.2.2.2.2.1.length) (p0_c4), Value.int .i64 (d0.2.2.2.2.2.1), Value.int .i64 (d0.2.2.2.2.2.2.1), Value.slice p0_A7 (d0.2.2.2.2.2.2.2.length) (p0_c7)].toArray 72 (0, 0))), (0, wm W)] (by kernel_rfl) ?_
      refine VO.k11 0 1 2 3 4 5 6 16 27 28 56 ?_
      refine VC.cond rfl (fun hc32 => ?_) (fun hc32 => ?_)
      · -- FFT
        refine VC.rs ?_
        refine VO.mv ?_
        refine VO.y rfl (.fa rfl tst72 rfl) ?_
        refine VO.y rfl (.ld1 102 rfl tk3 rfl (cellsAt_one rfl rfl)) ?_
        refine VO.y rfl (.fa rfl tst72 rfl) ?_
        refine VO.y rfl (.ld1 102 rfl tk3 rfl (cellsAt_one rfl rfl)) ?_
        refine VO.y rfl (.fa rfl tst72 rfl) ?_
        refine VO.y rfl (.ld1 102 rfl tk61 rfl (cellsAt_one rfl rfl)) ?_
        refine VO.y rfl (.lenS rfl tsl61) ?_
        refine VO.bsl (cs := [Value.int .i64 (d0.2.2.2.2.2.1), Value.int .i64 (d0.2.2.2.2.2.2.1), Value.int .i64 (((d0.2.2.2.2.2.2.2.length : Nat) : Int))]) 134 rfl rfl tsl96 tz3 rfl rfl (fun g33 => ?_)
        have ho36 : OwnL (.int .i64) (mone g33 (.cells [Value.int .i64 (d0.2.2.2.2.2.1), Value.int .i64 (d0.2.2.2.2.2.2.1), Value.int .i64 (((d0.2.2.2.2.2.2.2.length : Nat) : Int))].toArray 3 (0, 0))) mnil (Value.slice (some ⟨g33, 0, none⟩) (3) (3)) [d0.2.2.2.2.2.1, d0.2.2.2.2.2.2.1, ((d0.2.2.2.2.2.2.2.length : Nat) : Int)] := OwnL.lit 3 (All2c.cons (c1 := [Value.int .i64 (d0.2.2.2.2.2.1)]) (show Rd (.int .i64) _ [_] _ from ⟨rfl, by simp only [inK]; (exact fin0_lEncode_ok)⟩) (All2c.cons (c1 := [Value.int .i64 (d0.2.2.2.2.2.2.1)]) (show Rd (.int .i64) _ [_] _ from ⟨rfl, by simp only [inK]; (exact fin0_lEncode_ok)⟩) (All2c.cons (c1 := [Value.int .i64 (((d0.2.2.2.2.2.2.2.length : Nat) : Int))]) (show Rd (.int .i64) _ [_] _ from ⟨rfl, by simp only [inK]; (exact fin0_lEncode_ok)⟩) All2c.nil))) rfl rfl
        refine VO.callV 112 rfl rfl fnOk128 rfl rfl (fun W hW => lput_ok W (hW.at (i := 112) rfl) (OwnL.rd ho36 (hW.out (i := 112) (j := 134) rfl rfl) (mle_nil _)) w10_1 (by exact fin1_lEncode_ok) (by exact fin0_lEncode_ok)) (fun v35 m35 hv35 => ?_)
        obtain ⟨rfl, w35_1⟩ := hv35
        have hfa37 := (putAll_len (l := ([d0.2.2.2.2.2.1, d0.2.2.2.2.2.2.1, ((d0.2.2.2.2.2.2.2.length : Nat) : Int)])) (by intro x_ hx_; simp only [List.mem_cons, List.not_mem_nil, or_false] at hx_; omega))
        refine VO.k11 0 1 2 3 4 5 6 16 27 28 56 ?_
        refine VC.rs ?_
        refine VO.y rfl (.fa rfl tst72 rfl) ?_
        refine VO.y rfl (.ld1 102 rfl tk61 rfl (cellsAt_one rfl rfl)) ?_
        refine VO.y rfl (.lenS rfl tsl61) ?_
        refine VO.mv ?_
        refine VO.k14 0 1 2 3 4 5 6 16 27 28 56 69 70 71 ?_
        refine VC.block ?_
        refine VC.loop (G := Nat × DBuf × Mem) (fun g => [(71, Value.int .i64 ((((g.1) : Nat) : Int))), (0, Value.agg [Value.int .i64 (d0.1), Value.int .i64 (d0.2.1), Value.int .u8 (d0.2.2.1), Value.int .i64 (d0.2.2.2.1), Value.slice p0_A4 (d0.2.2.2.2.1.length) (p0_c4), Value.int .i64 (d0.2.2.2.2.2.1), Value.int .i64 (d0.2.2.2.2.2.2.1), Value.slice p0_A7 (d0.2.2.2.2.2.2.2.length) (p0_c7)].toArray), (1, Value.pointer (some ⟨g1, 0, none⟩)), (2, Value.slice none (0) (0)), (3, Value.int .i64 (0)), (4, Value.int .i64 (lCheck d0)), (5, Value.pointer (some ⟨g6, 0, none⟩)), (6, Value.func (.func 128) #[] #[Value.pointer (some ⟨g6, 0, none⟩)]), (16, Value.bool (decide (¬ (lCheck d0) = 0))), (27, Value.int .i64 (d0.1)), (28, Value.bool (decide (d0.1 = 1))), (56, Value.bool (decide (d0.1 = 2))), (69, Value.slice p0_A7 (d0.2.2.2.2.2.2.2.length) (p0_c7)), (70, Value.int .i64 (((d0.2.2.2.2.2.2.2.length : Nat) : Int)))]) (fun g => [(112, (g.2.2)), (102, mone g1 (.cells [Value.int .i64 (d0.1), Value.int .i64 (d0.2.1), Value.int .u8 (d0.2.2.1), Value.int .i64 (d0.2.2.2.1), Value.slice p0_A4 (d0.2.2.2.2.1.length) (p0_c4), Value.int .i64 (d0.2.2.2.2.2.1), Value.int .i64 (d0.2.2.2.2.2.2.1), Value.slice p0_A7 (d0.2.2.2.2.2.2.2.length) (p0_c7)].toArray 72 (0, 0))), (0, wm W)]) (fun g => ((g.1) ≤ d0.2.2.2.2.2.2.2.length) ∧ ((g.2.1) = lHs d0 ++ csEnc (d0.2.2.2.2.2.2.2.take (g.1))) ∧ (Ow (.ptr TBuf) (g.2.2) [.pointer (some ⟨g6, 0, none⟩)] (g6, (g.2.1)))) (fun g => d0.2.2.2.2.2.2.2.length - (g.1)) (0, ([] ++ putAll ([d0.1, d0.2.1])) ++ putAll ([d0.2.2.2.2.2.1, d0.2.2.2.2.2.2.1, ((d0.2.2.2.2.2.2.2.length : Nat) : Int)]), m35) (⟨by omega, by (simp [putAll, lHs, csEnc]), w35_1⟩) ⟨⟨rfl, rfl, rfl, rfl, rfl, rfl, rfl, rfl, rfl, rfl, rfl, rfl, rfl, rfl, trivial⟩, fun _ h => h.sub [112, 102, 0]⟩ ?_
        rintro ⟨k, b, b_m⟩ ⟨hk, hb, h_b⟩
        replace hk : k ≤ d0.2.2.2.2.2.2.2.length := hk
        replace hb : b = lHs d0 ++ csEnc (d0.2.2.2.2.2.2.2.take k) := hb
        replace h_b : Ow (.ptr TBuf) b_m [.pointer (some ⟨g6, 0, none⟩)] (g6, b) := h_b
        show VC _ _ _ _ _ [(71, Value.int .i64 (((k : Nat) : Int))), (0, Value.agg [Value.int .i64 (d0.1), Value.int .i64 (d0.2.1), Value.int .u8 (d0.2.2.1), Value.int .i64 (d0.2.2.2.1), Value.slice p0_A4 (d0.2.2.2.2.1.length) (p0_c4), Value.int .i64 (d0.2.2.2.2.2.1), Value.int .i64 (d0.2.2.2.2.2.2.1), Value.slice p0_A7 (d0.2.2.2.2.2.2.2.length) (p0_c7)].toArray), (1, Value.pointer (some ⟨g1, 0, none⟩)), (2, Value.slice none (0) (0)), (3, Value.int .i64 (0)), (4, Value.int .i64 (lCheck d0)), (5, Value.pointer (some ⟨g6, 0, none⟩)), (6, Value.func (.func 128) #[] #[Value.pointer (some ⟨g6, 0, none⟩)]), (16, Value.bool (decide (¬ (lCheck d0) = 0))), (27, Value.int .i64 (d0.1)), (28, Value.bool (decide (d0.1 = 1))), (56, Value.bool (decide (d0.1 = 2))), (69, Value.slice p0_A7 (d0.2.2.2.2.2.2.2.length) (p0_c7)), (70, Value.int .i64 (((d0.2.2.2.2.2.2.2.length : Nat) : Int)))] [(112, b_m), (102, mone g1 (.cells [Value.int .i64 (d0.1), Value.int .i64 (d0.2.1), Value.int .u8 (d0.2.2.1), Value.int .i64 (d0.2.2.2.1), Value.slice p0_A4 (d0.2.2.2.2.1.length) (p0_c4), Value.int .i64 (d0.2.2.2.2.2.1), Value.int .i64 (d0.2.2.2.2.2.2.1), Value.slice p0_A7 (d0.2.2.2.2.2.2.2.length) (p0_c7)].toArray 72 (0, 0))), (0, wm W)]
        have hlb := hs_room (Decidable.not_not.1 ‹¬ ¬ lCheck d0 = 0›) (by assumption) hb
        have hln := (lCheck_ship (Decidable.not_not.1 ‹¬ ¬ lCheck d0 = 0›) (by assumption)).2.2.2.1
        refine VC.rs ?_
        refine VO.y rfl (.lss rfl rfl) ?_
        refine VO.keep [112, 102, 0] [(112, b_m), (102, mone g1 (.cells [Value.int .i64 (d0.1), Value.int .i64 (d0.2.1), Value.int .u8 (d0.2.2.1), Value.int .i64 (d0.2.2.2.1), Value.slice p0_A4 (d0.2.2.2.2.1.length) (p0_c4), Value.int .i64 (d0.2.2.2.2.2.1), Value.int .i64 (d0.2.2.2.2.2.2.1), Value.slice p0_A7 (d0.2.2.2.2.2.2.2.length) (p0_c7)].toArray 72 (0, 0))), (0, wm W)] (by kernel_rfl) ?_
        refine VO.k15 0 1 2 3 4 5 6 16 27 28 56 69 70 71 72 ?_
        refine VC.seq ?_
        refine VC.cond rfl (fun hc38 => ?_) (fun hc38 => ?_)
        · -- FFTT
          refine VC.skip ?_
          refine outN ?_
          refine VC.seq ?_
          refine VC.block ?_
          refine VC.rs ?_
          obtain ⟨x39, hx39⟩ : ∃ z_, (d0.2.2.2.2.2.2.2)[k]? = some z_ := ⟨_, List.getElem?_eq_getElem (by exact fin0_lEncode_ok)⟩
          obtain ⟨gg39, oo39, ec39, ea39, hce39, hre39⟩ := p0_7.elem hx39
          cases ea39
          obtain ⟨q39_A2, q39_c2, rfl, q39_0, q39_1, q39_2⟩ := open_Commit (x0 := x39.1) (x1 := x39.2.1) (x2 := x39.2.2) hre39
          simp only [inK] at q39_0
          simp only [inK] at q39_1
          have q39_r2 := Rd.room q39_2
          refine VO.y rfl (.ixI k rfl rfl tsl61 rfl (by exact fin0_lEncode_ok)) ?_
          refine VO.y rfl (.ldA 0 rfl tk52 rfl hce39) ?_
          refine VO.alloc 141 rfl tz52 (fun g40 => ?_)
          refine VO.store (k := 3) (c' := [Value.int .i64 (x39.1), Value.int .i64 (x39.2.1), Value.slice q39_A2 (x39.2.2.length) (q39_c2)]) 141 rfl rfl (.inl tk52) rfl rfl rfl rfl rfl ?_
          refine VO.k16 0 1 2 3 4 5 6 10 16 27 28 56 69 70 71 72 ?_
          refine VC.rs ?_
          refine VO.y rfl (.ldA 141 rfl tk52 rfl (cellsAt_one rfl rfl)) ?_
          refine VO.callN 142 rfl fnOk58 rfl (fun W hW => cEncode_ok_ W (Rd.mono hre39 (hW.at (i := 0) rfl))) (fun v42 m42 hv42 => ?_)
          obtain ⟨s42_0, rfl, f42_0⟩ := hv42
          have hfa43 := cEncode_len x39
          obtain ⟨A42_0, c42_0, eq42_0, l42_0, k42_0⟩ := f42_0.slice
          subst eq42_0
          simp only [maxLen] at k42_0
          refine VO.mv ?_
          refine VO.y rfl (.ext rfl rfl) ?_
          refine VO.y rfl (.ext rfl rfl) ?_
          refine VO.as ?_
          refine VO.as ?_
          refine VO.k17 0 1 2 3 4 5 6 10 11 16 27 28 56 69 70 71 72 ?_
          refine VC.rs ?_
          refine VO.mv ?_
          refine VO.mv ?_
          refine VO.y rfl (.lenS rfl tsl23) ?_
          refine VO.bsl (cs := [Value.int .i64 (((((cEncode x39).1).length : Nat) : Int))]) 145 rfl rfl tsl96 tz3 rfl rfl (fun g44 => ?_)
          have ho47 : OwnL (.int .i64) (mone g44 (.cells [Value.int .i64 (((((cEncode x39).1).length : Nat) : Int))].toArray 3 (0, 0))) mnil (Value.slice (some ⟨g44, 0, none⟩) (1) (1)) [((((cEncode x39).1).length : Nat) : Int)] := OwnL.lit 1 (All2c.cons (c1 := [Value.int .i64 (((((cEncode x39).1).length : Nat) : Int))]) (show Rd (.int .i64) _ [_] _ from ⟨rfl, by simp only [inK]; (exact fin0_lEncode_ok)⟩) All2c.nil) rfl rfl
          refine VO.callV 112 rfl rfl fnOk128 rfl rfl (fun W hW => lput_ok W (hW.at (i := 112) rfl) (OwnL.rd ho47 (hW.out (i := 112) (j := 145) rfl rfl) (mle_nil _)) h_b (by exact fin1_lEncode_ok) (by exact fin0_lEncode_ok)) (fun v46 m46 hv46 => ?_)
          obtain ⟨rfl, w46_1⟩ := hv46
          have hfa48 := (putAll_len (l := ([((((cEncode x39).1).length : Nat) : Int)])) (by intro x_ hx_; simp only [List.mem_cons, List.not_mem_nil, or_false] at hx_; omega))
          refine VO.keep [112, 142, 141, 102, 0] [(112, m46), (142, m42), (141, mone g40 (.cells [Value.int .i64 (x39.1), Value.int .i64 (x39.2.1), Value.slice q39_A2 (x39.2.2.length) (q39_c2)].toArray 52 (0, 0))), (102, mone g1 (.cells [Value.int .i64 (d0.1), Value.int .i64 (d0.2.1), Value.int .u8 (d0.2.2.1), Value.int .i64 (d0.2.2.2.1), Value.slice p0_A4 (d0.2.2.2.2.1.length) (p0_c4), Value.int .i64 (d0.2.2.2.2.2.1), Value.int .i64 (d0.2.2.2.2.2.2.1), Value.slice (some ⟨gg39, oo39, none⟩) (d0.2.2.2.2.2.2.2.length) (p0_c7)].toArray 72 (0, 0))), (0, wm W)] (by kernel_rfl) ?_
          refine VO.k17 0 1 2 3 4 5 6 10 11 16 27 28 56 69 70 71 72 ?_
          refine VC.reg ?_
          obtain ⟨q49_E, q49_A0, q49_c0, q49_n0, _, q49_S, q49_0⟩ := openP_Buf (x0 := b ++ putAll ([((((cEncode x39).1).length : Nat) : Int)])) w46_1
          have q49_r0 := Rd.room (q49_0.rd (mle_refl _))
          refine VO.inv _ (fun _ h => h.parts (i := 112) rfl q49_S [151, 150]) ?_
          refine VO.y rfl (.ld1 151 rfl tk23 rfl (cellsAt_one rfl rfl)) ?_
          refine VO.mv ?_
          obtain ⟨mo52, cs52, hM52, hA52, hC52⟩ := (Ow.ownl q49_0 rfl mnil)
          obtain ⟨all52, hS52, hR52⟩ := Rd.srcI (P := Try.prog) ((OwnL.rd (Ow.ownl f42_0 rfl mnil) (mle_refl _) (mle_nil _))) Try.underlying23
          refine VO.app 150 rfl rfl rfl tsl23 tz5 rfl rfl hM52 hA52 (hS52 _ 142 rfl) hR52.nice (by simp only [maxLen]; (exact fin0_lEncode_ok)) (by exact fin0_lEncode_ok) (by decide) (fun v52 m52 hN52 => ?_)
          have ho52 : OwnL .byte m52 mnil v52 ((b ++ putAll ([((((cEncode x39).1).length : Nat) : Int)])) ++ ((cEncode x39).1)) := OwnL.more hC52 hN52 (All2c.mono hR52 fun _ _ h => Rd.flat rfl h _)
          obtain ⟨A52, c52, rfl, l52, k52⟩ := ho52.slice
          simp only [maxLen] at k52
          refine VO.store (k := 1) (c' := [Value.slice A52 (((b ++ putAll ([((((cEncode x39).1).length : Nat) : Int)])) ++ ((cEncode x39).1)).length) (c52)]) 151 rfl rfl (.inr ⟨tk23, rfl⟩) rfl rfl rfl rfl rfl ?_
          refine VO.gather (l := [mone g6 (.cells [Value.slice A52 (((b ++ putAll ([((((cEncode x39).1).length : Nat) : Int)])) ++ ((cEncode x39).1)).length) (c52)].toArray q49_E (0, 0)), m52]) 153 [151, 150] rfl (fun hg53 => ?_)
          have ho53 : Ow (.ptr TBuf) (muns [mone g6 (.cells [Value.slice A52 (((b ++ putAll ([((((cEncode x39).1).length : Nat) : Int)])) ++ ((cEncode x39).1)).length) (c52)].toArray q49_E (0, 0)), m52]) [.pointer (some ⟨g6, 0, none⟩)] (g6, (b ++ putAll ([((((cEncode x39).1).length : Nat) : Int)])) ++ ((cEncode x39).1)) := (mkP_Buf ((b ++ putAll ([((((cEncode x39).1).length : Nat) : Int)])) ++ ((cEncode x39).1)) hg53 (OwnL.ow ho52 rfl))
          refine VO.k17 0 1 2 3 4 5 6 10 11 16 27 28 56 69 70 71 72 ?_
          refine outBN ?_
          refine outN ?_
          refine VC.reg ?_
          refine VO.y rfl (.add (c := ((k + 1 : Nat) : Int)) rfl rfl (by omega) ⟨by exact fin0_lEncode_ok, by exact fin0_lEncode_ok⟩) ?_
          refine VO.mv ?_
          refine VO.k17 0 1 2 3 4 5 6 10 11 16 27 28 56 69 70 71 72 ?_
          exact outN ⟨⟨k + 1, (b ++ putAll ([((((cEncode x39).1).length : Nat) : Int)])) ++ ((cEncode x39).1), muns [mone g6 (.cells [Value.slice A52 (((b ++ putAll ([((((cEncode x39).1).length : Nat) : Int)])) ++ ((cEncode x39).1)).length) (c52)].toArray q49_E (0, 0)), m52]⟩, ⟨by omega, by (rw [hb, take_one ‹d0.2.2.2.2.2.2.2[k]? = some _›, csEnc_app]; simp [putAll, csEnc, cEncode_is (comm_of (Decidable.not_not.1 ‹¬ ¬ lCheck d0 = 0›) (by assumption) ‹d0.2.2.2.2.2.2.2[k]? = some _›)]), ho53⟩, by exact fin0_lEncode_ok, ⟨⟨rfl, rfl, rfl, rfl, rfl, rfl, rfl, rfl, rfl, rfl, rfl, rfl, rfl, rfl, trivial⟩, fun _ h => Inv.sub (Inv.num h 153 112 rfl) [112, 102, 0]⟩⟩
        · -- FFTF
          refine VC.exit ?_
          refine outE ?_
          refine outE ?_
          refine outBB ?_
          refine outBN ?_
          refine outN ?_
          refine VC.rs ?_
          obtain ⟨q54_E, q54_A0, q54_c0, q54_n0, _, q54_S, q54_0⟩ := openP_Buf (x0 := b) h_b
          have q54_r0 := Rd.room (q54_0.rd (mle_refl _))
          refine VO.inv _ (fun _ h => h.parts (i := 112) rfl q54_S [156, 155]) ?_
          refine VO.y rfl (.ld1 156 rfl tk23 rfl (cellsAt_one rfl rfl)) ?_
          refine VO.as ?_
          refine VO.as ?_
          refine VO.k15 0 1 2 3 4 5 6 16 27 28 56 69 70 71 72 ?_
          refine VC.ret ?_
          refine ⟨_, _, res_run (rs := [.tmp 2, .tmp 3]) rfl (.tmp rfl (.tmp rfl .nil)), fun W_ hI => out_of (l := [q54_n0]) hI [155] rfl rfl (mle_refl _) (fun hS_ => ?_)⟩
          dsimp only [packV]
          have he0 : ((lEncode d0).1 : Ty.Den (.sl .byte)) = b := by first | rfl | (first | (rw [lEncode_bad (by assumption)]; done) | (rw [lEncode_hello (Decidable.not_not.1 ‹¬ ¬ lCheck d0 = 0›) (by assumption), hb, List.take_of_length_le (by omega)]; done) | (rw [lEncode_ship (Decidable.not_not.1 ‹¬ ¬ lCheck d0 = 0›) (by assumption) (by assumption), hb, List.take_of_length_le (by omega)]; done) | (rw [lEncode_ack (Decidable.not_not.1 ‹¬ ¬ lCheck d0 = 0›) (by omega) (by omega)]; simp [putAll]; done))
          refine ⟨Value.slice q54_A0 (b.length) (q54_c0), ?_, ?_⟩
          rotate_left
          · rw [he0]; exact (Ow.up (OwnL.ow (Ow.ownl q54_0 rfl mnil) rfl) (hS_.1 _ (.head _)))
          all_goals (first | rfl | (first | (rw [lEncode_bad (by assumption)] <;> rfl) | (rw [lEncode_hello (Decidable.not_not.1 ‹¬ ¬ lCheck d0 = 0›) (by assumption)] <;> rfl) | (rw [lEncode_ship (Decidable.not_not.1 ‹¬ ¬ lCheck d0 = 0›) (by assumption) (by assumption)] <;> rfl) | (rw [lEncode_ack (Decidable.not_not.1 ‹¬ ¬ lCheck d0 = 0›) (by omega) (by omega)] <;> rfl)))
      · -- FFF
        refine VC.rs ?_
        refine VO.y rfl (.eql rfl rfl) ?_
        refine VO.as ?_
        refine VO.k12 0 1 2 3 4 5 6 16 27 28 56 89 ?_
        refine VC.cond rfl (fun hc57 => ?_) (fun hc57 => ?_)
        · -- FFFT
          refine VC.reg ?_
          refine VO.mv ?_
          refine VO.y rfl (.fa rfl tst72 rfl) ?_
          refine VO.y rfl (.ld1 102 rfl tk3 rfl (cellsAt_one rfl rfl)) ?_
          refine VO.bsl (cs := [Value.int .i64 (d0.2.2.2.1)]) 159 rfl rfl tsl96 tz3 rfl rfl (fun g58 => ?_)
          have ho61 : OwnL (.int .i64) (mone g58 (.cells [Value.int .i64 (d0.2.2.2.1)].toArray 3 (0, 0))) mnil (Value.slice (some ⟨g58, 0, none⟩) (1) (1)) [d0.2.2.2.1] := OwnL.lit 1 (All2c.cons (c1 := [Value.int .i64 (d0.2.2.2.1)]) (show Rd (.int .i64) _ [_] _ from ⟨rfl, by simp only [inK]; (exact fin0_lEncode_ok)⟩) All2c.nil) rfl rfl
          refine VO.callV 112 rfl rfl fnOk128 rfl rfl (fun W hW => lput_ok W (hW.at (i := 112) rfl) (OwnL.rd ho61 (hW.out (i := 112) (j := 159) rfl rfl) (mle_nil _)) w10_1 (by exact fin1_lEncode_ok) (by exact fin0_lEncode_ok)) (fun v60 m60 hv60 => ?_)
          obtain ⟨rfl, w60_1⟩ := hv60
          have hfa62 := (putAll_len (l := ([d0.2.2.2.1])) (by intro x_ hx_; simp only [List.mem_cons, List.not_mem_nil, or_false] at hx_; omega))
          refine VO.k12 0 1 2 3 4 5 6 16 27 28 56 89 ?_
          refine outBN ?_
          refine outN ?_
          refine VC.rs ?_
          obtain ⟨q63_E, q63_A0, q63_c0, q63_n0, _, q63_S, q63_0⟩ := openP_Buf (x0 := ([] ++ putAll ([d0.1, d0.2.1])) ++ putAll ([d0.2.2.2.1])) w60_1
          have q63_r0 := Rd.room (q63_0.rd (mle_refl _))
          refine VO.inv _ (fun _ h => h.parts (i := 112) rfl q63_S [165, 164]) ?_
          refine VO.y rfl (.ld1 165 rfl tk23 rfl (cellsAt_one rfl rfl)) ?_
          refine VO.as ?_
          refine VO.as ?_
          refine VO.keep [165, 164, 102, 0] [(165, mone g6 (.cells [Value.slice q63_A0 ((([] ++ putAll ([d0.1, d0.2.1])) ++ putAll ([d0.2.2.2.1])).length) (q63_c0)].toArray q63_E (0, 0))), (164, q63_n0), (102, mone g1 (.cells [Value.int .i64 (d0.1), Value.int .i64 (d0.2.1), Value.int .u8 (d0.2.2.1), Value.int .i64 (d0.2.2.2.1), Value.slice p0_A4 (d0.2.2.2.2.1.length) (p0_c4), Value.int .i64 (d0.2.2.2.2.2.1), Value.int .i64 (d0.2.2.2.2.2.2.1), Value.slice p0_A7 (d0.2.2.2.2.2.2.2.length) (p0_c7)].toArray 72 (0, 0))), (0, wm W)] (by kernel_rfl) ?_
          refine VO.k12 0 1 2 3 4 5 6 16 27 28 56 89 ?_
          refine VC.ret ?_
          refine ⟨_, _, res_run (rs := [.tmp 2, .tmp 3]) rfl (.tmp rfl (.tmp rfl .nil)), fun W_ hI => out_of (l := [q63_n0]) hI [164] rfl rfl (mle_refl _) (fun hS_ => ?_)⟩
          dsimp only [packV]
          have he0 : ((lEncode d0).1 : Ty.Den (.sl .byte)) = ([] ++ putAll ([d0.1, d0.2.1])) ++ putAll ([d0.2.2.2.1]) := by first | rfl | (first | (rw [lEncode_bad (by assumption)]; done) | (rw [lEncode_hello (Decidable.not_not.1 ‹¬ ¬ lCheck d0 = 0›) (by assumption), hb, List.take_of_length_le (by omega)]; done) | (rw [lEncode_ship (Decidable.not_not.1 ‹¬ ¬ lCheck d0 = 0›) (by assumption) (by assumption), hb, List.take_of_length_le (by omega)]; done) | (rw [lEncode_ack (Decidable.not_not.1 ‹¬ ¬ lCheck d0 = 0›) (by omega) (by omega)]; simp [putAll]; done))
          refine ⟨Value.slice q63_A0 ((([] ++ putAll ([d0.1, d0.2.1])) ++ putAll ([d0.2.2.2.1])).length) (q63_c0), ?_, ?_⟩
          rotate_left
          · rw [he0]; exact (Ow.up (OwnL.ow (Ow.ownl q63_0 rfl mnil) rfl) (hS_.1 _ (.head _)))
          all_goals (first | rfl | (first | (rw [lEncode_bad (by assumption)] <;> rfl) | (rw [lEncode_hello (Decidable.not_not.1 ‹¬ ¬ lCheck d0 = 0›) (by assumption)] <;> rfl) | (rw [lEncode_ship (Decidable.not_not.1 ‹¬ ¬ lCheck d0 = 0›) (by assumption) (by assumption)] <;> rfl) | (rw [lEncode_ack (Decidable.not_not.1 ‹¬ ¬ lCheck d0 = 0›) (by omega) (by omega)] <;> rfl)))
        · -- FFFF
          have n_ := lc_nums (Decidable.not_not.1 ‹¬ ¬ lCheck d0 = 0›); omega
theorem eqStarts_ok (W : World) {v0 : Value} {d0 : List DStart} (h0 : Rd (.sl TStart) (wm W) [v0] d0) {v1 : Value} {d1 : List DStart} (h1 : Rd (.sl TStart) (wm W) [v1] d1) : CallR Try.prog 131 [v0, v1] W (mnil) (fun v m' => v = .bool (decide (d0 = d1))) := by
  obtain ⟨A0, c0, rfl, l0, k0⟩ := h0.slice
  simp only [maxLen] at k0
  obtain ⟨A1, c1, rfl, l1, k1⟩ := h1.slice
  simp only [maxLen] at k1
  refine CallR.ofA (n := 26) Try.func131 rfl rfl rfl ?_
  refine VC.rs ?_
  refine VO.as ?_
  refine VO.k3 0 1 4 ?_
  refine VC.seq ?_
  refine VC.rs ?_
  refine VO.mv ?_
  refine VO.y rfl (.lenS rfl tsl70) ?_
  refine VO.mv ?_
  refine VO.y rfl (.lenS rfl tsl70) ?_
  refine VO.y rfl (.neq rfl rfl) ?_
  refine VO.k4 0 1 4 10 ?_
  refine VC.cond rfl (fun hc1 => ?_) (fun hc1 => ?_)
  · -- T
    refine VC.rs ?_
    refine VO.as ?_
    refine VO.keep [0] [(0, wm W)] (by kernel_rfl) ?_
    refine VO.k4 0 1 4 10 ?_
    refine VC.ret ?_
    refine outR ?_
    refine ⟨_, _, res_run (rs := [.tmp 4]) rfl (.tmp rfl .nil), fun W_ hI => out_of (l := []) hI [] rfl rfl (mle_refl _) (fun hS_ => ?_)⟩
    dsimp only [packV]
    all_goals (first | rfl | (simp [len_ne hc1]))
  · -- F
    refine VC.skip ?_
    refine outN ?_
    refine VC.seq ?_
    refine VC.rs ?_
    refine VO.mv ?_
    refine VO.y rfl (.lenS rfl tsl70) ?_
    refine VO.mv ?_
    refine VO.keep [0] [(0, wm W)] (by kernel_rfl) ?_
    refine VO.k6 0 1 4 10 12 13 ?_
    refine VC.block ?_
    refine VC.loop (G := Nat) (fun k => [(13, Value.int .i64 (((k : Nat) : Int))), (0, Value.slice A0 (d0.length) (c0)), (1, Value.slice A1 (d1.length) (c1)), (10, Value.bool (decide (¬ ((d0.length : Nat) : Int) = ((d1.length : Nat) : Int)))), (12, Value.int .i64 (((d0.length : Nat) : Int)))]) (fun k => [(0, wm W)]) (fun k => (k ≤ d0.length) ∧ (d0.take k = d1.take k)) (fun k => d0.length - k) 0 (⟨by omega, by rfl⟩) ⟨⟨rfl, rfl, rfl, rfl, rfl, trivial⟩, fun _ h => h.sub [0]⟩ ?_
    rintro k ⟨hk, ht⟩
    refine VC.rs ?_
    refine VO.y rfl (.lss rfl rfl) ?_
    refine VO.k6 0 1 10 12 13 14 ?_
    refine VC.seq ?_
    refine VC.cond rfl (fun hc2 => ?_) (fun hc2 => ?_)
    · -- FT
      refine VC.skip ?_
      refine outN ?_
      refine VC.seq ?_
      refine VC.block ?_
      refine VC.rs ?_
      refine VO.mv ?_
      refine VO.as ?_
      refine VO.k7 0 1 5 10 12 13 14 ?_
      refine VC.seq ?_
      refine VC.regD _ 8 [(0, true), (1, true), (2, true), (3, true), (4, true), (5, true), (6, true), (7, true)] follows (by kernel_rfl) (fun _ h => h.sub [0]) ?_
      refine VD.y rfl rfl (.inl rfl) (.mv rfl) ?_
      refine VD.y rfl rfl (.inl rfl) (.mv rfl) ?_
      obtain ⟨x3, hx3⟩ : ∃ z_, (d0)[k]? = some z_ := ⟨_, List.getElem?_eq_getElem bd⟩
      obtain ⟨gg3, oo3, ec3, ea3, hce3, hre3⟩ := h0.elem hx3
      cases ea3
      obtain ⟨rfl, q3_0, q3_1⟩ := open_Start (x0 := x3.1) (x1 := x3.2) hre3
      simp only [inK] at q3_0
      simp only [inK] at q3_1
      refine VD.y rfl rfl (.inl rfl) (.ixI k rfl rfl tsl70 rfl bd) ?_
      refine VD.y rfl rfl (.inl rfl) (.ldA 0 rfl tk90 rfl hce3) ?_
      refine VD.y rfl rfl (.inl rfl) (.mv rfl) ?_
      refine VD.y rfl rfl (.inl rfl) (.mv rfl) ?_
      obtain ⟨x4, hx4⟩ : ∃ z_, (d1)[k]? = some z_ := ⟨_, List.getElem?_eq_getElem bd⟩
      obtain ⟨gg4, oo4, ec4, ea4, hce4, hre4⟩ := h1.elem hx4
      cases ea4
      obtain ⟨rfl, q4_0, q4_1⟩ := open_Start (x0 := x4.1) (x1 := x4.2) hre4
      simp only [inK] at q4_0
      simp only [inK] at q4_1
      refine VD.y rfl rfl (.inl rfl) (.ixI k rfl rfl tsl70 rfl bd) ?_
      refine VD.y rfl rfl (.inl rfl) (.ldA 0 rfl tk90 rfl hce4) ?_
      refine VD.nil rfl ?_ rfl
      refine VO.y rfl (.stneq (p := x3.1 = x4.1 ∧ x3.2 = x4.2) rfl rfl (teq90 x3.1 x3.2) (teq90 x4.1 x4.2) (by simp [ceq, ba_toList])) ?_
      refine VO.keep [0] [(0, wm W)] (by kernel_rfl) ?_
      refine VO.k8 0 1 5 10 12 13 14 24 ?_
      refine outN ?_
      refine VC.cond rfl (fun hc5 => ?_) (fun hc5 => ?_)
      · -- FTT
        refine VC.rs ?_
        refine VO.as ?_
        refine VO.k9 0 1 4 5 10 12 13 14 24 ?_
        refine VC.ret ?_
        refine outBR ?_
        refine outR ?_
        refine outR ?_
        refine outBR ?_
        refine outR ?_
        refine ⟨_, _, res_run (rs := [.tmp 4]) rfl (.tmp rfl .nil), fun W_ hI => out_of (l := []) hI [] rfl rfl (mle_refl _) (fun hS_ => ?_)⟩
        dsimp only [packV]
        all_goals (first | rfl | (simp [get_ne ‹d0[k]? = some _› ‹d1[k]? = some _› (start_ne ‹_›)]))
      · -- FTF
        refine VC.skip ?_
        refine outBN ?_
        refine outN ?_
        refine VC.reg ?_
        refine VO.y rfl (.add (c := ((k + 1 : Nat) : Int)) rfl rfl (by omega) ⟨bd, bd⟩) ?_
        refine VO.mv ?_
        refine VO.k8 0 1 5 10 12 13 14 24 ?_
        exact outN ⟨k + 1, ⟨by omega, by exact take_next ht ‹d0[k]? = some _› ‹d1[k]? = some _› (start_eq (by simpa using ‹¬ ¬ _›))⟩, bd, ⟨⟨rfl, rfl, rfl, rfl, rfl, trivial⟩, fun _ h => Inv.sub h [0]⟩⟩
    · -- FF
      refine VC.exit ?_
      refine outE ?_
      refine outE ?_
      refine outBB ?_
      refine outN ?_
      refine VC.rs ?_
      refine VO.as ?_
      refine VO.k7 0 1 4 10 12 13 14 ?_
      refine VC.ret ?_
      refine ⟨_, _, res_run (rs := [.tmp 4]) rfl (.tmp rfl .nil), fun W_ hI => out_of (l := []) hI [] rfl rfl (mle_refl _) (fun hS_ => ?_)⟩
      dsimp only [packV]
      all_goals (first | rfl | (simp [take_all ht (by omega) (by omega)]))
theorem eqComms_ok (W : World) {v0 : Value} {d0 : List DCommit} (h0 : Rd (.sl TCommit) (wm W) [v0] d0) {v1 : Value} {d1 : List DCommit} (h1 : Rd (.sl TCommit) (wm W) [v1] d1) : CallR Try.prog 132 [v0, v1, .func (.func 62) #[] #[]] W (mnil) (fun v m' => v = .bool (decide (d0 = d1))) := by
  obtain ⟨A0, c0, rfl, l0, k0⟩ := h0.slice
  simp only [maxLen] at k0
  obtain ⟨A1, c1, rfl, l1, k1⟩ := h1.slice
  simp only [maxLen] at k1
  refine CallR.ofA (n := 32) Try.func132 rfl rfl rfl ?_
  refine VC.rs ?_
  refine VO.as ?_
  refine VO.k4 0 1 2 6 ?_
  refine VC.seq ?_
  refine VC.rs ?_
  refine VO.mv ?_
  refine VO.y rfl (.lenS rfl tsl61) ?_
  refine VO.mv ?_
  refine VO.y rfl (.lenS rfl tsl61) ?_
  refine VO.y rfl (.neq rfl rfl) ?_
  refine VO.k5 0 1 2 6 14 ?_
  refine VC.cond rfl (fun hc1 => ?_) (fun hc1 => ?_)
  · -- T
    refine VC.rs ?_
    refine VO.as ?_
    refine VO.keep [0] [(0, wm W)] (by kernel_rfl) ?_
    refine VO.k5 0 1 2 6 14 ?_
    refine VC.ret ?_
    refine outR ?_
    refine ⟨_, _, res_run (rs := [.tmp 6]) rfl (.tmp rfl .nil), fun W_ hI => out_of (l := []) hI [] rfl rfl (mle_refl _) (fun hS_ => ?_)⟩
    dsimp only [packV]
    all_goals (first | rfl | (simp [len_ne hc1]))
  · -- F
    refine VC.skip ?_
    refine outN ?_
    refine VC.seq ?_
    refine VC.rs ?_
    refine VO.mv ?_
    refine VO.y rfl (.lenS rfl tsl61) ?_
    refine VO.mv ?_
    refine VO.keep [0] [(0, wm W)] (by kernel_rfl) ?_
    refine VO.k8 0 1 2 6 14 15 16 17 ?_
    refine VC.block ?_
    refine VC.loop (G := Nat) (fun k => [(17, Value.int .i64 (((k : Nat) : Int))), (0, Value.slice A0 (d0.length) (c0)), (1, Value.slice A1 (d1.length) (c1)), (2, Value.func (.func 62) #[] #[]), (14, Value.bool (decide (¬ ((d0.length : Nat) : Int) = ((d1.length : Nat) : Int)))), (15, Value.slice A0 (d0.length) (c0)), (16, Value.int .i64 (((d0.length : Nat) : Int)))]) (fun k => [(0, wm W)]) (fun k => (k ≤ d0.length) ∧ (d0.take k = d1.take k)) (fun k => d0.length - k) 0 (⟨by omega, by rfl⟩) ⟨⟨rfl, rfl, rfl, rfl, rfl, rfl, rfl, trivial⟩, fun _ h => h.sub [0]⟩ ?_
    rintro k ⟨hk, ht⟩
    refine VC.rs ?_
    refine VO.y rfl (.lss rfl rfl) ?_
    refine VO.k8 0 1 2 14 15 16 17 18 ?_
    refine VC.seq ?_
    refine VC.cond rfl (fun hc2 => ?_) (fun hc2 => ?_)
    · -- FT
      refine VC.skip ?_
      refine outN ?_
      refine VC.seq ?_
      refine VC.block ?_
      refine VC.rs ?_
      refine VO.mv ?_
      obtain ⟨x3, hx3⟩ : ∃ z_, (d0)[k]? = some z_ := ⟨_, List.getElem?_eq_getElem bd⟩
      obtain ⟨gg3, oo3, ec3, ea3, hce3, hre3⟩ := h0.elem hx3
      cases ea3
      obtain ⟨q3_A2, q3_c2, rfl, q3_0, q3_1, q3_2⟩ := open_Commit (x0 := x3.1) (x1 := x3.2.1) (x2 := x3.2.2) hre3
      simp only [inK] at q3_0
      simp only [inK] at q3_1
      have q3_r2 := Rd.room q3_2
      refine VO.y rfl (.ixI k rfl rfl tsl61 rfl bd) ?_
      refine VO.y rfl (.ldA 0 rfl tk52 rfl hce3) ?_
      refine VO.alloc 105 rfl tz52 (fun g4 => ?_)
      refine VO.as ?_
      refine VO.store (k := 3) (c' := [Value.int .i64 (x3.1), Value.int .i64 (x3.2.1), Value.slice q3_A2 (x3.2.2.length) (q3_c2)]) 105 rfl rfl (.inl tk52) rfl rfl rfl rfl rfl ?_
      refine VO.k10 0 1 2 7 8 14 15 16 17 18 ?_
      refine VC.rs ?_
      refine VO.mv ?_
      refine VO.mv ?_
      obtain ⟨x6, hx6⟩ : ∃ z_, (d1)[k]? = some z_ := ⟨_, List.getElem?_eq_getElem bd⟩
      obtain ⟨gg6, oo6, ec6, ea6, hce6, hre6⟩ := h1.elem hx6
      cases ea6
      obtain ⟨q6_A2, q6_c2, rfl, q6_0, q6_1, q6_2⟩ := open_Commit (x0 := x6.1) (x1 := x6.2.1) (x2 := x6.2.2) hre6
      simp only [inK] at q6_0
      simp only [inK] at q6_1
      have q6_r2 := Rd.room q6_2
      refine VO.y rfl (.ixI k rfl rfl tsl61 rfl bd) ?_
      refine VO.y rfl (.ldA 0 rfl tk52 rfl hce6) ?_
      refine VO.alloc 108 rfl tz52 (fun g7 => ?_)
      refine VO.store (k := 3) (c' := [Value.int .i64 (x6.1), Value.int .i64 (x6.2.1), Value.slice q6_A2 (x6.2.2.length) (q6_c2)]) 108 rfl rfl (.inl tk52) rfl rfl rfl rfl rfl ?_
      refine VO.keep [108, 105, 0] [(108, mone g7 (.cells [Value.int .i64 (x6.1), Value.int .i64 (x6.2.1), Value.slice q6_A2 (x6.2.2.length) (q6_c2)].toArray 52 (0, 0))), (105, mone g4 (.cells [Value.int .i64 (x3.1), Value.int .i64 (x3.2.1), Value.slice q3_A2 (x3.2.2.length) (q3_c2)].toArray 52 (0, 0))), (0, wm W)] (by kernel_rfl) ?_
      refine VO.k11 0 1 2 7 8 9 14 15 16 17 18 ?_
      refine VC.rs ?_
      refine VO.mv ?_
      refine VO.y rfl (.ldA 105 rfl tk52 rfl (cellsAt_one rfl rfl)) ?_
      refine VO.y rfl (.ldA 108 rfl tk52 rfl (cellsAt_one rfl rfl)) ?_
      refine VO.callVN 109 rfl rfl fnOk62 rfl (fun W hW => cSame_ok W (Rd.mono hre3 (hW.at (i := 0) rfl)) (Rd.mono hre6 (hW.at (i := 0) rfl))) (fun v9 m9 hv9 => ?_)
      subst hv9
      refine VO.y rfl (.notD rfl) ?_
      refine VO.k12 0 1 2 7 8 9 14 15 16 17 18 30 ?_
      refine VC.cond rfl (fun hc10 => ?_) (fun hc10 => ?_)
      · -- FTT
        refine VC.rs ?_
        refine VO.as ?_
        refine VO.k13 0 1 2 6 7 8 9 14 15 16 17 18 30 ?_
        refine VC.ret ?_
        refine outBR ?_
        refine outR ?_
        refine outR ?_
        refine outBR ?_
        refine outR ?_
        refine ⟨_, _, res_run (rs := [.tmp 6]) rfl (.tmp rfl .nil), fun W_ hI => out_of (l := []) hI [] rfl rfl (mle_refl _) (fun hS_ => ?_)⟩
        dsimp only [packV]
        all_goals (first | rfl | (simp [get_ne ‹d0[k]? = some _› ‹d1[k]? = some _› ‹¬ _ = _›]))
      · -- FTF
        refine VC.skip ?_
        refine outBN ?_
        refine outN ?_
        refine VC.reg ?_
        refine VO.y rfl (.add (c := ((k + 1 : Nat) : Int)) rfl rfl (by omega) ⟨bd, bd⟩) ?_
        refine VO.mv ?_
        refine VO.k12 0 1 2 7 8 9 14 15 16 17 18 30 ?_
        exact outN ⟨k + 1, ⟨by omega, by exact take_next ht ‹d0[k]? = some _› ‹d1[k]? = some _› (Decidable.not_not.1 ‹¬ ¬ _ = _›)⟩, bd, ⟨⟨rfl, rfl, rfl, rfl, rfl, rfl, rfl, trivial⟩, fun _ h => Inv.sub h [0]⟩⟩
    · -- FF
      refine VC.exit ?_
      refine outE ?_
      refine outE ?_
      refine outBB ?_
      refine outN ?_
      refine VC.rs ?_
      refine VO.as ?_
      refine VO.k9 0 1 2 6 14 15 16 17 18 ?_
      refine VC.ret ?_
      refine ⟨_, _, res_run (rs := [.tmp 6]) rfl (.tmp rfl .nil), fun W_ hI => out_of (l := []) hI [] rfl rfl (mle_refl _) (fun hS_ => ?_)⟩
      dsimp only [packV]
      all_goals (first | rfl | (simp [take_all ht (by omega) (by omega)]))
theorem fin0_lSame_ok {P : Prop} (h : P := by first | exact congrArg Value.bool (decide_eq_false (fun e => by subst e; exact absurd rfl (by assumption))).symm | exact congrArg Value.bool (decide_eq_decide.2 ⟨fun h => message_ext (by first | assumption | (apply Decidable.not_not.1; assumption)) (by first | assumption | (apply Decidable.not_not.1; assumption)) (by first | assumption | (apply Decidable.not_not.1; assumption)) (by first | assumption | (apply Decidable.not_not.1; assumption)) (by first | assumption | exact start_all ht (by omega) (by omega)) (by first | assumption | (apply Decidable.not_not.1; assumption)) (by first | assumption | (apply Decidable.not_not.1; assumption)) h, fun e => by rw [e]⟩)) : P := h
theorem lSame_ok (W : World) {v0 : List Value} {d0 : DMessage} (h0 : Rd TMessage (wm W) v0 d0) {v1 : List Value} {d1 : DMessage} (h1 : Rd TMessage (wm W) v1 d1) : CallR Try.prog 90 [.agg v0.toArray, .agg v1.toArray] W (mnil) (fun v m' => v = .bool (decide (d0 = d1))) := by
  obtain ⟨p0_A4, p0_c4, p0_A7, p0_c7, rfl, p0_0, p0_1, p0_2, p0_3, p0_4, p0_5, p0_6, p0_7⟩ := open_Message (x0 := d0.1) (x1 := d0.2.1) (x2 := d0.2.2.1) (x3 := d0.2.2.2.1) (x4 := d0.2.2.2.2.1) (x5 := d0.2.2.2.2.2.1) (x6 := d0.2.2.2.2.2.2.1) (x7 := d0.2.2.2.2.2.2.2) h0
  simp only [inK] at p0_0
  simp only [inK] at p0_1
  simp only [inK] at p0_2
  simp only [inK] at p0_3
  have p0_r4 := Rd.room p0_4
  simp only [inK] at p0_5
  simp only [inK] at p0_6
  have p0_r7 := Rd.room p0_7
  obtain ⟨p1_A4, p1_c4, p1_A7, p1_c7, rfl, p1_0, p1_1, p1_2, p1_3, p1_4, p1_5, p1_6, p1_7⟩ := open_Message (x0 := d1.1) (x1 := d1.2.1) (x2 := d1.2.2.1) (x3 := d1.2.2.2.1) (x4 := d1.2.2.2.2.1) (x5 := d1.2.2.2.2.2.1) (x6 := d1.2.2.2.2.2.2.1) (x7 := d1.2.2.2.2.2.2.2) h1
  simp only [inK] at p1_0
  simp only [inK] at p1_1
  simp only [inK] at p1_2
  simp only [inK] at p1_3
  have p1_r4 := Rd.room p1_4
  simp only [inK] at p1_5
  simp only [inK] at p1_6
  have p1_r7 := Rd.room p1_7
  refine CallR.ofA (n := 59) Try.func90 rfl rfl rfl ?_
  refine VC.rs ?_
  refine VO.box (cs := [Value.int .i64 (d0.1), Value.int .i64 (d0.2.1), Value.int .u8 (d0.2.2.1), Value.int .i64 (d0.2.2.2.1), Value.slice p0_A4 (d0.2.2.2.2.1.length) (p0_c4), Value.int .i64 (d0.2.2.2.2.2.1), Value.int .i64 (d0.2.2.2.2.2.2.1), Value.slice p0_A7 (d0.2.2.2.2.2.2.2.length) (p0_c7)]) 102 rfl rfl rfl (fun g1 => ?_)
  refine VO.box (cs := [Value.int .i64 (d1.1), Value.int .i64 (d1.2.1), Value.int .u8 (d1.2.2.1), Value.int .i64 (d1.2.2.2.1), Value.slice p1_A4 (d1.2.2.2.2.1.length) (p1_c4), Value.int .i64 (d1.2.2.2.2.2.1), Value.int .i64 (d1.2.2.2.2.2.2.1), Value.slice p1_A7 (d1.2.2.2.2.2.2.2.length) (p1_c7)]) 104 rfl rfl rfl (fun g3 => ?_)
  refine VO.as ?_
  refine VO.k5 0 1 2 3 4 ?_
  refine VC.rs ?_
  refine VO.y rfl (.fa rfl tst72 rfl) ?_
  refine VO.y rfl (.ld1 102 rfl tk3 rfl (cellsAt_one rfl rfl)) ?_
  refine VO.y rfl (.fa rfl tst72 rfl) ?_
  refine VO.y rfl (.ld1 104 rfl tk3 rfl (cellsAt_one rfl rfl)) ?_
  refine VO.y rfl (.eql rfl rfl) ?_
  refine VO.mv ?_
  refine VO.dec (t := 10) rfl (fun hc5 => ?_) (fun hc5 => ?_)
  · -- T
    refine VO.gy rfl ⟨_, rfl, rfl⟩ (.fa rfl tst72 rfl) ?_
    refine VO.gy rfl ⟨_, rfl, rfl⟩ (.ld1 102 rfl tk3 rfl (cellsAt_one rfl rfl)) ?_
    refine VO.gy rfl ⟨_, rfl, rfl⟩ (.fa rfl tst72 rfl) ?_
    refine VO.gy rfl ⟨_, rfl, rfl⟩ (.ld1 104 rfl tk3 rfl (cellsAt_one rfl rfl)) ?_
    refine VO.gy rfl ⟨_, rfl, rfl⟩ (.eql rfl rfl) ?_
    refine VO.y rfl (.pT rfl rfl) ?_
    refine VO.mv ?_
    refine VO.dec (t := 17) rfl (fun hc6 => ?_) (fun hc6 => ?_)
    · -- TT
      refine VO.gy rfl ⟨_, rfl, rfl⟩ (.fa rfl tst72 rfl) ?_
      refine VO.gy rfl ⟨_, rfl, rfl⟩ (.ld1 102 rfl tk69 rfl (cellsAt_one rfl rfl)) ?_
      refine VO.gy rfl ⟨_, rfl, rfl⟩ (.fa rfl tst72 rfl) ?_
      refine VO.gy rfl ⟨_, rfl, rfl⟩ (.ld1 104 rfl tk69 rfl (cellsAt_one rfl rfl)) ?_
      refine VO.gy rfl ⟨_, rfl, rfl⟩ (.eql rfl rfl) ?_
      refine VO.y rfl (.pT rfl rfl) ?_
      refine VO.mv ?_
      refine VO.dec (t := 24) rfl (fun hc7 => ?_) (fun hc7 => ?_)
      · -- TTT
        refine VO.gy rfl ⟨_, rfl, rfl⟩ (.fa rfl tst72 rfl) ?_
        refine VO.gy rfl ⟨_, rfl, rfl⟩ (.ld1 102 rfl tk3 rfl (cellsAt_one rfl rfl)) ?_
        refine VO.gy rfl ⟨_, rfl, rfl⟩ (.fa rfl tst72 rfl) ?_
        refine VO.gy rfl ⟨_, rfl, rfl⟩ (.ld1 104 rfl tk3 rfl (cellsAt_one rfl rfl)) ?_
        refine VO.gy rfl ⟨_, rfl, rfl⟩ (.eql rfl rfl) ?_
        refine VO.y rfl (.pT rfl rfl) ?_
        refine VO.mv ?_
        refine VO.dec (t := 31) rfl (fun hc8 => ?_) (fun hc8 => ?_)
        · -- TTTT
          refine VO.gy rfl ⟨_, rfl, rfl⟩ (.fa rfl tst72 rfl) ?_
          refine VO.gy rfl ⟨_, rfl, rfl⟩ (.ld1 102 rfl tk70 rfl (cellsAt_one rfl rfl)) ?_
          refine VO.gy rfl ⟨_, rfl, rfl⟩ (.fa rfl tst72 rfl) ?_
          refine VO.gy rfl ⟨_, rfl, rfl⟩ (.ld1 104 rfl tk70 rfl (cellsAt_one rfl rfl)) ?_
          refine VO.gcallN 109 rfl ⟨_, rfl, rfl⟩ fnOk131 rfl (fun W hW => eqStarts_ok W (Rd.mono p0_4 (hW.at (i := 0) rfl)) (Rd.mono p1_4 (hW.at (i := 0) rfl))) (fun v9 m9 hv9 => ?_)
          subst hv9
          refine VO.y rfl (.pT rfl rfl) ?_
          refine VO.mv ?_
          refine VO.dec (t := 38) rfl (fun hc10 => ?_) (fun hc10 => ?_)
          · -- TTTTT
            refine VO.gy rfl ⟨_, rfl, rfl⟩ (.fa rfl tst72 rfl) ?_
            refine VO.gy rfl ⟨_, rfl, rfl⟩ (.ld1 102 rfl tk3 rfl (cellsAt_one rfl rfl)) ?_
            refine VO.gy rfl ⟨_, rfl, rfl⟩ (.fa rfl tst72 rfl) ?_
            refine VO.gy rfl ⟨_, rfl, rfl⟩ (.ld1 104 rfl tk3 rfl (cellsAt_one rfl rfl)) ?_
            refine VO.gy rfl ⟨_, rfl, rfl⟩ (.eql rfl rfl) ?_
            refine VO.y rfl (.pT rfl rfl) ?_
            refine VO.mv ?_
            refine VO.dec (t := 45) rfl (fun hc11 => ?_) (fun hc11 => ?_)
            · -- TTTTTT
              refine VO.gy rfl ⟨_, rfl, rfl⟩ (.fa rfl tst72 rfl) ?_
              refine VO.gy rfl ⟨_, rfl, rfl⟩ (.ld1 102 rfl tk3 rfl (cellsAt_one rfl rfl)) ?_
              refine VO.gy rfl ⟨_, rfl, rfl⟩ (.fa rfl tst72 rfl) ?_
              refine VO.gy rfl ⟨_, rfl, rfl⟩ (.ld1 104 rfl tk3 rfl (cellsAt_one rfl rfl)) ?_
              refine VO.gy rfl ⟨_, rfl, rfl⟩ (.eql rfl rfl) ?_
              refine VO.y rfl (.pT rfl rfl) ?_
              refine VO.mv ?_
              refine VO.dec (t := 52) rfl (fun hc12 => ?_) (fun hc12 => ?_)
              · -- TTTTTTT
                refine VO.gy rfl ⟨_, rfl, rfl⟩ (.fa rfl tst72 rfl) ?_
                refine VO.gy rfl ⟨_, rfl, rfl⟩ (.ld1 102 rfl tk61 rfl (cellsAt_one rfl rfl)) ?_
                refine VO.gy rfl ⟨_, rfl, rfl⟩ (.fa rfl tst72 rfl) ?_
                refine VO.gy rfl ⟨_, rfl, rfl⟩ (.ld1 104 rfl tk61 rfl (cellsAt_one rfl rfl)) ?_
                refine VO.gcallN 113 rfl ⟨_, rfl, rfl⟩ fnOk132 rfl (fun W hW => eqComms_ok W (Rd.mono p0_7 (hW.at (i := 0) rfl)) (Rd.mono p1_7 (hW.at (i := 0) rfl))) (fun v13 m13 hv13 => ?_)
                subst hv13
                refine VO.y rfl (.pT rfl rfl) ?_
                refine VO.as ?_
                refine VO.k5 0 1 2 3 4 ?_
                refine VC.ret ?_
                refine ⟨_, _, res_run (rs := [.tmp 4]) rfl (.tmp rfl .nil), fun W_ hI => out_of (l := []) hI [] rfl rfl (mle_refl _) (fun hS_ => ?_)⟩
                dsimp only [packV]
                all_goals (first | rfl | (exact fin0_lSame_ok))
              · -- TTTTTTF
                refine VO.gN ?_
                refine VO.gN ?_
                refine VO.gN ?_
                refine VO.gN ?_
                refine VO.gN ?_
                refine VO.y rfl (.pF rfl rfl) ?_
                refine VO.as ?_
                refine VO.k5 0 1 2 3 4 ?_
                refine VC.ret ?_
                refine ⟨_, _, res_run (rs := [.tmp 4]) rfl (.tmp rfl .nil), fun W_ hI => out_of (l := []) hI [] rfl rfl (mle_refl _) (fun hS_ => ?_)⟩
                dsimp only [packV]
                all_goals (first | rfl | (exact fin0_lSame_ok))
            · -- TTTTTF
              refine VO.gN ?_
              refine VO.gN ?_
              refine VO.gN ?_
              refine VO.gN ?_
              refine VO.gN ?_
              refine VO.y rfl (.pF rfl rfl) ?_
              refine VO.mv ?_
              refine VO.gN ?_
              refine VO.gN ?_
              refine VO.gN ?_
              refine VO.gN ?_
              refine VO.gN ?_
              refine VO.y rfl (.pF rfl rfl) ?_
              refine VO.as ?_
              refine VO.k5 0 1 2 3 4 ?_
              refine VC.ret ?_
              refine ⟨_, _, res_run (rs := [.tmp 4]) rfl (.tmp rfl .nil), fun W_ hI => out_of (l := []) hI [] rfl rfl (mle_refl _) (fun hS_ => ?_)⟩
              dsimp only [packV]
              all_goals (first | rfl | (exact fin0_lSame_ok))
          · -- TTTTF
            refine VO.gN ?_
            refine VO.gN ?_
            refine VO.gN ?_
            refine VO.gN ?_
            refine VO.gN ?_
            refine VO.y rfl (.pF rfl rfl) ?_
            refine VO.mv ?_
            refine VO.gN ?_
            refine VO.gN ?_
            refine VO.gN ?_
            refine VO.gN ?_
            refine VO.gN ?_
            refine VO.y rfl (.pF rfl rfl) ?_
            refine VO.mv ?_
            refine VO.gN ?_
            refine VO.gN ?_
            refine VO.gN ?_
            refine VO.gN ?_
            refine VO.gN ?_
            refine VO.y rfl (.pF rfl rfl) ?_
            refine VO.as ?_
            refine VO.k5 0 1 2 3 4 ?_
            refine VC.ret ?_
            refine ⟨_, _, res_run (rs := [.tmp 4]) rfl (.tmp rfl .nil), fun W_ hI => out_of (l := []) hI [] rfl rfl (mle_refl _) (fun hS_ => ?_)⟩
            dsimp only [packV]
            all_goals (first | rfl | (exact fin0_lSame_ok))
        · -- TTTF
          refine VO.gN ?_
          refine VO.gN ?_
          refine VO.gN ?_
          refine VO.gN ?_
          refine VO.gN ?_
          refine VO.y rfl (.pF rfl rfl) ?_
          refine VO.mv ?_
          refine VO.gN ?_
          refine VO.gN ?_
          refine VO.gN ?_
          refine VO.gN ?_
          refine VO.gN ?_
          refine VO.y rfl (.pF rfl rfl) ?_
          refine VO.mv ?_
          refine VO.gN ?_
          refine VO.gN ?_
          refine VO.gN ?_
          refine VO.gN ?_
          refine VO.gN ?_
          refine VO.y rfl (.pF rfl rfl) ?_
          refine VO.mv ?_
          refine VO.gN ?_
          refine VO.gN ?_
          refine VO.gN ?_
          refine VO.gN ?_
          refine VO.gN ?_
          refine VO.y rfl (.pF rfl rfl) ?_
          refine VO.as ?_
          refine VO.k5 0 1 2 3 4 ?_
          refine VC.ret ?_
          refine ⟨_, _, res_run (rs := [.tmp 4]) rfl (.tmp rfl .nil), fun W_ hI => out_of (l := []) hI [] rfl rfl (mle_refl _) (fun hS_ => ?_)⟩
          dsimp only [packV]
          all_goals (first | rfl | (exact fin0_lSame_ok))
      · -- TTF
        refine VO.gN ?_
        refine VO.gN ?_
        refine VO.gN ?_
        refine VO.gN ?_
        refine VO.gN ?_
        refine VO.y rfl (.pF rfl rfl) ?_
        refine VO.mv ?_
        refine VO.gN ?_
        refine VO.gN ?_
        refine VO.gN ?_
        refine VO.gN ?_
        refine VO.gN ?_
        refine VO.y rfl (.pF rfl rfl) ?_
        refine VO.mv ?_
        refine VO.gN ?_
        refine VO.gN ?_
        refine VO.gN ?_
        refine VO.gN ?_
        refine VO.gN ?_
        refine VO.y rfl (.pF rfl rfl) ?_
        refine VO.mv ?_
        refine VO.gN ?_
        refine VO.gN ?_
        refine VO.gN ?_
        refine VO.gN ?_
        refine VO.gN ?_
        refine VO.y rfl (.pF rfl rfl) ?_
        refine VO.mv ?_
        refine VO.gN ?_
        refine VO.gN ?_
        refine VO.gN ?_
        refine VO.gN ?_
        refine VO.gN ?_
        refine VO.y rfl (.pF rfl rfl) ?_
        refine VO.as ?_
        refine VO.k5 0 1 2 3 4 ?_
        refine VC.ret ?_
        refine ⟨_, _, res_run (rs := [.tmp 4]) rfl (.tmp rfl .nil), fun W_ hI => out_of (l := []) hI [] rfl rfl (mle_refl _) (fun hS_ => ?_)⟩
        dsimp only [packV]
        all_goals (first | rfl | (exact fin0_lSame_ok))
    · -- TF
      refine VO.gN ?_
      refine VO.gN ?_
      refine VO.gN ?_
      refine VO.gN ?_
      refine VO.gN ?_
      refine VO.y rfl (.pF rfl rfl) ?_
      refine VO.mv ?_
      refine VO.gN ?_
      refine VO.gN ?_
      refine VO.gN ?_
      refine VO.gN ?_
      refine VO.gN ?_
      refine VO.y rfl (.pF rfl rfl) ?_
      refine VO.mv ?_
      refine VO.gN ?_
      refine VO.gN ?_
      refine VO.gN ?_
      refine VO.gN ?_
      refine VO.gN ?_
      refine VO.y rfl (.pF rfl rfl) ?_
      refine VO.mv ?_
      refine VO.gN ?_
      refine VO.gN ?_
      refine VO.gN ?_
      refine VO.gN ?_
      refine VO.gN ?_
      refine VO.y rfl (.pF rfl rfl) ?_
      refine VO.mv ?_
      refine VO.gN ?_
      refine VO.gN ?_
      refine VO.gN ?_
      refine VO.gN ?_
      refine VO.gN ?_
      refine VO.y rfl (.pF rfl rfl) ?_
      refine VO.mv ?_
      refine VO.gN ?_
      refine VO.gN ?_
      refine VO.gN ?_
      refine VO.gN ?_
      refine VO.gN ?_
      refine VO.y rfl (.pF rfl rfl) ?_
      refine VO.as ?_
      refine VO.k5 0 1 2 3 4 ?_
      refine VC.ret ?_
      refine ⟨_, _, res_run (rs := [.tmp 4]) rfl (.tmp rfl .nil), fun W_ hI => out_of (l := []) hI [] rfl rfl (mle_refl _) (fun hS_ => ?_)⟩
      dsimp only [packV]
      all_goals (first | rfl | (exact fin0_lSame_ok))
  · -- F
    refine VO.gN ?_
    refine VO.gN ?_
    refine VO.gN ?_
    refine VO.gN ?_
    refine VO.gN ?_
    refine VO.y rfl (.pF rfl rfl) ?_
    refine VO.mv ?_
    refine VO.gN ?_
    refine VO.gN ?_
    refine VO.gN ?_
    refine VO.gN ?_
    refine VO.gN ?_
    refine VO.y rfl (.pF rfl rfl) ?_
    refine VO.mv ?_
    refine VO.gN ?_
    refine VO.gN ?_
    refine VO.gN ?_
    refine VO.gN ?_
    refine VO.gN ?_
    refine VO.y rfl (.pF rfl rfl) ?_
    refine VO.mv ?_
    refine VO.gN ?_
    refine VO.gN ?_
    refine VO.gN ?_
    refine VO.gN ?_
    refine VO.gN ?_
    refine VO.y rfl (.pF rfl rfl) ?_
    refine VO.mv ?_
    refine VO.gN ?_
    refine VO.gN ?_
    refine VO.gN ?_
    refine VO.gN ?_
    refine VO.gN ?_
    refine VO.y rfl (.pF rfl rfl) ?_
    refine VO.mv ?_
    refine VO.gN ?_
    refine VO.gN ?_
    refine VO.gN ?_
    refine VO.gN ?_
    refine VO.gN ?_
    refine VO.y rfl (.pF rfl rfl) ?_
    refine VO.mv ?_
    refine VO.gN ?_
    refine VO.gN ?_
    refine VO.gN ?_
    refine VO.gN ?_
    refine VO.gN ?_
    refine VO.y rfl (.pF rfl rfl) ?_
    refine VO.as ?_
    refine VO.k5 0 1 2 3 4 ?_
    refine VC.ret ?_
    refine ⟨_, _, res_run (rs := [.tmp 4]) rfl (.tmp rfl .nil), fun W_ hI => out_of (l := []) hI [] rfl rfl (mle_refl _) (fun hS_ => ?_)⟩
    dsimp only [packV]
    all_goals (first | rfl | (exact fin0_lSame_ok))
end
section
set_option linter.unusedVariables false
set_option linter.unusedSimpArgs false
set_option maxRecDepth 4000
theorem tst136 : tst Try.prog 136 = some [(0, 1), (1, 1)] := by kernel_rfl
theorem lNum_ok (W : World) {B_ : Bytes} {at_ : Int} {g0 : Nat} {E0 : TypeId} {d0 : Dletterreader} {b0_0 : Value} (hm : mle (mone g0 (.cells [(b0_0 : Value), .bool d0.2].toArray E0 (0, 0))) (wm W)) (h0_0 : Rd (.sl .byte) (mout (wm W) (mone g0 (.cells [(b0_0 : Value), .bool d0.2].toArray E0 (0, 0)))) [b0_0] d0.1) (d1 : Int) (h1 : inK .i64 d1) (e0 : d0.1 = B_.drop at_.toNat) (e1 : rOk B_ (at_, d0.2)) : CallR Try.prog 129 [.pointer (some ⟨g0, 0, none⟩), .int .i64 d1] W (mone g0 (.cells [(b0_0 : Value), .bool d0.2].toArray E0 (0, 0))) (fun v m' => v = .int .i64 ((rNum B_ d1 (at_, d0.2)).1) ∧ m' = mone g0 (.cells [(dropV b0_0 (((rNum B_ d1 (at_, d0.2)).2.1 - at_).toNat) 1 : Value), .bool ((rNum B_ d1 (at_, d0.2)).2.2)].toArray E0 (0, 0))) := by
  have e1_ := e1; obtain ⟨e1a, e1b⟩ := e1_
  obtain ⟨A0_0, c0_0, rfl, l0_0, k0_0⟩ := h0_0.slice
  simp only [maxLen] at k0_0
  have h1' := h1; simp only [inK] at h1'
  refine CallR.ofB (n := 39) hm Try.func129 rfl rfl rfl ?_
  refine VC.rs ?_
  refine VO.as ?_
  refine VO.k3 0 1 4 ?_
  refine VC.rs ?_
  refine VO.mv ?_
  refine VO.y rfl (.nilp rfl) ?_
  refine VO.y rfl (.fa rfl tst136 rfl) ?_
  refine VO.y rfl (.ld1 1 rfl tk23 rfl (cellsAt_one rfl rfl)) ?_
  refine VO.mv ?_
  refine VO.callN 101 rfl fnOk106 rfl (fun W hW => vSmall_ok W (Rd.mono h0_0 (hW.at (i := 0) rfl)) d1 bdk) (fun v1 m1 hv1 => ?_)
  subst hv1
  have hfa2 := s_bounds d0.1 d1 (by omega)
  refine VO.mv ?_
  refine VO.y rfl (.ext rfl rfl) ?_
  refine VO.y rfl (.ext rfl rfl) ?_
  refine VO.y rfl (.ext rfl rfl) ?_
  refine VO.as ?_
  refine VO.as ?_
  refine VO.as ?_
  refine VO.k6 0 1 4 5 6 7 ?_
  refine VC.seq ?_
  refine VC.rs ?_
  refine VO.mv ?_
  refine VO.y rfl (.nilp rfl) ?_
  refine VO.y rfl (.fa rfl tst136 rfl) ?_
  refine VO.y rfl (.ld1 1 rfl tk4 rfl (cellsAt_one rfl rfl)) ?_
  refine VO.mv ?_
  refine VO.decB (t := 22) rfl (fun hc3 => ?_) (fun hc3 => ?_)
  · -- T
    refine VO.gN ?_
    refine VO.gN ?_
    refine VO.y rfl (.pT rfl rfl) ?_
    refine VO.keep [0, 1] [(0, mout (wm W) (mone g0 (.cells [Value.slice A0_0 (d0.1.length) (c0_0), Value.bool d0.2].toArray E0 (0, 0)))), (1, mone g0 (.cells [Value.slice A0_0 (d0.1.length) (c0_0), Value.bool d0.2].toArray E0 (0, 0)))] (by kernel_rfl) ?_
    refine VO.k7 0 1 4 5 6 7 25 ?_
    refine VC.condT rfl ?_
    refine VC.rs ?_
    refine VO.mv ?_
    refine VO.y rfl (.nilp rfl) ?_
    refine VO.y rfl (.fa rfl tst136 rfl) ?_
    refine VO.store (k := 1) (c' := [Value.slice A0_0 (d0.1.length) (c0_0), Value.bool true]) 1 rfl rfl (.inr ⟨tk4, rfl⟩) rfl rfl rfl rfl rfl ?_
    refine VO.k7 0 1 4 5 6 7 25 ?_
    refine VC.rs ?_
    refine VO.as ?_
    refine VO.k7 0 1 4 5 6 7 25 ?_
    refine VC.ret ?_
    refine outR ?_
    refine ⟨_, _, res_run (rs := [.tmp 4]) rfl (.tmp rfl .nil), fun W_ hI => out_of (l := [mone g0 (.cells [Value.slice A0_0 (d0.1.length) (c0_0), Value.bool true].toArray E0 (0, 0))]) hI [1] rfl rfl (mle_refl _) (fun hS_ => ?_)⟩
    dsimp only [packV]
    have hm0_1 : ((rNum B_ d1 (at_, d0.2)).2.2 : Bool) = true := by first | rfl | (first | (rw [rNum_bad (by assumption)]; assumption) | (rw [rNum_none (by assumption) (by rw [← e0]; assumption)]; done) | (rw [rNum_some (by assumption) (by rw [← e0]; exact Decidable.not_not.1 (by assumption))]; symm; assumption))
    refine ⟨?_, ?_⟩
    rotate_left
    · (rw [hm0_1, muns_one]; (first | done | (first | (rw [rNum_bad (by assumption)]; simp only [Int.sub_self, Int.toNat_zero, dropV_zero]; done) | (rw [rNum_none (by assumption) (by rw [← e0]; assumption)]; simp only [Int.sub_self, Int.toNat_zero, dropV_zero]; done) | (rw [rNum_some (by assumption) (by rw [← e0]; exact Decidable.not_not.1 (by assumption))]; dsimp only; rw [show (at_ + (sN (B_.drop at_.toNat) d1 : Int) - at_).toNat = sN d0.1 d1 by rw [← e0]; omega]; simp only [dropV]; done))))
    all_goals (first | rfl | (first | (rw [rNum_bad (by assumption)] <;> rfl) | (rw [rNum_none (by assumption) (by rw [← e0]; assumption)] <;> rfl) | (rw [rNum_some (by assumption) (by rw [← e0]; exact Decidable.not_not.1 (by assumption))]; dsimp only; rw [← e0]; rfl)))
  · -- F
    refine VO.gy rfl ⟨_, rfl, rfl⟩ (.mv rfl) ?_
    refine VO.gy rfl ⟨_, rfl, rfl⟩ (.neq rfl rfl) ?_
    refine VO.y rfl (.pF rfl rfl) ?_
    refine VO.keep [0, 1] [(0, mout (wm W) (mone g0 (.cells [Value.slice A0_0 (d0.1.length) (c0_0), Value.bool d0.2].toArray E0 (0, 0)))), (1, mone g0 (.cells [Value.slice A0_0 (d0.1.length) (c0_0), Value.bool d0.2].toArray E0 (0, 0)))] (by kernel_rfl) ?_
    refine VO.k7 0 1 4 5 6 7 25 ?_
    refine VC.cond rfl (fun hc4 => ?_) (fun hc4 => ?_)
    · -- FT
      refine VC.rs ?_
      refine VO.mv ?_
      refine VO.y rfl (.nilp rfl) ?_
      refine VO.y rfl (.fa rfl tst136 rfl) ?_
      refine VO.store (k := 1) (c' := [Value.slice A0_0 (d0.1.length) (c0_0), Value.bool true]) 1 rfl rfl (.inr ⟨tk4, rfl⟩) rfl rfl rfl rfl rfl ?_
      refine VO.k7 0 1 4 5 6 7 25 ?_
      refine VC.rs ?_
      refine VO.as ?_
      refine VO.k7 0 1 4 5 6 7 25 ?_
      refine VC.ret ?_
      refine outR ?_
      refine ⟨_, _, res_run (rs := [.tmp 4]) rfl (.tmp rfl .nil), fun W_ hI => out_of (l := [mone g0 (.cells [Value.slice A0_0 (d0.1.length) (c0_0), Value.bool true].toArray E0 (0, 0))]) hI [1] rfl rfl (mle_refl _) (fun hS_ => ?_)⟩
      dsimp only [packV]
      have hm0_1 : ((rNum B_ d1 (at_, d0.2)).2.2 : Bool) = true := by first | rfl | (first | (rw [rNum_bad (by assumption)]; assumption) | (rw [rNum_none (by assumption) (by rw [← e0]; assumption)]; done) | (rw [rNum_some (by assumption) (by rw [← e0]; exact Decidable.not_not.1 (by assumption))]; symm; assumption))
      refine ⟨?_, ?_⟩
      rotate_left
      · (rw [hm0_1, muns_one]; (first | done | (first | (rw [rNum_bad (by assumption)]; simp only [Int.sub_self, Int.toNat_zero, dropV_zero]; done) | (rw [rNum_none (by assumption) (by rw [← e0]; assumption)]; simp only [Int.sub_self, Int.toNat_zero, dropV_zero]; done) | (rw [rNum_some (by assumption) (by rw [← e0]; exact Decidable.not_not.1 (by assumption))]; dsimp only; rw [show (at_ + (sN (B_.drop at_.toNat) d1 : Int) - at_).toNat = sN d0.1 d1 by rw [← e0]; omega]; simp only [dropV]; done))))
      all_goals (first | rfl | (first | (rw [rNum_bad (by assumption)] <;> rfl) | (rw [rNum_none (by assumption) (by rw [← e0]; assumption)] <;> rfl) | (rw [rNum_some (by assumption) (by rw [← e0]; exact Decidable.not_not.1 (by assumption))]; dsimp only; rw [← e0]; rfl)))
    · -- FF
      refine VC.skip ?_
      refine outN ?_
      refine VC.rs ?_
      refine VO.mv ?_
      refine VO.mv ?_
      refine VO.y rfl (.nilp rfl) ?_
      refine VO.y rfl (.fa rfl tst136 rfl) ?_
      refine VO.y rfl (.ld1 1 rfl tk23 rfl (cellsAt_one rfl rfl)) ?_
      refine VO.mv ?_
      obtain ⟨A5, hA5, hs5⟩ := h0_0.drop 1 (sN d0.1 d1) rfl bd
      refine VO.y rfl (.slLI (sN d0.1 d1) A5 rfl rfl tsl23 rfl hA5 bd) ?_
      refine VO.y rfl (.nilp rfl) ?_
      refine VO.y rfl (.fa rfl tst136 rfl) ?_
      refine VO.store (k := 1) (c' := [Value.slice A5 (d0.1.length - (sN d0.1 d1)) (c0_0 - (sN d0.1 d1)), Value.bool d0.2]) 1 rfl rfl (.inr ⟨tk23, rfl⟩) rfl rfl rfl rfl rfl ?_
      refine VO.k7 0 1 4 5 6 7 25 ?_
      refine VC.rs ?_
      refine VO.mv ?_
      refine VO.as ?_
      refine VO.k7 0 1 4 5 6 7 25 ?_
      refine VC.ret ?_
      refine ⟨_, _, res_run (rs := [.tmp 4]) rfl (.tmp rfl .nil), fun W_ hI => out_of (l := [mone g0 (.cells [Value.slice A5 (d0.1.length - (sN d0.1 d1)) (c0_0 - (sN d0.1 d1)), Value.bool d0.2].toArray E0 (0, 0))]) hI [1] rfl rfl (mle_refl _) (fun hS_ => ?_)⟩
      dsimp only [packV]
      have hm0_1 : ((rNum B_ d1 (at_, d0.2)).2.2 : Bool) = d0.2 := by first | rfl | (first | (rw [rNum_bad (by assumption)]; assumption) | (rw [rNum_none (by assumption) (by rw [← e0]; assumption)]; done) | (rw [rNum_some (by assumption) (by rw [← e0]; exact Decidable.not_not.1 (by assumption))]; symm; assumption))
      refine ⟨?_, ?_⟩
      rotate_left
      · (rw [hm0_1, muns_one]; (first | done | (first | (rw [rNum_bad (by assumption)]; simp only [Int.sub_self, Int.toNat_zero, dropV_zero]; done) | (rw [rNum_none (by assumption) (by rw [← e0]; assumption)]; simp only [Int.sub_self, Int.toNat_zero, dropV_zero]; done) | (rw [rNum_some (by assumption) (by rw [← e0]; exact Decidable.not_not.1 (by assumption))]; dsimp only; rw [show (at_ + (sN (B_.drop at_.toNat) d1 : Int) - at_).toNat = sN d0.1 d1 by rw [← e0]; omega]; simp only [dropV, hA5]; done))))
      all_goals (first | rfl | (first | (rw [rNum_bad (by assumption)] <;> rfl) | (rw [rNum_none (by assumption) (by rw [← e0]; assumption)] <;> rfl) | (rw [rNum_some (by assumption) (by rw [← e0]; exact Decidable.not_not.1 (by assumption))]; dsimp only; rw [← e0]; rfl)))
end
section
set_option linter.unusedVariables false
set_option linter.unusedSimpArgs false
set_option maxRecDepth 4000
theorem fnOk129 : fnOk Try.prog 129 = true := by kernel_rfl
theorem lComm_ok (W : World) {B_ : Bytes} {at_ : Int} {g0 : Nat} {E0 : TypeId} {d0 : Dletterreader} {b0_0 : Value} (hm : mle (mone g0 (.cells [(b0_0 : Value), .bool d0.2].toArray E0 (0, 0))) (wm W)) (h0_0 : Rd (.sl .byte) (mout (wm W) (mone g0 (.cells [(b0_0 : Value), .bool d0.2].toArray E0 (0, 0)))) [b0_0] d0.1) (e0 : d0.1 = B_.drop at_.toNat) (e1 : rOk B_ (at_, d0.2)) (e2 : B_.length ≤ 9223372036854775807) : CallR Try.prog 130 [.pointer (some ⟨g0, 0, none⟩)] W (mone g0 (.cells [(b0_0 : Value), .bool d0.2].toArray E0 (0, 0))) (fun v m' => ∃ (s0 : List Value), ∃ (p0 : Mem), v = .agg s0.toArray ∧ Seps m' [p0, mone g0 (.cells [(dropV (dropV b0_0 (((rNum B_ ((B_.length : Int) - at_) (at_, d0.2)).2.1 - at_).toNat) 1) (((lComm B_ (at_, d0.2)).2.1 - (rNum B_ ((B_.length : Int) - at_) (at_, d0.2)).2.1).toNat) 1 : Value), .bool ((lComm B_ (at_, d0.2)).2.2)].toArray E0 (0, 0))] ∧ Ow TCommit p0 s0 ((lComm B_ (at_, d0.2)).1)) := by
  have e1_ := e1; obtain ⟨e1a, e1b⟩ := e1_
  have ez : d0.1.length = B_.length - at_.toNat := by rw [e0, List.length_drop]
  have hz : ((d0.1.length : Nat) : Int) = (B_.length : Int) - at_ := by omega
  obtain ⟨A0_0, c0_0, rfl, l0_0, k0_0⟩ := h0_0.slice
  simp only [maxLen] at k0_0
  refine CallR.ofB (n := 55) hm Try.func130 rfl rfl rfl ?_
  have h0x : Rd (.sl .byte) (mout (wm W) (mone g0 (.cells [Value.slice A0_0 (d0.1.length) (c0_0), Value.bool d0.2].toArray E0 (0, 0)))) [Value.slice A0_0 (d0.1.length) (c0_0)] (B_.drop at_.toNat) := by have h_ := h0_0; rw [← e0]; exact h_
  refine VC.rs ?_
  refine VO.alloc 102 rfl tz52 (fun g1 => ?_)
  refine VO.k2 0 2 ?_
  refine VC.rs ?_
  refine VO.mv ?_
  refine VO.mv ?_
  refine VO.y rfl (.nilp rfl) ?_
  refine VO.y rfl (.fa rfl tst136 rfl) ?_
  refine VO.y rfl (.ld1 1 rfl tk23 rfl (cellsAt_one rfl rfl)) ?_
  refine VO.y rfl (.lenS rfl tsl23) ?_
  refine VO.call 1 rfl fnOk129 rfl rfl (fun W hW => lNum_ok W (B_ := B_) (at_ := at_) (d0 := (B_.drop at_.toNat, d0.2)) (hW.at (i := 1) rfl) (Rd.mono h0x (hW.out (i := 1) (j := 0) rfl rfl)) ((d0.1.length : Nat) : Int) bdk (by rfl) (by first | assumption | exact ⟨by omega, by omega⟩ | exact ⟨by (simp; done), by (simp; done)⟩)) (fun v3 m3 hv3 => ?_)
  try dsimp only at hv3
  obtain ⟨rfl, rfl⟩ := hv3
  have hfa4 := (rNum_ok (B := B_) (m := ((d0.1.length : Nat) : Int)) (s := (at_, d0.2)) (by first | assumption | exact ⟨by omega, by omega⟩ | exact ⟨by (simp; done), by (simp; done)⟩) (by omega)).1
  try dsimp only at hfa4
  have hfa5 := (rNum_ok (B := B_) (m := ((d0.1.length : Nat) : Int)) (s := (at_, d0.2)) (by first | assumption | exact ⟨by omega, by omega⟩ | exact ⟨by (simp; done), by (simp; done)⟩) (by omega)).1.1
  try dsimp only at hfa5
  have hfa6 := (rNum_ok (B := B_) (m := ((d0.1.length : Nat) : Int)) (s := (at_, d0.2)) (by first | assumption | exact ⟨by omega, by omega⟩ | exact ⟨by (simp; done), by (simp; done)⟩) (by omega)).1.2
  try dsimp only at hfa6
  have hfa7 := (rNum_ok (B := B_) (m := ((d0.1.length : Nat) : Int)) (s := (at_, d0.2)) (by first | assumption | exact ⟨by omega, by omega⟩ | exact ⟨by (simp; done), by (simp; done)⟩) (by omega)).2
  try dsimp only at hfa7
  obtain ⟨A8, hA8, hs8⟩ := h0x.drop 1 (((rNum B_ ((d0.1.length : Nat) : Int) (at_, d0.2)).2.1 - at_).toNat) rfl bd
  simp only [dropV, hA8]
  have hl8 : d0.1.length - (((rNum B_ ((d0.1.length : Nat) : Int) (at_, d0.2)).2.1 - at_).toNat) = (B_.drop (rNum B_ ((d0.1.length : Nat) : Int) (at_, d0.2)).2.1.toNat).length := by simp only [List.length_drop] at *; omega
  have hd8 : Rd (.sl .byte) (mout (wm W) (mone g0 (.cells [Value.slice A0_0 (d0.1.length) (c0_0), Value.bool d0.2].toArray E0 (0, 0)))) [Value.slice A8 (B_.drop (rNum B_ ((d0.1.length : Nat) : Int) (at_, d0.2)).2.1.toNat).length (c0_0 - (((rNum B_ ((d0.1.length : Nat) : Int) (at_, d0.2)).2.1 - at_).toNat))] (B_.drop (rNum B_ ((d0.1.length : Nat) : Int) (at_, d0.2)).2.1.toNat) := Rd.relen (by have h_ : Rd (.sl .byte) (mout (wm W) (mone g0 (.cells [Value.slice A0_0 (d0.1.length) (c0_0), Value.bool d0.2].toArray E0 (0, 0)))) [Value.slice A8 ((B_.drop at_.toNat).length - (((rNum B_ ((d0.1.length : Nat) : Int) (at_, d0.2)).2.1 - at_).toNat)) (c0_0 - (((rNum B_ ((d0.1.length : Nat) : Int) (at_, d0.2)).2.1 - at_).toNat))] ((B_.drop at_.toNat).drop (((rNum B_ ((d0.1.length : Nat) : Int) (at_, d0.2)).2.1 - at_).toNat)) := hs8; rw [drop_at (by omega) (by omega)] at h_; exact h_) rfl
  rw [hl8]
  refine VO.as ?_
  refine VO.k3 0 2 3 ?_
  refine VC.seq ?_
  refine VC.rs ?_
  refine VO.mv ?_
  refine VO.y rfl (.nilp rfl) ?_
  refine VO.y rfl (.fa rfl tst136 rfl) ?_
  refine VO.y rfl (.ld1 1 rfl tk4 rfl (cellsAt_one rfl rfl)) ?_
  refine VO.mv ?_
  refine VO.decB (t := 17) rfl (fun hc9 => ?_) (fun hc9 => ?_)
  · -- T
    refine VO.gN ?_
    refine VO.gN ?_
    refine VO.gN ?_
    refine VO.gN ?_
    refine VO.gN ?_
    refine VO.gN ?_
    refine VO.gN ?_
    refine VO.y rfl (.pT rfl rfl) ?_
    refine VO.keep [1, 102, 0] [(1, mone g0 (.cells [Value.slice A8 ((B_.drop (rNum B_ ((d0.1.length : Nat) : Int) (at_, d0.2)).2.1.toNat).length) (c0_0 - (((rNum B_ ((d0.1.length : Nat) : Int) (at_, d0.2)).2.1 - at_).toNat)), Value.bool ((rNum B_ ((d0.1.length : Nat) : Int) (at_, d0.2)).2.2)].toArray E0 (0, 0))), (102, mone g1 (.cells [Value.int .i64 (0), Value.int .i64 (0), Value.slice none (0) (0)].toArray 52 (0, 0))), (0, mout (wm W) (mone g0 (.cells [Value.slice A0_0 (d0.1.length) (c0_0), Value.bool d0.2].toArray E0 (0, 0))))] (by kernel_rfl) ?_
    refine VO.k4 0 2 3 25 ?_
    refine VC.condT rfl ?_
    refine VC.rs ?_
    refine VO.mv ?_
    refine VO.y rfl (.nilp rfl) ?_
    refine VO.y rfl (.fa rfl tst136 rfl) ?_
    refine VO.store (k := 1) (c' := [Value.slice A8 ((B_.drop (rNum B_ ((d0.1.length : Nat) : Int) (at_, d0.2)).2.1.toNat).length) (c0_0 - (((rNum B_ ((d0.1.length : Nat) : Int) (at_, d0.2)).2.1 - at_).toNat)), Value.bool true]) 1 rfl rfl (.inr ⟨tk4, rfl⟩) rfl rfl rfl rfl rfl ?_
    refine VO.k4 0 2 3 25 ?_
    refine VC.rs ?_
    refine VO.y rfl (.bst (cs := [Value.int .i64 (0), Value.int .i64 (0), Value.slice none (0) (0)]) rfl tst52 tz52 rfl) ?_
    refine VO.store (k := 3) (c' := [Value.int .i64 (0), Value.int .i64 (0), Value.slice none (0) (0)]) 102 rfl rfl (.inl tk52) rfl rfl rfl rfl rfl ?_
    refine VO.k4 0 2 3 25 ?_
    refine VC.ret ?_
    refine outR ?_
    refine ⟨_, _, res_run (rs := [.cell 2 52]) rfl (.agg 102 rfl tk52 rfl ⟨_, _, _, mone_self _ _, Nat.le_of_ble_eq_true rfl, rfl⟩ .nil), fun W_ hI => out_of (l := [mone g0 (.cells [Value.slice A8 ((B_.drop (rNum B_ ((d0.1.length : Nat) : Int) (at_, d0.2)).2.1.toNat).length) (c0_0 - (((rNum B_ ((d0.1.length : Nat) : Int) (at_, d0.2)).2.1 - at_).toNat)), Value.bool true].toArray E0 (0, 0))]) hI [1] rfl rfl (mle_refl _) (fun hS_ => ?_)⟩
    dsimp only [packV]
    have he0 : ((lComm B_ (at_, d0.2)).1 : Ty.Den TCommit) = (0, 0, []) := by first | rfl | (first | (rw [lComm_1 hz (by assumption)] <;> rfl) | (rw [lComm_2 hz (by assumption) (by omega)] <;> rfl) | (rw [lComm_3 hz (by assumption) (by omega)] <;> rfl))
    have hm0_1 : ((lComm B_ (at_, d0.2)).2.2 : Bool) = true := by first | rfl | (first | (rw [lComm_1 hz (by assumption)] <;> rfl) | (rw [lComm_2 hz (by assumption) (by omega)] <;> rfl) | (rw [lComm_3 hz (by assumption) (by omega)] <;> rfl))
    refine ⟨[Value.int .i64 (0), Value.int .i64 (0), Value.slice none (0) (0)], muns [], ?_, ?_, ?_⟩
    rotate_left
    · have hbx : mone g0 (.cells [(dropV (dropV (Value.slice A0_0 d0.1.length c0_0) (((rNum B_ ((B_.length : Int) - at_) (at_, d0.2)).2.1 - at_).toNat) 1) (((lComm B_ (at_, d0.2)).2.1 - (rNum B_ ((B_.length : Int) - at_) (at_, d0.2)).2.1).toNat) 1 : Value), .bool ((lComm B_ (at_, d0.2)).2.2)].toArray E0 (0, 0)) = mone g0 (.cells [Value.slice A8 ((B_.drop (rNum B_ ((d0.1.length : Nat) : Int) (at_, d0.2)).2.1.toNat).length) (c0_0 - (((rNum B_ ((d0.1.length : Nat) : Int) (at_, d0.2)).2.1 - at_).toNat)), Value.bool true].toArray E0 (0, 0)) := (by rw [hm0_1]; first | rfl | (first | (rw [lComm_1 hz (by assumption)]; dsimp only; rw [← hz]; simp only [Int.sub_self, Int.toNat_zero, dropV_zero2]; simp only [dropV, hA8, hl8]; done) | (rw [lComm_2 hz (by assumption) (by omega)]; dsimp only; rw [← hz]; simp only [Int.sub_self, Int.toNat_zero, dropV_zero2]; simp only [dropV, hA8, hl8]; done) | (rw [lComm_3 hz (by assumption) (by omega)]; dsimp only; rw [← hz]; simp only [add_sub_it]; simp only [dropV, hA8, hl8]; done)))
      show Seps _ [muns [], mone g0 (.cells [(dropV (dropV (Value.slice A0_0 d0.1.length c0_0) (((rNum B_ ((B_.length : Int) - at_) (at_, d0.2)).2.1 - at_).toNat) 1) (((lComm B_ (at_, d0.2)).2.1 - (rNum B_ ((B_.length : Int) - at_) (at_, d0.2)).2.1).toNat) 1 : Value), .bool ((lComm B_ (at_, d0.2)).2.2)].toArray E0 (0, 0))]
      rw [hbx]
      exact Seps.grpM (ls := [[], [mone g0 (.cells [Value.slice A8 ((B_.drop (rNum B_ ((d0.1.length : Nat) : Int) (at_, d0.2)).2.1.toNat).length) (c0_0 - (((rNum B_ ((d0.1.length : Nat) : Int) (at_, d0.2)).2.1 - at_).toNat)), Value.bool true].toArray E0 (0, 0))]]) hS_ (by simp only [List.map, muns_one])
    · rw [he0]; exact (mkO_Commit 0 0 [] (Seps.nilAt 0 (Seps.self hS_ (List.Sublist.cons _ List.Sublist.slnil))) bdk bdk (Ow.nil _ _))
    all_goals (first | rfl | (simp [*]; done))
  · -- F
    refine VO.gy rfl ⟨_, rfl, rfl⟩ (.mv rfl) ?_
    refine VO.gy rfl ⟨_, rfl, rfl⟩ (.mv rfl) ?_
    refine VO.gy rfl ⟨_, rfl, rfl⟩ (.nilp rfl) ?_
    refine VO.gy rfl ⟨_, rfl, rfl⟩ (.fa rfl tst136 rfl) ?_
    refine VO.gy rfl ⟨_, rfl, rfl⟩ (.ld1 1 rfl tk23 rfl (cellsAt_one rfl rfl)) ?_
    refine VO.gy rfl ⟨_, rfl, rfl⟩ (.lenS rfl tsl23) ?_
    refine VO.gy rfl ⟨_, rfl, rfl⟩ (.gtr rfl rfl) ?_
    refine VO.y rfl (.pF rfl rfl) ?_
    refine VO.keep [1, 102, 0] [(1, mone g0 (.cells [Value.slice A8 ((B_.drop (rNum B_ ((d0.1.length : Nat) : Int) (at_, d0.2)).2.1.toNat).length) (c0_0 - (((rNum B_ ((d0.1.length : Nat) : Int) (at_, d0.2)).2.1 - at_).toNat)), Value.bool ((rNum B_ ((d0.1.length : Nat) : Int) (at_, d0.2)).2.2)].toArray E0 (0, 0))), (102, mone g1 (.cells [Value.int .i64 (0), Value.int .i64 (0), Value.slice none (0) (0)].toArray 52 (0, 0))), (0, mout (wm W) (mone g0 (.cells [Value.slice A0_0 (d0.1.length) (c0_0), Value.bool d0.2].toArray E0 (0, 0))))] (by kernel_rfl) ?_
    refine VO.k4 0 2 3 25 ?_
    refine VC.cond rfl (fun hc10 => ?_) (fun hc10 => ?_)
    · -- FT
      refine VC.rs ?_
      refine VO.mv ?_
      refine VO.y rfl (.nilp rfl) ?_
      refine VO.y rfl (.fa rfl tst136 rfl) ?_
      refine VO.store (k := 1) (c' := [Value.slice A8 ((B_.drop (rNum B_ ((d0.1.length : Nat) : Int) (at_, d0.2)).2.1.toNat).length) (c0_0 - (((rNum B_ ((d0.1.length : Nat) : Int) (at_, d0.2)).2.1 - at_).toNat)), Value.bool true]) 1 rfl rfl (.inr ⟨tk4, rfl⟩) rfl rfl rfl rfl rfl ?_
      refine VO.k4 0 2 3 25 ?_
      refine VC.rs ?_
      refine VO.y rfl (.bst (cs := [Value.int .i64 (0), Value.int .i64 (0), Value.slice none (0) (0)]) rfl tst52 tz52 rfl) ?_
      refine VO.store (k := 3) (c' := [Value.int .i64 (0), Value.int .i64 (0), Value.slice none (0) (0)]) 102 rfl rfl (.inl tk52) rfl rfl rfl rfl rfl ?_
      refine VO.k4 0 2 3 25 ?_
      refine VC.ret ?_
      refine outR ?_
      refine ⟨_, _, res_run (rs := [.cell 2 52]) rfl (.agg 102 rfl tk52 rfl ⟨_, _, _, mone_self _ _, Nat.le_of_ble_eq_true rfl, rfl⟩ .nil), fun W_ hI => out_of (l := [mone g0 (.cells [Value.slice A8 ((B_.drop (rNum B_ ((d0.1.length : Nat) : Int) (at_, d0.2)).2.1.toNat).length) (c0_0 - (((rNum B_ ((d0.1.length : Nat) : Int) (at_, d0.2)).2.1 - at_).toNat)), Value.bool true].toArray E0 (0, 0))]) hI [1] rfl rfl (mle_refl _) (fun hS_ => ?_)⟩
      dsimp only [packV]
      have he0 : ((lComm B_ (at_, d0.2)).1 : Ty.Den TCommit) = (0, 0, []) := by first | rfl | (first | (rw [lComm_1 hz (by assumption)] <;> rfl) | (rw [lComm_2 hz (by assumption) (by omega)] <;> rfl) | (rw [lComm_3 hz (by assumption) (by omega)] <;> rfl))
      have hm0_1 : ((lComm B_ (at_, d0.2)).2.2 : Bool) = true := by first | rfl | (first | (rw [lComm_1 hz (by assumption)] <;> rfl) | (rw [lComm_2 hz (by assumption) (by omega)] <;> rfl) | (rw [lComm_3 hz (by assumption) (by omega)] <;> rfl))
      refine ⟨[Value.int .i64 (0), Value.int .i64 (0), Value.slice none (0) (0)], muns [], ?_, ?_, ?_⟩
      rotate_left
      · have hbx : mone g0 (.cells [(dropV (dropV (Value.slice A0_0 d0.1.length c0_0) (((rNum B_ ((B_.length : Int) - at_) (at_, d0.2)).2.1 - at_).toNat) 1) (((lComm B_ (at_, d0.2)).2.1 - (rNum B_ ((B_.length : Int) - at_) (at_, d0.2)).2.1).toNat) 1 : Value), .bool ((lComm B_ (at_, d0.2)).2.2)].toArray E0 (0, 0)) = mone g0 (.cells [Value.slice A8 ((B_.drop (rNum B_ ((d0.1.length : Nat) : Int) (at_, d0.2)).2.1.toNat).length) (c0_0 - (((rNum B_ ((d0.1.length : Nat) : Int) (at_, d0.2)).2.1 - at_).toNat)), Value.bool true].toArray E0 (0, 0)) := (by rw [hm0_1]; first | rfl | (first | (rw [lComm_1 hz (by assumption)]; dsimp only; rw [← hz]; simp only [Int.sub_self, Int.toNat_zero, dropV_zero2]; simp only [dropV, hA8, hl8]; done) | (rw [lComm_2 hz (by assumption) (by omega)]; dsimp only; rw [← hz]; simp only [Int.sub_self, Int.toNat_zero, dropV_zero2]; simp only [dropV, hA8, hl8]; done) | (rw [lComm_3 hz (by assumption) (by omega)]; dsimp only; rw [← hz]; simp only [add_sub_it]; simp only [dropV, hA8, hl8]; done)))
        show Seps _ [muns [], mone g0 (.cells [(dropV (dropV (Value.slice A0_0 d0.1.length c0_0) (((rNum B_ ((B_.length : Int) - at_) (at_, d0.2)).2.1 - at_).toNat) 1) (((lComm B_ (at_, d0.2)).2.1 - (rNum B_ ((B_.length : Int) - at_) (at_, d0.2)).2.1).toNat) 1 : Value), .bool ((lComm B_ (at_, d0.2)).2.2)].toArray E0 (0, 0))]
        rw [hbx]
        exact Seps.grpM (ls := [[], [mone g0 (.cells [Value.slice A8 ((B_.drop (rNum B_ ((d0.1.length : Nat) : Int) (at_, d0.2)).2.1.toNat).length) (c0_0 - (((rNum B_ ((d0.1.length : Nat) : Int) (at_, d0.2)).2.1 - at_).toNat)), Value.bool true].toArray E0 (0, 0))]]) hS_ (by simp only [List.map, muns_one])
      · rw [he0]; exact (mkO_Commit 0 0 [] (Seps.nilAt 0 (Seps.self hS_ (List.Sublist.cons _ List.Sublist.slnil))) bdk bdk (Ow.nil _ _))
      all_goals (first | rfl | (simp [*]; done))
    · -- FF
      refine VC.skip ?_
      refine outN ?_
      refine VC.rs ?_
      refine VO.mv ?_
      refine VO.y rfl (.nilp rfl) ?_
      refine VO.y rfl (.fa rfl tst136 rfl) ?_
      refine VO.y rfl (.ld1 1 rfl tk23 rfl (cellsAt_one rfl rfl)) ?_
      refine VO.mv ?_
      have hs11 := hd8.pre (j := (((rNum B_ ((d0.1.length : Nat) : Int) (at_, d0.2)).1).toNat)) bd
      refine VO.y rfl (.slHI (((rNum B_ ((d0.1.length : Nat) : Int) (at_, d0.2)).1).toNat) rfl rfl tsl23 bd bd) ?_
      refine VO.callN 112 rfl fnOk46 rfl (fun W hW => cDecode_ok_ W (Rd.mono hs11 (hW.at (i := 0) rfl))) (fun v12 m12 hv12 => ?_)
      obtain ⟨s12_0, rfl, f12_0⟩ := hv12
      have hfa13 := cDecode_fits ((B_.drop (rNum B_ ((d0.1.length : Nat) : Int) (at_, d0.2)).2.1.toNat).take (((rNum B_ ((d0.1.length : Nat) : Int) (at_, d0.2)).1).toNat))
      obtain ⟨q12_0_A2, q12_0_c2, q12_0_n2, rfl, q12_0_S, q12_0_0, q12_0_1, q12_0_2⟩ := openO_Commit (x0 := ((cDecode ((B_.drop (rNum B_ ((d0.1.length : Nat) : Int) (at_, d0.2)).2.1.toNat).take (((rNum B_ ((d0.1.length : Nat) : Int) (at_, d0.2)).1).toNat))).1).1) (x1 := ((cDecode ((B_.drop (rNum B_ ((d0.1.length : Nat) : Int) (at_, d0.2)).2.1.toNat).take (((rNum B_ ((d0.1.length : Nat) : Int) (at_, d0.2)).1).toNat))).1).2.1) (x2 := ((cDecode ((B_.drop (rNum B_ ((d0.1.length : Nat) : Int) (at_, d0.2)).2.1.toNat).take (((rNum B_ ((d0.1.length : Nat) : Int) (at_, d0.2)).1).toNat))).1).2.2) f12_0
      simp only [inK] at q12_0_0
      simp only [inK] at q12_0_1
      have q12_0_r2 := Rd.room (q12_0_2.rd (mle_refl _))
      refine VO.inv _ (fun _ h => h.parts (i := 112) rfl q12_0_S [114]) ?_
      refine VO.mv ?_
      refine VO.y rfl (.ext rfl rfl) ?_
      refine VO.y rfl (.ext rfl rfl) ?_
      refine VO.alloc 116 rfl tz52 (fun g15 => ?_)
      refine VO.store (k := 3) (c' := [Value.int .i64 (((cDecode ((B_.drop (rNum B_ ((d0.1.length : Nat) : Int) (at_, d0.2)).2.1.toNat).take (((rNum B_ ((d0.1.length : Nat) : Int) (at_, d0.2)).1).toNat))).1).1), Value.int .i64 (((cDecode ((B_.drop (rNum B_ ((d0.1.length : Nat) : Int) (at_, d0.2)).2.1.toNat).take (((rNum B_ ((d0.1.length : Nat) : Int) (at_, d0.2)).1).toNat))).1).2.1), Value.slice q12_0_A2 ((((cDecode ((B_.drop (rNum B_ ((d0.1.length : Nat) : Int) (at_, d0.2)).2.1.toNat).take (((rNum B_ ((d0.1.length : Nat) : Int) (at_, d0.2)).1).toNat))).1).2.2).length) (q12_0_c2)]) 116 rfl rfl (.inl tk52) rfl rfl rfl rfl rfl ?_
      refine VO.as ?_
      refine VO.k6 0 2 3 4 5 25 ?_
      refine VC.rs ?_
      refine VO.mv ?_
      refine VO.mv ?_
      refine VO.y rfl (.neq rfl rfl) ?_
      refine VO.y rfl (.nilp rfl) ?_
      refine VO.y rfl (.fa rfl tst136 rfl) ?_
      refine VO.store (k := 1) (c' := [Value.slice A8 ((B_.drop (rNum B_ ((d0.1.length : Nat) : Int) (at_, d0.2)).2.1.toNat).length) (c0_0 - (((rNum B_ ((d0.1.length : Nat) : Int) (at_, d0.2)).2.1 - at_).toNat)), Value.bool (decide (¬ ((cDecode ((B_.drop (rNum B_ ((d0.1.length : Nat) : Int) (at_, d0.2)).2.1.toNat).take (((rNum B_ ((d0.1.length : Nat) : Int) (at_, d0.2)).1).toNat))).2) = 0))]) 1 rfl rfl (.inr ⟨tk4, rfl⟩) rfl rfl rfl rfl rfl ?_
      refine VO.k6 0 2 3 4 5 25 ?_
      refine VC.rs ?_
      refine VO.mv ?_
      refine VO.mv ?_
      refine VO.y rfl (.nilp rfl) ?_
      refine VO.y rfl (.fa rfl tst136 rfl) ?_
      refine VO.y rfl (.ld1 1 rfl tk23 rfl (cellsAt_one rfl rfl)) ?_
      refine VO.mv ?_
      obtain ⟨A17, hA17, hs17⟩ := hd8.drop 1 (((rNum B_ ((d0.1.length : Nat) : Int) (at_, d0.2)).1).toNat) rfl bd
      refine VO.y rfl (.slLI (((rNum B_ ((d0.1.length : Nat) : Int) (at_, d0.2)).1).toNat) A17 rfl rfl tsl23 bd hA17 bd) ?_
      refine VO.y rfl (.nilp rfl) ?_
      refine VO.y rfl (.fa rfl tst136 rfl) ?_
      refine VO.store (k := 1) (c' := [Value.slice A17 (((B_.drop (rNum B_ ((d0.1.length : Nat) : Int) (at_, d0.2)).2.1.toNat).length) - (((rNum B_ ((d0.1.length : Nat) : Int) (at_, d0.2)).1).toNat)) ((c0_0 - (((rNum B_ ((d0.1.length : Nat) : Int) (at_, d0.2)).2.1 - at_).toNat)) - (((rNum B_ ((d0.1.length : Nat) : Int) (at_, d0.2)).1).toNat)), Value.bool (decide (¬ ((cDecode ((B_.drop (rNum B_ ((d0.1.length : Nat) : Int) (at_, d0.2)).2.1.toNat).take (((rNum B_ ((d0.1.length : Nat) : Int) (at_, d0.2)).1).toNat))).2) = 0))]) 1 rfl rfl (.inr ⟨tk23, rfl⟩) rfl rfl rfl rfl rfl ?_
      refine VO.keep [116, 114, 1, 102, 0] [(116, mone g15 (.cells [Value.int .i64 (((cDecode ((B_.drop (rNum B_ ((d0.1.length : Nat) : Int) (at_, d0.2)).2.1.toNat).take (((rNum B_ ((d0.1.length : Nat) : Int) (at_, d0.2)).1).toNat))).1).1), Value.int .i64 (((cDecode ((B_.drop (rNum B_ ((d0.1.length : Nat) : Int) (at_, d0.2)).2.1.toNat).take (((rNum B_ ((d0.1.length : Nat) : Int) (at_, d0.2)).1).toNat))).1).2.1), Value.slice q12_0_A2 ((((cDecode ((B_.drop (rNum B_ ((d0.1.length : Nat) : Int) (at_, d0.2)).2.1.toNat).take (((rNum B_ ((d0.1.length : Nat) : Int) (at_, d0.2)).1).toNat))).1).2.2).length) (q12_0_c2)].toArray 52 (0, 0))), (114, q12_0_n2), (1, mone g0 (.cells [Value.slice A17 (((B_.drop (rNum B_ ((d0.1.length : Nat) : Int) (at_, d0.2)).2.1.toNat).length) - (((rNum B_ ((d0.1.length : Nat) : Int) (at_, d0.2)).1).toNat)) ((c0_0 - (((rNum B_ ((d0.1.length : Nat) : Int) (at_, d0.2)).2.1 - at_).toNat)) - (((rNum B_ ((d0.1.length : Nat) : Int) (at_, d0.2)).1).toNat)), Value.bool (decide (¬ ((cDecode ((B_.drop (rNum B_ ((d0.1.length : Nat) : Int) (at_, d0.2)).2.1.toNat).take (((rNum B_ ((d0.1.length : Nat) : Int) (at_, d0.2)).1).toNat))).2) = 0))].toArray E0 (0, 0))), (102, mone g1 (.cells [Value.int .i64 (0), Value.int .i64 (0), Value.slice none (0) (0)].toArray 52 (0, 0))), (0, mout (wm W) (mone g0 (.cells [Value.slice A0_0 (d0.1.length) (c0_0), Value.bool d0.2].toArray E0 (0, 0))))] (by kernel_rfl) ?_
      refine VO.k6 0 2 3 4 5 25 ?_
      refine VC.rs ?_
      refine VO.y rfl (.ldA 116 rfl tk52 rfl (cellsAt_one rfl rfl)) ?_
      refine VO.store (k := 3) (c' := [Value.int .i64 (((cDecode ((B_.drop (rNum B_ ((d0.1.length : Nat) : Int) (at_, d0.2)).2.1.toNat).take (((rNum B_ ((d0.1.length : Nat) : Int) (at_, d0.2)).1).toNat))).1).1), Value.int .i64 (((cDecode ((B_.drop (rNum B_ ((d0.1.length : Nat) : Int) (at_, d0.2)).2.1.toNat).take (((rNum B_ ((d0.1.length : Nat) : Int) (at_, d0.2)).1).toNat))).1).2.1), Value.slice q12_0_A2 ((((cDecode ((B_.drop (rNum B_ ((d0.1.length : Nat) : Int) (at_, d0.2)).2.1.toNat).take (((rNum B_ ((d0.1.length : Nat) : Int) (at_, d0.2)).1).toNat))).1).2.2).length) (q12_0_c2)]) 102 rfl rfl (.inl tk52) rfl rfl rfl rfl rfl ?_
      refine VO.k6 0 2 3 4 5 25 ?_
      refine VC.ret ?_
      refine ⟨_, _, res_run (rs := [.cell 2 52]) rfl (.agg 102 rfl tk52 rfl ⟨_, _, _, mone_self _ _, Nat.le_of_ble_eq_true rfl, rfl⟩ .nil), fun W_ hI => out_of (l := [q12_0_n2, mone g0 (.cells [Value.slice A17 (((B_.drop (rNum B_ ((d0.1.length : Nat) : Int) (at_, d0.2)).2.1.toNat).length) - (((rNum B_ ((d0.1.length : Nat) : Int) (at_, d0.2)).1).toNat)) ((c0_0 - (((rNum B_ ((d0.1.length : Nat) : Int) (at_, d0.2)).2.1 - at_).toNat)) - (((rNum B_ ((d0.1.length : Nat) : Int) (at_, d0.2)).1).toNat)), Value.bool (decide (¬ ((cDecode ((B_.drop (rNum B_ ((d0.1.length : Nat) : Int) (at_, d0.2)).2.1.toNat).take (((rNum B_ ((d0.1.length : Nat) : Int) (at_, d0.2)).1).toNat))).2) = 0))].toArray E0 (0, 0))]) hI [114, 1] rfl rfl (mle_refl _) (fun hS_ => ?_)⟩
      dsimp only [packV]
      have he0 : ((lComm B_ (at_, d0.2)).1 : Ty.Den TCommit) = ((cDecode ((B_.drop (rNum B_ ((d0.1.length : Nat) : Int) (at_, d0.2)).2.1.toNat).take (((rNum B_ ((d0.1.length : Nat) : Int) (at_, d0.2)).1).toNat))).1) := by first | rfl | (first | (rw [lComm_1 hz (by assumption)] <;> rfl) | (rw [lComm_2 hz (by assumption) (by omega)] <;> rfl) | (rw [lComm_3 hz (by assumption) (by omega)] <;> rfl))
      have hm0_1 : ((lComm B_ (at_, d0.2)).2.2 : Bool) = decide (¬ ((cDecode ((B_.drop (rNum B_ ((d0.1.length : Nat) : Int) (at_, d0.2)).2.1.toNat).take (((rNum B_ ((d0.1.length : Nat) : Int) (at_, d0.2)).1).toNat))).2) = 0) := by first | rfl | (first | (rw [lComm_1 hz (by assumption)] <;> rfl) | (rw [lComm_2 hz (by assumption) (by omega)] <;> rfl) | (rw [lComm_3 hz (by assumption) (by omega)] <;> rfl))
      refine ⟨[Value.int .i64 (((cDecode ((B_.drop (rNum B_ ((d0.1.length : Nat) : Int) (at_, d0.2)).2.1.toNat).take (((rNum B_ ((d0.1.length : Nat) : Int) (at_, d0.2)).1).toNat))).1).1), Value.int .i64 (((cDecode ((B_.drop (rNum B_ ((d0.1.length : Nat) : Int) (at_, d0.2)).2.1.toNat).take (((rNum B_ ((d0.1.length : Nat) : Int) (at_, d0.2)).1).toNat))).1).2.1), Value.slice q12_0_A2 ((((cDecode ((B_.drop (rNum B_ ((d0.1.length : Nat) : Int) (at_, d0.2)).2.1.toNat).take (((rNum B_ ((d0.1.length : Nat) : Int) (at_, d0.2)).1).toNat))).1).2.2).length) (q12_0_c2)], muns [q12_0_n2], ?_, ?_, ?_⟩
      rotate_left
      · have hbx : mone g0 (.cells [(dropV (dropV (Value.slice A0_0 d0.1.length c0_0) (((rNum B_ ((B_.length : Int) - at_) (at_, d0.2)).2.1 - at_).toNat) 1) (((lComm B_ (at_, d0.2)).2.1 - (rNum B_ ((B_.length : Int) - at_) (at_, d0.2)).2.1).toNat) 1 : Value), .bool ((lComm B_ (at_, d0.2)).2.2)].toArray E0 (0, 0)) = mone g0 (.cells [Value.slice A17 (((B_.drop (rNum B_ ((d0.1.length : Nat) : Int) (at_, d0.2)).2.1.toNat).length) - (((rNum B_ ((d0.1.length : Nat) : Int) (at_, d0.2)).1).toNat)) ((c0_0 - (((rNum B_ ((d0.1.length : Nat) : Int) (at_, d0.2)).2.1 - at_).toNat)) - (((rNum B_ ((d0.1.length : Nat) : Int) (at_, d0.2)).1).toNat)), Value.bool (decide (¬ ((cDecode ((B_.drop (rNum B_ ((d0.1.length : Nat) : Int) (at_, d0.2)).2.1.toNat).take (((rNum B_ ((d0.1.length : Nat) : Int) (at_, d0.2)).1).toNat))).2) = 0))].toArray E0 (0, 0)) := (by rw [hm0_1]; first | rfl | (first | (rw [lComm_1 hz (by assumption)]; dsimp only; rw [← hz]; simp only [Int.sub_self, Int.toNat_zero, dropV_zero2]; simp only [dropV, hA8, hl8, hA17]; done) | (rw [lComm_2 hz (by assumption) (by omega)]; dsimp only; rw [← hz]; simp only [Int.sub_self, Int.toNat_zero, dropV_zero2]; simp only [dropV, hA8, hl8, hA17]; done) | (rw [lComm_3 hz (by assumption) (by omega)]; dsimp only; rw [← hz]; simp only [add_sub_it]; simp only [dropV, hA8, hl8, hA17]; done)))
        show Seps _ [muns [q12_0_n2], mone g0 (.cells [(dropV (dropV (Value.slice A0_0 d0.1.length c0_0) (((rNum B_ ((B_.length : Int) - at_) (at_, d0.2)).2.1 - at_).toNat) 1) (((lComm B_ (at_, d0.2)).2.1 - (rNum B_ ((B_.length : Int) - at_) (at_, d0.2)).2.1).toNat) 1 : Value), .bool ((lComm B_ (at_, d0.2)).2.2)].toArray E0 (0, 0))]
        rw [hbx]
        exact Seps.grpM (ls := [[q12_0_n2], [mone g0 (.cells [Value.slice A17 (((B_.drop (rNum B_ ((d0.1.length : Nat) : Int) (at_, d0.2)).2.1.toNat).length) - (((rNum B_ ((d0.1.length : Nat) : Int) (at_, d0.2)).1).toNat)) ((c0_0 - (((rNum B_ ((d0.1.length : Nat) : Int) (at_, d0.2)).2.1 - at_).toNat)) - (((rNum B_ ((d0.1.length : Nat) : Int) (at_, d0.2)).1).toNat)), Value.bool (decide (¬ ((cDecode ((B_.drop (rNum B_ ((d0.1.length : Nat) : Int) (at_, d0.2)).2.1.toNat).take (((rNum B_ ((d0.1.length : Nat) : Int) (at_, d0.2)).1).toNat))).2) = 0))].toArray E0 (0, 0))]]) hS_ (by simp only [List.map, muns_one])
      · rw [he0]; exact (show Ow TCommit _ _ ((cDecode ((B_.drop (rNum B_ ((d0.1.length : Nat) : Int) (at_, d0.2)).2.1.toNat).take (((rNum B_ ((d0.1.length : Nat) : Int) (at_, d0.2)).1).toNat))).1) from (mkO_Commit (((cDecode ((B_.drop (rNum B_ ((d0.1.length : Nat) : Int) (at_, d0.2)).2.1.toNat).take (((rNum B_ ((d0.1.length : Nat) : Int) (at_, d0.2)).1).toNat))).1).1) (((cDecode ((B_.drop (rNum B_ ((d0.1.length : Nat) : Int) (at_, d0.2)).2.1.toNat).take (((rNum B_ ((d0.1.length : Nat) : Int) (at_, d0.2)).1).toNat))).1).2.1) (((cDecode ((B_.drop (rNum B_ ((d0.1.length : Nat) : Int) (at_, d0.2)).2.1.toNat).take (((rNum B_ ((d0.1.length : Nat) : Int) (at_, d0.2)).1).toNat))).1).2.2) (Seps.self hS_ (List.Sublist.cons_cons _ (List.Sublist.cons _ List.Sublist.slnil))) bdk bdk (OwnL.ow (Ow.ownl q12_0_2 rfl mnil) rfl)))
      all_goals (first | rfl | (simp [*]; done))
end
section
set_option linter.unusedVariables false
set_option linter.unusedSimpArgs false
set_option maxRecDepth 4000
theorem fnOk130 : fnOk Try.prog 130 = true := by kernel_rfl
theorem tz136 : tz Try.prog 136 = some [.slice none 0 0, .bool false] := by kernel_rfl
abbrev nz1 (d0 : Bytes) := rNum d0 3 (0, false)
abbrev nz2 (d0 : Bytes) := rNum d0 1048576 (nz1 d0).2
abbrev nz3 (d0 : Bytes) := rNum d0 1048576 (nz2 d0).2
abbrev nz4 (d0 : Bytes) := rNum d0 3 (nz2 d0).2
abbrev nz5 (d0 : Bytes) := rNum d0 1048576 (nz4 d0).2
abbrev nz6 (d0 : Bytes) := rNum d0 1048576 (nz5 d0).2
abbrev nz7 (d0 : Bytes) := rNum d0 1048576 (nz3 d0).2
abbrev nz8 (d0 : Bytes) := rNum d0 4 (nz7 d0).2
theorem nz1_ok {d0 : Bytes} (h : rOk d0 ((0 : Int), false)) : rOk d0 (nz1 d0).2 ∧ 0 ≤ (nz1 d0).1 ∧ (nz1 d0).1 < 9223372036854775808 ∧ (0 ≤ (3 : Int) → (nz1 d0).1 ≤ 3) ∧ ((0 : Int), false).1 ≤ (nz1 d0).2.1 := rNum_ok h (by omega)
theorem nz2_ok {d0 : Bytes} (h : rOk d0 (nz1 d0).2) : rOk d0 (nz2 d0).2 ∧ 0 ≤ (nz2 d0).1 ∧ (nz2 d0).1 < 9223372036854775808 ∧ (0 ≤ (1048576 : Int) → (nz2 d0).1 ≤ 1048576) ∧ (nz1 d0).2.1 ≤ (nz2 d0).2.1 := rNum_ok h (by omega)
theorem nz3_ok {d0 : Bytes} (h : rOk d0 (nz2 d0).2) : rOk d0 (nz3 d0).2 ∧ 0 ≤ (nz3 d0).1 ∧ (nz3 d0).1 < 9223372036854775808 ∧ (0 ≤ (1048576 : Int) → (nz3 d0).1 ≤ 1048576) ∧ (nz2 d0).2.1 ≤ (nz3 d0).2.1 := rNum_ok h (by omega)
theorem nz4_ok {d0 : Bytes} (h : rOk d0 (nz2 d0).2) : rOk d0 (nz4 d0).2 ∧ 0 ≤ (nz4 d0).1 ∧ (nz4 d0).1 < 9223372036854775808 ∧ (0 ≤ (3 : Int) → (nz4 d0).1 ≤ 3) ∧ (nz2 d0).2.1 ≤ (nz4 d0).2.1 := rNum_ok h (by omega)
theorem nz5_ok {d0 : Bytes} (h : rOk d0 (nz4 d0).2) : rOk d0 (nz5 d0).2 ∧ 0 ≤ (nz5 d0).1 ∧ (nz5 d0).1 < 9223372036854775808 ∧ (0 ≤ (1048576 : Int) → (nz5 d0).1 ≤ 1048576) ∧ (nz4 d0).2.1 ≤ (nz5 d0).2.1 := rNum_ok h (by omega)
theorem nz6_ok {d0 : Bytes} (h : rOk d0 (nz5 d0).2) : rOk d0 (nz6 d0).2 ∧ 0 ≤ (nz6 d0).1 ∧ (nz6 d0).1 < 9223372036854775808 ∧ (0 ≤ (1048576 : Int) → (nz6 d0).1 ≤ 1048576) ∧ (nz5 d0).2.1 ≤ (nz6 d0).2.1 := rNum_ok h (by omega)
theorem nz7_ok {d0 : Bytes} (h : rOk d0 (nz3 d0).2) : rOk d0 (nz7 d0).2 ∧ 0 ≤ (nz7 d0).1 ∧ (nz7 d0).1 < 9223372036854775808 ∧ (0 ≤ (1048576 : Int) → (nz7 d0).1 ≤ 1048576) ∧ (nz3 d0).2.1 ≤ (nz7 d0).2.1 := rNum_ok h (by omega)
theorem nz8_ok {d0 : Bytes} (h : rOk d0 (nz7 d0).2) : rOk d0 (nz8 d0).2 ∧ 0 ≤ (nz8 d0).1 ∧ (nz8 d0).1 < 9223372036854775808 ∧ (0 ≤ (4 : Int) → (nz8 d0).1 ≤ 4) ∧ (nz7 d0).2.1 ≤ (nz8 d0).2.1 := rNum_ok h (by omega)
theorem fin0_lDec_ok {P : Prop} (h : P := by first | (unfold lDec; rw [lDecG_kind (by assumption) (by assumption) (by assumption)] <;> rfl) | (unfold lDec; rw [lDecG_no (lRun_h (R := lComm d0) (by assumption) (starts_fin hp (by first | exact .inl (by omega) | exact .inr (by assumption)))) (by first | exact .inl (by assumption) | exact .inr (.inl (by simp only [List.length_drop] at *; omega)) | exact .inr (.inl (by dsimp only; simp only [List.length_drop] at *; omega)) | exact .inr (.inr (by assumption)))] <;> rfl) | (unfold lDec; rw [lDecG_yes (lRun_h (R := lComm d0) (by assumption) (starts_fin hp (by first | exact .inl (by omega) | exact .inr (by assumption)))) (by assumption) (by first | (simp only [List.length_drop] at *; omega) | (dsimp only; simp only [List.length_drop] at *; omega)) (Decidable.not_not.1 (by assumption))] <;> rfl) | (unfold lDec; rw [lDecG_no (lRun_s (R := lComm d0) (by assumption) (by assumption) (comms_fin hp (by first | exact .inl (by omega) | exact .inr (by assumption)))) (by first | exact .inl (by assumption) | exact .inr (.inl (by simp only [List.length_drop] at *; omega)) | exact .inr (.inl (by dsimp only; simp only [List.length_drop] at *; omega)) | exact .inr (.inr (by assumption)))] <;> rfl) | (unfold lDec; rw [lDecG_yes (lRun_s (R := lComm d0) (by assumption) (by assumption) (comms_fin hp (by first | exact .inl (by omega) | exact .inr (by assumption)))) (by assumption) (by first | (simp only [List.length_drop] at *; omega) | (dsimp only; simp only [List.length_drop] at *; omega)) (Decidable.not_not.1 (by assumption))] <;> rfl) | (unfold lDec; rw [lDecG_no (show lRun (lComm d0) d0 = (((nz1 d0).1, (nz2 d0).1, 0, (nz3 d0).1, [], 0, 0, []), ((nz3 d0).2.1, (nz3 d0).2.2)) from lRun_a (by assumption) (by assumption)) (by first | exact .inl (by assumption) | exact .inr (.inl (by simp only [List.length_drop] at *; omega)) | exact .inr (.inl (by dsimp only; simp only [List.length_drop] at *; omega)) | exact .inr (.inr (by assumption)))] <;> rfl) | (unfold lDec; rw [lDecG_yes (show lRun (lComm d0) d0 = (((nz1 d0).1, (nz2 d0).1, 0, (nz3 d0).1, [], 0, 0, []), ((nz3 d0).2.1, (nz3 d0).2.2)) from lRun_a (by assumption) (by assumption)) (by assumption) (by first | (simp only [List.length_drop] at *; omega) | (dsimp only; simp only [List.length_drop] at *; omega)) (Decidable.not_not.1 (by assumption))] <;> rfl) | (exfalso; have n_ := lc_nums (Decidable.not_not.1 (by assumption)); omega)) : P := h
set_option maxHeartbeats 8000000 in
theorem lDec_ok (W : World) {v0 : Value} {d0 : List UInt8} (h0 : Rd (.sl .byte) (wm W) [v0] d0) : CallR Try.prog 89 [v0] W (mnil) (fun v m' => ∃ (s0 : List Value), v = .tuple #[.agg s0.toArray, .int .i64 ((lDec d0).2)] ∧ Ow TMessage m' s0 ((lDec d0).1)) := by
  obtain ⟨A0, c0, rfl, l0, k0⟩ := h0.slice
  simp only [maxLen] at k0
  refine CallR.ofA (n := 102) Try.func89 rfl rfl rfl ?_
  refine VC.rs ?_
  refine VO.alloc 102 rfl tz72 (fun g1 => ?_)
  refine VO.as ?_
  refine VO.k3 0 2 3 ?_
  refine VC.rs ?_
  refine VO.mv ?_
  refine VO.y rfl (.bst (cs := [Value.slice A0 (d0.length) (c0), Value.bool false]) rfl tst136 tz136 rfl) ?_
  refine VO.box (cs := [Value.slice A0 (d0.length) (c0), Value.bool false]) 104 rfl rfl rfl (fun g3 => ?_)
  refine VO.as ?_
  refine VO.k4 0 2 3 4 ?_
  refine VC.rs ?_
  refine VO.mv ?_
  refine VO.call 104 rfl fnOk129 rfl rfl (fun W hW => lNum_ok W (B_ := d0) (at_ := (0 : Int)) (d0 := (d0, false)) (hW.at (i := 104) rfl) (Rd.mono h0 (hW.out (i := 104) (j := 0) rfl rfl)) 3 bdk (by rfl) (by first | assumption | exact ⟨by omega, by omega⟩ | exact ⟨by (simp; done), by (simp; done)⟩)) (fun v5 m5 hv5 => ?_)
  try dsimp only at hv5
  obtain ⟨rfl, rfl⟩ := hv5
  have hfa6 := (nz1_ok (d0 := d0) (by first | assumption | exact ⟨by omega, by omega⟩ | exact ⟨by (simp; done), by (simp; done)⟩)).1
  try dsimp only at hfa6
  have hfa7 := (nz1_ok (d0 := d0) (by first | assumption | exact ⟨by omega, by omega⟩ | exact ⟨by (simp; done), by (simp; done)⟩)).1.1
  try dsimp only at hfa7
  have hfa8 := (nz1_ok (d0 := d0) (by first | assumption | exact ⟨by omega, by omega⟩ | exact ⟨by (simp; done), by (simp; done)⟩)).1.2
  try dsimp only at hfa8
  have hfa9 := (nz1_ok (d0 := d0) (by first | assumption | exact ⟨by omega, by omega⟩ | exact ⟨by (simp; done), by (simp; done)⟩)).2
  try dsimp only at hfa9
  obtain ⟨A10, hA10, hs10⟩ := h0.drop 1 (((nz1 d0).2.1 - (0 : Int)).toNat) rfl bd
  simp only [dropV, hA10]
  have hl10 : d0.length - (((nz1 d0).2.1 - (0 : Int)).toNat) = (d0.drop (nz1 d0).2.1.toNat).length := by simp only [List.length_drop] at *; omega
  have hd10 : Rd (.sl .byte) (wm W) [Value.slice A10 (d0.drop (nz1 d0).2.1.toNat).length (c0 - (((nz1 d0).2.1 - (0 : Int)).toNat))] (d0.drop (nz1 d0).2.1.toNat) := Rd.relen (by have h_ : Rd (.sl .byte) (wm W) [Value.slice A10 ((d0).length - (((nz1 d0).2.1 - (0 : Int)).toNat)) (c0 - (((nz1 d0).2.1 - (0 : Int)).toNat))] ((d0.drop (0 : Int).toNat).drop (((nz1 d0).2.1 - (0 : Int)).toNat)) := hs10; rw [drop_at (by omega) (by omega)] at h_; exact h_) rfl
  rw [hl10]
  refine VO.mv ?_
  refine VO.call 104 rfl fnOk129 rfl rfl (fun W hW => lNum_ok W (B_ := d0) (at_ := (nz1 d0).2.1) (d0 := (d0.drop (nz1 d0).2.1.toNat, (nz1 d0).2.2)) (hW.at (i := 104) rfl) (Rd.mono hd10 (hW.out (i := 104) (j := 0) rfl rfl)) 1048576 bdk (by rfl) (by first | assumption | exact ⟨by omega, by omega⟩ | exact ⟨by (simp; done), by (simp; done)⟩)) (fun v11 m11 hv11 => ?_)
  try dsimp only at hv11
  obtain ⟨rfl, rfl⟩ := hv11
  have hfa12 := (nz2_ok (d0 := d0) (by first | assumption | exact ⟨by omega, by omega⟩ | exact ⟨by (simp; done), by (simp; done)⟩)).1
  try dsimp only at hfa12
  have hfa13 := (nz2_ok (d0 := d0) (by first | assumption | exact ⟨by omega, by omega⟩ | exact ⟨by (simp; done), by (simp; done)⟩)).1.1
  try dsimp only at hfa13
  have hfa14 := (nz2_ok (d0 := d0) (by first | assumption | exact ⟨by omega, by omega⟩ | exact ⟨by (simp; done), by (simp; done)⟩)).1.2
  try dsimp only at hfa14
  have hfa15 := (nz2_ok (d0 := d0) (by first | assumption | exact ⟨by omega, by omega⟩ | exact ⟨by (simp; done), by (simp; done)⟩)).2
  try dsimp only at hfa15
  obtain ⟨A16, hA16, hs16⟩ := hd10.drop 1 (((nz2 d0).2.1 - (nz1 d0).2.1).toNat) rfl bd
  simp only [dropV, hA16]
  have hl16 : ((d0.drop (nz1 d0).2.1.toNat).length) - (((nz2 d0).2.1 - (nz1 d0).2.1).toNat) = (d0.drop (nz2 d0).2.1.toNat).length := by simp only [List.length_drop] at *; omega
  have hd16 : Rd (.sl .byte) (wm W) [Value.slice A16 (d0.drop (nz2 d0).2.1.toNat).length ((c0 - (((nz1 d0).2.1 - (0 : Int)).toNat)) - (((nz2 d0).2.1 - (nz1 d0).2.1).toNat))] (d0.drop (nz2 d0).2.1.toNat) := Rd.relen (by have h_ : Rd (.sl .byte) (wm W) [Value.slice A16 ((d0.drop (nz1 d0).2.1.toNat).length - (((nz2 d0).2.1 - (nz1 d0).2.1).toNat)) ((c0 - (((nz1 d0).2.1 - (0 : Int)).toNat)) - (((nz2 d0).2.1 - (nz1 d0).2.1).toNat))] ((d0.drop ((nz1 d0).2.1).toNat).drop (((nz2 d0).2.1 - (nz1 d0).2.1).toNat)) := hs16; rw [drop_at (by omega) (by omega)] at h_; exact h_) rfl
  rw [hl16]
  refine VO.y rfl (.bst (cs := [Value.int .i64 ((nz1 d0).1), Value.int .i64 ((nz2 d0).1), Value.int .u8 (0), Value.int .i64 (0), Value.slice none (0) (0), Value.int .i64 (0), Value.int .i64 (0), Value.slice none (0) (0)]) rfl tst72 tz72 rfl) ?_
  refine VO.alloc 118 rfl tz72 (fun g17 => ?_)
  refine VO.store (k := 8) (c' := [Value.int .i64 ((nz1 d0).1), Value.int .i64 ((nz2 d0).1), Value.int .u8 (0), Value.int .i64 (0), Value.slice none (0) (0), Value.int .i64 (0), Value.int .i64 (0), Value.slice none (0) (0)]) 118 rfl rfl (.inl tk72) rfl rfl rfl rfl rfl ?_
  refine VO.keep [118, 104, 102, 0] [(118, mone g17 (.cells [Value.int .i64 ((nz1 d0).1), Value.int .i64 ((nz2 d0).1), Value.int .u8 (0), Value.int .i64 (0), Value.slice none (0) (0), Value.int .i64 (0), Value.int .i64 (0), Value.slice none (0) (0)].toArray 72 (0, 0))), (104, mone g3 (.cells [Value.slice A16 ((d0.drop (nz2 d0).2.1.toNat).length) ((c0 - (((nz1 d0).2.1 - (0 : Int)).toNat)) - (((nz2 d0).2.1 - (nz1 d0).2.1).toNat)), Value.bool ((nz2 d0).2.2)].toArray 136 (0, 0))), (102, mone g1 (.cells [Value.int .i64 (0), Value.int .i64 (0), Value.int .u8 (0), Value.int .i64 (0), Value.slice none (0) (0), Value.int .i64 (0), Value.int .i64 (0), Value.slice none (0) (0)].toArray 72 (0, 0))), (0, wm W)] (by kernel_rfl) ?_
  refine VO.k5 0 2 3 4 5 ?_
  refine VC.seq ?_
  refine VC.rs ?_
  refine VO.y rfl (.fa rfl tst72 rfl) ?_
  refine VO.y rfl (.ld1 118 rfl tk3 rfl (cellsAt_one rfl rfl)) ?_
  refine VO.k6 0 2 3 4 5 17 ?_
  refine VC.block ?_
  refine VC.rs ?_
  refine VO.y rfl (.eql rfl rfl) ?_
  refine VO.as ?_
  refine VO.k7 0 2 3 4 5 17 18 ?_
  refine VC.cond rfl (fun hc19 => ?_) (fun hc19 => ?_)
  · -- T
    refine VC.rs ?_
    refine VO.mv ?_
    refine VO.call 104 rfl fnOk129 rfl rfl (fun W hW => lNum_ok W (B_ := d0) (at_ := (nz2 d0).2.1) (d0 := (d0.drop (nz2 d0).2.1.toNat, (nz2 d0).2.2)) (hW.at (i := 104) rfl) (Rd.mono hd16 (hW.out (i := 104) (j := 0) rfl rfl)) 3 bdk (by rfl) (by first | assumption | exact ⟨by omega, by omega⟩ | exact ⟨by (simp; done), by (simp; done)⟩)) (fun v20 m20 hv20 => ?_)
    try dsimp only at hv20
    obtain ⟨rfl, rfl⟩ := hv20
    have hfa21 := (nz4_ok (d0 := d0) (by first | assumption | exact ⟨by omega, by omega⟩ | exact ⟨by (simp; done), by (simp; done)⟩)).1
    try dsimp only at hfa21
    have hfa22 := (nz4_ok (d0 := d0) (by first | assumption | exact ⟨by omega, by omega⟩ | exact ⟨by (simp; done), by (simp; done)⟩)).1.1
    try dsimp only at hfa22
    have hfa23 := (nz4_ok (d0 := d0) (by first | assumption | exact ⟨by omega, by omega⟩ | exact ⟨by (simp; done), by (simp; done)⟩)).1.2
    try dsimp only at hfa23
    have hfa24 := (nz4_ok (d0 := d0) (by first | assumption | exact ⟨by omega, by omega⟩ | exact ⟨by (simp; done), by (simp; done)⟩)).2
    try dsimp only at hfa24
    obtain ⟨A25, hA25, hs25⟩ := hd16.drop 1 (((nz4 d0).2.1 - (nz2 d0).2.1).toNat) rfl bd
    simp only [dropV, hA25]
    have hl25 : ((d0.drop (nz2 d0).2.1.toNat).length) - (((nz4 d0).2.1 - (nz2 d0).2.1).toNat) = (d0.drop (nz4 d0).2.1.toNat).length := by simp only [List.length_drop] at *; omega
    have hd25 : Rd (.sl .byte) (wm W) [Value.slice A25 (d0.drop (nz4 d0).2.1.toNat).length (((c0 - (((nz1 d0).2.1 - (0 : Int)).toNat)) - (((nz2 d0).2.1 - (nz1 d0).2.1).toNat)) - (((nz4 d0).2.1 - (nz2 d0).2.1).toNat))] (d0.drop (nz4 d0).2.1.toNat) := Rd.relen (by have h_ : Rd (.sl .byte) (wm W) [Value.slice A25 ((d0.drop (nz2 d0).2.1.toNat).length - (((nz4 d0).2.1 - (nz2 d0).2.1).toNat)) (((c0 - (((nz1 d0).2.1 - (0 : Int)).toNat)) - (((nz2 d0).2.1 - (nz1 d0).2.1).toNat)) - (((nz4 d0).2.1 - (nz2 d0).2.1).toNat))] ((d0.drop ((nz2 d0).2.1).toNat).drop (((nz4 d0).2.1 - (nz2 d0).2.1).toNat)) := hs25; rw [drop_at (by omega) (by omega)] at h_; exact h_) rfl
    rw [hl25]
    refine VO.y rfl (.cvI (a := (nz4 d0).1) (c := (nz4 d0).1) rfl ⟨_, Try.underlying3⟩ Try.underlying69 (IntWalk.u8_in _ bd)) ?_
    refine VO.mv ?_
    refine VO.call 104 rfl fnOk129 rfl rfl (fun W hW => lNum_ok W (B_ := d0) (at_ := (nz4 d0).2.1) (d0 := (d0.drop (nz4 d0).2.1.toNat, (nz4 d0).2.2)) (hW.at (i := 104) rfl) (Rd.mono hd25 (hW.out (i := 104) (j := 0) rfl rfl)) 1048576 bdk (by rfl) (by first | assumption | exact ⟨by omega, by omega⟩ | exact ⟨by (simp; done), by (simp; done)⟩)) (fun v26 m26 hv26 => ?_)
    try dsimp only at hv26
    obtain ⟨rfl, rfl⟩ := hv26
    have hfa27 := (nz5_ok (d0 := d0) (by first | assumption | exact ⟨by omega, by omega⟩ | exact ⟨by (simp; done), by (simp; done)⟩)).1
    try dsimp only at hfa27
    have hfa28 := (nz5_ok (d0 := d0) (by first | assumption | exact ⟨by omega, by omega⟩ | exact ⟨by (simp; done), by (simp; done)⟩)).1.1
    try dsimp only at hfa28
    have hfa29 := (nz5_ok (d0 := d0) (by first | assumption | exact ⟨by omega, by omega⟩ | exact ⟨by (simp; done), by (simp; done)⟩)).1.2
    try dsimp only at hfa29
    have hfa30 := (nz5_ok (d0 := d0) (by first | assumption | exact ⟨by omega, by omega⟩ | exact ⟨by (simp; done), by (simp; done)⟩)).2
    try dsimp only at hfa30
    obtain ⟨A31, hA31, hs31⟩ := hd25.drop 1 (((nz5 d0).2.1 - (nz4 d0).2.1).toNat) rfl bd
    simp only [dropV, hA31]
    have hl31 : ((d0.drop (nz4 d0).2.1.toNat).length) - (((nz5 d0).2.1 - (nz4 d0).2.1).toNat) = (d0.drop (nz5 d0).2.1.toNat).length := by simp only [List.length_drop] at *; omega
    have hd31 : Rd (.sl .byte) (wm W) [Value.slice A31 (d0.drop (nz5 d0).2.1.toNat).length ((((c0 - (((nz1 d0).2.1 - (0 : Int)).toNat)) - (((nz2 d0).2.1 - (nz1 d0).2.1).toNat)) - (((nz4 d0).2.1 - (nz2 d0).2.1).toNat)) - (((nz5 d0).2.1 - (nz4 d0).2.1).toNat))] (d0.drop (nz5 d0).2.1.toNat) := Rd.relen (by have h_ : Rd (.sl .byte) (wm W) [Value.slice A31 ((d0.drop (nz4 d0).2.1.toNat).length - (((nz5 d0).2.1 - (nz4 d0).2.1).toNat)) ((((c0 - (((nz1 d0).2.1 - (0 : Int)).toNat)) - (((nz2 d0).2.1 - (nz1 d0).2.1).toNat)) - (((nz4 d0).2.1 - (nz2 d0).2.1).toNat)) - (((nz5 d0).2.1 - (nz4 d0).2.1).toNat))] ((d0.drop ((nz4 d0).2.1).toNat).drop (((nz5 d0).2.1 - (nz4 d0).2.1).toNat)) := hs31; rw [drop_at (by omega) (by omega)] at h_; exact h_) rfl
    rw [hl31]
    refine VO.y rfl (.fa rfl tst72 rfl) ?_
    refine VO.store (k := 1) (c' := [Value.int .i64 ((nz1 d0).1), Value.int .i64 ((nz2 d0).1), Value.int .u8 ((nz4 d0).1), Value.int .i64 (0), Value.slice none (0) (0), Value.int .i64 (0), Value.int .i64 (0), Value.slice none (0) (0)]) 118 rfl rfl (.inr ⟨tk69, rfl⟩) rfl rfl rfl rfl rfl ?_
    refine VO.y rfl (.fa rfl tst72 rfl) ?_
    refine VO.store (k := 1) (c' := [Value.int .i64 ((nz1 d0).1), Value.int .i64 ((nz2 d0).1), Value.int .u8 ((nz4 d0).1), Value.int .i64 ((nz5 d0).1), Value.slice none (0) (0), Value.int .i64 (0), Value.int .i64 (0), Value.slice none (0) (0)]) 118 rfl rfl (.inr ⟨tk3, rfl⟩) rfl rfl rfl rfl rfl ?_
    refine VO.keep [104, 118, 102, 0] [(104, mone g3 (.cells [Value.slice A31 ((d0.drop (nz5 d0).2.1.toNat).length) ((((c0 - (((nz1 d0).2.1 - (0 : Int)).toNat)) - (((nz2 d0).2.1 - (nz1 d0).2.1).toNat)) - (((nz4 d0).2.1 - (nz2 d0).2.1).toNat)) - (((nz5 d0).2.1 - (nz4 d0).2.1).toNat)), Value.bool ((nz5 d0).2.2)].toArray 136 (0, 0))), (118, mone g17 (.cells [Value.int .i64 ((nz1 d0).1), Value.int .i64 ((nz2 d0).1), Value.int .u8 ((nz4 d0).1), Value.int .i64 ((nz5 d0).1), Value.slice none (0) (0), Value.int .i64 (0), Value.int .i64 (0), Value.slice none (0) (0)].toArray 72 (0, 0))), (102, mone g1 (.cells [Value.int .i64 (0), Value.int .i64 (0), Value.int .u8 (0), Value.int .i64 (0), Value.slice none (0) (0), Value.int .i64 (0), Value.int .i64 (0), Value.slice none (0) (0)].toArray 72 (0, 0))), (0, wm W)] (by kernel_rfl) ?_
    refine VO.k7 0 2 3 4 5 17 18 ?_
    refine VC.rs ?_
    refine VO.mv ?_
    refine VO.call 104 rfl fnOk129 rfl rfl (fun W hW => lNum_ok W (B_ := d0) (at_ := (nz5 d0).2.1) (d0 := (d0.drop (nz5 d0).2.1.toNat, (nz5 d0).2.2)) (hW.at (i := 104) rfl) (Rd.mono hd31 (hW.out (i := 104) (j := 0) rfl rfl)) 1048576 bdk (by rfl) (by first | assumption | exact ⟨by omega, by omega⟩ | exact ⟨by (simp; done), by (simp; done)⟩)) (fun v32 m32 hv32 => ?_)
    try dsimp only at hv32
    obtain ⟨rfl, rfl⟩ := hv32
    have hfa33 := (nz6_ok (d0 := d0) (by first | assumption | exact ⟨by omega, by omega⟩ | exact ⟨by (simp; done), by (simp; done)⟩)).1
    try dsimp only at hfa33
    have hfa34 := (nz6_ok (d0 := d0) (by first | assumption | exact ⟨by omega, by omega⟩ | exact ⟨by (simp; done), by (simp; done)⟩)).1.1
    try dsimp only at hfa34
    have hfa35 := (nz6_ok (d0 := d0) (by first | assumption | exact ⟨by omega, by omega⟩ | exact ⟨by (simp; done), by (simp; done)⟩)).1.2
    try dsimp only at hfa35
    have hfa36 := (nz6_ok (d0 := d0) (by first | assumption | exact ⟨by omega, by omega⟩ | exact ⟨by (simp; done), by (simp; done)⟩)).2
    try dsimp only at hfa36
    obtain ⟨A37, hA37, hs37⟩ := hd31.drop 1 (((nz6 d0).2.1 - (nz5 d0).2.1).toNat) rfl bd
    simp only [dropV, hA37]
    have hl37 : ((d0.drop (nz5 d0).2.1.toNat).length) - (((nz6 d0).2.1 - (nz5 d0).2.1).toNat) = (d0.drop (nz6 d0).2.1.toNat).length := by simp only [List.length_drop] at *; omega
    have hd37 : Rd (.sl .byte) (wm W) [Value.slice A37 (d0.drop (nz6 d0).2.1.toNat).length (((((c0 - (((nz1 d0).2.1 - (0 : Int)).toNat)) - (((nz2 d0).2.1 - (nz1 d0).2.1).toNat)) - (((nz4 d0).2.1 - (nz2 d0).2.1).toNat)) - (((nz5 d0).2.1 - (nz4 d0).2.1).toNat)) - (((nz6 d0).2.1 - (nz5 d0).2.1).toNat))] (d0.drop (nz6 d0).2.1.toNat) := Rd.relen (by have h_ : Rd (.sl .byte) (wm W) [Value.slice A37 ((d0.drop (nz5 d0).2.1.toNat).length - (((nz6 d0).2.1 - (nz5 d0).2.1).toNat)) (((((c0 - (((nz1 d0).2.1 - (0 : Int)).toNat)) - (((nz2 d0).2.1 - (nz1 d0).2.1).toNat)) - (((nz4 d0).2.1 - (nz2 d0).2.1).toNat)) - (((nz5 d0).2.1 - (nz4 d0).2.1).toNat)) - (((nz6 d0).2.1 - (nz5 d0).2.1).toNat))] ((d0.drop ((nz5 d0).2.1).toNat).drop (((nz6 d0).2.1 - (nz5 d0).2.1).toNat)) := hs37; rw [drop_at (by omega) (by omega)] at h_; exact h_) rfl
    rw [hl37]
    refine VO.as ?_
    refine VO.k8 0 2 3 4 5 6 17 18 ?_
    refine VC.block ?_
    refine VC.inv ((138, mnil) :: _) (fun _ h => h.nilc 138) ?_
    refine VC.loop (G := Int × (List DStart) × (Option Addr) × Nat × Mem × (Option Addr) × Nat × Bool × Int) (fun g => [(6, Value.int .i64 ((g.1))), (0, Value.slice A0 (d0.length) (c0)), (2, Value.pointer (some ⟨g1, 0, none⟩)), (3, Value.int .i64 (0)), (4, Value.pointer (some ⟨g3, 0, none⟩)), (5, Value.pointer (some ⟨g17, 0, none⟩)), (17, Value.int .i64 ((nz1 d0).1)), (18, Value.bool (decide (((nz1 d0).1) = 1)))]) (fun g => [(138, (g.2.2.2.2.1)), (104, mone g3 (.cells [Value.slice (g.2.2.2.2.2.1) ((d0.drop (g.2.2.2.2.2.2.2.2).toNat).length) ((g.2.2.2.2.2.2.1)), Value.bool (g.2.2.2.2.2.2.2.1)].toArray 136 (0, 0))), (118, mone g17 (.cells [Value.int .i64 ((nz1 d0).1), Value.int .i64 ((nz2 d0).1), Value.int .u8 ((nz4 d0).1), Value.int .i64 ((nz5 d0).1), Value.slice (g.2.2.1) ((g.2.1).length) ((g.2.2.2.1)), Value.int .i64 (0), Value.int .i64 (0), Value.slice none (0) (0)].toArray 72 (0, 0))), (102, mone g1 (.cells [Value.int .i64 (0), Value.int .i64 (0), Value.int .u8 (0), Value.int .i64 (0), Value.slice none (0) (0), Value.int .i64 (0), Value.int .i64 (0), Value.slice none (0) (0)].toArray 72 (0, 0))), (0, wm W)]) (fun g => (pStarts d0 (nz6 d0).1.toNat (nz6 d0).2 = ((g.2.1) ++ (pStarts d0 (g.1).toNat ((g.2.2.2.2.2.2.2.2), (g.2.2.2.2.2.2.2.1))).1, (pStarts d0 (g.1).toNat ((g.2.2.2.2.2.2.2.2), (g.2.2.2.2.2.2.2.1))).2)) ∧ ((g.1) ≤ 1048576) ∧ ((g.2.1).length + (g.1).toNat ≤ 1048576) ∧ (rOk d0 ((g.2.2.2.2.2.2.2.2), (g.2.2.2.2.2.2.2.1))) ∧ (OwnL TStart (g.2.2.2.2.1) mnil (.slice (g.2.2.1) (g.2.1).length (g.2.2.2.1)) (g.2.1)) ∧ (Rd (.sl .byte) (wm W) [.slice (g.2.2.2.2.2.1) (d0.drop (g.2.2.2.2.2.2.2.2).toNat).length (g.2.2.2.2.2.2.1)] (d0.drop (g.2.2.2.2.2.2.2.2).toNat))) (fun g => (g.1).toNat) ((nz6 d0).1, [], none, 0, mnil, A37, ((((c0 - (((nz1 d0).2.1 - (0 : Int)).toNat)) - (((nz2 d0).2.1 - (nz1 d0).2.1).toNat)) - (((nz4 d0).2.1 - (nz2 d0).2.1).toNat)) - (((nz5 d0).2.1 - (nz4 d0).2.1).toNat)) - (((nz6 d0).2.1 - (nz5 d0).2.1).toNat), (nz6 d0).2.2, (nz6 d0).2.1) (⟨by rfl, by omega, by (simp; omega), by first | assumption | exact ⟨by omega, by (dsimp only; omega)⟩, (OwnL.nil TStart mnil mnil), hd37⟩) ⟨⟨rfl, rfl, rfl, rfl, rfl, rfl, rfl, rfl, trivial⟩, fun _ h => h.sub [138, 104, 118, 102, 0]⟩ ?_
    rintro ⟨n, ss, ss_A, ss_c, ss_m, bs_A, bs_c, bad, at_x⟩ ⟨hp, hn, hlen, hok, h_ss, h_bs⟩
    replace hp : pStarts d0 (nz6 d0).1.toNat (nz6 d0).2 = (ss ++ (pStarts d0 n.toNat (at_x, bad)).1, (pStarts d0 n.toNat (at_x, bad)).2) := hp
    replace hn : n ≤ 1048576 := hn
    replace hlen : ss.length + n.toNat ≤ 1048576 := hlen
    replace hok : rOk d0 (at_x, bad) := hok
    replace h_ss : OwnL TStart ss_m mnil (.slice ss_A ss.length ss_c) ss := h_ss
    replace h_bs : Rd (.sl .byte) (wm W) [.slice bs_A (d0.drop at_x.toNat).length bs_c] (d0.drop at_x.toNat) := h_bs
    show VC _ _ _ _ _ [(6, Value.int .i64 (n)), (0, Value.slice A0 (d0.length) (c0)), (2, Value.pointer (some ⟨g1, 0, none⟩)), (3, Value.int .i64 (0)), (4, Value.pointer (some ⟨g3, 0, none⟩)), (5, Value.pointer (some ⟨g17, 0, none⟩)), (17, Value.int .i64 ((nz1 d0).1)), (18, Value.bool (decide (((nz1 d0).1) = 1)))] [(138, ss_m), (104, mone g3 (.cells [Value.slice bs_A ((d0.drop at_x.toNat).length) (bs_c), Value.bool bad].toArray 136 (0, 0))), (118, mone g17 (.cells [Value.int .i64 ((nz1 d0).1), Value.int .i64 ((nz2 d0).1), Value.int .u8 ((nz4 d0).1), Value.int .i64 ((nz5 d0).1), Value.slice ss_A (ss.length) (ss_c), Value.int .i64 (0), Value.int .i64 (0), Value.slice none (0) (0)].toArray 72 (0, 0))), (102, mone g1 (.cells [Value.int .i64 (0), Value.int .i64 (0), Value.int .u8 (0), Value.int .i64 (0), Value.slice none (0) (0), Value.int .i64 (0), Value.int .i64 (0), Value.slice none (0) (0)].toArray 72 (0, 0))), (0, wm W)]
    have l_ss : ss.length ≤ ss_c := by obtain ⟨_, _, he, hl, _⟩ := h_ss.slice; simp only [Value.slice.injEq] at he; omega
    have k_ss : ss_c ≤ 9223372036854775807 := by obtain ⟨_, _, he, _, hl⟩ := h_ss.slice; simp only [Value.slice.injEq, maxLen] at he hl; omega
    have l_bs := Rd.room h_bs
    obtain ⟨hoka, hokb⟩ := (show 0 ≤ at_x ∧ at_x ≤ d0.length from hok)
    refine VC.seq ?_
    refine VC.rs ?_
    refine VO.mv ?_
    refine VO.y rfl (.gtr rfl rfl) ?_
    refine VO.mv ?_
    refine VO.dec (t := 31) rfl (fun hc39 => ?_) (fun hc39 => ?_)
    · -- TT
      refine VO.gy rfl ⟨_, rfl, rfl⟩ (.mv rfl) ?_
      refine VO.gy rfl ⟨_, rfl, rfl⟩ (.nilp rfl) ?_
      refine VO.gy rfl ⟨_, rfl, rfl⟩ (.fa rfl tst136 rfl) ?_
      refine VO.gy rfl ⟨_, rfl, rfl⟩ (.ld1 104 rfl tk4 rfl (cellsAt_one rfl rfl)) ?_
      refine VO.gy rfl ⟨_, rfl, rfl⟩ (.not rfl) ?_
      refine VO.y rfl (.pT rfl rfl) ?_
      refine VO.k9 0 2 3 4 5 6 17 18 37 ?_
      refine VC.condBN rfl (fun hc40 => ?_) (fun hc40 => ?_)
      · -- TTT
        refine VC.skip ?_
        refine outN ?_
        refine VC.seq ?_
        refine VC.block ?_
        refine VC.regD _ 8 [(0, true), (1, true), (2, true), (4, true), (3, false), (5, false), (6, true), (7, false)] follows (by kernel_rfl) (fun _ h => h.sub [138, 118, 102, 0]) ?_
        refine VD.y rfl rfl (.inl rfl) (.fa rfl tst72 rfl) ?_
        refine VD.y rfl rfl (.inl rfl) (.ld1 118 rfl tk70 rfl (cellsAt_one rfl rfl)) ?_
        refine VD.y rfl rfl (.inl rfl) (.mv rfl) ?_
        refine VD.y rfl rfl (.inl rfl) (.mv rfl) ?_
        refine VD.call 104 rfl rfl (.inl rfl) fnOk129 rfl rfl (fun _ _ h => h.sub [138, 118, 102, 0]) (fun W hW => lNum_ok W (B_ := d0) (at_ := at_x) (d0 := (d0.drop at_x.toNat, bad)) (hW.at (i := 104) rfl) (Rd.mono h_bs (hW.out (i := 104) (j := 0) rfl rfl)) 1048576 bdk (by rfl) (by first | assumption | exact ⟨by omega, by omega⟩ | exact ⟨by (simp; done), by (simp; done)⟩)) (fun v41 m41 hv41 => ?_)
        try dsimp only at hv41
        obtain ⟨rfl, rfl⟩ := hv41
        have hfa42 := (rNum_ok (B := d0) (m := 1048576) (s := (at_x, bad)) (by first | assumption | exact ⟨by omega, by omega⟩ | exact ⟨by (simp; done), by (simp; done)⟩) (by omega)).1
        try dsimp only at hfa42
        have hfa43 := (rNum_ok (B := d0) (m := 1048576) (s := (at_x, bad)) (by first | assumption | exact ⟨by omega, by omega⟩ | exact ⟨by (simp; done), by (simp; done)⟩) (by omega)).1.1
        try dsimp only at hfa43
        have hfa44 := (rNum_ok (B := d0) (m := 1048576) (s := (at_x, bad)) (by first | assumption | exact ⟨by omega, by omega⟩ | exact ⟨by (simp; done), by (simp; done)⟩) (by omega)).1.2
        try dsimp only at hfa44
        have hfa45 := (rNum_ok (B := d0) (m := 1048576) (s := (at_x, bad)) (by first | assumption | exact ⟨by omega, by omega⟩ | exact ⟨by (simp; done), by (simp; done)⟩) (by omega)).2
        try dsimp only at hfa45
        obtain ⟨A46, hA46, hs46⟩ := h_bs.drop 1 (((rNum d0 1048576 (at_x, bad)).2.1 - at_x).toNat) rfl bd
        simp only [dropV, hA46]
        have hl46 : ((d0.drop at_x.toNat).length) - (((rNum d0 1048576 (at_x, bad)).2.1 - at_x).toNat) = (d0.drop (rNum d0 1048576 (at_x, bad)).2.1.toNat).length := by simp only [List.length_drop] at *; omega
        have hd46 : Rd (.sl .byte) (wm W) [Value.slice A46 (d0.drop (rNum d0 1048576 (at_x, bad)).2.1.toNat).length (bs_c - (((rNum d0 1048576 (at_x, bad)).2.1 - at_x).toNat))] (d0.drop (rNum d0 1048576 (at_x, bad)).2.1.toNat) := Rd.relen (by have h_ : Rd (.sl .byte) (wm W) [Value.slice A46 ((d0.drop at_x.toNat).length - (((rNum d0 1048576 (at_x, bad)).2.1 - at_x).toNat)) (bs_c - (((rNum d0 1048576 (at_x, bad)).2.1 - at_x).toNat))] ((d0.drop at_x.toNat).drop (((rNum d0 1048576 (at_x, bad)).2.1 - at_x).toNat)) := hs46; rw [drop_at (by omega) (by omega)] at h_; exact h_) rfl
        rw [hl46]
        refine VD.call 104 rfl rfl (.inl rfl) fnOk129 rfl rfl (fun _ _ h => h.sub [138, 118, 102, 0]) (fun W hW => lNum_ok W (B_ := d0) (at_ := (rNum d0 1048576 (at_x, bad)).2.1) (d0 := (d0.drop (rNum d0 1048576 (at_x, bad)).2.1.toNat, (rNum d0 1048576 (at_x, bad)).2.2)) (hW.at (i := 104) rfl) (Rd.mono hd46 (hW.out (i := 104) (j := 0) rfl rfl)) 1048576 bdk (by rfl) (by first | assumption | exact ⟨by omega, by omega⟩ | exact ⟨by (simp; done), by (simp; done)⟩)) (fun v47 m47 hv47 => ?_)
        try dsimp only at hv47
        obtain ⟨rfl, rfl⟩ := hv47
        have hfa48 := (rNum_ok (B := d0) (m := 1048576) (s := ((rNum d0 1048576 (at_x, bad)).2.1, ((rNum d0 1048576 (at_x, bad)).2.2))) (by first | assumption | exact ⟨by omega, by omega⟩ | exact ⟨by (simp; done), by (simp; done)⟩) (by omega)).1
        try dsimp only at hfa48
        have hfa49 := (rNum_ok (B := d0) (m := 1048576) (s := ((rNum d0 1048576 (at_x, bad)).2.1, ((rNum d0 1048576 (at_x, bad)).2.2))) (by first | assumption | exact ⟨by omega, by omega⟩ | exact ⟨by (simp; done), by (simp; done)⟩) (by omega)).1.1
        try dsimp only at hfa49
        have hfa50 := (rNum_ok (B := d0) (m := 1048576) (s := ((rNum d0 1048576 (at_x, bad)).2.1, ((rNum d0 1048576 (at_x, bad)).2.2))) (by first | assumption | exact ⟨by omega, by omega⟩ | exact ⟨by (simp; done), by (simp; done)⟩) (by omega)).1.2
        try dsimp only at hfa50
        have hfa51 := (rNum_ok (B := d0) (m := 1048576) (s := ((rNum d0 1048576 (at_x, bad)).2.1, ((rNum d0 1048576 (at_x, bad)).2.2))) (by first | assumption | exact ⟨by omega, by omega⟩ | exact ⟨by (simp; done), by (simp; done)⟩) (by omega)).2
        try dsimp only at hfa51
        obtain ⟨A52, hA52, hs52⟩ := hd46.drop 1 (((rNum d0 1048576 ((rNum d0 1048576 (at_x, bad)).2.1, ((rNum d0 1048576 (at_x, bad)).2.2))).2.1 - (rNum d0 1048576 (at_x, bad)).2.1).toNat) rfl bd
        simp only [dropV, hA52]
        have hl52 : ((d0.drop (rNum d0 1048576 (at_x, bad)).2.1.toNat).length) - (((rNum d0 1048576 ((rNum d0 1048576 (at_x, bad)).2.1, ((rNum d0 1048576 (at_x, bad)).2.2))).2.1 - (rNum d0 1048576 (at_x, bad)).2.1).toNat) = (d0.drop (rNum d0 1048576 ((rNum d0 1048576 (at_x, bad)).2.1, ((rNum d0 1048576 (at_x, bad)).2.2))).2.1.toNat).length := by simp only [List.length_drop] at *; omega
        have hd52 : Rd (.sl .byte) (wm W) [Value.slice A52 (d0.drop (rNum d0 1048576 ((rNum d0 1048576 (at_x, bad)).2.1, ((rNum d0 1048576 (at_x, bad)).2.2))).2.1.toNat).length ((bs_c - (((rNum d0 1048576 (at_x, bad)).2.1 - at_x).toNat)) - (((rNum d0 1048576 ((rNum d0 1048576 (at_x, bad)).2.1, ((rNum d0 1048576 (at_x, bad)).2.2))).2.1 - (rNum d0 1048576 (at_x, bad)).2.1).toNat))] (d0.drop (rNum d0 1048576 ((rNum d0 1048576 (at_x, bad)).2.1, ((rNum d0 1048576 (at_x, bad)).2.2))).2.1.toNat) := Rd.relen (by have h_ : Rd (.sl .byte) (wm W) [Value.slice A52 ((d0.drop (rNum d0 1048576 (at_x, bad)).2.1.toNat).length - (((rNum d0 1048576 ((rNum d0 1048576 (at_x, bad)).2.1, ((rNum d0 1048576 (at_x, bad)).2.2))).2.1 - (rNum d0 1048576 (at_x, bad)).2.1).toNat)) ((bs_c - (((rNum d0 1048576 (at_x, bad)).2.1 - at_x).toNat)) - (((rNum d0 1048576 ((rNum d0 1048576 (at_x, bad)).2.1, ((rNum d0 1048576 (at_x, bad)).2.2))).2.1 - (rNum d0 1048576 (at_x, bad)).2.1).toNat))] ((d0.drop ((rNum d0 1048576 (at_x, bad)).2.1).toNat).drop (((rNum d0 1048576 ((rNum d0 1048576 (at_x, bad)).2.1, ((rNum d0 1048576 (at_x, bad)).2.2))).2.1 - (rNum d0 1048576 (at_x, bad)).2.1).toNat)) := hs52; rw [drop_at (by omega) (by omega)] at h_; exact h_) rfl
        rw [hl52]
        refine VD.y rfl rfl (.inl rfl) (.bst (cs := [Value.int .i64 ((rNum d0 1048576 (at_x, bad)).1), Value.int .i64 ((rNum d0 1048576 ((rNum d0 1048576 (at_x, bad)).2.1, ((rNum d0 1048576 (at_x, bad)).2.2))).1)]) rfl tst90 tz90 rfl) ?_
        refine VD.bsl (cs := [Value.int .i64 ((rNum d0 1048576 (at_x, bad)).1), Value.int .i64 ((rNum d0 1048576 ((rNum d0 1048576 (at_x, bad)).2.1, ((rNum d0 1048576 (at_x, bad)).2.2))).1)]) 154 rfl rfl rfl tsl70 tz90 rfl rfl (fun _ h => h.sub [138, 118, 102, 0]) (fun g53 => ?_)
        refine VD.nil rfl ?_ rfl
        obtain ⟨mo55, cs55, hM55, hA55, hC55⟩ := h_ss
        refine VO.app 138 rfl rfl rfl tsl70 tz90 rfl rfl hM55 hA55 (.row 154 _ _ _ 1 1 _ _ Try.underlying70 rfl (cellsAt_one rfl rfl)) (by simp [Value.oneCell']) bdm bd (by decide) (fun v55 m55 hN55 => ?_)
        have ho55 : OwnL TStart m55 mnil v55 (ss ++ [((rNum d0 1048576 (at_x, bad)).1, (rNum d0 1048576 ((rNum d0 1048576 (at_x, bad)).2.1, ((rNum d0 1048576 (at_x, bad)).2.2))).1)]) := OwnL.one hC55 hN55 (mk_Start (m := _) ((rNum d0 1048576 (at_x, bad)).1) ((rNum d0 1048576 ((rNum d0 1048576 (at_x, bad)).2.1, ((rNum d0 1048576 (at_x, bad)).2.2))).1) bdk bdk)
        obtain ⟨A55, c55, rfl, l55, k55⟩ := ho55.slice
        simp only [maxLen] at k55
        refine VO.y rfl (.fa rfl tst72 rfl) ?_
        refine VO.store (k := 1) (c' := [Value.int .i64 ((nz1 d0).1), Value.int .i64 ((nz2 d0).1), Value.int .u8 ((nz4 d0).1), Value.int .i64 ((nz5 d0).1), Value.slice A55 ((ss ++ [((rNum d0 1048576 (at_x, bad)).1, (rNum d0 1048576 ((rNum d0 1048576 (at_x, bad)).2.1, ((rNum d0 1048576 (at_x, bad)).2.2))).1)]).length) (c55), Value.int .i64 (0), Value.int .i64 (0), Value.slice none (0) (0)]) 118 rfl rfl (.inr ⟨tk70, rfl⟩) rfl rfl rfl rfl rfl ?_
        refine VO.keep [104, 138, 118, 102, 0] [(104, mone g3 (.cells [Value.slice A52 ((d0.drop (rNum d0 1048576 ((rNum d0 1048576 (at_x, bad)).2.1, ((rNum d0 1048576 (at_x, bad)).2.2))).2.1.toNat).length) ((bs_c - (((rNum d0 1048576 (at_x, bad)).2.1 - at_x).toNat)) - (((rNum d0 1048576 ((rNum d0 1048576 (at_x, bad)).2.1, ((rNum d0 1048576 (at_x, bad)).2.2))).2.1 - (rNum d0 1048576 (at_x, bad)).2.1).toNat)), Value.bool ((rNum d0 1048576 ((rNum d0 1048576 (at_x, bad)).2.1, ((rNum d0 1048576 (at_x, bad)).2.2))).2.2)].toArray 136 (0, 0))), (138, m55), (118, mone g17 (.cells [Value.int .i64 ((nz1 d0).1), Value.int .i64 ((nz2 d0).1), Value.int .u8 ((nz4 d0).1), Value.int .i64 ((nz5 d0).1), Value.slice A55 ((ss ++ [((rNum d0 1048576 (at_x, bad)).1, (rNum d0 1048576 ((rNum d0 1048576 (at_x, bad)).2.1, ((rNum d0 1048576 (at_x, bad)).2.2))).1)]).length) (c55), Value.int .i64 (0), Value.int .i64 (0), Value.slice none (0) (0)].toArray 72 (0, 0))), (102, mone g1 (.cells [Value.int .i64 (0), Value.int .i64 (0), Value.int .u8 (0), Value.int .i64 (0), Value.slice none (0) (0), Value.int .i64 (0), Value.int .i64 (0), Value.slice none (0) (0)].toArray 72 (0, 0))), (0, wm W)] (by kernel_rfl) ?_
        refine VO.k9 0 2 3 4 5 6 17 18 37 ?_
        refine outBN ?_
        refine outN ?_
        refine VC.reg ?_
        refine VO.mv ?_
        refine VO.y rfl (.sub rfl rfl rfl ⟨bd, bd⟩) ?_
        refine VO.as ?_
        refine VO.k9 0 2 3 4 5 6 17 18 37 ?_
        exact outN ⟨⟨n - 1, ss ++ [((rNum d0 1048576 (at_x, bad)).1, (rNum d0 1048576 ((rNum d0 1048576 (at_x, bad)).2.1, ((rNum d0 1048576 (at_x, bad)).2.2))).1)], A55, c55, m55, A52, (bs_c - (((rNum d0 1048576 (at_x, bad)).2.1 - at_x).toNat)) - (((rNum d0 1048576 ((rNum d0 1048576 (at_x, bad)).2.1, ((rNum d0 1048576 (at_x, bad)).2.2))).2.1 - (rNum d0 1048576 (at_x, bad)).2.1).toNat), (rNum d0 1048576 ((rNum d0 1048576 (at_x, bad)).2.1, ((rNum d0 1048576 (at_x, bad)).2.2))).2.2, (rNum d0 1048576 ((rNum d0 1048576 (at_x, bad)).2.1, ((rNum d0 1048576 (at_x, bad)).2.2))).2.1⟩, ⟨by exact starts_step hp (by omega) (by assumption), by omega, by (simp only [List.length_append, List.length_cons, List.length_nil]; omega), by first | assumption | exact ⟨by omega, by (dsimp only; omega)⟩, ho55, hd52⟩, bd, ⟨⟨rfl, rfl, rfl, rfl, rfl, rfl, rfl, rfl, trivial⟩, fun _ h => Inv.sub h [138, 104, 118, 102, 0]⟩⟩
      · -- TTF
        refine VC.exit ?_
        refine outE ?_
        refine outE ?_
        refine outBB ?_
        refine outBN ?_
        refine outN ?_
        refine VC.seq ?_
        refine VC.rs ?_
        refine VO.mv ?_
        refine VO.y rfl (.nilp rfl) ?_
        refine VO.y rfl (.fa rfl tst136 rfl) ?_
        refine VO.y rfl (.ld1 104 rfl tk4 rfl (cellsAt_one rfl rfl)) ?_
        refine VO.mv ?_
        refine VO.known (t := 87) true rfl hc40 ?_
        refine VO.gN ?_
        refine VO.gN ?_
        refine VO.gN ?_
        refine VO.gN ?_
        refine VO.gN ?_
        refine VO.gN ?_
        refine VO.y rfl (.pT rfl rfl) ?_
        refine VO.mv ?_
        refine VO.gN ?_
        refine VO.gN ?_
        refine VO.gN ?_
        refine VO.y rfl (.pT rfl rfl) ?_
        refine VO.keep [138, 104, 118, 102, 0] [(138, ss_m), (104, mone g3 (.cells [Value.slice bs_A ((d0.drop at_x.toNat).length) (bs_c), Value.bool bad].toArray 136 (0, 0))), (118, mone g17 (.cells [Value.int .i64 ((nz1 d0).1), Value.int .i64 ((nz2 d0).1), Value.int .u8 ((nz4 d0).1), Value.int .i64 ((nz5 d0).1), Value.slice ss_A (ss.length) (ss_c), Value.int .i64 (0), Value.int .i64 (0), Value.slice none (0) (0)].toArray 72 (0, 0))), (102, mone g1 (.cells [Value.int .i64 (0), Value.int .i64 (0), Value.int .u8 (0), Value.int .i64 (0), Value.slice none (0) (0), Value.int .i64 (0), Value.int .i64 (0), Value.slice none (0) (0)].toArray 72 (0, 0))), (0, wm W)] (by kernel_rfl) ?_
        refine VO.k10 0 2 3 4 5 6 17 18 37 99 ?_
        refine VC.condT rfl ?_
        refine VC.rs ?_
        refine VO.y rfl (.bst (cs := [Value.int .i64 (0), Value.int .i64 (0), Value.int .u8 (0), Value.int .i64 (0), Value.slice none (0) (0), Value.int .i64 (0), Value.int .i64 (0), Value.slice none (0) (0)]) rfl tst72 tz72 rfl) ?_
        refine VO.store (k := 8) (c' := [Value.int .i64 (0), Value.int .i64 (0), Value.int .u8 (0), Value.int .i64 (0), Value.slice none (0) (0), Value.int .i64 (0), Value.int .i64 (0), Value.slice none (0) (0)]) 102 rfl rfl (.inl tk72) rfl rfl rfl rfl rfl ?_
        refine VO.as ?_
        refine VO.k10 0 2 3 4 5 6 17 18 37 99 ?_
        refine VC.ret ?_
        refine outR ?_
        refine ⟨_, _, res_run (rs := [.cell 2 72, .tmp 3]) rfl (.agg 102 rfl tk72 rfl ⟨_, _, _, mone_self _ _, Nat.le_of_ble_eq_true rfl, rfl⟩ (.tmp rfl .nil)), fun W_ hI => out_of (l := []) hI [] rfl rfl (mle_refl _) (fun hS_ => ?_)⟩
        dsimp only [packV]
        have he0 : ((lDec d0).1 : Ty.Den TMessage) = (0, 0, 0, 0, [], 0, 0, []) := by first | rfl | (exact fin0_lDec_ok)
        refine ⟨[Value.int .i64 (0), Value.int .i64 (0), Value.int .u8 (0), Value.int .i64 (0), Value.slice none (0) (0), Value.int .i64 (0), Value.int .i64 (0), Value.slice none (0) (0)], ?_, ?_⟩
        rotate_left
        · rw [he0]; exact (mkO_Message 0 0 0 0 [] 0 0 [] (Seps.nilAt 1 (Seps.nilAt 0 hS_)) bdk bdk bdk bdk (Ow.nil _ _) bdk bdk (Ow.nil _ _))
        all_goals (first | rfl | (exact fin0_lDec_ok))
    · -- TF
      refine VO.gN ?_
      refine VO.gN ?_
      refine VO.gN ?_
      refine VO.gN ?_
      refine VO.gN ?_
      refine VO.y rfl (.pF rfl rfl) ?_
      refine VO.k9 0 2 3 4 5 6 17 18 37 ?_
      refine VC.condF rfl ?_
      refine VC.exit ?_
      refine outE ?_
      refine outE ?_
      refine outBB ?_
      refine outBN ?_
      refine outN ?_
      refine VC.seq ?_
      refine VC.rs ?_
      refine VO.mv ?_
      refine VO.y rfl (.nilp rfl) ?_
      refine VO.y rfl (.fa rfl tst136 rfl) ?_
      refine VO.y rfl (.ld1 104 rfl tk4 rfl (cellsAt_one rfl rfl)) ?_
      refine VO.mv ?_
      refine VO.decB (t := 87) rfl (fun hc56 => ?_) (fun hc56 => ?_)
      · -- TFT
        refine VO.gN ?_
        refine VO.gN ?_
        refine VO.gN ?_
        refine VO.gN ?_
        refine VO.gN ?_
        refine VO.gN ?_
        refine VO.y rfl (.pT rfl rfl) ?_
        refine VO.mv ?_
        refine VO.gN ?_
        refine VO.gN ?_
        refine VO.gN ?_
        refine VO.y rfl (.pT rfl rfl) ?_
        refine VO.keep [138, 104, 118, 102, 0] [(138, ss_m), (104, mone g3 (.cells [Value.slice bs_A ((d0.drop at_x.toNat).length) (bs_c), Value.bool bad].toArray 136 (0, 0))), (118, mone g17 (.cells [Value.int .i64 ((nz1 d0).1), Value.int .i64 ((nz2 d0).1), Value.int .u8 ((nz4 d0).1), Value.int .i64 ((nz5 d0).1), Value.slice ss_A (ss.length) (ss_c), Value.int .i64 (0), Value.int .i64 (0), Value.slice none (0) (0)].toArray 72 (0, 0))), (102, mone g1 (.cells [Value.int .i64 (0), Value.int .i64 (0), Value.int .u8 (0), Value.int .i64 (0), Value.slice none (0) (0), Value.int .i64 (0), Value.int .i64 (0), Value.slice none (0) (0)].toArray 72 (0, 0))), (0, wm W)] (by kernel_rfl) ?_
        refine VO.k10 0 2 3 4 5 6 17 18 37 99 ?_
        refine VC.condT rfl ?_
        refine VC.rs ?_
        refine VO.y rfl (.bst (cs := [Value.int .i64 (0), Value.int .i64 (0), Value.int .u8 (0), Value.int .i64 (0), Value.slice none (0) (0), Value.int .i64 (0), Value.int .i64 (0), Value.slice none (0) (0)]) rfl tst72 tz72 rfl) ?_
        refine VO.store (k := 8) (c' := [Value.int .i64 (0), Value.int .i64 (0), Value.int .u8 (0), Value.int .i64 (0), Value.slice none (0) (0), Value.int .i64 (0), Value.int .i64 (0), Value.slice none (0) (0)]) 102 rfl rfl (.inl tk72) rfl rfl rfl rfl rfl ?_
        refine VO.as ?_
        refine VO.k10 0 2 3 4 5 6 17 18 37 99 ?_
        refine VC.ret ?_
        refine outR ?_
        refine ⟨_, _, res_run (rs := [.cell 2 72, .tmp 3]) rfl (.agg 102 rfl tk72 rfl ⟨_, _, _, mone_self _ _, Nat.le_of_ble_eq_true rfl, rfl⟩ (.tmp rfl .nil)), fun W_ hI => out_of (l := []) hI [] rfl rfl (mle_refl _) (fun hS_ => ?_)⟩
        dsimp only [packV]
        have he0 : ((lDec d0).1 : Ty.Den TMessage) = (0, 0, 0, 0, [], 0, 0, []) := by first | rfl | (exact fin0_lDec_ok)
        refine ⟨[Value.int .i64 (0), Value.int .i64 (0), Value.int .u8 (0), Value.int .i64 (0), Value.slice none (0) (0), Value.int .i64 (0), Value.int .i64 (0), Value.slice none (0) (0)], ?_, ?_⟩
        rotate_left
        · rw [he0]; exact (mkO_Message 0 0 0 0 [] 0 0 [] (Seps.nilAt 1 (Seps.nilAt 0 hS_)) bdk bdk bdk bdk (Ow.nil _ _) bdk bdk (Ow.nil _ _))
        all_goals (first | rfl | (exact fin0_lDec_ok))
      · -- TFF
        refine VO.gy rfl ⟨_, rfl, rfl⟩ (.mv rfl) ?_
        refine VO.gy rfl ⟨_, rfl, rfl⟩ (.nilp rfl) ?_
        refine VO.gy rfl ⟨_, rfl, rfl⟩ (.fa rfl tst136 rfl) ?_
        refine VO.gy rfl ⟨_, rfl, rfl⟩ (.ld1 104 rfl tk23 rfl (cellsAt_one rfl rfl)) ?_
        refine VO.gy rfl ⟨_, rfl, rfl⟩ (.lenS rfl tsl23) ?_
        refine VO.gy rfl ⟨_, rfl, rfl⟩ (.gtr rfl rfl) ?_
        refine VO.y rfl (.pF rfl rfl) ?_
        refine VO.mv ?_
        refine VO.dec (t := 95) rfl (fun hc57 => ?_) (fun hc57 => ?_)
        · -- TFFT
          refine VO.gN ?_
          refine VO.gN ?_
          refine VO.gN ?_
          refine VO.y rfl (.pT rfl rfl) ?_
          refine VO.keep [138, 104, 118, 102, 0] [(138, ss_m), (104, mone g3 (.cells [Value.slice bs_A ((d0.drop at_x.toNat).length) (bs_c), Value.bool bad].toArray 136 (0, 0))), (118, mone g17 (.cells [Value.int .i64 ((nz1 d0).1), Value.int .i64 ((nz2 d0).1), Value.int .u8 ((nz4 d0).1), Value.int .i64 ((nz5 d0).1), Value.slice ss_A (ss.length) (ss_c), Value.int .i64 (0), Value.int .i64 (0), Value.slice none (0) (0)].toArray 72 (0, 0))), (102, mone g1 (.cells [Value.int .i64 (0), Value.int .i64 (0), Value.int .u8 (0), Value.int .i64 (0), Value.slice none (0) (0), Value.int .i64 (0), Value.int .i64 (0), Value.slice none (0) (0)].toArray 72 (0, 0))), (0, wm W)] (by kernel_rfl) ?_
          refine VO.k10 0 2 3 4 5 6 17 18 37 99 ?_
          refine VC.condT rfl ?_
          refine VC.rs ?_
          refine VO.y rfl (.bst (cs := [Value.int .i64 (0), Value.int .i64 (0), Value.int .u8 (0), Value.int .i64 (0), Value.slice none (0) (0), Value.int .i64 (0), Value.int .i64 (0), Value.slice none (0) (0)]) rfl tst72 tz72 rfl) ?_
          refine VO.store (k := 8) (c' := [Value.int .i64 (0), Value.int .i64 (0), Value.int .u8 (0), Value.int .i64 (0), Value.slice none (0) (0), Value.int .i64 (0), Value.int .i64 (0), Value.slice none (0) (0)]) 102 rfl rfl (.inl tk72) rfl rfl rfl rfl rfl ?_
          refine VO.as ?_
          refine VO.k10 0 2 3 4 5 6 17 18 37 99 ?_
          refine VC.ret ?_
          refine outR ?_
          refine ⟨_, _, res_run (rs := [.cell 2 72, .tmp 3]) rfl (.agg 102 rfl tk72 rfl ⟨_, _, _, mone_self _ _, Nat.le_of_ble_eq_true rfl, rfl⟩ (.tmp rfl .nil)), fun W_ hI => out_of (l := []) hI [] rfl rfl (mle_refl _) (fun hS_ => ?_)⟩
          dsimp only [packV]
          have he0 : ((lDec d0).1 : Ty.Den TMessage) = (0, 0, 0, 0, [], 0, 0, []) := by first | rfl | (exact fin0_lDec_ok)
          refine ⟨[Value.int .i64 (0), Value.int .i64 (0), Value.int .u8 (0), Value.int .i64 (0), Value.slice none (0) (0), Value.int .i64 (0), Value.int .i64 (0), Value.slice none (0) (0)], ?_, ?_⟩
          rotate_left
          · rw [he0]; exact (mkO_Message 0 0 0 0 [] 0 0 [] (Seps.nilAt 1 (Seps.nilAt 0 hS_)) bdk bdk bdk bdk (Ow.nil _ _) bdk bdk (Ow.nil _ _))
          all_goals (first | rfl | (exact fin0_lDec_ok))
        · -- TFFF
          refine VO.gy rfl ⟨_, rfl, rfl⟩ (.ldA 118 rfl tk72 rfl (cellsAt_one rfl rfl)) ?_
          refine VO.gcallN 158 rfl ⟨_, rfl, rfl⟩ fnOk87 rfl (fun W hW => lCheck_ok W (mk_Message (m := wm W) ((nz1 d0).1) ((nz2 d0).1) ((nz4 d0).1) ((nz5 d0).1) ss 0 0 [] bdk bdk bdk bdk (OwnL.rd h_ss (hW.at (i := 138) rfl) (mle_nil _)) bdk bdk (Rd.nil _ _ none 0 (Nat.zero_le _)))) (fun v58 m58 hv58 => ?_)
          try dsimp only at hv58
          subst hv58
          have hfa59 := lCheck_range ((nz1 d0).1, (nz2 d0).1, (nz4 d0).1, (nz5 d0).1, ss, 0, 0, [])
          refine VO.gy rfl ⟨_, rfl, rfl⟩ (.neq rfl rfl) ?_
          refine VO.y rfl (.pF rfl rfl) ?_
          refine VO.keep [138, 104, 118, 102, 0] [(138, ss_m), (104, mone g3 (.cells [Value.slice bs_A ((d0.drop at_x.toNat).length) (bs_c), Value.bool bad].toArray 136 (0, 0))), (118, mone g17 (.cells [Value.int .i64 ((nz1 d0).1), Value.int .i64 ((nz2 d0).1), Value.int .u8 ((nz4 d0).1), Value.int .i64 ((nz5 d0).1), Value.slice ss_A (ss.length) (ss_c), Value.int .i64 (0), Value.int .i64 (0), Value.slice none (0) (0)].toArray 72 (0, 0))), (102, mone g1 (.cells [Value.int .i64 (0), Value.int .i64 (0), Value.int .u8 (0), Value.int .i64 (0), Value.slice none (0) (0), Value.int .i64 (0), Value.int .i64 (0), Value.slice none (0) (0)].toArray 72 (0, 0))), (0, wm W)] (by kernel_rfl) ?_
          refine VO.k10 0 2 3 4 5 6 17 18 37 99 ?_
          refine VC.cond rfl (fun hc60 => ?_) (fun hc60 => ?_)
          · -- TFFFT
            refine VC.rs ?_
            refine VO.y rfl (.bst (cs := [Value.int .i64 (0), Value.int .i64 (0), Value.int .u8 (0), Value.int .i64 (0), Value.slice none (0) (0), Value.int .i64 (0), Value.int .i64 (0), Value.slice none (0) (0)]) rfl tst72 tz72 rfl) ?_
            refine VO.store (k := 8) (c' := [Value.int .i64 (0), Value.int .i64 (0), Value.int .u8 (0), Value.int .i64 (0), Value.slice none (0) (0), Value.int .i64 (0), Value.int .i64 (0), Value.slice none (0) (0)]) 102 rfl rfl (.inl tk72) rfl rfl rfl rfl rfl ?_
            refine VO.as ?_
            refine VO.k10 0 2 3 4 5 6 17 18 37 99 ?_
            refine VC.ret ?_
            refine outR ?_
            refine ⟨_, _, res_run (rs := [.cell 2 72, .tmp 3]) rfl (.agg 102 rfl tk72 rfl ⟨_, _, _, mone_self _ _, Nat.le_of_ble_eq_true rfl, rfl⟩ (.tmp rfl .nil)), fun W_ hI => out_of (l := []) hI [] rfl rfl (mle_refl _) (fun hS_ => ?_)⟩
            dsimp only [packV]
            have he0 : ((lDec d0).1 : Ty.Den TMessage) = (0, 0, 0, 0, [], 0, 0, []) := by first | rfl | (exact fin0_lDec_ok)
            refine ⟨[Value.int .i64 (0), Value.int .i64 (0), Value.int .u8 (0), Value.int .i64 (0), Value.slice none (0) (0), Value.int .i64 (0), Value.int .i64 (0), Value.slice none (0) (0)], ?_, ?_⟩
            rotate_left
            · rw [he0]; exact (mkO_Message 0 0 0 0 [] 0 0 [] (Seps.nilAt 1 (Seps.nilAt 0 hS_)) bdk bdk bdk bdk (Ow.nil _ _) bdk bdk (Ow.nil _ _))
            all_goals (first | rfl | (exact fin0_lDec_ok))
          · -- TFFFF
            refine VC.skip ?_
            refine outN ?_
            refine VC.rs ?_
            refine VO.y rfl (.ldA 118 rfl tk72 rfl (cellsAt_one rfl rfl)) ?_
            refine VO.store (k := 8) (c' := [Value.int .i64 ((nz1 d0).1), Value.int .i64 ((nz2 d0).1), Value.int .u8 ((nz4 d0).1), Value.int .i64 ((nz5 d0).1), Value.slice ss_A (ss.length) (ss_c), Value.int .i64 (0), Value.int .i64 (0), Value.slice none (0) (0)]) 102 rfl rfl (.inl tk72) rfl rfl rfl rfl rfl ?_
            refine VO.as ?_
            refine VO.k10 0 2 3 4 5 6 17 18 37 99 ?_
            refine VC.ret ?_
            refine ⟨_, _, res_run (rs := [.cell 2 72, .tmp 3]) rfl (.agg 102 rfl tk72 rfl ⟨_, _, _, mone_self _ _, Nat.le_of_ble_eq_true rfl, rfl⟩ (.tmp rfl .nil)), fun W_ hI => out_of (l := [ss_m]) hI [138] rfl rfl (mle_refl _) (fun hS_ => ?_)⟩
            dsimp only [packV]
            have he0 : ((lDec d0).1 : Ty.Den TMessage) = ((nz1 d0).1, (nz2 d0).1, (nz4 d0).1, (nz5 d0).1, ss, 0, 0, []) := by first | rfl | (exact fin0_lDec_ok)
            refine ⟨[Value.int .i64 ((nz1 d0).1), Value.int .i64 ((nz2 d0).1), Value.int .u8 ((nz4 d0).1), Value.int .i64 ((nz5 d0).1), Value.slice ss_A (ss.length) (ss_c), Value.int .i64 (0), Value.int .i64 (0), Value.slice none (0) (0)], ?_, ?_⟩
            rotate_left
            · rw [he0]; exact (mkO_Message ((nz1 d0).1) ((nz2 d0).1) ((nz4 d0).1) ((nz5 d0).1) ss 0 0 [] (Seps.nilAt 1 hS_) bdk bdk bdk bdk (OwnL.ow h_ss rfl) bdk bdk (Ow.nil _ _))
            all_goals (first | rfl | (exact fin0_lDec_ok))
  · -- F
    refine VC.rs ?_
    refine VO.y rfl (.eql rfl rfl) ?_
    refine VO.as ?_
    refine VO.keep [118, 104, 102, 0] [(118, mone g17 (.cells [Value.int .i64 ((nz1 d0).1), Value.int .i64 ((nz2 d0).1), Value.int .u8 (0), Value.int .i64 (0), Value.slice none (0) (0), Value.int .i64 (0), Value.int .i64 (0), Value.slice none (0) (0)].toArray 72 (0, 0))), (104, mone g3 (.cells [Value.slice A16 ((d0.drop (nz2 d0).2.1.toNat).length) ((c0 - (((nz1 d0).2.1 - (0 : Int)).toNat)) - (((nz2 d0).2.1 - (nz1 d0).2.1).toNat)), Value.bool ((nz2 d0).2.2)].toArray 136 (0, 0))), (102, mone g1 (.cells [Value.int .i64 (0), Value.int .i64 (0), Value.int .u8 (0), Value.int .i64 (0), Value.slice none (0) (0), Value.int .i64 (0), Value.int .i64 (0), Value.slice none (0) (0)].toArray 72 (0, 0))), (0, wm W)] (by kernel_rfl) ?_
    refine VO.k8 0 2 3 4 5 17 18 50 ?_
    refine VC.cond rfl (fun hc61 => ?_) (fun hc61 => ?_)
    · -- FT
      refine VC.rs ?_
      refine VO.mv ?_
      refine VO.call 104 rfl fnOk129 rfl rfl (fun W hW => lNum_ok W (B_ := d0) (at_ := (nz2 d0).2.1) (d0 := (d0.drop (nz2 d0).2.1.toNat, (nz2 d0).2.2)) (hW.at (i := 104) rfl) (Rd.mono hd16 (hW.out (i := 104) (j := 0) rfl rfl)) 1048576 bdk (by rfl) (by first | assumption | exact ⟨by omega, by omega⟩ | exact ⟨by (simp; done), by (simp; done)⟩)) (fun v62 m62 hv62 => ?_)
      try dsimp only at hv62
      obtain ⟨rfl, rfl⟩ := hv62
      have hfa63 := (nz3_ok (d0 := d0) (by first | assumption | exact ⟨by omega, by omega⟩ | exact ⟨by (simp; done), by (simp; done)⟩)).1
      try dsimp only at hfa63
      have hfa64 := (nz3_ok (d0 := d0) (by first | assumption | exact ⟨by omega, by omega⟩ | exact ⟨by (simp; done), by (simp; done)⟩)).1.1
      try dsimp only at hfa64
      have hfa65 := (nz3_ok (d0 := d0) (by first | assumption | exact ⟨by omega, by omega⟩ | exact ⟨by (simp; done), by (simp; done)⟩)).1.2
      try dsimp only at hfa65
      have hfa66 := (nz3_ok (d0 := d0) (by first | assumption | exact ⟨by omega, by omega⟩ | exact ⟨by (simp; done), by (simp; done)⟩)).2
      try dsimp only at hfa66
      obtain ⟨A67, hA67, hs67⟩ := hd16.drop 1 (((nz3 d0).2.1 - (nz2 d0).2.1).toNat) rfl bd
      simp only [dropV, hA67]
      have hl67 : ((d0.drop (nz2 d0).2.1.toNat).length) - (((nz3 d0).2.1 - (nz2 d0).2.1).toNat) = (d0.drop (nz3 d0).2.1.toNat).length := by simp only [List.length_drop] at *; omega
      have hd67 : Rd (.sl .byte) (wm W) [Value.slice A67 (d0.drop (nz3 d0).2.1.toNat).length (((c0 - (((nz1 d0).2.1 - (0 : Int)).toNat)) - (((nz2 d0).2.1 - (nz1 d0).2.1).toNat)) - (((nz3 d0).2.1 - (nz2 d0).2.1).toNat))] (d0.drop (nz3 d0).2.1.toNat) := Rd.relen (by have h_ : Rd (.sl .byte) (wm W) [Value.slice A67 ((d0.drop (nz2 d0).2.1.toNat).length - (((nz3 d0).2.1 - (nz2 d0).2.1).toNat)) (((c0 - (((nz1 d0).2.1 - (0 : Int)).toNat)) - (((nz2 d0).2.1 - (nz1 d0).2.1).toNat)) - (((nz3 d0).2.1 - (nz2 d0).2.1).toNat))] ((d0.drop ((nz2 d0).2.1).toNat).drop (((nz3 d0).2.1 - (nz2 d0).2.1).toNat)) := hs67; rw [drop_at (by omega) (by omega)] at h_; exact h_) rfl
      rw [hl67]
      refine VO.mv ?_
      refine VO.call 104 rfl fnOk129 rfl rfl (fun W hW => lNum_ok W (B_ := d0) (at_ := (nz3 d0).2.1) (d0 := (d0.drop (nz3 d0).2.1.toNat, (nz3 d0).2.2)) (hW.at (i := 104) rfl) (Rd.mono hd67 (hW.out (i := 104) (j := 0) rfl rfl)) 1048576 bdk (by rfl) (by first | assumption | exact ⟨by omega, by omega⟩ | exact ⟨by (simp; done), by (simp; done)⟩)) (fun v68 m68 hv68 => ?_)
      try dsimp only at hv68
      obtain ⟨rfl, rfl⟩ := hv68
      have hfa69 := (nz7_ok (d0 := d0) (by first | assumption | exact ⟨by omega, by omega⟩ | exact ⟨by (simp; done), by (simp; done)⟩)).1
      try dsimp only at hfa69
      have hfa70 := (nz7_ok (d0 := d0) (by first | assumption | exact ⟨by omega, by omega⟩ | exact ⟨by (simp; done), by (simp; done)⟩)).1.1
      try dsimp only at hfa70
      have hfa71 := (nz7_ok (d0 := d0) (by first | assumption | exact ⟨by omega, by omega⟩ | exact ⟨by (simp; done), by (simp; done)⟩)).1.2
      try dsimp only at hfa71
      have hfa72 := (nz7_ok (d0 := d0) (by first | assumption | exact ⟨by omega, by omega⟩ | exact ⟨by (simp; done), by (simp; done)⟩)).2
      try dsimp only at hfa72
      obtain ⟨A73, hA73, hs73⟩ := hd67.drop 1 (((nz7 d0).2.1 - (nz3 d0).2.1).toNat) rfl bd
      simp only [dropV, hA73]
      have hl73 : ((d0.drop (nz3 d0).2.1.toNat).length) - (((nz7 d0).2.1 - (nz3 d0).2.1).toNat) = (d0.drop (nz7 d0).2.1.toNat).length := by simp only [List.length_drop] at *; omega
      have hd73 : Rd (.sl .byte) (wm W) [Value.slice A73 (d0.drop (nz7 d0).2.1.toNat).length ((((c0 - (((nz1 d0).2.1 - (0 : Int)).toNat)) - (((nz2 d0).2.1 - (nz1 d0).2.1).toNat)) - (((nz3 d0).2.1 - (nz2 d0).2.1).toNat)) - (((nz7 d0).2.1 - (nz3 d0).2.1).toNat))] (d0.drop (nz7 d0).2.1.toNat) := Rd.relen (by have h_ : Rd (.sl .byte) (wm W) [Value.slice A73 ((d0.drop (nz3 d0).2.1.toNat).length - (((nz7 d0).2.1 - (nz3 d0).2.1).toNat)) ((((c0 - (((nz1 d0).2.1 - (0 : Int)).toNat)) - (((nz2 d0).2.1 - (nz1 d0).2.1).toNat)) - (((nz3 d0).2.1 - (nz2 d0).2.1).toNat)) - (((nz7 d0).2.1 - (nz3 d0).2.1).toNat))] ((d0.drop ((nz3 d0).2.1).toNat).drop (((nz7 d0).2.1 - (nz3 d0).2.1).toNat)) := hs73; rw [drop_at (by omega) (by omega)] at h_; exact h_) rfl
      rw [hl73]
      refine VO.y rfl (.fa rfl tst72 rfl) ?_
      refine VO.store (k := 1) (c' := [Value.int .i64 ((nz1 d0).1), Value.int .i64 ((nz2 d0).1), Value.int .u8 (0), Value.int .i64 (0), Value.slice none (0) (0), Value.int .i64 ((nz3 d0).1), Value.int .i64 (0), Value.slice none (0) (0)]) 118 rfl rfl (.inr ⟨tk3, rfl⟩) rfl rfl rfl rfl rfl ?_
      refine VO.y rfl (.fa rfl tst72 rfl) ?_
      refine VO.store (k := 1) (c' := [Value.int .i64 ((nz1 d0).1), Value.int .i64 ((nz2 d0).1), Value.int .u8 (0), Value.int .i64 (0), Value.slice none (0) (0), Value.int .i64 ((nz3 d0).1), Value.int .i64 ((nz7 d0).1), Value.slice none (0) (0)]) 118 rfl rfl (.inr ⟨tk3, rfl⟩) rfl rfl rfl rfl rfl ?_
      refine VO.k8 0 2 3 4 5 17 18 50 ?_
      refine VC.rs ?_
      refine VO.mv ?_
      refine VO.call 104 rfl fnOk129 rfl rfl (fun W hW => lNum_ok W (B_ := d0) (at_ := (nz7 d0).2.1) (d0 := (d0.drop (nz7 d0).2.1.toNat, (nz7 d0).2.2)) (hW.at (i := 104) rfl) (Rd.mono hd73 (hW.out (i := 104) (j := 0) rfl rfl)) 4 bdk (by rfl) (by first | assumption | exact ⟨by omega, by omega⟩ | exact ⟨by (simp; done), by (simp; done)⟩)) (fun v74 m74 hv74 => ?_)
      try dsimp only at hv74
      obtain ⟨rfl, rfl⟩ := hv74
      have hfa75 := (nz8_ok (d0 := d0) (by first | assumption | exact ⟨by omega, by omega⟩ | exact ⟨by (simp; done), by (simp; done)⟩)).1
      try dsimp only at hfa75
      have hfa76 := (nz8_ok (d0 := d0) (by first | assumption | exact ⟨by omega, by omega⟩ | exact ⟨by (simp; done), by (simp; done)⟩)).1.1
      try dsimp only at hfa76
      have hfa77 := (nz8_ok (d0 := d0) (by first | assumption | exact ⟨by omega, by omega⟩ | exact ⟨by (simp; done), by (simp; done)⟩)).1.2
      try dsimp only at hfa77
      have hfa78 := (nz8_ok (d0 := d0) (by first | assumption | exact ⟨by omega, by omega⟩ | exact ⟨by (simp; done), by (simp; done)⟩)).2
      try dsimp only at hfa78
      obtain ⟨A79, hA79, hs79⟩ := hd73.drop 1 (((nz8 d0).2.1 - (nz7 d0).2.1).toNat) rfl bd
      simp only [dropV, hA79]
      have hl79 : ((d0.drop (nz7 d0).2.1.toNat).length) - (((nz8 d0).2.1 - (nz7 d0).2.1).toNat) = (d0.drop (nz8 d0).2.1.toNat).length := by simp only [List.length_drop] at *; omega
      have hd79 : Rd (.sl .byte) (wm W) [Value.slice A79 (d0.drop (nz8 d0).2.1.toNat).length (((((c0 - (((nz1 d0).2.1 - (0 : Int)).toNat)) - (((nz2 d0).2.1 - (nz1 d0).2.1).toNat)) - (((nz3 d0).2.1 - (nz2 d0).2.1).toNat)) - (((nz7 d0).2.1 - (nz3 d0).2.1).toNat)) - (((nz8 d0).2.1 - (nz7 d0).2.1).toNat))] (d0.drop (nz8 d0).2.1.toNat) := Rd.relen (by have h_ : Rd (.sl .byte) (wm W) [Value.slice A79 ((d0.drop (nz7 d0).2.1.toNat).length - (((nz8 d0).2.1 - (nz7 d0).2.1).toNat)) (((((c0 - (((nz1 d0).2.1 - (0 : Int)).toNat)) - (((nz2 d0).2.1 - (nz1 d0).2.1).toNat)) - (((nz3 d0).2.1 - (nz2 d0).2.1).toNat)) - (((nz7 d0).2.1 - (nz3 d0).2.1).toNat)) - (((nz8 d0).2.1 - (nz7 d0).2.1).toNat))] ((d0.drop ((nz7 d0).2.1).toNat).drop (((nz8 d0).2.1 - (nz7 d0).2.1).toNat)) := hs79; rw [drop_at (by omega) (by omega)] at h_; exact h_) rfl
      rw [hl79]
      refine VO.as ?_
      refine VO.k9 0 2 3 4 5 7 17 18 50 ?_
      refine VC.block ?_
      refine VC.inv ((180, mnil) :: _) (fun _ h => h.nilc 180) ?_
      refine VC.loop (G := Int × (List DCommit) × (Option Addr) × Nat × Mem × (Option Addr) × Nat × Bool × Int) (fun g => [(7, Value.int .i64 ((g.1))), (0, Value.slice A0 (d0.length) (c0)), (2, Value.pointer (some ⟨g1, 0, none⟩)), (3, Value.int .i64 (0)), (4, Value.pointer (some ⟨g3, 0, none⟩)), (5, Value.pointer (some ⟨g17, 0, none⟩)), (17, Value.int .i64 ((nz1 d0).1)), (18, Value.bool (decide (((nz1 d0).1) = 1))), (50, Value.bool (decide (((nz1 d0).1) = 2)))]) (fun g => [(180, (g.2.2.2.2.1)), (104, mone g3 (.cells [Value.slice (g.2.2.2.2.2.1) ((d0.drop (g.2.2.2.2.2.2.2.2).toNat).length) ((g.2.2.2.2.2.2.1)), Value.bool (g.2.2.2.2.2.2.2.1)].toArray 136 (0, 0))), (118, mone g17 (.cells [Value.int .i64 ((nz1 d0).1), Value.int .i64 ((nz2 d0).1), Value.int .u8 (0), Value.int .i64 (0), Value.slice none (0) (0), Value.int .i64 ((nz3 d0).1), Value.int .i64 ((nz7 d0).1), Value.slice (g.2.2.1) ((g.2.1).length) ((g.2.2.2.1))].toArray 72 (0, 0))), (102, mone g1 (.cells [Value.int .i64 (0), Value.int .i64 (0), Value.int .u8 (0), Value.int .i64 (0), Value.slice none (0) (0), Value.int .i64 (0), Value.int .i64 (0), Value.slice none (0) (0)].toArray 72 (0, 0))), (0, wm W)]) (fun g => (pComms (lComm d0) (nz8 d0).1.toNat (nz8 d0).2 = ((g.2.1) ++ (pComms (lComm d0) (g.1).toNat ((g.2.2.2.2.2.2.2.2), (g.2.2.2.2.2.2.2.1))).1, (pComms (lComm d0) (g.1).toNat ((g.2.2.2.2.2.2.2.2), (g.2.2.2.2.2.2.2.1))).2)) ∧ ((g.1) ≤ 4) ∧ ((g.2.1).length + (g.1).toNat ≤ 4) ∧ (rOk d0 ((g.2.2.2.2.2.2.2.2), (g.2.2.2.2.2.2.2.1))) ∧ (Ow (.sl TCommit) (g.2.2.2.2.1) [.slice (g.2.2.1) (g.2.1).length (g.2.2.2.1)] (g.2.1)) ∧ (Rd (.sl .byte) (wm W) [.slice (g.2.2.2.2.2.1) (d0.drop (g.2.2.2.2.2.2.2.2).toNat).length (g.2.2.2.2.2.2.1)] (d0.drop (g.2.2.2.2.2.2.2.2).toNat))) (fun g => (g.1).toNat) ((nz8 d0).1, [], none, 0, mnil, A79, ((((c0 - (((nz1 d0).2.1 - (0 : Int)).toNat)) - (((nz2 d0).2.1 - (nz1 d0).2.1).toNat)) - (((nz3 d0).2.1 - (nz2 d0).2.1).toNat)) - (((nz7 d0).2.1 - (nz3 d0).2.1).toNat)) - (((nz8 d0).2.1 - (nz7 d0).2.1).toNat), (nz8 d0).2.2, (nz8 d0).2.1) (⟨by rfl, by omega, by (simp; omega), by first | assumption | exact ⟨by omega, by (dsimp only; omega)⟩, (Ow.nil TCommit mnil), hd79⟩) ⟨⟨rfl, rfl, rfl, rfl, rfl, rfl, rfl, rfl, rfl, trivial⟩, fun _ h => h.sub [180, 104, 118, 102, 0]⟩ ?_
      rintro ⟨n, cs, cs_A, cs_c, cs_m, bs_A, bs_c, bad, at_x⟩ ⟨hp, hn, hlen, hok, h_cs, h_bs⟩
      replace hp : pComms (lComm d0) (nz8 d0).1.toNat (nz8 d0).2 = (cs ++ (pComms (lComm d0) n.toNat (at_x, bad)).1, (pComms (lComm d0) n.toNat (at_x, bad)).2) := hp
      replace hn : n ≤ 4 := hn
      replace hlen : cs.length + n.toNat ≤ 4 := hlen
      replace hok : rOk d0 (at_x, bad) := hok
      replace h_cs : Ow (.sl TCommit) cs_m [.slice cs_A cs.length cs_c] cs := h_cs
      replace h_bs : Rd (.sl .byte) (wm W) [.slice bs_A (d0.drop at_x.toNat).length bs_c] (d0.drop at_x.toNat) := h_bs
      show VC _ _ _ _ _ [(7, Value.int .i64 (n)), (0, Value.slice A0 (d0.length) (c0)), (2, Value.pointer (some ⟨g1, 0, none⟩)), (3, Value.int .i64 (0)), (4, Value.pointer (some ⟨g3, 0, none⟩)), (5, Value.pointer (some ⟨g17, 0, none⟩)), (17, Value.int .i64 ((nz1 d0).1)), (18, Value.bool (decide (((nz1 d0).1) = 1))), (50, Value.bool (decide (((nz1 d0).1) = 2)))] [(180, cs_m), (104, mone g3 (.cells [Value.slice bs_A ((d0.drop at_x.toNat).length) (bs_c), Value.bool bad].toArray 136 (0, 0))), (118, mone g17 (.cells [Value.int .i64 ((nz1 d0).1), Value.int .i64 ((nz2 d0).1), Value.int .u8 (0), Value.int .i64 (0), Value.slice none (0) (0), Value.int .i64 ((nz3 d0).1), Value.int .i64 ((nz7 d0).1), Value.slice cs_A (cs.length) (cs_c)].toArray 72 (0, 0))), (102, mone g1 (.cells [Value.int .i64 (0), Value.int .i64 (0), Value.int .u8 (0), Value.int .i64 (0), Value.slice none (0) (0), Value.int .i64 (0), Value.int .i64 (0), Value.slice none (0) (0)].toArray 72 (0, 0))), (0, wm W)]
      have l_cs : cs.length ≤ cs_c := by obtain ⟨_, _, he, hl, _⟩ := h_cs.slice; simp only [Value.slice.injEq] at he; omega
      have k_cs : cs_c ≤ 9223372036854775807 := by obtain ⟨_, _, he, _, hl⟩ := h_cs.slice; simp only [Value.slice.injEq, maxLen] at he hl; omega
      have l_bs := Rd.room h_bs
      obtain ⟨hoka, hokb⟩ := (show 0 ≤ at_x ∧ at_x ≤ d0.length from hok)
      refine VC.seq ?_
      refine VC.rs ?_
      refine VO.mv ?_
      refine VO.y rfl (.gtr rfl rfl) ?_
      refine VO.mv ?_
      refine VO.dec (t := 62) rfl (fun hc81 => ?_) (fun hc81 => ?_)
      · -- FTT
        refine VO.gy rfl ⟨_, rfl, rfl⟩ (.mv rfl) ?_
        refine VO.gy rfl ⟨_, rfl, rfl⟩ (.nilp rfl) ?_
        refine VO.gy rfl ⟨_, rfl, rfl⟩ (.fa rfl tst136 rfl) ?_
        refine VO.gy rfl ⟨_, rfl, rfl⟩ (.ld1 104 rfl tk4 rfl (cellsAt_one rfl rfl)) ?_
        refine VO.gy rfl ⟨_, rfl, rfl⟩ (.not rfl) ?_
        refine VO.y rfl (.pT rfl rfl) ?_
        refine VO.keep [180, 104, 118, 102, 0] [(180, cs_m), (104, mone g3 (.cells [Value.slice bs_A ((d0.drop at_x.toNat).length) (bs_c), Value.bool bad].toArray 136 (0, 0))), (118, mone g17 (.cells [Value.int .i64 ((nz1 d0).1), Value.int .i64 ((nz2 d0).1), Value.int .u8 (0), Value.int .i64 (0), Value.slice none (0) (0), Value.int .i64 ((nz3 d0).1), Value.int .i64 ((nz7 d0).1), Value.slice cs_A (cs.length) (cs_c)].toArray 72 (0, 0))), (102, mone g1 (.cells [Value.int .i64 (0), Value.int .i64 (0), Value.int .u8 (0), Value.int .i64 (0), Value.slice none (0) (0), Value.int .i64 (0), Value.int .i64 (0), Value.slice none (0) (0)].toArray 72 (0, 0))), (0, wm W)] (by kernel_rfl) ?_
        refine VO.k10 0 2 3 4 5 7 17 18 50 68 ?_
        refine VC.condBN rfl (fun hc82 => ?_) (fun hc82 => ?_)
        · -- FTTT
          refine VC.skip ?_
          refine outN ?_
          refine VC.seq ?_
          refine VC.block ?_
          refine VC.regD _ 5 [(0, true), (1, true), (2, true), (3, false), (4, false)] follows (by kernel_rfl) (fun _ h => h.sub [180, 118, 102, 0]) ?_
          refine VD.y rfl rfl (.inl rfl) (.fa rfl tst72 rfl) ?_
          refine VD.y rfl rfl (.inl rfl) (.ld1 118 rfl tk61 rfl (cellsAt_one rfl rfl)) ?_
          refine VD.y rfl rfl (.inl rfl) (.mv rfl) ?_
          refine VD.call 104 rfl rfl (.inl rfl) fnOk130 rfl rfl (fun _ _ h => h.sub [180, 118, 102, 0]) (fun W hW => lComm_ok W (B_ := d0) (at_ := at_x) (d0 := (d0.drop at_x.toNat, bad)) (hW.at (i := 104) rfl) (Rd.mono h_bs (hW.out (i := 104) (j := 0) rfl rfl)) (by rfl) (by first | assumption | exact ⟨by omega, by omega⟩ | exact ⟨by (simp; done), by (simp; done)⟩) bd) (fun v83 m83 hv83 => ?_)
          try dsimp only at hv83
          obtain ⟨s83_0, p83_0, rfl, hS83, f83_0⟩ := hv83
          refine VD.inv _ (fun _ h => h.parts (i := 104) rfl hS83 [184, 185]) ?_
          have hfa86 := (lComm_ok0 (B := d0) (s := (at_x, bad)) (by first | assumption | exact ⟨by omega, by omega⟩ | exact ⟨by (simp; done), by (simp; done)⟩) (by omega)).1.1
          try dsimp only at hfa86
          have hfa87 := (lComm_ok0 (B := d0) (s := (at_x, bad)) (by first | assumption | exact ⟨by omega, by omega⟩ | exact ⟨by (simp; done), by (simp; done)⟩) (by omega)).1.2
          try dsimp only at hfa87
          have hfa88 := (lComm_ok0 (B := d0) (s := (at_x, bad)) (by first | assumption | exact ⟨by omega, by omega⟩ | exact ⟨by (simp; done), by (simp; done)⟩) (by omega)).2.1
          try dsimp only at hfa88
          have hfa89 := (lComm_ok0 (B := d0) (s := (at_x, bad)) (by first | assumption | exact ⟨by omega, by omega⟩ | exact ⟨by (simp; done), by (simp; done)⟩) (by omega)).2.2
          try dsimp only at hfa89
          obtain ⟨A90, hA90, hs90⟩ := h_bs.drop 1 (((rNum d0 ((d0.length : Int) - at_x) (at_x, bad)).2.1 - at_x).toNat) rfl bd
          obtain ⟨A91, hA91, hs91⟩ := hs90.drop 1 (((lComm d0 (at_x, bad)).2.1 - (rNum d0 ((d0.length : Int) - at_x) (at_x, bad)).2.1).toNat) rfl bd
          simp only [dropV, hA90, hA91]
          have hl91 : (((d0.drop at_x.toNat).length) - (((rNum d0 ((d0.length : Int) - at_x) (at_x, bad)).2.1 - at_x).toNat)) - (((lComm d0 (at_x, bad)).2.1 - (rNum d0 ((d0.length : Int) - at_x) (at_x, bad)).2.1).toNat) = (d0.drop (lComm d0 (at_x, bad)).2.1.toNat).length := by simp only [List.length_drop] at *; omega
          have hd91 : Rd (.sl .byte) (wm W) [Value.slice A91 (d0.drop (lComm d0 (at_x, bad)).2.1.toNat).length ((bs_c - (((rNum d0 ((d0.length : Int) - at_x) (at_x, bad)).2.1 - at_x).toNat)) - (((lComm d0 (at_x, bad)).2.1 - (rNum d0 ((d0.length : Int) - at_x) (at_x, bad)).2.1).toNat))] (d0.drop (lComm d0 (at_x, bad)).2.1.toNat) := Rd.relen (by have h_ : Rd (.sl .byte) (wm W) [Value.slice A91 (((d0.drop at_x.toNat).drop (((rNum d0 ((d0.length : Int) - at_x) (at_x, bad)).2.1 - at_x).toNat)).length - (((lComm d0 (at_x, bad)).2.1 - (rNum d0 ((d0.length : Int) - at_x) (at_x, bad)).2.1).toNat)) ((bs_c - (((rNum d0 ((d0.length : Int) - at_x) (at_x, bad)).2.1 - at_x).toNat)) - (((lComm d0 (at_x, bad)).2.1 - (rNum d0 ((d0.length : Int) - at_x) (at_x, bad)).2.1).toNat))] (((d0.drop at_x.toNat).drop (((rNum d0 ((d0.length : Int) - at_x) (at_x, bad)).2.1 - at_x).toNat)).drop (((lComm d0 (at_x, bad)).2.1 - (rNum d0 ((d0.length : Int) - at_x) (at_x, bad)).2.1).toNat)) := hs91; rw [drop_at (by omega) (by omega), drop_at (by omega) (by omega)] at h_; exact h_) rfl
          rw [hl91]
          obtain ⟨q83_0_A2, q83_0_c2, q83_0_n2, rfl, q83_0_S, q83_0_0, q83_0_1, q83_0_2⟩ := openO_Commit (x0 := ((lComm d0 (at_x, bad)).1).1) (x1 := ((lComm d0 (at_x, bad)).1).2.1) (x2 := ((lComm d0 (at_x, bad)).1).2.2) f83_0
          simp only [inK] at q83_0_0
          simp only [inK] at q83_0_1
          have q83_0_r2 := Rd.room (q83_0_2.rd (mle_refl _))
          refine VD.inv _ (fun _ h => h.parts (i := 184) rfl q83_0_S [192]) ?_
          refine VD.bsl (cs := [Value.int .i64 (((lComm d0 (at_x, bad)).1).1), Value.int .i64 (((lComm d0 (at_x, bad)).1).2.1), Value.slice q83_0_A2 ((((lComm d0 (at_x, bad)).1).2.2).length) (q83_0_c2)]) 194 rfl rfl rfl tsl61 tz52 rfl rfl (fun _ h => h.sub [180, 118, 102, 0]) (fun g93 => ?_)
          refine VD.nil rfl ?_ rfl
          refine VO.appO (e := TCommit) 180 192 194 rfl rfl rfl tsl61 tz52 rfl rfl rfl rfl h_cs (show Ow TCommit _ _ ((lComm d0 (at_x, bad)).1) from (mkO_Commit (((lComm d0 (at_x, bad)).1).1) (((lComm d0 (at_x, bad)).1).2.1) (((lComm d0 (at_x, bad)).1).2.2) (Seps.one (mle_refl _)) bdk bdk (OwnL.ow (Ow.ownl q83_0_2 rfl mnil) rfl))) Try.underlying61 (cellsAt_one rfl rfl) bdm bd (by decide) (fun v95 m95 ho95 => ?_)
          obtain ⟨A95, c95, rfl, l95, k95⟩ := ho95.slice
          simp only [maxLen] at k95
          refine VO.y rfl (.fa rfl tst72 rfl) ?_
          refine VO.store (k := 1) (c' := [Value.int .i64 ((nz1 d0).1), Value.int .i64 ((nz2 d0).1), Value.int .u8 (0), Value.int .i64 (0), Value.slice none (0) (0), Value.int .i64 ((nz3 d0).1), Value.int .i64 ((nz7 d0).1), Value.slice A95 ((cs ++ [((lComm d0 (at_x, bad)).1)]).length) (c95)]) 118 rfl rfl (.inr ⟨tk61, rfl⟩) rfl rfl rfl rfl rfl ?_
          refine VO.k10 0 2 3 4 5 7 17 18 50 68 ?_
          refine outBN ?_
          refine outN ?_
          refine VC.reg ?_
          refine VO.mv ?_
          refine VO.y rfl (.sub rfl rfl rfl ⟨bd, bd⟩) ?_
          refine VO.as ?_
          refine VO.k10 0 2 3 4 5 7 17 18 50 68 ?_
          exact outN ⟨⟨n - 1, cs ++ [((lComm d0 (at_x, bad)).1)], A95, c95, m95, A91, (bs_c - (((rNum d0 ((d0.length : Int) - at_x) (at_x, bad)).2.1 - at_x).toNat)) - (((lComm d0 (at_x, bad)).2.1 - (rNum d0 ((d0.length : Int) - at_x) (at_x, bad)).2.1).toNat), (lComm d0 (at_x, bad)).2.2, (lComm d0 (at_x, bad)).2.1⟩, ⟨by exact comms_step hp (by omega) (by assumption), by omega, by (simp only [List.length_append, List.length_cons, List.length_nil]; omega), by first | assumption | exact ⟨by omega, by (dsimp only; omega)⟩, ho95, hd91⟩, bd, ⟨⟨rfl, rfl, rfl, rfl, rfl, rfl, rfl, rfl, rfl, trivial⟩, fun _ h => Inv.sub (Inv.num h 185 104 rfl) [180, 104, 118, 102, 0]⟩⟩
        · -- FTTF
          refine VC.exit ?_
          refine outE ?_
          refine outE ?_
          refine outBB ?_
          refine outBN ?_
          refine outN ?_
          refine VC.seq ?_
          refine VC.rs ?_
          refine VO.mv ?_
          refine VO.y rfl (.nilp rfl) ?_
          refine VO.y rfl (.fa rfl tst136 rfl) ?_
          refine VO.y rfl (.ld1 104 rfl tk4 rfl (cellsAt_one rfl rfl)) ?_
          refine VO.mv ?_
          refine VO.known (t := 87) true rfl hc82 ?_
          refine VO.gN ?_
          refine VO.gN ?_
          refine VO.gN ?_
          refine VO.gN ?_
          refine VO.gN ?_
          refine VO.gN ?_
          refine VO.y rfl (.pT rfl rfl) ?_
          refine VO.mv ?_
          refine VO.gN ?_
          refine VO.gN ?_
          refine VO.gN ?_
          refine VO.y rfl (.pT rfl rfl) ?_
          refine VO.k11 0 2 3 4 5 7 17 18 50 68 99 ?_
          refine VC.condT rfl ?_
          refine VC.rs ?_
          refine VO.y rfl (.bst (cs := [Value.int .i64 (0), Value.int .i64 (0), Value.int .u8 (0), Value.int .i64 (0), Value.slice none (0) (0), Value.int .i64 (0), Value.int .i64 (0), Value.slice none (0) (0)]) rfl tst72 tz72 rfl) ?_
          refine VO.store (k := 8) (c' := [Value.int .i64 (0), Value.int .i64 (0), Value.int .u8 (0), Value.int .i64 (0), Value.slice none (0) (0), Value.int .i64 (0), Value.int .i64 (0), Value.slice none (0) (0)]) 102 rfl rfl (.inl tk72) rfl rfl rfl rfl rfl ?_
          refine VO.as ?_
          refine VO.k11 0 2 3 4 5 7 17 18 50 68 99 ?_
          refine VC.ret ?_
          refine outR ?_
          refine ⟨_, _, res_run (rs := [.cell 2 72, .tmp 3]) rfl (.agg 102 rfl tk72 rfl ⟨_, _, _, mone_self _ _, Nat.le_of_ble_eq_true rfl, rfl⟩ (.tmp rfl .nil)), fun W_ hI => out_of (l := []) hI [] rfl rfl (mle_refl _) (fun hS_ => ?_)⟩
          dsimp only [packV]
          have he0 : ((lDec d0).1 : Ty.Den TMessage) = (0, 0, 0, 0, [], 0, 0, []) := by first | rfl | (exact fin0_lDec_ok)
          refine ⟨[Value.int .i64 (0), Value.int .i64 (0), Value.int .u8 (0), Value.int .i64 (0), Value.slice none (0) (0), Value.int .i64 (0), Value.int .i64 (0), Value.slice none (0) (0)], ?_, ?_⟩
          rotate_left
          · rw [he0]; exact (mkO_Message 0 0 0 0 [] 0 0 [] (Seps.nilAt 1 (Seps.nilAt 0 hS_)) bdk bdk bdk bdk (Ow.nil _ _) bdk bdk (Ow.nil _ _))
          all_goals (first | rfl | (exact fin0_lDec_ok))
      · -- FTF
        refine VO.gN ?_
        refine VO.gN ?_
        refine VO.gN ?_
        refine VO.gN ?_
        refine VO.gN ?_
        refine VO.y rfl (.pF rfl rfl) ?_
        refine VO.keep [180, 104, 118, 102, 0] [(180, cs_m), (104, mone g3 (.cells [Value.slice bs_A ((d0.drop at_x.toNat).length) (bs_c), Value.bool bad].toArray 136 (0, 0))), (118, mone g17 (.cells [Value.int .i64 ((nz1 d0).1), Value.int .i64 ((nz2 d0).1), Value.int .u8 (0), Value.int .i64 (0), Value.slice none (0) (0), Value.int .i64 ((nz3 d0).1), Value.int .i64 ((nz7 d0).1), Value.slice cs_A (cs.length) (cs_c)].toArray 72 (0, 0))), (102, mone g1 (.cells [Value.int .i64 (0), Value.int .i64 (0), Value.int .u8 (0), Value.int .i64 (0), Value.slice none (0) (0), Value.int .i64 (0), Value.int .i64 (0), Value.slice none (0) (0)].toArray 72 (0, 0))), (0, wm W)] (by kernel_rfl) ?_
        refine VO.k10 0 2 3 4 5 7 17 18 50 68 ?_
        refine VC.condF rfl ?_
        refine VC.exit ?_
        refine outE ?_
        refine outE ?_
        refine outBB ?_
        refine outBN ?_
        refine outN ?_
        refine VC.seq ?_
        refine VC.rs ?_
        refine VO.mv ?_
        refine VO.y rfl (.nilp rfl) ?_
        refine VO.y rfl (.fa rfl tst136 rfl) ?_
        refine VO.y rfl (.ld1 104 rfl tk4 rfl (cellsAt_one rfl rfl)) ?_
        refine VO.mv ?_
        refine VO.decB (t := 87) rfl (fun hc96 => ?_) (fun hc96 => ?_)
        · -- FTFT
          refine VO.gN ?_
          refine VO.gN ?_
          refine VO.gN ?_
          refine VO.gN ?_
          refine VO.gN ?_
          refine VO.gN ?_
          refine VO.y rfl (.pT rfl rfl) ?_
          refine VO.mv ?_
          refine VO.gN ?_
          refine VO.gN ?_
          refine VO.gN ?_
          refine VO.y rfl (.pT rfl rfl) ?_
          refine VO.k11 0 2 3 4 5 7 17 18 50 68 99 ?_
          refine VC.condT rfl ?_
          refine VC.rs ?_
          refine VO.y rfl (.bst (cs := [Value.int .i64 (0), Value.int .i64 (0), Value.int .u8 (0), Value.int .i64 (0), Value.slice none (0) (0), Value.int .i64 (0), Value.int .i64 (0), Value.slice none (0) (0)]) rfl tst72 tz72 rfl) ?_
          refine VO.store (k := 8) (c' := [Value.int .i64 (0), Value.int .i64 (0), Value.int .u8 (0), Value.int .i64 (0), Value.slice none (0) (0), Value.int .i64 (0), Value.int .i64 (0), Value.slice none (0) (0)]) 102 rfl rfl (.inl tk72) rfl rfl rfl rfl rfl ?_
          refine VO.as ?_
          refine VO.k11 0 2 3 4 5 7 17 18 50 68 99 ?_
          refine VC.ret ?_
          refine outR ?_
          refine ⟨_, _, res_run (rs := [.cell 2 72, .tmp 3]) rfl (.agg 102 rfl tk72 rfl ⟨_, _, _, mone_self _ _, Nat.le_of_ble_eq_true rfl, rfl⟩ (.tmp rfl .nil)), fun W_ hI => out_of (l := []) hI [] rfl rfl (mle_refl _) (fun hS_ => ?_)⟩
          dsimp only [packV]
          have he0 : ((lDec d0).1 : Ty.Den TMessage) = (0, 0, 0, 0, [], 0, 0, []) := by first | rfl | (exact fin0_lDec_ok)
          refine ⟨[Value.int .i64 (0), Value.int .i64 (0), Value.int .u8 (0), Value.int .i64 (0), Value.slice none (0) (0), Value.int .i64 (0), Value.int .i64 (0), Value.slice none (0) (0)], ?_, ?_⟩
          rotate_left
          · rw [he0]; exact (mkO_Message 0 0 0 0 [] 0 0 [] (Seps.nilAt 1 (Seps.nilAt 0 hS_)) bdk bdk bdk bdk (Ow.nil _ _) bdk bdk (Ow.nil _ _))
          all_goals (first | rfl | (exact fin0_lDec_ok))
        · -- FTFF
          refine VO.gy rfl ⟨_, rfl, rfl⟩ (.mv rfl) ?_
          refine VO.gy rfl ⟨_, rfl, rfl⟩ (.nilp rfl) ?_
          refine VO.gy rfl ⟨_, rfl, rfl⟩ (.fa rfl tst136 rfl) ?_
          refine VO.gy rfl ⟨_, rfl, rfl⟩ (.ld1 104 rfl tk23 rfl (cellsAt_one rfl rfl)) ?_
          refine VO.gy rfl ⟨_, rfl, rfl⟩ (.lenS rfl tsl23) ?_
          refine VO.gy rfl ⟨_, rfl, rfl⟩ (.gtr rfl rfl) ?_
          refine VO.y rfl (.pF rfl rfl) ?_
          refine VO.mv ?_
          refine VO.dec (t := 95) rfl (fun hc97 => ?_) (fun hc97 => ?_)
          · -- FTFFT
            refine VO.gN ?_
            refine VO.gN ?_
            refine VO.gN ?_
            refine VO.y rfl (.pT rfl rfl) ?_
            refine VO.k11 0 2 3 4 5 7 17 18 50 68 99 ?_
            refine VC.condT rfl ?_
            refine VC.rs ?_
            refine VO.y rfl (.bst (cs := [Value.int .i64 (0), Value.int .i64 (0), Value.int .u8 (0), Value.int .i64 (0), Value.slice none (0) (0), Value.int .i64 (0), Value.int .i64 (0), Value.slice none (0) (0)]) rfl tst72 tz72 rfl) ?_
            refine VO.store (k := 8) (c' := [Value.int .i64 (0), Value.int .i64 (0), Value.int .u8 (0), Value.int .i64 (0), Value.slice none (0) (0), Value.int .i64 (0), Value.int .i64 (0), Value.slice none (0) (0)]) 102 rfl rfl (.inl tk72) rfl rfl rfl rfl rfl ?_
            refine VO.as ?_
            refine VO.k11 0 2 3 4 5 7 17 18 50 68 99 ?_
            refine VC.ret ?_
            refine outR ?_
            refine ⟨_, _, res_run (rs := [.cell 2 72, .tmp 3]) rfl (.agg 102 rfl tk72 rfl ⟨_, _, _, mone_self _ _, Nat.le_of_ble_eq_true rfl, rfl⟩ (.tmp rfl .nil)), fun W_ hI => out_of (l := []) hI [] rfl rfl (mle_refl _) (fun hS_ => ?_)⟩
            dsimp only [packV]
            have he0 : ((lDec d0).1 : Ty.Den TMessage) = (0, 0, 0, 0, [], 0, 0, []) := by first | rfl | (exact fin0_lDec_ok)
            refine ⟨[Value.int .i64 (0), Value.int .i64 (0), Value.int .u8 (0), Value.int .i64 (0), Value.slice none (0) (0), Value.int .i64 (0), Value.int .i64 (0), Value.slice none (0) (0)], ?_, ?_⟩
            rotate_left
            · rw [he0]; exact (mkO_Message 0 0 0 0 [] 0 0 [] (Seps.nilAt 1 (Seps.nilAt 0 hS_)) bdk bdk bdk bdk (Ow.nil _ _) bdk bdk (Ow.nil _ _))
            all_goals (first | rfl | (exact fin0_lDec_ok))
          · -- FTFFF
            refine VO.gy rfl ⟨_, rfl, rfl⟩ (.ldA 118 rfl tk72 rfl (cellsAt_one rfl rfl)) ?_
            refine VO.gcallN 198 rfl ⟨_, rfl, rfl⟩ fnOk87 rfl (fun W hW => lCheck_ok W (mk_Message (m := wm W) ((nz1 d0).1) ((nz2 d0).1) 0 0 [] ((nz3 d0).1) ((nz7 d0).1) cs bdk bdk bdk bdk (Rd.nil _ _ none 0 (Nat.zero_le _)) bdk bdk (Ow.rd h_cs (hW.at (i := 180) rfl)))) (fun v98 m98 hv98 => ?_)
            try dsimp only at hv98
            subst hv98
            have hfa99 := lCheck_range ((nz1 d0).1, (nz2 d0).1, 0, 0, [], (nz3 d0).1, (nz7 d0).1, cs)
            refine VO.gy rfl ⟨_, rfl, rfl⟩ (.neq rfl rfl) ?_
            refine VO.y rfl (.pF rfl rfl) ?_
            refine VO.k11 0 2 3 4 5 7 17 18 50 68 99 ?_
            refine VC.cond rfl (fun hc100 => ?_) (fun hc100 => ?_)
            · -- FTFFFT
              refine VC.rs ?_
              refine VO.y rfl (.bst (cs := [Value.int .i64 (0), Value.int .i64 (0), Value.int .u8 (0), Value.int .i64 (0), Value.slice none (0) (0), Value.int .i64 (0), Value.int .i64 (0), Value.slice none (0) (0)]) rfl tst72 tz72 rfl) ?_
              refine VO.store (k := 8) (c' := [Value.int .i64 (0), Value.int .i64 (0), Value.int .u8 (0), Value.int .i64 (0), Value.slice none (0) (0), Value.int .i64 (0), Value.int .i64 (0), Value.slice none (0) (0)]) 102 rfl rfl (.inl tk72) rfl rfl rfl rfl rfl ?_
              refine VO.as ?_
              refine VO.k11 0 2 3 4 5 7 17 18 50 68 99 ?_
              refine VC.ret ?_
              refine outR ?_
              refine ⟨_, _, res_run (rs := [.cell 2 72, .tmp 3]) rfl (.agg 102 rfl tk72 rfl ⟨_, _, _, mone_self _ _, Nat.le_of_ble_eq_true rfl, rfl⟩ (.tmp rfl .nil)), fun W_ hI => out_of (l := []) hI [] rfl rfl (mle_refl _) (fun hS_ => ?_)⟩
              dsimp only [packV]
              have he0 : ((lDec d0).1 : Ty.Den TMessage) = (0, 0, 0, 0, [], 0, 0, []) := by first | rfl | (exact fin0_lDec_ok)
              refine ⟨[Value.int .i64 (0), Value.int .i64 (0), Value.int .u8 (0), Value.int .i64 (0), Value.slice none (0) (0), Value.int .i64 (0), Value.int .i64 (0), Value.slice none (0) (0)], ?_, ?_⟩
              rotate_left
              · rw [he0]; exact (mkO_Message 0 0 0 0 [] 0 0 [] (Seps.nilAt 1 (Seps.nilAt 0 hS_)) bdk bdk bdk bdk (Ow.nil _ _) bdk bdk (Ow.nil _ _))
              all_goals (first | rfl | (exact fin0_lDec_ok))
            · -- FTFFFF
              refine VC.skip ?_
              refine outN ?_
              refine VC.rs ?_
              refine VO.y rfl (.ldA 118 rfl tk72 rfl (cellsAt_one rfl rfl)) ?_
              refine VO.store (k := 8) (c' := [Value.int .i64 ((nz1 d0).1), Value.int .i64 ((nz2 d0).1), Value.int .u8 (0), Value.int .i64 (0), Value.slice none (0) (0), Value.int .i64 ((nz3 d0).1), Value.int .i64 ((nz7 d0).1), Value.slice cs_A (cs.length) (cs_c)]) 102 rfl rfl (.inl tk72) rfl rfl rfl rfl rfl ?_
              refine VO.as ?_
              refine VO.k11 0 2 3 4 5 7 17 18 50 68 99 ?_
              refine VC.ret ?_
              refine ⟨_, _, res_run (rs := [.cell 2 72, .tmp 3]) rfl (.agg 102 rfl tk72 rfl ⟨_, _, _, mone_self _ _, Nat.le_of_ble_eq_true rfl, rfl⟩ (.tmp rfl .nil)), fun W_ hI => out_of (l := [cs_m]) hI [180] rfl rfl (mle_refl _) (fun hS_ => ?_)⟩
              dsimp only [packV]
              have he0 : ((lDec d0).1 : Ty.Den TMessage) = ((nz1 d0).1, (nz2 d0).1, 0, 0, [], (nz3 d0).1, (nz7 d0).1, cs) := by first | rfl | (exact fin0_lDec_ok)
              refine ⟨[Value.int .i64 ((nz1 d0).1), Value.int .i64 ((nz2 d0).1), Value.int .u8 (0), Value.int .i64 (0), Value.slice none (0) (0), Value.int .i64 ((nz3 d0).1), Value.int .i64 ((nz7 d0).1), Value.slice cs_A (cs.length) (cs_c)], ?_, ?_⟩
              rotate_left
              · rw [he0]; exact (mkO_Message ((nz1 d0).1) ((nz2 d0).1) 0 0 [] ((nz3 d0).1) ((nz7 d0).1) cs (Seps.nilAt 0 hS_) bdk bdk bdk bdk (Ow.nil _ _) bdk bdk h_cs)
              all_goals (first | rfl | (exact fin0_lDec_ok))
    · -- FF
      refine VC.rs ?_
      refine VO.y rfl (.eql rfl rfl) ?_
      refine VO.as ?_
      refine VO.k9 0 2 3 4 5 17 18 50 78 ?_
      refine VC.cond rfl (fun hc101 => ?_) (fun hc101 => ?_)
      · -- FFT
        refine VC.reg ?_
        refine VO.mv ?_
        refine VO.call 104 rfl fnOk129 rfl rfl (fun W hW => lNum_ok W (B_ := d0) (at_ := (nz2 d0).2.1) (d0 := (d0.drop (nz2 d0).2.1.toNat, (nz2 d0).2.2)) (hW.at (i := 104) rfl) (Rd.mono hd16 (hW.out (i := 104) (j := 0) rfl rfl)) 1048576 bdk (by rfl) (by first | assumption | exact ⟨by omega, by omega⟩ | exact ⟨by (simp; done), by (simp; done)⟩)) (fun v102 m102 hv102 => ?_)
        try dsimp only at hv102
        obtain ⟨rfl, rfl⟩ := hv102
        have hfa103 := (nz3_ok (d0 := d0) (by first | assumption | exact ⟨by omega, by omega⟩ | exact ⟨by (simp; done), by (simp; done)⟩)).1
        try dsimp only at hfa103
        have hfa104 := (nz3_ok (d0 := d0) (by first | assumption | exact ⟨by omega, by omega⟩ | exact ⟨by (simp; done), by (simp; done)⟩)).1.1
        try dsimp only at hfa104
        have hfa105 := (nz3_ok (d0 := d0) (by first | assumption | exact ⟨by omega, by omega⟩ | exact ⟨by (simp; done), by (simp; done)⟩)).1.2
        try dsimp only at hfa105
        have hfa106 := (nz3_ok (d0 := d0) (by first | assumption | exact ⟨by omega, by omega⟩ | exact ⟨by (simp; done), by (simp; done)⟩)).2
        try dsimp only at hfa106
        obtain ⟨A107, hA107, hs107⟩ := hd16.drop 1 (((nz3 d0).2.1 - (nz2 d0).2.1).toNat) rfl bd
        simp only [dropV, hA107]
        have hl107 : ((d0.drop (nz2 d0).2.1.toNat).length) - (((nz3 d0).2.1 - (nz2 d0).2.1).toNat) = (d0.drop (nz3 d0).2.1.toNat).length := by simp only [List.length_drop] at *; omega
        have hd107 : Rd (.sl .byte) (wm W) [Value.slice A107 (d0.drop (nz3 d0).2.1.toNat).length (((c0 - (((nz1 d0).2.1 - (0 : Int)).toNat)) - (((nz2 d0).2.1 - (nz1 d0).2.1).toNat)) - (((nz3 d0).2.1 - (nz2 d0).2.1).toNat))] (d0.drop (nz3 d0).2.1.toNat) := Rd.relen (by have h_ : Rd (.sl .byte) (wm W) [Value.slice A107 ((d0.drop (nz2 d0).2.1.toNat).length - (((nz3 d0).2.1 - (nz2 d0).2.1).toNat)) (((c0 - (((nz1 d0).2.1 - (0 : Int)).toNat)) - (((nz2 d0).2.1 - (nz1 d0).2.1).toNat)) - (((nz3 d0).2.1 - (nz2 d0).2.1).toNat))] ((d0.drop ((nz2 d0).2.1).toNat).drop (((nz3 d0).2.1 - (nz2 d0).2.1).toNat)) := hs107; rw [drop_at (by omega) (by omega)] at h_; exact h_) rfl
        rw [hl107]
        refine VO.y rfl (.fa rfl tst72 rfl) ?_
        refine VO.store (k := 1) (c' := [Value.int .i64 ((nz1 d0).1), Value.int .i64 ((nz2 d0).1), Value.int .u8 (0), Value.int .i64 ((nz3 d0).1), Value.slice none (0) (0), Value.int .i64 (0), Value.int .i64 (0), Value.slice none (0) (0)]) 118 rfl rfl (.inr ⟨tk3, rfl⟩) rfl rfl rfl rfl rfl ?_
        refine VO.k9 0 2 3 4 5 17 18 50 78 ?_
        refine outBN ?_
        refine outN ?_
        refine VC.seq ?_
        refine VC.rs ?_
        refine VO.mv ?_
        refine VO.y rfl (.nilp rfl) ?_
        refine VO.y rfl (.fa rfl tst136 rfl) ?_
        refine VO.y rfl (.ld1 104 rfl tk4 rfl (cellsAt_one rfl rfl)) ?_
        refine VO.mv ?_
        refine VO.decB (t := 87) rfl (fun hc108 => ?_) (fun hc108 => ?_)
        · -- FFTT
          refine VO.gN ?_
          refine VO.gN ?_
          refine VO.gN ?_
          refine VO.gN ?_
          refine VO.gN ?_
          refine VO.gN ?_
          refine VO.y rfl (.pT rfl rfl) ?_
          refine VO.mv ?_
          refine VO.gN ?_
          refine VO.gN ?_
          refine VO.gN ?_
          refine VO.y rfl (.pT rfl rfl) ?_
          refine VO.keep [104, 118, 102, 0] [(104, mone g3 (.cells [Value.slice A107 ((d0.drop (nz3 d0).2.1.toNat).length) (((c0 - (((nz1 d0).2.1 - (0 : Int)).toNat)) - (((nz2 d0).2.1 - (nz1 d0).2.1).toNat)) - (((nz3 d0).2.1 - (nz2 d0).2.1).toNat)), Value.bool ((nz3 d0).2.2)].toArray 136 (0, 0))), (118, mone g17 (.cells [Value.int .i64 ((nz1 d0).1), Value.int .i64 ((nz2 d0).1), Value.int .u8 (0), Value.int .i64 ((nz3 d0).1), Value.slice none (0) (0), Value.int .i64 (0), Value.int .i64 (0), Value.slice none (0) (0)].toArray 72 (0, 0))), (102, mone g1 (.cells [Value.int .i64 (0), Value.int .i64 (0), Value.int .u8 (0), Value.int .i64 (0), Value.slice none (0) (0), Value.int .i64 (0), Value.int .i64 (0), Value.slice none (0) (0)].toArray 72 (0, 0))), (0, wm W)] (by kernel_rfl) ?_
          refine VO.k10 0 2 3 4 5 17 18 50 78 99 ?_
          refine VC.condT rfl ?_
          refine VC.rs ?_
          refine VO.y rfl (.bst (cs := [Value.int .i64 (0), Value.int .i64 (0), Value.int .u8 (0), Value.int .i64 (0), Value.slice none (0) (0), Value.int .i64 (0), Value.int .i64 (0), Value.slice none (0) (0)]) rfl tst72 tz72 rfl) ?_
          refine VO.store (k := 8) (c' := [Value.int .i64 (0), Value.int .i64 (0), Value.int .u8 (0), Value.int .i64 (0), Value.slice none (0) (0), Value.int .i64 (0), Value.int .i64 (0), Value.slice none (0) (0)]) 102 rfl rfl (.inl tk72) rfl rfl rfl rfl rfl ?_
          refine VO.as ?_
          refine VO.k10 0 2 3 4 5 17 18 50 78 99 ?_
          refine VC.ret ?_
          refine outR ?_
          refine ⟨_, _, res_run (rs := [.cell 2 72, .tmp 3]) rfl (.agg 102 rfl tk72 rfl ⟨_, _, _, mone_self _ _, Nat.le_of_ble_eq_true rfl, rfl⟩ (.tmp rfl .nil)), fun W_ hI => out_of (l := []) hI [] rfl rfl (mle_refl _) (fun hS_ => ?_)⟩
          dsimp only [packV]
          have he0 : ((lDec d0).1 : Ty.Den TMessage) = (0, 0, 0, 0, [], 0, 0, []) := by first | rfl | (exact fin0_lDec_ok)
          refine ⟨[Value.int .i64 (0), Value.int .i64 (0), Value.int .u8 (0), Value.int .i64 (0), Value.slice none (0) (0), Value.int .i64 (0), Value.int .i64 (0), Value.slice none (0) (0)], ?_, ?_⟩
          rotate_left
          · rw [he0]; exact (mkO_Message 0 0 0 0 [] 0 0 [] (Seps.nilAt 1 (Seps.nilAt 0 hS_)) bdk bdk bdk bdk (Ow.nil _ _) bdk bdk (Ow.nil _ _))
          all_goals (first | rfl | (exact fin0_lDec_ok))
        · -- FFTF
          refine VO.gy rfl ⟨_, rfl, rfl⟩ (.mv rfl) ?_
          refine VO.gy rfl ⟨_, rfl, rfl⟩ (.nilp rfl) ?_
          refine VO.gy rfl ⟨_, rfl, rfl⟩ (.fa rfl tst136 rfl) ?_
          refine VO.gy rfl ⟨_, rfl, rfl⟩ (.ld1 104 rfl tk23 rfl (cellsAt_one rfl rfl)) ?_
          refine VO.gy rfl ⟨_, rfl, rfl⟩ (.lenS rfl tsl23) ?_
          refine VO.gy rfl ⟨_, rfl, rfl⟩ (.gtr rfl rfl) ?_
          refine VO.y rfl (.pF rfl rfl) ?_
          refine VO.mv ?_
          refine VO.dec (t := 95) rfl (fun hc109 => ?_) (fun hc109 => ?_)
          · -- FFTFT
            refine VO.gN ?_
            refine VO.gN ?_
            refine VO.gN ?_
            refine VO.y rfl (.pT rfl rfl) ?_
            refine VO.keep [104, 118, 102, 0] [(104, mone g3 (.cells [Value.slice A107 ((d0.drop (nz3 d0).2.1.toNat).length) (((c0 - (((nz1 d0).2.1 - (0 : Int)).toNat)) - (((nz2 d0).2.1 - (nz1 d0).2.1).toNat)) - (((nz3 d0).2.1 - (nz2 d0).2.1).toNat)), Value.bool ((nz3 d0).2.2)].toArray 136 (0, 0))), (118, mone g17 (.cells [Value.int .i64 ((nz1 d0).1), Value.int .i64 ((nz2 d0).1), Value.int .u8 (0), Value.int .i64 ((nz3 d0).1), Value.slice none (0) (0), Value.int .i64 (0), Value.int .i64 (0), Value.slice none (0) (0)].toArray 72 (0, 0))), (102, mone g1 (.cells [Value.int .i64 (0), Value.int .i64 (0), Value.int .u8 (0), Value.int .i64 (0), Value.slice none (0) (0), Value.int .i64 (0), Value.int .i64 (0), Value.slice none (0) (0)].toArray 72 (0, 0))), (0, wm W)] (by kernel_rfl) ?_
            refine VO.k10 0 2 3 4 5 17 18 50 78 99 ?_
            refine VC.condT rfl ?_
            refine VC.rs ?_
            refine VO.y rfl (.bst (cs := [Value.int .i64 (0), Value.int .i64 (0), Value.int .u8 (0), Value.int .i64 (0), Value.slice none (0) (0), Value.int .i64 (0), Value.int .i64 (0), Value.slice none (0) (0)]) rfl tst72 tz72 rfl) ?_
            refine VO.store (k := 8) (c' := [Value.int .i64 (0), Value.int .i64 (0), Value.int .u8 (0), Value.int .i64 (0), Value.slice none (0) (0), Value.int .i64 (0), Value.int .i64 (0), Value.slice none (0) (0)]) 102 rfl rfl (.inl tk72) rfl rfl rfl rfl rfl ?_
            refine VO.as ?_
            refine VO.k10 0 2 3 4 5 17 18 50 78 99 ?_
            refine VC.ret ?_
            refine outR ?_
            refine ⟨_, _, res_run (rs := [.cell 2 72, .tmp 3]) rfl (.agg 102 rfl tk72 rfl ⟨_, _, _, mone_self _ _, Nat.le_of_ble_eq_true rfl, rfl⟩ (.tmp rfl .nil)), fun W_ hI => out_of (l := []) hI [] rfl rfl (mle_refl _) (fun hS_ => ?_)⟩
            dsimp only [packV]
            have he0 : ((lDec d0).1 : Ty.Den TMessage) = (0, 0, 0, 0, [], 0, 0, []) := by first | rfl | (exact fin0_lDec_ok)
            refine ⟨[Value.int .i64 (0), Value.int .i64 (0), Value.int .u8 (0), Value.int .i64 (0), Value.slice none (0) (0), Value.int .i64 (0), Value.int .i64 (0), Value.slice none (0) (0)], ?_, ?_⟩
            rotate_left
            · rw [he0]; exact (mkO_Message 0 0 0 0 [] 0 0 [] (Seps.nilAt 1 (Seps.nilAt 0 hS_)) bdk bdk bdk bdk (Ow.nil _ _) bdk bdk (Ow.nil _ _))
            all_goals (first | rfl | (exact fin0_lDec_ok))
          · -- FFTFF
            refine VO.gy rfl ⟨_, rfl, rfl⟩ (.ldA 118 rfl tk72 rfl (cellsAt_one rfl rfl)) ?_
            refine VO.gcallN 210 rfl ⟨_, rfl, rfl⟩ fnOk87 rfl (fun W hW => lCheck_ok W (mk_Message (m := wm W) ((nz1 d0).1) ((nz2 d0).1) 0 ((nz3 d0).1) [] 0 0 [] bdk bdk bdk bdk (Rd.nil _ _ none 0 (Nat.zero_le _)) bdk bdk (Rd.nil _ _ none 0 (Nat.zero_le _)))) (fun v110 m110 hv110 => ?_)
            try dsimp only at hv110
            subst hv110
            have hfa111 := lCheck_range ((nz1 d0).1, (nz2 d0).1, 0, (nz3 d0).1, [], 0, 0, [])
            refine VO.gy rfl ⟨_, rfl, rfl⟩ (.neq rfl rfl) ?_
            refine VO.y rfl (.pF rfl rfl) ?_
            refine VO.keep [104, 118, 102, 0] [(104, mone g3 (.cells [Value.slice A107 ((d0.drop (nz3 d0).2.1.toNat).length) (((c0 - (((nz1 d0).2.1 - (0 : Int)).toNat)) - (((nz2 d0).2.1 - (nz1 d0).2.1).toNat)) - (((nz3 d0).2.1 - (nz2 d0).2.1).toNat)), Value.bool ((nz3 d0).2.2)].toArray 136 (0, 0))), (118, mone g17 (.cells [Value.int .i64 ((nz1 d0).1), Value.int .i64 ((nz2 d0).1), Value.int .u8 (0), Value.int .i64 ((nz3 d0).1), Value.slice none (0) (0), Value.int .i64 (0), Value.int .i64 (0), Value.slice none (0) (0)].toArray 72 (0, 0))), (102, mone g1 (.cells [Value.int .i64 (0), Value.int .i64 (0), Value.int .u8 (0), Value.int .i64 (0), Value.slice none (0) (0), Value.int .i64 (0), Value.int .i64 (0), Value.slice none (0) (0)].toArray 72 (0, 0))), (0, wm W)] (by kernel_rfl) ?_
            refine VO.k10 0 2 3 4 5 17 18 50 78 99 ?_
            refine VC.cond rfl (fun hc112 => ?_) (fun hc112 => ?_)
            · -- FFTFFT
              refine VC.rs ?_
              refine VO.y rfl (.bst (cs := [Value.int .i64 (0), Value.int .i64 (0), Value.int .u8 (0), Value.int .i64 (0), Value.slice none (0) (0), Value.int .i64 (0), Value.int .i64 (0), Value.slice none (0) (0)]) rfl tst72 tz72 rfl) ?_
              refine VO.store (k := 8) (c' := [Value.int .i64 (0), Value.int .i64 (0), Value.int .u8 (0), Value.int .i64 (0), Value.slice none (0) (0), Value.int .i64 (0), Value.int .i64 (0), Value.slice none (0) (0)]) 102 rfl rfl (.inl tk72) rfl rfl rfl rfl rfl ?_
              refine VO.as ?_
              refine VO.k10 0 2 3 4 5 17 18 50 78 99 ?_
              refine VC.ret ?_
              refine outR ?_
              refine ⟨_, _, res_run (rs := [.cell 2 72, .tmp 3]) rfl (.agg 102 rfl tk72 rfl ⟨_, _, _, mone_self _ _, Nat.le_of_ble_eq_true rfl, rfl⟩ (.tmp rfl .nil)), fun W_ hI => out_of (l := []) hI [] rfl rfl (mle_refl _) (fun hS_ => ?_)⟩
              dsimp only [packV]
              have he0 : ((lDec d0).1 : Ty.Den TMessage) = (0, 0, 0, 0, [], 0, 0, []) := by first | rfl | (exact fin0_lDec_ok)
              refine ⟨[Value.int .i64 (0), Value.int .i64 (0), Value.int .u8 (0), Value.int .i64 (0), Value.slice none (0) (0), Value.int .i64 (0), Value.int .i64 (0), Value.slice none (0) (0)], ?_, ?_⟩
              rotate_left
              · rw [he0]; exact (mkO_Message 0 0 0 0 [] 0 0 [] (Seps.nilAt 1 (Seps.nilAt 0 hS_)) bdk bdk bdk bdk (Ow.nil _ _) bdk bdk (Ow.nil _ _))
              all_goals (first | rfl | (exact fin0_lDec_ok))
            · -- FFTFFF
              refine VC.skip ?_
              refine outN ?_
              refine VC.rs ?_
              refine VO.y rfl (.ldA 118 rfl tk72 rfl (cellsAt_one rfl rfl)) ?_
              refine VO.store (k := 8) (c' := [Value.int .i64 ((nz1 d0).1), Value.int .i64 ((nz2 d0).1), Value.int .u8 (0), Value.int .i64 ((nz3 d0).1), Value.slice none (0) (0), Value.int .i64 (0), Value.int .i64 (0), Value.slice none (0) (0)]) 102 rfl rfl (.inl tk72) rfl rfl rfl rfl rfl ?_
              refine VO.as ?_
              refine VO.k10 0 2 3 4 5 17 18 50 78 99 ?_
              refine VC.ret ?_
              refine ⟨_, _, res_run (rs := [.cell 2 72, .tmp 3]) rfl (.agg 102 rfl tk72 rfl ⟨_, _, _, mone_self _ _, Nat.le_of_ble_eq_true rfl, rfl⟩ (.tmp rfl .nil)), fun W_ hI => out_of (l := []) hI [] rfl rfl (mle_refl _) (fun hS_ => ?_)⟩
              dsimp only [packV]
              have he0 : ((lDec d0).1 : Ty.Den TMessage) = ((nz1 d0).1, (nz2 d0).1, 0, (nz3 d0).1, [], 0, 0, []) := by first | rfl | (exact fin0_lDec_ok)
              refine ⟨[Value.int .i64 ((nz1 d0).1), Value.int .i64 ((nz2 d0).1), Value.int .u8 (0), Value.int .i64 ((nz3 d0).1), Value.slice none (0) (0), Value.int .i64 (0), Value.int .i64 (0), Value.slice none (0) (0)], ?_, ?_⟩
              rotate_left
              · rw [he0]; exact (mkO_Message ((nz1 d0).1) ((nz2 d0).1) 0 ((nz3 d0).1) [] 0 0 [] (Seps.nilAt 1 (Seps.nilAt 0 hS_)) bdk bdk bdk bdk (Ow.nil _ _) bdk bdk (Ow.nil _ _))
              all_goals (first | rfl | (exact fin0_lDec_ok))
      · -- FFF
        refine VC.skip ?_
        refine outBN ?_
        refine outN ?_
        refine VC.seq ?_
        refine VC.rs ?_
        refine VO.mv ?_
        refine VO.y rfl (.nilp rfl) ?_
        refine VO.y rfl (.fa rfl tst136 rfl) ?_
        refine VO.y rfl (.ld1 104 rfl tk4 rfl (cellsAt_one rfl rfl)) ?_
        refine VO.mv ?_
        refine VO.decB (t := 87) rfl (fun hc113 => ?_) (fun hc113 => ?_)
        · -- FFFT
          refine VO.gN ?_
          refine VO.gN ?_
          refine VO.gN ?_
          refine VO.gN ?_
          refine VO.gN ?_
          refine VO.gN ?_
          refine VO.y rfl (.pT rfl rfl) ?_
          refine VO.mv ?_
          refine VO.gN ?_
          refine VO.gN ?_
          refine VO.gN ?_
          refine VO.y rfl (.pT rfl rfl) ?_
          refine VO.k10 0 2 3 4 5 17 18 50 78 99 ?_
          refine VC.condT rfl ?_
          refine VC.rs ?_
          refine VO.y rfl (.bst (cs := [Value.int .i64 (0), Value.int .i64 (0), Value.int .u8 (0), Value.int .i64 (0), Value.slice none (0) (0), Value.int .i64 (0), Value.int .i64 (0), Value.slice none (0) (0)]) rfl tst72 tz72 rfl) ?_
          refine VO.store (k := 8) (c' := [Value.int .i64 (0), Value.int .i64 (0), Value.int .u8 (0), Value.int .i64 (0), Value.slice none (0) (0), Value.int .i64 (0), Value.int .i64 (0), Value.slice none (0) (0)]) 102 rfl rfl (.inl tk72) rfl rfl rfl rfl rfl ?_
          refine VO.as ?_
          refine VO.keep [118, 104, 102, 0] [(118, mone g17 (.cells [Value.int .i64 ((nz1 d0).1), Value.int .i64 ((nz2 d0).1), Value.int .u8 (0), Value.int .i64 (0), Value.slice none (0) (0), Value.int .i64 (0), Value.int .i64 (0), Value.slice none (0) (0)].toArray 72 (0, 0))), (104, mone g3 (.cells [Value.slice A16 ((d0.drop (nz2 d0).2.1.toNat).length) ((c0 - (((nz1 d0).2.1 - (0 : Int)).toNat)) - (((nz2 d0).2.1 - (nz1 d0).2.1).toNat)), Value.bool ((nz2 d0).2.2)].toArray 136 (0, 0))), (102, mone g1 (.cells [Value.int .i64 (0), Value.int .i64 (0), Value.int .u8 (0), Value.int .i64 (0), Value.slice none (0) (0), Value.int .i64 (0), Value.int .i64 (0), Value.slice none (0) (0)].toArray 72 (0, 0))), (0, wm W)] (by kernel_rfl) ?_
          refine VO.k10 0 2 3 4 5 17 18 50 78 99 ?_
          refine VC.ret ?_
          refine outR ?_
          refine ⟨_, _, res_run (rs := [.cell 2 72, .tmp 3]) rfl (.agg 102 rfl tk72 rfl ⟨_, _, _, mone_self _ _, Nat.le_of_ble_eq_true rfl, rfl⟩ (.tmp rfl .nil)), fun W_ hI => out_of (l := []) hI [] rfl rfl (mle_refl _) (fun hS_ => ?_)⟩
          dsimp only [packV]
          have he0 : ((lDec d0).1 : Ty.Den TMessage) = (0, 0, 0, 0, [], 0, 0, []) := by first | rfl | (exact fin0_lDec_ok)
          refine ⟨[Value.int .i64 (0), Value.int .i64 (0), Value.int .u8 (0), Value.int .i64 (0), Value.slice none (0) (0), Value.int .i64 (0), Value.int .i64 (0), Value.slice none (0) (0)], ?_, ?_⟩
          rotate_left
          · rw [he0]; exact (mkO_Message 0 0 0 0 [] 0 0 [] (Seps.nilAt 1 (Seps.nilAt 0 hS_)) bdk bdk bdk bdk (Ow.nil _ _) bdk bdk (Ow.nil _ _))
          all_goals (first | rfl | (exact fin0_lDec_ok))
        · -- FFFF
          refine VO.gy rfl ⟨_, rfl, rfl⟩ (.mv rfl) ?_
          refine VO.gy rfl ⟨_, rfl, rfl⟩ (.nilp rfl) ?_
          refine VO.gy rfl ⟨_, rfl, rfl⟩ (.fa rfl tst136 rfl) ?_
          refine VO.gy rfl ⟨_, rfl, rfl⟩ (.ld1 104 rfl tk23 rfl (cellsAt_one rfl rfl)) ?_
          refine VO.gy rfl ⟨_, rfl, rfl⟩ (.lenS rfl tsl23) ?_
          refine VO.gy rfl ⟨_, rfl, rfl⟩ (.gtr rfl rfl) ?_
          refine VO.y rfl (.pF rfl rfl) ?_
          refine VO.mv ?_
          refine VO.dec (t := 95) rfl (fun hc114 => ?_) (fun hc114 => ?_)
          · -- FFFFT
            refine VO.gN ?_
            refine VO.gN ?_
            refine VO.gN ?_
            refine VO.y rfl (.pT rfl rfl) ?_
            refine VO.k10 0 2 3 4 5 17 18 50 78 99 ?_
            refine VC.condT rfl ?_
            refine VC.rs ?_
            refine VO.y rfl (.bst (cs := [Value.int .i64 (0), Value.int .i64 (0), Value.int .u8 (0), Value.int .i64 (0), Value.slice none (0) (0), Value.int .i64 (0), Value.int .i64 (0), Value.slice none (0) (0)]) rfl tst72 tz72 rfl) ?_
            refine VO.store (k := 8) (c' := [Value.int .i64 (0), Value.int .i64 (0), Value.int .u8 (0), Value.int .i64 (0), Value.slice none (0) (0), Value.int .i64 (0), Value.int .i64 (0), Value.slice none (0) (0)]) 102 rfl rfl (.inl tk72) rfl rfl rfl rfl rfl ?_
            refine VO.as ?_
            refine VO.keep [118, 104, 102, 0] [(118, mone g17 (.cells [Value.int .i64 ((nz1 d0).1), Value.int .i64 ((nz2 d0).1), Value.int .u8 (0), Value.int .i64 (0), Value.slice none (0) (0), Value.int .i64 (0), Value.int .i64 (0), Value.slice none (0) (0)].toArray 72 (0, 0))), (104, mone g3 (.cells [Value.slice A16 ((d0.drop (nz2 d0).2.1.toNat).length) ((c0 - (((nz1 d0).2.1 - (0 : Int)).toNat)) - (((nz2 d0).2.1 - (nz1 d0).2.1).toNat)), Value.bool ((nz2 d0).2.2)].toArray 136 (0, 0))), (102, mone g1 (.cells [Value.int .i64 (0), Value.int .i64 (0), Value.int .u8 (0), Value.int .i64 (0), Value.slice none (0) (0), Value.int .i64 (0), Value.int .i64 (0), Value.slice none (0) (0)].toArray 72 (0, 0))), (0, wm W)] (by kernel_rfl) ?_
            refine VO.k10 0 2 3 4 5 17 18 50 78 99 ?_
            refine VC.ret ?_
            refine outR ?_
            refine ⟨_, _, res_run (rs := [.cell 2 72, .tmp 3]) rfl (.agg 102 rfl tk72 rfl ⟨_, _, _, mone_self _ _, Nat.le_of_ble_eq_true rfl, rfl⟩ (.tmp rfl .nil)), fun W_ hI => out_of (l := []) hI [] rfl rfl (mle_refl _) (fun hS_ => ?_)⟩
            dsimp only [packV]
            have he0 : ((lDec d0).1 : Ty.Den TMessage) = (0, 0, 0, 0, [], 0, 0, []) := by first | rfl | (exact fin0_lDec_ok)
            refine ⟨[Value.int .i64 (0), Value.int .i64 (0), Value.int .u8 (0), Value.int .i64 (0), Value.slice none (0) (0), Value.int .i64 (0), Value.int .i64 (0), Value.slice none (0) (0)], ?_, ?_⟩
            rotate_left
            · rw [he0]; exact (mkO_Message 0 0 0 0 [] 0 0 [] (Seps.nilAt 1 (Seps.nilAt 0 hS_)) bdk bdk bdk bdk (Ow.nil _ _) bdk bdk (Ow.nil _ _))
            all_goals (first | rfl | (exact fin0_lDec_ok))
          · -- FFFFF
            refine VO.gy rfl ⟨_, rfl, rfl⟩ (.ldA 118 rfl tk72 rfl (cellsAt_one rfl rfl)) ?_
            refine VO.gcallN 215 rfl ⟨_, rfl, rfl⟩ fnOk87 rfl (fun W hW => lCheck_ok W (mk_Message (m := wm W) ((nz1 d0).1) ((nz2 d0).1) 0 0 [] 0 0 [] bdk bdk bdk bdk (Rd.nil _ _ none 0 (Nat.zero_le _)) bdk bdk (Rd.nil _ _ none 0 (Nat.zero_le _)))) (fun v115 m115 hv115 => ?_)
            try dsimp only at hv115
            subst hv115
            have hfa116 := lCheck_range ((nz1 d0).1, (nz2 d0).1, 0, 0, [], 0, 0, [])
            refine VO.gy rfl ⟨_, rfl, rfl⟩ (.neq rfl rfl) ?_
            refine VO.y rfl (.pF rfl rfl) ?_
            refine VO.k10 0 2 3 4 5 17 18 50 78 99 ?_
            refine VC.cond rfl (fun hc117 => ?_) (fun hc117 => ?_)
            · -- FFFFFT
              refine VC.rs ?_
              refine VO.y rfl (.bst (cs := [Value.int .i64 (0), Value.int .i64 (0), Value.int .u8 (0), Value.int .i64 (0), Value.slice none (0) (0), Value.int .i64 (0), Value.int .i64 (0), Value.slice none (0) (0)]) rfl tst72 tz72 rfl) ?_
              refine VO.store (k := 8) (c' := [Value.int .i64 (0), Value.int .i64 (0), Value.int .u8 (0), Value.int .i64 (0), Value.slice none (0) (0), Value.int .i64 (0), Value.int .i64 (0), Value.slice none (0) (0)]) 102 rfl rfl (.inl tk72) rfl rfl rfl rfl rfl ?_
              refine VO.as ?_
              refine VO.keep [118, 104, 102, 0] [(118, mone g17 (.cells [Value.int .i64 ((nz1 d0).1), Value.int .i64 ((nz2 d0).1), Value.int .u8 (0), Value.int .i64 (0), Value.slice none (0) (0), Value.int .i64 (0), Value.int .i64 (0), Value.slice none (0) (0)].toArray 72 (0, 0))), (104, mone g3 (.cells [Value.slice A16 ((d0.drop (nz2 d0).2.1.toNat).length) ((c0 - (((nz1 d0).2.1 - (0 : Int)).toNat)) - (((nz2 d0).2.1 - (nz1 d0).2.1).toNat)), Value.bool ((nz2 d0).2.2)].toArray 136 (0, 0))), (102, mone g1 (.cells [Value.int .i64 (0), Value.int .i64 (0), Value.int .u8 (0), Value.int .i64 (0), Value.slice none (0) (0), Value.int .i64 (0), Value.int .i64 (0), Value.slice none (0) (0)].toArray 72 (0, 0))), (0, wm W)] (by kernel_rfl) ?_
              refine VO.k10 0 2 3 4 5 17 18 50 78 99 ?_
              refine VC.ret ?_
              refine outR ?_
              refine ⟨_, _, res_run (rs := [.cell 2 72, .tmp 3]) rfl (.agg 102 rfl tk72 rfl ⟨_, _, _, mone_self _ _, Nat.le_of_ble_eq_true rfl, rfl⟩ (.tmp rfl .nil)), fun W_ hI => out_of (l := []) hI [] rfl rfl (mle_refl _) (fun hS_ => ?_)⟩
              dsimp only [packV]
              have he0 : ((lDec d0).1 : Ty.Den TMessage) = (0, 0, 0, 0, [], 0, 0, []) := by first | rfl | (exact fin0_lDec_ok)
              refine ⟨[Value.int .i64 (0), Value.int .i64 (0), Value.int .u8 (0), Value.int .i64 (0), Value.slice none (0) (0), Value.int .i64 (0), Value.int .i64 (0), Value.slice none (0) (0)], ?_, ?_⟩
              rotate_left
              · rw [he0]; exact (mkO_Message 0 0 0 0 [] 0 0 [] (Seps.nilAt 1 (Seps.nilAt 0 hS_)) bdk bdk bdk bdk (Ow.nil _ _) bdk bdk (Ow.nil _ _))
              all_goals (first | rfl | (exact fin0_lDec_ok))
            · -- FFFFFF
              refine VC.skip ?_
              refine outN ?_
              refine VC.rs ?_
              refine VO.y rfl (.ldA 118 rfl tk72 rfl (cellsAt_one rfl rfl)) ?_
              refine VO.store (k := 8) (c' := [Value.int .i64 ((nz1 d0).1), Value.int .i64 ((nz2 d0).1), Value.int .u8 (0), Value.int .i64 (0), Value.slice none (0) (0), Value.int .i64 (0), Value.int .i64 (0), Value.slice none (0) (0)]) 102 rfl rfl (.inl tk72) rfl rfl rfl rfl rfl ?_
              refine VO.as ?_
              refine VO.keep [118, 104, 102, 0] [(118, mone g17 (.cells [Value.int .i64 ((nz1 d0).1), Value.int .i64 ((nz2 d0).1), Value.int .u8 (0), Value.int .i64 (0), Value.slice none (0) (0), Value.int .i64 (0), Value.int .i64 (0), Value.slice none (0) (0)].toArray 72 (0, 0))), (104, mone g3 (.cells [Value.slice A16 ((d0.drop (nz2 d0).2.1.toNat).length) ((c0 - (((nz1 d0).2.1 - (0 : Int)).toNat)) - (((nz2 d0).2.1 - (nz1 d0).2.1).toNat)), Value.bool ((nz2 d0).2.2)].toArray 136 (0, 0))), (102, mone g1 (.cells [Value.int .i64 ((nz1 d0).1), Value.int .i64 ((nz2 d0).1), Value.int .u8 (0), Value.int .i64 (0), Value.slice none (0) (0), Value.int .i64 (0), Value.int .i64 (0), Value.slice none (0) (0)].toArray 72 (0, 0))), (0, wm W)] (by kernel_rfl) ?_
              refine VO.k10 0 2 3 4 5 17 18 50 78 99 ?_
              refine VC.ret ?_
              refine ⟨_, _, res_run (rs := [.cell 2 72, .tmp 3]) rfl (.agg 102 rfl tk72 rfl ⟨_, _, _, mone_self _ _, Nat.le_of_ble_eq_true rfl, rfl⟩ (.tmp rfl .nil)), fun W_ hI => out_of (l := []) hI [] rfl rfl (mle_refl _) (fun hS_ => ?_)⟩
              dsimp only [packV]
              have he0 : ((lDec d0).1 : Ty.Den TMessage) = ((nz1 d0).1, (nz2 d0).1, 0, 0, [], 0, 0, []) := by first | rfl | (exact fin0_lDec_ok)
              refine ⟨[Value.int .i64 ((nz1 d0).1), Value.int .i64 ((nz2 d0).1), Value.int .u8 (0), Value.int .i64 (0), Value.slice none (0) (0), Value.int .i64 (0), Value.int .i64 (0), Value.slice none (0) (0)], ?_, ?_⟩
              rotate_left
              · rw [he0]; exact (mkO_Message ((nz1 d0).1) ((nz2 d0).1) 0 0 [] 0 0 [] (Seps.nilAt 1 (Seps.nilAt 0 hS_)) bdk bdk bdk bdk (Ow.nil _ _) bdk bdk (Ow.nil _ _))
              all_goals (first | rfl | (exact fin0_lDec_ok))
end
section
set_option linter.unusedVariables false
set_option linter.unusedSimpArgs false
set_option maxRecDepth 4000
theorem fnOk72 : fnOk Try.prog 72 = true := by kernel_rfl
end
section
set_option linter.unusedVariables false
def smallM (m : DMessage) : Prop := (∀ c ∈ m.2.2.2.2.2.2.2, c.2.2.length ≤ 40) ∧ m.2.2.2.2.1.length ≤ 40 ∧ m.2.2.2.2.2.2.2.length ≤ 40
instance (m : DMessage) : Decidable (smallM m) := by unfold smallM; infer_instance
theorem enc_ok {m : DMessage} (h : (lEncode m).2 = 0) : lCheck m = 0 ∧ lEncode m = (lEnc m, 0) := by
  unfold lEncode at h ⊢
  split at h
  · rename_i hc; exact ⟨hc, if_pos hc⟩
  · exact absurd h ‹_›
theorem mback1 {m : DMessage} (h : (lEncode m).2 = 0) : lDec (lEncode m).1 = (m, 0) := by
  obtain ⟨h1, h2⟩ := enc_ok h
  rw [h2]; exact decG_there (R := lComm) good1 h1
end
section
set_option linter.unusedVariables false
def lastS (l : List DStart) (en : Int) (i : Nat) : Int := match l[i + 1]? with
  | some s => s.2 - 1
  | none => en
theorem lastS_in {l : List DStart} {en : Int} {i : Nat} {s : DStart} (h : l[i + 1]? = some s) : lastS l en i = s.2 - 1 := by unfold lastS; rw [h]
theorem lastS_out {l : List DStart} {en : Int} {i : Nat} (h : l.length ≤ i + 1) : lastS l en i = en := by unfold lastS; rw [List.getElem?_eq_none h]
def partOf (a : List DStart) (ae : Int) (b : List DStart) (be : Int) : Prop := sCheck a ae = 0 ∧ sCheck b be = 0 ∧ be ≤ ae ∧ ∃ T, a = b ++ T ∧ ∀ s ∈ T, be < s.2
def forkAt (b : List DStart) (be : Int) (k : Nat) : Int := if k = 0 then 0 else lastS b be (k - 1)
theorem sCheck_zero {l : List DStart} {en : Int} (h : sCheck l en = 0) : 0 ≤ en ∧ en ≤ 1048576 ∧ ((l.length : Int) = 0 ↔ en = 0) ∧ sGo en 0 0 0 l := by
  unfold sCheck at h
  split at h
  · assumption
  · cases h
theorem sGo_get {en : Int} : ∀ {l : List DStart} {le lf : Int} {i k : Nat} {x : DStart}, sGo en le lf i l → l[k]? = some x → x.2 ≤ en ∧ lf < x.2 ∧ ∀ y, l[k + 1]? = some y → x.2 < y.2
  | [], _, _, _, _, _, _, h => by cases h
  | s :: r, le, lf, i, 0, x, h, hx => by
    cases hx
    obtain ⟨_, _, h1, h2, _, h3⟩ := h
    exact ⟨h2, h1, fun y hy => (sGo_get (k := 0) h3 (by simpa using hy)).2.1⟩
  | s :: r, le, lf, i, k + 1, x, h, hx => by
    obtain ⟨_, _, h1, h2, _, h3⟩ := h
    obtain ⟨a, b, c⟩ := sGo_get (k := k) h3 (by simpa using hx)
    exact ⟨a, by omega, fun y hy => c y (by simpa using hy)⟩
theorem fork_next {a b : List DStart} {ae be : Int} {k : Nat} {x y : DStart} (h : partOf a ae b be) (hx : a[k]? = some x) (hy : b[k]? = some y) :
    x = y ∧ max x.2 y.2 ≤ min (lastS a ae k) (lastS b be k) ∧ min (lastS a ae k) (lastS b be k) = lastS b be k := by
  obtain ⟨h1, h2, h3, T, rfl, h4⟩ := h
  have hk : k < b.length := (List.getElem?_eq_some_iff.1 hy).1
  have e : x = y := by rw [List.getElem?_append_left hk, hy] at hx; exact (Option.some.inj hx).symm
  subst e
  obtain ⟨q1, q2, q3⟩ := sGo_get (sCheck_zero h2).2.2.2 hy
  have hmin : lastS b be k ≤ lastS (b ++ T) ae k ∧ x.2 ≤ lastS b be k := by
    by_cases hk2 : k + 1 < b.length
    · obtain ⟨z, hz⟩ : ∃ z, b[k + 1]? = some z := ⟨_, List.getElem?_eq_getElem hk2⟩
      rw [lastS_in hz, lastS_in (l := b ++ T) (by rw [List.getElem?_append_left hk2]; exact hz)]
      have := q3 z hz
      omega
    · rw [lastS_out (l := b) (by omega)]
      refine ⟨?_, q1⟩
      unfold lastS
      split
      · rename_i z hz
        rw [List.getElem?_append_right (by omega)] at hz
        have := h4 z (List.mem_of_getElem? hz)
        omega
      · exact h3
  refine ⟨rfl, ?_, ?_⟩
  · rw [Int.max_self]; omega
  · omega
theorem fork_next2 {a b : List DStart} {ae be : Int} {k kb : Nat} {x y : DStart} (h : partOf a ae b be) (hk : k = kb) (hx : a[k]? = some x) (hy : b[kb]? = some y) :
    x = y ∧ max x.2 y.2 ≤ min (lastS a ae k) (lastS b be kb) ∧ min (lastS a ae k) (lastS b be kb) = forkAt b be (k + 1) := by
  subst hk
  obtain ⟨h1, h2, h3⟩ := fork_next h hx hy
  exact ⟨h1, h2, by unfold forkAt; simpa using h3⟩
theorem fork_end {a b : List DStart} {ae be : Int} {k : Nat} (h : partOf a ae b be) (hk : k = b.length) : forkAt b be k = be := by
  subst hk
  unfold forkAt
  split
  · rename_i h0; exact ((sCheck_zero h.2.1).2.2.1.1 (by omega)).symm
  · exact lastS_out (by omega)
theorem fork_pos {l : List DStart} {en : Int} (h : sCheck l en = 0) : ∀ s ∈ l, 1 ≤ s.2 := by
  intro s hs
  obtain ⟨k, hk, rfl⟩ := List.getElem_of_mem hs
  have := (sGo_get (sCheck_zero h).2.2.2 (List.getElem?_eq_getElem hk)).2.1
  omega
theorem grown_app : ∀ (q : List DCommit) (S : List DStart), ∃ T, q.foldl sGrown S = S ++ T ∧ ∀ s ∈ T, ∃ c ∈ q, s = (c.1, c.2.1)
  | [], S => ⟨[], by simp, fun s hs => by cases hs⟩
  | c :: r, S => by
    obtain ⟨T, h1, h2⟩ := grown_app r (sGrown S c)
    have hg : sGrown S c = S ∨ sGrown S c = S ++ [(c.1, c.2.1)] := by
      unfold sGrown
      split
      · split
        · exact .inl rfl
        · exact .inr rfl
      · exact .inr rfl
    rw [List.foldl_cons, h1]
    rcases hg with hg | hg
    · rw [hg]; exact ⟨T, rfl, fun s hs => by obtain ⟨d, hd, e⟩ := h2 s hs; exact ⟨d, .tail _ hd, e⟩⟩
    · rw [hg]; refine ⟨(c.1, c.2.1) :: T, by simp, fun s hs => ?_⟩
      rcases List.mem_cons.1 hs with rfl | hs
      · exact ⟨c, .head _, rfl⟩
      · obtain ⟨d, hd, e⟩ := h2 s hs; exact ⟨d, .tail _ hd, e⟩
theorem part_take {log : List DCommit} (hv : (cFollows 0 0 log).1 = 0) {n : Nat} (hn : n ≤ log.length) : partOf (sOf log).1 log.length (sOf (log.take n)).1 n := by
  have hv2 : (cFollows 0 0 (log.take n)).1 = 0 := follows_take n hv
  have f1 := (sOf_facts hv).1; have f2 := (sOf_facts hv2).1
  rw [List.length_take, Nat.min_eq_left hn] at f2
  refine ⟨f1, f2, by omega, ?_⟩
  rw [sOf_good1 (fun q => q hv), sOf_good1 (fun q => q hv2)]
  obtain ⟨T, h1, h2⟩ := grown_app (log.drop n) ((log.take n).foldl sGrown [])
  rw [← List.foldl_append, List.take_append_drop] at h1
  refine ⟨T, h1, fun s hs => ?_⟩
  obtain ⟨c, hc, rfl⟩ := h2 s hs
  obtain ⟨j, hj, e⟩ := List.getElem_of_mem hc
  have hg : log[n + j]? = some c := by rw [← e, ← List.getElem?_drop]; exact List.getElem?_eq_getElem hj
  have := (follows_get (i := 0) hv hg).1
  show (n : Int) < c.2.1
  omega
/-- What is told of a log, as bytes and read again. -/
theorem hello_back {log : List DCommit} {r : Int} (hv : (cFollows 0 0 log).1 = 0) (hr : 1 ≤ r ∧ r ≤ 3) :
    (shipHello (lastE log) r log).2 = 0 ∧ (lEncode (shipHello (lastE log) r log).1).2 = 0 ∧ lDec (lEncode (shipHello (lastE log) r log).1).1 = ((shipHello (lastE log) r log).1, 0) := by
  obtain ⟨h1, h2⟩ := hello_lCheck hv hr
  have h3 : (lEncode (shipHello (lastE log) r log).1).2 = 0 := by rw [h1]; unfold lEncode; rw [if_pos h2]
  exact ⟨by rw [h1], h3, mback1 h3⟩
theorem hello_part {log : List DCommit} {r : Int} (hv : (cFollows 0 0 log).1 = 0) (hr : 1 ≤ r ∧ r ≤ 3) {n : Nat} (hn : n ≤ log.length) :
    partOf (lDec (lEncode (shipHello (lastE log) r log).1).1).1.2.2.2.2.1 (lDec (lEncode (shipHello (lastE log) r log).1).1).1.2.2.2.1 (sOf (log.take n)).1 n := by
  rw [(hello_back hv hr).2.2, (hello_lCheck hv hr).1]
  exact part_take hv hn
theorem hello_self {log : List DCommit} {r : Int} (hv : (cFollows 0 0 log).1 = 0) (hr : 1 ≤ r ∧ r ≤ 3) :
    partOf (lDec (lEncode (shipHello (lastE log) r log).1).1).1.2.2.2.2.1 (lDec (lEncode (shipHello (lastE log) r log).1).1).1.2.2.2.1 (shipHello (lastE log) r log).1.2.2.2.2.1 (shipHello (lastE log) r log).1.2.2.2.1 := by
  rw [(hello_back hv hr).2.2, (hello_lCheck hv hr).1]
  have := part_take hv (Nat.le_refl log.length)
  rw [List.take_length] at this
  exact this
theorem sOf_take_good {log : List DCommit} (hv : (cFollows 0 0 log).1 = 0) (n : Nat) : (sOf (log.take n)).2 = (0, 0) := sOf_good2 (fun q => q (follows_take n hv))
end
section
def inScp (R : Exit → Env → Ctx → Prop) : Exit → Env → Ctx → Prop
  | .goto _ => fun _ _ => False
  | e => R e
section
variable {P : Program} {n : Nat} {w0 : World} {σ : Env} {Ω : Ctx} {R : Exit → Env → Ctx → Prop}
theorem outSR (h : R .ret σ Ω) : inScp R .ret σ Ω := h
theorem VC.scope {c : Code} (h : VC P n w0 c (inScp R) σ Ω) : VC P n w0 (.scope c) R σ Ω :=
  fun Q hQ a W he hi => wp_scope_straight (h (Exit.noGoto Q) (fun e σ' Ω' a W hr he hi => by
    cases e with
    | goto l => exact hr.elim
    | normal => exact hQ _ σ' Ω' a W hr he hi
    | ret => exact hQ _ σ' Ω' a W hr he hi
    | exit i => exact hQ _ σ' Ω' a W hr he hi
    | panic c => exact hQ _ σ' Ω' a W hr he hi
    | outgrown => exact hQ _ σ' Ω' a W hr he hi) a W he hi)
theorem VC.label {l : Nat} (h : R .normal σ Ω) : VC P n w0 (.label l) R σ Ω := fun _ hQ a W he hi => wp_label (hQ _ σ Ω a W h he hi)
end
end
section
set_option linter.unusedVariables false
set_option linter.unusedSimpArgs false
set_option maxRecDepth 4000
theorem fnOk135 : fnOk Try.prog 135 = true := by kernel_rfl
theorem sLast_ok (W : World) {v0 : Value} {d0 : List DStart} (h0 : Rd (.sl TStart) (wm W) [v0] d0) (d1 : Int) (h1 : inK .i64 d1) (d2 : Nat) (h2 : d2 < 9223372036854775808) (e0 : d2 < d0.length) (e1 : ∀ s ∈ d0, 1 ≤ s.2) : CallR Try.prog 135 [v0, .int .i64 d1, .int .i64 (d2 : Int)] W (mnil) (fun v m' => v = .int .i64 (lastS d0 d1 d2)) := by
  obtain ⟨A0, c0, rfl, l0, k0⟩ := h0.slice
  simp only [maxLen] at k0
  have h1' := h1; simp only [inK] at h1'
  refine CallR.ofA (n := 20) Try.func135 rfl rfl rfl ?_
  refine VC.rs ?_
  refine VO.as ?_
  refine VO.k4 0 1 2 6 ?_
  refine VC.seq ?_
  refine VC.rs ?_
  refine VO.mv ?_
  refine VO.y rfl (.add (c := ((d2 + 1 : Nat) : Int)) rfl rfl (by omega) ⟨by first | omega | (simp only [List.length_append, List.length_nil, List.length_cons, List.length_take, List.length_drop] at *; omega) | (have h_ := e1 _ (List.mem_of_getElem? ‹d0[d2 + 1]? = some _›); omega), by first | omega | (simp only [List.length_append, List.length_nil, List.length_cons, List.length_take, List.length_drop] at *; omega) | (have h_ := e1 _ (List.mem_of_getElem? ‹d0[d2 + 1]? = some _›); omega)⟩) ?_
  refine VO.mv ?_
  refine VO.y rfl (.lenS rfl tsl70) ?_
  refine VO.y rfl (.lss rfl rfl) ?_
  refine VO.k5 0 1 2 6 11 ?_
  refine VC.cond rfl (fun hc1 => ?_) (fun hc1 => ?_)
  · -- T
    refine VC.rs ?_
    refine VO.mv ?_
    refine VO.mv ?_
    refine VO.y rfl (.add (c := ((d2 + 1 : Nat) : Int)) rfl rfl (by omega) ⟨by first | omega | (simp only [List.length_append, List.length_nil, List.length_cons, List.length_take, List.length_drop] at *; omega) | (have h_ := e1 _ (List.mem_of_getElem? ‹d0[d2 + 1]? = some _›); omega), by first | omega | (simp only [List.length_append, List.length_nil, List.length_cons, List.length_take, List.length_drop] at *; omega) | (have h_ := e1 _ (List.mem_of_getElem? ‹d0[d2 + 1]? = some _›); omega)⟩) ?_
    obtain ⟨x2, hx2⟩ : ∃ z_, (d0)[d2 + 1]? = some z_ := ⟨_, List.getElem?_eq_getElem (by first | omega | (simp only [List.length_append, List.length_nil, List.length_cons, List.length_take, List.length_drop] at *; omega) | (have h_ := e1 _ (List.mem_of_getElem? ‹d0[d2 + 1]? = some _›); omega))⟩
    obtain ⟨gg2, oo2, ec2, ea2, hce2, hre2⟩ := h0.elem hx2
    cases ea2
    obtain ⟨rfl, q2_0, q2_1⟩ := open_Start (x0 := x2.1) (x1 := x2.2) hre2
    simp only [inK] at q2_0
    simp only [inK] at q2_1
    refine VO.y rfl (.ixI (d2 + 1) rfl rfl tsl70 rfl (by first | omega | (simp only [List.length_append, List.length_nil, List.length_cons, List.length_take, List.length_drop] at *; omega) | (have h_ := e1 _ (List.mem_of_getElem? ‹d0[d2 + 1]? = some _›); omega))) ?_
    refine VO.y rfl (.fa rfl tst90 rfl) ?_
    refine VO.y rfl (.ld1 0 rfl tk3 rfl (hce2.at1 (j := 1) rfl)) ?_
    refine VO.y rfl (.sub rfl rfl rfl ⟨by first | omega | (simp only [List.length_append, List.length_nil, List.length_cons, List.length_take, List.length_drop] at *; omega) | (have h_ := e1 _ (List.mem_of_getElem? ‹d0[d2 + 1]? = some _›); omega), by first | omega | (simp only [List.length_append, List.length_nil, List.length_cons, List.length_take, List.length_drop] at *; omega) | (have h_ := e1 _ (List.mem_of_getElem? ‹d0[d2 + 1]? = some _›); omega)⟩) ?_
    refine VO.as ?_
    refine VO.keep [0] [(0, wm W)] (by kernel_rfl) ?_
    refine VO.k5 0 1 2 6 11 ?_
    refine VC.ret ?_
    refine outR ?_
    refine ⟨_, _, res_run (rs := [.tmp 6]) rfl (.tmp rfl .nil), fun W_ hI => out_of (l := []) hI [] rfl rfl (mle_refl _) (fun hS_ => ?_)⟩
    dsimp only [packV]
    all_goals (first | rfl | (first | (rw [lastS_in ‹d0[d2 + 1]? = some _›] <;> rfl) | (rw [lastS_out (by omega)] <;> rfl)))
  · -- F
    refine VC.skip ?_
    refine outN ?_
    refine VC.rs ?_
    refine VO.mv ?_
    refine VO.as ?_
    refine VO.keep [0] [(0, wm W)] (by kernel_rfl) ?_
    refine VO.k5 0 1 2 6 11 ?_
    refine VC.ret ?_
    refine ⟨_, _, res_run (rs := [.tmp 6]) rfl (.tmp rfl .nil), fun W_ hI => out_of (l := []) hI [] rfl rfl (mle_refl _) (fun hS_ => ?_)⟩
    dsimp only [packV]
    all_goals (first | rfl | (first | (rw [lastS_in ‹d0[d2 + 1]? = some _›] <;> rfl) | (rw [lastS_out (by omega)] <;> rfl)))
theorem sFork_ok (W : World) {v0 : Value} {d0 : List DStart} (h0 : Rd (.sl TStart) (wm W) [v0] d0) (d1 : Int) (h1 : inK .i64 d1) {v2 : Value} {d2 : List DStart} (h2 : Rd (.sl TStart) (wm W) [v2] d2) (d3 : Int) (h3 : inK .i64 d3) (e0 : partOf d0 d1 d2 d3) : CallR Try.prog 92 [v0, .int .i64 d1, v2, .int .i64 d3] W (mnil) (fun v m' => v = .tuple #[.int .i64 (d3), .int .i64 (0)]) := by
  have hpa := fork_pos e0.1
  have hpb := fork_pos e0.2.1
  have hlen : d2.length ≤ d0.length := (by obtain ⟨_, _, _, T, hT, _⟩ := e0; rw [hT, List.length_append]; omega)
  obtain ⟨A0, c0, rfl, l0, k0⟩ := h0.slice
  simp only [maxLen] at k0
  have h1' := h1; simp only [inK] at h1'
  obtain ⟨A2, c2, rfl, l2, k2⟩ := h2.slice
  simp only [maxLen] at k2
  have h3' := h3; simp only [inK] at h3'
  refine CallR.ofA (n := 97) Try.func92 rfl rfl rfl ?_
  refine VC.rs ?_
  refine VO.as ?_
  refine VO.as ?_
  refine VO.k6 0 1 2 3 8 9 ?_
  refine VC.scope ?_
  refine VC.seq ?_
  refine VC.rs ?_
  refine VO.mv ?_
  refine VO.mv ?_
  refine VO.callN 101 rfl fnOk134 rfl (fun W hW => sCheck_ok W (Rd.mono h0 (hW.at (i := 0) rfl)) d1 bdk) (fun v1 m1 hv1 => ?_)
  subst hv1
  have hfa2 := sCheck_range d0 d1
  refine VO.as ?_
  refine VO.k7 0 1 2 3 8 9 10 ?_
  refine VC.rs ?_
  refine VO.mv ?_
  refine VO.y rfl (.neq rfl rfl) ?_
  refine VO.keep [0] [(0, wm W)] (by kernel_rfl) ?_
  refine VO.k8 0 1 2 3 8 9 10 21 ?_
  refine VC.cond rfl (fun hc3 => ?_) (fun hc3 => ?_)
  · -- T
    exact absurd e0.1 hc3
  · -- F
    refine VC.skip ?_
    refine outN ?_
    refine VC.seq ?_
    refine VC.rs ?_
    refine VO.mv ?_
    refine VO.mv ?_
    refine VO.callN 104 rfl fnOk134 rfl (fun W hW => sCheck_ok W (Rd.mono h2 (hW.at (i := 0) rfl)) d3 bdk) (fun v4 m4 hv4 => ?_)
    subst hv4
    have hfa5 := sCheck_range d2 d3
    refine VO.as ?_
    refine VO.k9 0 1 2 3 8 9 10 11 21 ?_
    refine VC.rs ?_
    refine VO.mv ?_
    refine VO.y rfl (.neq rfl rfl) ?_
    refine VO.k10 0 1 2 3 8 9 10 11 21 27 ?_
    refine VC.cond rfl (fun hc6 => ?_) (fun hc6 => ?_)
    · -- FT
      exact absurd e0.2.1 hc6
    · -- FF
      refine VC.skip ?_
      refine outN ?_
      refine VC.rs ?_
      refine VO.as ?_
      refine VO.keep [0] [(0, wm W)] (by kernel_rfl) ?_
      refine VO.k11 0 1 2 3 8 9 10 11 12 21 27 ?_
      refine VC.seq ?_
      refine VC.label ?_
      refine outN ?_
      refine VC.seq ?_
      refine VC.rs ?_
      refine VO.as ?_
      refine VO.as ?_
      refine VO.k13 0 1 2 3 8 9 10 11 12 13 14 21 27 ?_
      refine VC.block ?_
      refine VC.loop (G := Nat × Nat × Int) (fun g => [(12, Value.int .i64 ((g.2.2))), (13, Value.int .i64 ((((g.1) : Nat) : Int))), (14, Value.int .i64 ((((g.2.1) : Nat) : Int))), (0, Value.slice A0 (d0.length) (c0)), (1, Value.int .i64 (d1)), (2, Value.slice A2 (d2.length) (c2)), (3, Value.int .i64 (d3)), (8, Value.int .i64 (0)), (9, Value.int .i64 (0)), (10, Value.int .i64 (sCheck d0 d1)), (11, Value.int .i64 (sCheck d2 d3)), (21, Value.bool (decide (¬ (sCheck d0 d1) = 0))), (27, Value.bool (decide (¬ (sCheck d2 d3) = 0)))]) (fun g => [(0, wm W)]) (fun g => ((g.1) = (g.2.1)) ∧ ((g.1) ≤ d2.length) ∧ ((g.2.2) = forkAt d2 d3 (g.1))) (fun g => d2.length - (g.1)) (0, 0, 0) (⟨by rfl, by omega, by rfl⟩) ⟨⟨rfl, rfl, rfl, rfl, rfl, rfl, rfl, rfl, rfl, rfl, rfl, rfl, rfl, trivial⟩, fun _ h => h.sub [0]⟩ ?_
      rintro ⟨k, kb, fork⟩ ⟨hkk, hk, hf⟩
      replace hkk : k = kb := hkk
      replace hk : k ≤ d2.length := hk
      replace hf : fork = forkAt d2 d3 k := hf
      show VC _ _ _ _ _ [(12, Value.int .i64 (fork)), (13, Value.int .i64 (((k : Nat) : Int))), (14, Value.int .i64 (((kb : Nat) : Int))), (0, Value.slice A0 (d0.length) (c0)), (1, Value.int .i64 (d1)), (2, Value.slice A2 (d2.length) (c2)), (3, Value.int .i64 (d3)), (8, Value.int .i64 (0)), (9, Value.int .i64 (0)), (10, Value.int .i64 (sCheck d0 d1)), (11, Value.int .i64 (sCheck d2 d3)), (21, Value.bool (decide (¬ (sCheck d0 d1) = 0))), (27, Value.bool (decide (¬ (sCheck d2 d3) = 0)))] [(0, wm W)]
      refine VC.block ?_
      refine VC.block ?_
      refine VC.rs ?_
      refine VO.mv ?_
      refine VO.mv ?_
      refine VO.y rfl (.lenS rfl tsl70) ?_
      refine VO.y rfl (.eql rfl rfl) ?_
      refine VO.mv ?_
      refine VO.dec (t := 62) rfl (fun hc7 => ?_) (fun hc7 => ?_)
      · -- FFT
        refine VO.gN ?_
        refine VO.gN ?_
        refine VO.gN ?_
        refine VO.gN ?_
        refine VO.y rfl (.pT rfl rfl) ?_
        refine VO.as ?_
        refine VO.k14 0 1 2 3 8 9 10 11 12 13 14 21 27 57 ?_
        refine VC.condT rfl ?_
        refine VC.exit ?_
        refine outBE rfl ?_
        refine outBE rfl ?_
        refine outE ?_
        refine outBB ?_
        refine outN ?_
        refine VC.rs ?_
        refine VO.mv ?_
        refine VO.as ?_
        refine VO.as ?_
        refine VO.keep [0] [(0, wm W)] (by kernel_rfl) ?_
        refine VO.k14 0 1 2 3 8 9 10 11 12 13 14 21 27 57 ?_
        refine VC.ret ?_
        refine outSR ?_
        refine ⟨_, _, res_run (rs := [.tmp 8, .tmp 9]) rfl (.tmp rfl (.tmp rfl .nil)), fun W_ hI => out_of (l := []) hI [] rfl rfl (mle_refl _) (fun hS_ => ?_)⟩
        dsimp only [packV]
        all_goals (first | rfl | (first | exact congrArg (Value.int _) (by rw [hf, fork_end e0 (by omega)]) | (rw [hf, fork_end e0 (by omega)] <;> rfl) | rfl))
      · -- FFF
        refine VO.gy rfl ⟨_, rfl, rfl⟩ (.mv rfl) ?_
        refine VO.gy rfl ⟨_, rfl, rfl⟩ (.mv rfl) ?_
        refine VO.gy rfl ⟨_, rfl, rfl⟩ (.lenS rfl tsl70) ?_
        refine VO.gy rfl ⟨_, rfl, rfl⟩ (.eql rfl rfl) ?_
        refine VO.y rfl (.pF rfl rfl) ?_
        refine VO.as ?_
        refine VO.k14 0 1 2 3 8 9 10 11 12 13 14 21 27 57 ?_
        refine VC.cond rfl (fun hc8 => ?_) (fun hc8 => ?_)
        · -- FFFT
          refine VC.exit ?_
          refine outBE rfl ?_
          refine outBE rfl ?_
          refine outE ?_
          refine outBB ?_
          refine outN ?_
          refine VC.rs ?_
          refine VO.mv ?_
          refine VO.as ?_
          refine VO.as ?_
          refine VO.keep [0] [(0, wm W)] (by kernel_rfl) ?_
          refine VO.k14 0 1 2 3 8 9 10 11 12 13 14 21 27 57 ?_
          refine VC.ret ?_
          refine outSR ?_
          refine ⟨_, _, res_run (rs := [.tmp 8, .tmp 9]) rfl (.tmp rfl (.tmp rfl .nil)), fun W_ hI => out_of (l := []) hI [] rfl rfl (mle_refl _) (fun hS_ => ?_)⟩
          dsimp only [packV]
          all_goals (first | rfl | (first | exact congrArg (Value.int _) (by rw [hf, fork_end e0 (by omega)]) | (rw [hf, fork_end e0 (by omega)] <;> rfl) | rfl))
        · -- FFFF
          refine VC.seq ?_
          refine VC.regD _ 10 [(0, true), (1, true), (2, true), (3, true), (4, true), (5, true), (6, true), (7, true), (8, true), (9, true)] follows (by kernel_rfl) (fun _ h => h.sub [0]) ?_
          refine VD.y rfl rfl (.inl rfl) (.mv rfl) ?_
          refine VD.y rfl rfl (.inl rfl) (.mv rfl) ?_
          obtain ⟨x9, hx9⟩ : ∃ z_, (d0)[k]? = some z_ := ⟨_, List.getElem?_eq_getElem bd⟩
          obtain ⟨gg9, oo9, ec9, ea9, hce9, hre9⟩ := h0.elem hx9
          cases ea9
          obtain ⟨rfl, q9_0, q9_1⟩ := open_Start (x0 := x9.1) (x1 := x9.2) hre9
          simp only [inK] at q9_0
          simp only [inK] at q9_1
          refine VD.y rfl rfl (.inl rfl) (.ixI k rfl rfl tsl70 rfl bd) ?_
          refine VD.y rfl rfl (.inl rfl) (.fa rfl tst90 rfl) ?_
          refine VD.y rfl rfl (.inl rfl) (.ld1 0 rfl tk3 rfl (hce9.at1 (j := 0) rfl)) ?_
          refine VD.y rfl rfl (.inl rfl) (.mv rfl) ?_
          refine VD.y rfl rfl (.inl rfl) (.mv rfl) ?_
          obtain ⟨x10, hx10⟩ : ∃ z_, (d2)[kb]? = some z_ := ⟨_, List.getElem?_eq_getElem bd⟩
          obtain ⟨gg10, oo10, ec10, ea10, hce10, hre10⟩ := h2.elem hx10
          cases ea10
          obtain ⟨rfl, q10_0, q10_1⟩ := open_Start (x0 := x10.1) (x1 := x10.2) hre10
          simp only [inK] at q10_0
          simp only [inK] at q10_1
          refine VD.y rfl rfl (.inl rfl) (.ixI kb rfl rfl tsl70 rfl bd) ?_
          refine VD.y rfl rfl (.inl rfl) (.fa rfl tst90 rfl) ?_
          refine VD.y rfl rfl (.inl rfl) (.ld1 0 rfl tk3 rfl (hce10.at1 (j := 0) rfl)) ?_
          refine VD.nil rfl ?_ rfl
          refine VO.y rfl (.lss rfl rfl) ?_
          refine VO.as ?_
          refine VO.keep [0] [(0, wm W)] (by kernel_rfl) ?_
          refine VO.k15 0 1 2 3 8 9 10 11 12 13 14 21 27 57 68 ?_
          refine outN ?_
          refine VC.cond rfl (fun hc11 => ?_) (fun hc11 => ?_)
          · -- FFFFT
            exfalso; obtain ⟨hxy, hle, hmn⟩ := fork_next2 e0 hkk ‹d0[k]? = some _› ‹d2[kb]? = some _›; subst hxy; omega
          · -- FFFFF
            refine VC.seq ?_
            refine VC.regD _ 10 [(0, true), (1, true), (2, true), (3, true), (4, true), (5, true), (6, true), (7, true), (8, true), (9, true)] follows (by kernel_rfl) (fun _ h => h.sub [0]) ?_
            refine VD.y rfl rfl (.inl rfl) (.mv rfl) ?_
            refine VD.y rfl rfl (.inl rfl) (.mv rfl) ?_
            refine VD.y rfl rfl (.inl rfl) (.ixI k rfl rfl tsl70 rfl bd) ?_
            refine VD.y rfl rfl (.inl rfl) (.fa rfl tst90 rfl) ?_
            refine VD.y rfl rfl (.inl rfl) (.ld1 0 rfl tk3 rfl (hce9.at1 (j := 0) rfl)) ?_
            refine VD.y rfl rfl (.inl rfl) (.mv rfl) ?_
            refine VD.y rfl rfl (.inl rfl) (.mv rfl) ?_
            refine VD.y rfl rfl (.inl rfl) (.ixI kb rfl rfl tsl70 rfl bd) ?_
            refine VD.y rfl rfl (.inl rfl) (.fa rfl tst90 rfl) ?_
            refine VD.y rfl rfl (.inl rfl) (.ld1 0 rfl tk3 rfl (hce10.at1 (j := 0) rfl)) ?_
            refine VD.nil rfl ?_ rfl
            refine VO.y rfl (.gtr rfl rfl) ?_
            refine VO.as ?_
            refine VO.k16 0 1 2 3 8 9 10 11 12 13 14 21 27 57 68 82 ?_
            refine outN ?_
            refine VC.cond rfl (fun hc14 => ?_) (fun hc14 => ?_)
            · -- FFFFFT
              exfalso; obtain ⟨hxy, hle, hmn⟩ := fork_next2 e0 hkk ‹d0[k]? = some _› ‹d2[kb]? = some _›; subst hxy; omega
            · -- FFFFFF
              refine VC.seq ?_
              refine VC.regD _ 21 [(0, true), (1, true), (2, true), (3, true), (4, true), (5, true), (6, true), (7, true), (8, true), (9, true), (10, true), (11, true), (12, true), (13, true), (15, true), (16, true), (17, true), (14, false), (18, false), (19, true), (20, true)] follows (by kernel_rfl) (fun _ h => h.sub [0]) ?_
              refine VD.y rfl rfl (.inl rfl) (.mv rfl) ?_
              refine VD.y rfl rfl (.inl rfl) (.mv rfl) ?_
              refine VD.y rfl rfl (.inl rfl) (.ixI k rfl rfl tsl70 rfl bd) ?_
              refine VD.y rfl rfl (.inl rfl) (.fa rfl tst90 rfl) ?_
              refine VD.y rfl rfl (.inl rfl) (.ld1 0 rfl tk3 rfl (hce9.at1 (j := 1) rfl)) ?_
              refine VD.y rfl rfl (.inl rfl) (.mv rfl) ?_
              refine VD.y rfl rfl (.inl rfl) (.mv rfl) ?_
              refine VD.y rfl rfl (.inl rfl) (.ixI kb rfl rfl tsl70 rfl bd) ?_
              refine VD.y rfl rfl (.inl rfl) (.fa rfl tst90 rfl) ?_
              refine VD.y rfl rfl (.inl rfl) (.ld1 0 rfl tk3 rfl (hce10.at1 (j := 1) rfl)) ?_
              refine VD.y rfl rfl (.inl rfl) (.maxM rfl rfl) ?_
              refine VD.y rfl rfl (.inl rfl) (.mv rfl) ?_
              refine VD.y rfl rfl (.inl rfl) (.mv rfl) ?_
              refine VD.y rfl rfl (.inl rfl) (.mv rfl) ?_
              refine VD.y rfl rfl (.inl rfl) (.mv rfl) ?_
              refine VD.y rfl rfl (.inl rfl) (.mv rfl) ?_
              refine VD.y rfl rfl (.inl rfl) (.mv rfl) ?_
              refine VD.callN 117 rfl rfl (.inl rfl) fnOk135 rfl (fun _ h => h.sub [0]) (fun W hW => sLast_ok W (Rd.mono h0 (hW.at (i := 0) rfl)) d1 bdk k bd bd (by assumption)) (fun v17 m17 hv17 => ?_)
              subst hv17
              refine VD.callN 118 rfl rfl (.inl rfl) fnOk135 rfl (fun _ h => h.sub [0]) (fun W hW => sLast_ok W (Rd.mono h2 (hW.at (i := 0) rfl)) d3 bdk kb bd bd (by assumption)) (fun v18 m18 hv18 => ?_)
              subst hv18
              refine VD.y rfl rfl (.inl rfl) (.minM rfl rfl) ?_
              refine VD.y rfl rfl (.inl rfl) (.as rfl) ?_
              refine VD.nil rfl ?_ rfl
              refine VO.as ?_
              refine VO.k18 0 1 2 3 8 9 10 11 12 13 14 15 16 21 27 57 68 82 ?_
              refine outN ?_
              refine VC.seq ?_
              refine VC.rs ?_
              refine VO.mv ?_
              refine VO.mv ?_
              refine VO.y rfl (.leq rfl rfl) ?_
              refine VO.keep [0] [(0, wm W)] (by kernel_rfl) ?_
              refine VO.k19 0 1 2 3 8 9 10 11 12 13 14 15 16 21 27 51 57 68 82 ?_
              refine VC.cond rfl (fun hc19 => ?_) (fun hc19 => ?_)
              · -- FFFFFFT
                refine VC.reg ?_
                refine VO.mv ?_
                refine VO.as ?_
                refine VO.k19 0 1 2 3 8 9 10 11 12 13 14 15 16 21 27 51 57 68 82 ?_
                refine outN ?_
                refine VC.reg ?_
                refine VO.mv ?_
                refine VO.y rfl (.add (c := ((k + 1 : Nat) : Int)) rfl rfl (by omega) ⟨bd, bd⟩) ?_
                refine VO.mv ?_
                refine VO.y rfl (.add (c := ((kb + 1 : Nat) : Int)) rfl rfl (by omega) ⟨bd, bd⟩) ?_
                refine VO.as ?_
                refine VO.as ?_
                refine VO.k19 0 1 2 3 8 9 10 11 12 13 14 15 16 21 27 51 57 68 82 ?_
                refine outBN ?_
                refine outBN ?_
                exact outN ⟨⟨k + 1, kb + 1, min (lastS d0 d1 k) (lastS d2 d3 kb)⟩, ⟨by (dsimp only; omega), by omega, by exact (fork_next2 e0 hkk ‹d0[k]? = some _› ‹d2[kb]? = some _›).2.2⟩, bd, ⟨⟨rfl, rfl, rfl, rfl, rfl, rfl, rfl, rfl, rfl, rfl, rfl, rfl, rfl, trivial⟩, fun _ h => Inv.sub h [0]⟩⟩
              · -- FFFFFFF
                exfalso; obtain ⟨hxy, hle, hmn⟩ := fork_next2 e0 hkk ‹d0[k]? = some _› ‹d2[kb]? = some _›; omega
end
end Go.Proofs.Ytfaknkkaegjdaaa
