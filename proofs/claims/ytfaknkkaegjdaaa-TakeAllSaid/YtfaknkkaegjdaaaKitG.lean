/- Own library, part G: how values read as plain data. -/
import Derived.Test.YtfaknkkaegjdaaaKitF
set_option linter.unusedVariables false
namespace Go.Proofs.Ytfaknkkaegjdaaa

def inK : IntKind → Int → Prop
  | .i64, n => -9223372036854775808 ≤ n ∧ n ≤ 9223372036854775807
  | .u64, n => 0 ≤ n ∧ n ≤ 18446744073709551615
  | .i32, n => -2147483648 ≤ n ∧ n ≤ 2147483647
  | .u32, n => 0 ≤ n ∧ n ≤ 4294967295
  | .i16, n => -32768 ≤ n ∧ n ≤ 32767
  | .u16, n => 0 ≤ n ∧ n ≤ 65535
  | .i8, n => -128 ≤ n ∧ n ≤ 127
  | .u8, n => 0 ≤ n ∧ n ≤ 255

inductive Ty where
  | int (k : IntKind)
  | byte
  | bool
  | str
  | pair (a b : Ty)
  | sl (e : Ty)
  | spl (e : Ty)
  | ptr (e : Ty)
  | addr

namespace Ty
@[reducible] def Den : Ty → Type
  | .int _ => Int
  | .byte => UInt8
  | .bool => Bool
  | .str => List UInt8
  | .pair a b => a.Den × b.Den
  | .sl e => List e.Den
  | .spl e => List e.Den × List e.Den
  | .ptr e => Nat × e.Den
  | .addr => Option Nat
def sz : Ty → Nat
  | .pair a b => a.sz + b.sz
  | _ => 1
/-- no memory beyond its own cells. -/
def flat : Ty → Bool
  | .pair a b => a.flat && b.flat
  | .sl _ => false
  | .spl _ => false
  | .ptr _ => false
  | _ => true
end Ty

/-- Cells that read, part by part, as the list. -/
def All2c {α : Type} (R : List Value → α → Prop) : List Value → List α → Prop
  | cs, [] => cs = []
  | cs, x :: r => ∃ c1 c2, cs = c1 ++ c2 ∧ R c1 x ∧ All2c R c2 r

def Rd : (t : Ty) → Mem → List Value → t.Den → Prop
  | .int k, _, cs, (n : Int) => cs = [.int k n] ∧ inK k n
  | .byte, _, cs, (b : UInt8) => cs = [byV b]
  | .bool, _, cs, (b : Bool) => cs = [.bool b]
  | .str, _, cs, (s : List UInt8) => cs = [str s] ∧ s.length ≤ maxLen
  | .pair a b, m, cs, (x, y) => ∃ c1 c2, cs = c1 ++ c2 ∧ Rd a m c1 x ∧ Rd b m c2 y
  | .sl e, m, cs, (xs : List e.Den) => ∃ A c, cs = [.slice A xs.length c] ∧ xs.length ≤ c ∧ c ≤ maxLen ∧
      (xs.length = 0 ∨ ∃ g off all, A = some ⟨g, off, none⟩ ∧ cellsAt m g off (xs.length * e.sz) all ∧ All2c (Rd e m) all xs)
  | .spl e, m, cs, ((xs, ys) : List e.Den × List e.Den) => ∃ A c, cs = [.slice A xs.length c] ∧ (xs ++ ys).length ≤ c ∧ c ≤ maxLen ∧
      ((xs ++ ys).length = 0 ∨ ∃ g off all, A = some ⟨g, off, none⟩ ∧ cellsAt m g off ((xs ++ ys).length * e.sz) all ∧ All2c (Rd e m) all (xs ++ ys))
  | .ptr e, m, cs, ((g, d) : Nat × e.Den) => cs = [.pointer (some ⟨g, 0, none⟩)] ∧ ∃ rc E, m g = some (.cells rc.toArray E (0, 0)) ∧ Rd e m rc d
  | .addr, _, cs, (g : Option Nat) => cs = [.pointer (g.map fun g => ⟨g, 0, none⟩)]

section
variable {α : Type} {R R' : List Value → α → Prop} {k : Nat}
theorem All2c.mono : ∀ {xs : List α} {cs : List Value}, All2c R cs xs → (∀ c x, R c x → R' c x) → All2c R' cs xs
  | [], _, h, _ => h
  | _ :: _, _, ⟨c1, c2, h1, h2, h3⟩, hr => ⟨c1, c2, h1, hr _ _ h2, All2c.mono h3 hr⟩
theorem All2c.len (hk : ∀ c x, R c x → c.length = k) : ∀ {xs : List α} {cs : List Value}, All2c R cs xs → cs.length = xs.length * k
  | [], _, h => by rw [show _ = [] from h]; simp
  | _ :: r, _, ⟨c1, c2, h1, h2, h3⟩ => by
    rw [h1, List.length_append, hk _ _ h2, All2c.len hk h3, List.length_cons, Nat.add_mul]; omega
theorem All2c.app : ∀ {xs ys : List α} {cs ds : List Value}, All2c R cs xs → All2c R ds ys → All2c R (cs ++ ds) (xs ++ ys)
  | [], _, _, _, h, h' => by rw [show _ = [] from h]; exact h'
  | _ :: _, _, _, _, ⟨c1, c2, h1, h2, h3⟩, h' => ⟨c1, c2 ++ _, by rw [h1, List.append_assoc], h2, All2c.app h3 h'⟩
theorem All2c.one {c : List Value} {x : α} (h : R c x) : All2c R c [x] := ⟨c, [], by simp, h, rfl⟩
theorem All2c.get (hk : ∀ c x, R c x → c.length = k) : ∀ {xs : List α} {cs : List Value} {i : Nat} {x : α}, All2c R cs xs → xs[i]? = some x → R ((cs.drop (i * k)).take k) x
  | y :: r, _, 0, x, ⟨c1, c2, h1, h2, h3⟩, hi => by
    simp at hi; subst hi
    rw [h1, Nat.zero_mul, List.drop_zero, ← hk _ _ h2, List.take_left]
    exact h2
  | y :: r, _, i + 1, x, ⟨c1, c2, h1, h2, h3⟩, hi => by
    have := All2c.get hk h3 (i := i) (by simpa using hi)
    rw [h1, show (i + 1) * k = c1.length + i * k by rw [hk _ _ h2, Nat.add_mul]; omega, List.drop_append, List.drop_of_length_le (by omega), List.nil_append]
    simpa using this
theorem All2c.take (hk : ∀ c x, R c x → c.length = k) : ∀ {xs : List α} {cs : List Value} (j : Nat), All2c R cs xs → All2c R (cs.take (j * k)) (xs.take j)
  | [], _, j, h => by rw [show _ = [] from h]; simp [All2c]
  | y :: r, _, 0, h => by simp [All2c]
  | y :: r, _, j + 1, ⟨c1, c2, h1, h2, h3⟩ => by
    refine ⟨c1, c2.take (j * k), ?_, h2, All2c.take hk j h3⟩
    rw [h1, show (j + 1) * k = c1.length + j * k by rw [hk _ _ h2, Nat.add_mul]; omega, List.take_length_add_append]
theorem All2c.drop (hk : ∀ c x, R c x → c.length = k) : ∀ {xs : List α} {cs : List Value} (j : Nat), All2c R cs xs → All2c R (cs.drop (j * k)) (xs.drop j)
  | [], _, j, h => by rw [show _ = [] from h]; simp [All2c]
  | y :: r, _, 0, h => by simpa using h
  | y :: r, _, j + 1, ⟨c1, c2, h1, h2, h3⟩ => by
    rw [h1, show (j + 1) * k = c1.length + j * k by rw [hk _ _ h2, Nat.add_mul]; omega, List.drop_length_add_append]
    exact All2c.drop hk j h3
theorem All2c.set (hk : ∀ c x, R c x → c.length = k) : ∀ {xs : List α} {cs : List Value} {i : Nat} {x : α} {c : List Value}, All2c R cs xs → i < xs.length → R c x → All2c R (splice cs (i * k) c) (xs.set i x)
  | y :: r, _, 0, x, c, ⟨c1, c2, h1, h2, h3⟩, _, hx => by
    refine ⟨c, c2, ?_, hx, h3⟩
    have e1 := hk _ _ h2
    have e2 := hk _ _ hx
    rw [h1]
    unfold splice
    rw [Nat.zero_mul, List.take_zero, List.nil_append, Nat.zero_add, List.drop_append, List.drop_of_length_le (by omega)]
    simp [show c.length - c1.length = 0 by omega]
  | y :: r, _, i + 1, x, c, ⟨c1, c2, h1, h2, h3⟩, hi, hx => by
    refine ⟨c1, splice c2 (i * k) c, ?_, h2, All2c.set hk h3 (by simpa using hi) hx⟩
    rw [h1, show (i + 1) * k = c1.length + i * k by rw [hk _ _ h2, Nat.add_mul]; omega]
    unfold splice
    rw [List.take_length_add_append, Nat.add_assoc, List.drop_length_add_append]
    simp
end

theorem Rd.len : ∀ {t : Ty} {m : Mem} {cs : List Value} {d : t.Den}, Rd t m cs d → cs.length = t.sz
  | .int _, _, _, _, h => by rw [h.1]; rfl
  | .byte, _, _, _, h => by rw [show _ = _ from h]; rfl
  | .bool, _, _, _, h => by rw [show _ = _ from h]; rfl
  | .str, _, _, _, h => by rw [h.1]; rfl
  | .pair a b, _, _, (x, y), ⟨c1, c2, h1, h2, h3⟩ => by rw [h1, List.length_append, Rd.len h2, Rd.len h3]; rfl
  | .sl e, _, _, _, ⟨A, c, h1, _⟩ => by rw [h1]; rfl
  | .spl e, _, _, (_, _), ⟨A, c, h1, _⟩ => by rw [h1]; rfl
  | .ptr e, _, _, (_, _), ⟨h1, _⟩ => by rw [h1]; rfl
  | .addr, _, _, _, h => by rw [show _ = _ from h]; rfl

theorem Rd.mono : ∀ {t : Ty} {m m' : Mem} {cs : List Value} {d : t.Den}, Rd t m cs d → mle m m' → Rd t m' cs d
  | .int _, _, _, _, _, h, _ => h
  | .byte, _, _, _, _, h, _ => h
  | .bool, _, _, _, _, h, _ => h
  | .str, _, _, _, _, h, _ => h
  | .pair a b, _, _, _, (x, y), ⟨c1, c2, h1, h2, h3⟩, hm => ⟨c1, c2, h1, Rd.mono h2 hm, Rd.mono h3 hm⟩
  | .sl e, _, _, _, _, ⟨A, c, h1, h2, h3, h4⟩, hm => ⟨A, c, h1, h2, h3, h4.imp id fun ⟨g, off, all, k1, k2, k3⟩ => ⟨g, off, all, k1, k2.mono hm, k3.mono fun _ _ h => Rd.mono h hm⟩⟩
  | .spl e, _, _, _, (_, _), ⟨A, c, h1, h2, h3, h4⟩, hm => ⟨A, c, h1, h2, h3, h4.imp id fun ⟨g, off, all, k1, k2, k3⟩ => ⟨g, off, all, k1, k2.mono hm, k3.mono fun _ _ h => Rd.mono h hm⟩⟩
  | .ptr e, _, _, _, (_, _), ⟨h1, rc, E, h2, h3⟩, hm => ⟨h1, rc, E, hm _ _ h2, Rd.mono h3 hm⟩
  | .addr, _, _, _, _, h, _ => h

theorem Rd.flat : ∀ {t : Ty} {m : Mem} {cs : List Value} {d : t.Den}, t.flat = true → Rd t m cs d → ∀ m', Rd t m' cs d
  | .int _, _, _, _, _, h, _ => h
  | .byte, _, _, _, _, h, _ => h
  | .bool, _, _, _, _, h, _ => h
  | .str, _, _, _, _, h, _ => h
  | .pair a b, _, _, (x, y), hf, ⟨c1, c2, h1, h2, h3⟩, m' => by
    have hf' : (a.flat && b.flat) = true := hf
    rw [Bool.and_eq_true] at hf'
    exact ⟨c1, c2, h1, Rd.flat hf'.1 h2 m', Rd.flat hf'.2 h3 m'⟩
  | .addr, _, _, _, _, h, _ => h

theorem Rd.nice : ∀ {t : Ty} {m : Mem} {cs : List Value} {d : t.Den}, Rd t m cs d → ∀ u ∈ cs, u.oneCell' = true
  | .int _, _, _, _, h, u, hu => by rw [h.1] at hu; simp at hu; subst hu; rfl
  | .byte, _, _, _, h, u, hu => by rw [show _ = _ from h] at hu; simp at hu; subst hu; rfl
  | .bool, _, _, _, h, u, hu => by rw [show _ = _ from h] at hu; simp at hu; subst hu; rfl
  | .str, _, _, _, h, u, hu => by rw [h.1] at hu; simp at hu; subst hu; rfl
  | .pair a b, _, _, (x, y), ⟨c1, c2, h1, h2, h3⟩, u, hu => by
    rw [h1] at hu
    rcases List.mem_append.1 hu with hu | hu
    · exact Rd.nice h2 u hu
    · exact Rd.nice h3 u hu
  | .sl e, _, _, _, ⟨A, c, h1, _⟩, u, hu => by rw [h1] at hu; simp at hu; subst hu; rfl
  | .spl e, _, _, (_, _), ⟨A, c, h1, _⟩, u, hu => by rw [h1] at hu; simp at hu; subst hu; rfl
  | .ptr e, _, _, (_, _), ⟨h1, _⟩, u, hu => by rw [h1] at hu; simp at hu; subst hu; rfl
  | .addr, _, _, _, h, u, hu => by rw [show _ = _ from h] at hu; simp at hu; subst hu; rfl

theorem All2c.nice {t : Ty} {m : Mem} : ∀ {xs : List t.Den} {cs : List Value}, All2c (Rd t m) cs xs → ∀ u ∈ cs, u.oneCell' = true
  | [], _, h, u, hu => by rw [show _ = [] from h] at hu; cases hu
  | _ :: _, _, ⟨c1, c2, h1, h2, h3⟩, u, hu => by
    rw [h1] at hu
    rcases List.mem_append.1 hu with hu | hu
    · exact h2.nice u hu
    · exact All2c.nice h3 u hu

/-- A slice's value, opened. -/
theorem Rd.slice {e : Ty} {m : Mem} {v : Value} {xs : List e.Den} (h : Rd (.sl e) m [v] xs) : ∃ A c, v = .slice A xs.length c ∧ xs.length ≤ c ∧ c ≤ maxLen := by
  obtain ⟨A, c, h1, h2, h3, _⟩ := h
  exact ⟨A, c, by simpa using h1, h2, h3⟩
/-- An element's cells. -/
theorem Rd.elem {e : Ty} {m : Mem} {A : Option Addr} {l c i : Nat} {xs : List e.Den} {x : e.Den} (h : Rd (.sl e) m [.slice A l c] xs) (hi : xs[i]? = some x) :
    ∃ g off ec, A = some ⟨g, off, none⟩ ∧ cellsAt m g (off + i * e.sz) e.sz ec ∧ Rd e m ec x := by
  obtain ⟨A', c', h1, h2, h3, h4⟩ := h
  have hlt : i < xs.length := (List.getElem?_eq_some_iff.1 hi).1
  simp only [List.cons.injEq, Value.slice.injEq, and_true] at h1
  obtain ⟨rfl, rfl, rfl⟩ := h1
  rcases h4 with h4 | ⟨g, off, all, k1, k2, k3⟩
  · omega
  · refine ⟨g, off, (all.drop (i * e.sz)).take e.sz, k1, ?_, k3.get (fun _ _ h => h.len) hi⟩
    obtain ⟨cs, E, fz, q1, q2, rfl⟩ := k2
    have hm : i * e.sz + e.sz ≤ xs.length * e.sz := by
      have := Nat.mul_le_mul_right e.sz (Nat.succ_le_of_lt hlt)
      rw [Nat.succ_mul] at this; exact this
    refine ⟨cs, E, fz, q1, by omega, ?_⟩
    rw [List.drop_take, List.take_take, List.drop_drop]
    congr 1
    omega
/-- The whole row. -/
theorem Rd.row {e : Ty} {m : Mem} {A : Option Addr} {l c : Nat} {xs : List e.Den} (h : Rd (.sl e) m [.slice A l c] xs) (h0 : xs ≠ []) :
    ∃ g off all, A = some ⟨g, off, none⟩ ∧ cellsAt m g off (xs.length * e.sz) all ∧ All2c (Rd e m) all xs := by
  obtain ⟨A', c', h1, h2, h3, h4⟩ := h
  simp only [List.cons.injEq, Value.slice.injEq, and_true] at h1
  obtain ⟨rfl, rfl, rfl⟩ := h1
  rcases h4 with h4 | h4
  · exact absurd (List.eq_nil_of_length_eq_zero h4) h0
  · exact h4
theorem Rd.nil (e : Ty) (m : Mem) (A : Option Addr) (c : Nat) (hc : c ≤ maxLen) : Rd (.sl e) m [.slice A 0 c] ([] : List e.Den) := ⟨A, c, rfl, Nat.zero_le _, hc, .inl rfl⟩

theorem cellsAt.sub {m : Mem} {g off k : Nat} {all : List Value} (h : cellsAt m g off k all) {i j : Nat} (hij : i + j ≤ k) : cellsAt m g (off + i) j ((all.drop i).take j) := by
  obtain ⟨cs, E, fz, q1, q2, rfl⟩ := h
  refine ⟨cs, E, fz, q1, by omega, ?_⟩
  rw [List.drop_take, List.take_take, List.drop_drop]
  congr 1
  omega

/-- x[i:j], and what the walk makes of its address. -/
theorem Rd.sub {e : Ty} {m : Mem} {A : Option Addr} {l c i j : Nat} {xs : List e.Den} (h : Rd (.sl e) m [.slice A l c] xs) (hij : i ≤ j) (hj : j ≤ xs.length) :
    Rd (.sl e) m [.slice (if c = i then A else A.map (·.add (i * e.sz))) (j - i) (c - i)] ((xs.take j).drop i) := by
  have h' := h
  obtain ⟨A', c', h1, h2, h3, h4⟩ := h'
  simp only [List.cons.injEq, Value.slice.injEq, and_true] at h1
  obtain ⟨rfl, rfl, rfl⟩ := h1
  have hl : ((xs.take j).drop i).length = j - i := by simp; omega
  refine ⟨_, _, by rw [hl], by rw [hl]; omega, by omega, ?_⟩
  rw [hl]
  by_cases h0 : j - i = 0
  · exact .inl h0
  · right
    rcases h4 with h4 | ⟨g, off, all, k1, k2, k3⟩
    · omega
    · subst k1
      rw [if_neg (by omega)]
      have hm1 : i * e.sz + (j - i) * e.sz = j * e.sz := by rw [← Nat.add_mul]; congr 1; omega
      have hm2 := Nat.mul_le_mul_right e.sz hj
      refine ⟨g, off + i * e.sz, (all.drop (i * e.sz)).take ((j - i) * e.sz), by simp [add_off], k2.sub (by omega), ?_⟩
      have := (k3.take (fun _ _ h => h.len) j).drop (fun _ _ h => h.len) i
      rwa [List.drop_take, ← Nat.sub_mul] at this

/-! ### A slice of one's own in chunk m, with what its elements reach in n -/
def OwnL (e : Ty) (m n : Mem) (v : Value) (xs : List e.Den) : Prop := ∃ m0 cs, mle m0 m ∧ OwnA e.sz m0 v xs.length cs ∧ All2c (Rd e n) cs xs

section
variable {e : Ty} {m n : Mem} {v : Value} {xs : List e.Den}
theorem OwnL.nil (e : Ty) (m n : Mem) : OwnL e m n (.slice none 0 0) [] := ⟨mnil, [], mle_nil _, .nil none, rfl⟩
theorem OwnL.mono {n' : Mem} (h : OwnL e m n v xs) (hn : mle n n') : OwnL e m n' v xs :=
  let ⟨m0, cs, h0, h1, h2⟩ := h
  ⟨m0, cs, h0, h1, h2.mono fun _ _ h => h.mono hn⟩
theorem OwnL.up {m' : Mem} (h : OwnL e m n v xs) (hm : mle m m') : OwnL e m' n v xs :=
  let ⟨m0, cs, h0, h1, h2⟩ := h
  ⟨m0, cs, h0.trans hm, h1, h2⟩
theorem OwnL.flat {n' : Mem} (h : OwnL e m n v xs) (hf : e.flat = true) : OwnL e m n' v xs :=
  let ⟨m0, cs, h0, h1, h2⟩ := h
  ⟨m0, cs, h0, h1, h2.mono fun _ _ h => h.flat hf _⟩
theorem OwnA.slice {sz len : Nat} {cs : List Value} (h : OwnA sz m v len cs) : ∃ A c, v = .slice A len c ∧ len ≤ c ∧ c ≤ maxLen := by
  cases h with
  | nil A => exact ⟨A, 0, rfl, Nat.le_refl _, Nat.zero_le _⟩
  | row g off len cap E c k1 k2 k3 => exact ⟨_, _, rfl, k2, k3⟩
theorem OwnL.slice (h : OwnL e m n v xs) : ∃ A c, v = .slice A xs.length c ∧ xs.length ≤ c ∧ c ≤ maxLen := by
  obtain ⟨m0, cs, h0, h1, h2⟩ := h
  exact h1.slice
theorem OwnA.cells {sz len : Nat} {cs : List Value} (h : OwnA sz m v len cs) (h0 : len ≠ 0) : ∃ g off c, v = .slice (some ⟨g, off, none⟩) len c ∧ cellsAt m g off (len * sz) cs := by
  cases h with
  | nil => exact absurd rfl h0
  | row g off len cap E c k1 k2 k3 =>
    have := Nat.mul_le_mul_right sz k2
    exact ⟨g, off, cap, rfl, c.toArray, E, (0, 0), mone_self _ _, by simp; omega, rfl⟩
theorem OwnA.rd {cs : List Value} (h1 : OwnA e.sz m v xs.length cs) (h2 : All2c (Rd e n) cs xs) {k : Mem} (hm : mle m k) (hn : mle n k) : Rd (.sl e) k [v] xs := by
  obtain ⟨A, c, rfl, q2, q3⟩ := h1.slice
  refine ⟨A, c, rfl, q2, q3, ?_⟩
  by_cases h0 : xs.length = 0
  · exact .inl h0
  · right
    obtain ⟨g, off, c', hv, hc⟩ := h1.cells h0
    simp only [Value.slice.injEq, true_and] at hv
    exact ⟨g, off, cs, hv.1, hc.mono hm, h2.mono fun _ _ h => h.mono hn⟩
theorem OwnL.rd (h : OwnL e m n v xs) {k : Mem} (hm : mle m k) (hn : mle n k) : Rd (.sl e) k [v] xs := by
  obtain ⟨m0, cs, h0, k1, k2⟩ := h
  exact k1.rd k2 (h0.trans hm) hn
theorem OwnL.one {m' : Mem} {v' : Value} {cs xc : List Value} {x : e.Den} (hc : All2c (Rd e n) cs xs) (h : OwnA e.sz m' v' (xs.length + 1) (cs ++ xc)) (hx : Rd e n xc x) : OwnL e m' n v' (xs ++ [x]) :=
  ⟨m', cs ++ xc, mle_refl _, by simpa using h, hc.app (.one hx)⟩
theorem OwnL.more {m' : Mem} {v' : Value} {cs xc : List Value} {ys : List e.Den} (hc : All2c (Rd e n) cs xs) (h : OwnA e.sz m' v' (xs.length + ys.length) (cs ++ xc)) (hx : All2c (Rd e n) xc ys) : OwnL e m' n v' (xs ++ ys) :=
  ⟨m', cs ++ xc, mle_refl _, by simpa using h, hc.app hx⟩
end

theorem cellsAt.at1 {m : Mem} {g off k : Nat} {cs : List Value} {j : Nat} {v : Value} (h : cellsAt m g off k cs) (hj : cs[j]? = some v) : cellsAt m g (off + j) 1 [v] := by
  have hlt : j < cs.length := (List.getElem?_eq_some_iff.1 hj).1
  have := h.sub (i := j) (j := 1) (by rw [← h.len]; omega)
  rwa [List.drop_eq_getElem_cons hlt, show cs[j] = v from (List.getElem?_eq_some_iff.1 hj).2] at this
theorem cellsAt.atA {m : Mem} {g off k : Nat} {cs : List Value} {j q : Nat} {ds : List Value} (h : cellsAt m g off k cs) (hj : Nat.ble (j + q) k = true) (hd : (cs.drop j).take q = ds) : cellsAt m g (off + j) q ds :=
  hd ▸ h.sub (Nat.le_of_ble_eq_true hj)
theorem Rd.pair {a b : Ty} {m : Mem} {cs : List Value} {x : a.Den × b.Den} (h : Rd (.pair a b) m cs x) : ∃ c1 c2, cs = c1 ++ c2 ∧ Rd a m c1 x.1 ∧ Rd b m c2 x.2 := h
theorem Rd.mkPair {a b : Ty} {m : Mem} {c1 c2 : List Value} {x : a.Den × b.Den} (h1 : Rd a m c1 x.1) (h2 : Rd b m c2 x.2) : Rd (.pair a b) m (c1 ++ c2) x := ⟨c1, c2, rfl, h1, h2⟩
/- mapSub -/
/-- What a slice holds may be appended. -/
theorem Rd.src {P : Program} {Ω : Ctx} {e : Ty} {xt et : TypeId} (i : Nat) {m : Mem} {v : Value} {xs : List e.Den} (h : Rd (.sl e) m [v] xs) (hm : cget Ω i = some m) (ht : P.underlying xt = some (.slice et)) :
    ∃ all, Src P Ω e.sz xt v xs.length all ∧ All2c (Rd e m) all xs := by
  obtain ⟨A, c, rfl, h2, h3⟩ := h.slice
  by_cases h0 : xs = []
  · subst h0; exact ⟨[], .zero A c et ht, rfl⟩
  · obtain ⟨g, off, all, rfl, k2, k3⟩ := h.row h0
    exact ⟨all, .row i m g off xs.length c all et ht hm k2, k3⟩
end Go.Proofs.Ytfaknkkaegjdaaa
