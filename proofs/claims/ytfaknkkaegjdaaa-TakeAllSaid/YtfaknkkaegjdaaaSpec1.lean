/- Plain laws: numbers of a few bytes, ops, batches. No program in sight. -/
import Derived.Test.YtfaknkkaegjdaaaTypes
set_option linter.unusedVariables false
set_option linter.unusedSimpArgs false
namespace Go.Proofs.Ytfaknkkaegjdaaa
abbrev Bytes := List UInt8

theorem len_ne {α : Type} {a b : List α} (h : ¬ (a.length : Int) = b.length) : ¬ a = b := fun e => h (by rw [e])
theorem take_all {α : Type} {a b : List α} {k : Nat} (h : a.take k = b.take k) (ha : ¬ (k : Int) < a.length) (hl : (a.length : Int) = b.length) : a = b := by
  rwa [List.take_of_length_le (by omega), List.take_of_length_le (by omega)] at h
theorem take_next {α : Type} {a b : List α} {k : Nat} {x y : α} (h : a.take k = b.take k) (hx : a[k]? = some x) (hy : b[k]? = some y) (hxy : x = y) : a.take (k + 1) = b.take (k + 1) := by
  rw [List.take_add_one, List.take_add_one, h, hx, hy, hxy]
theorem get_ne {α : Type} {a b : List α} {k : Nat} {x y : α} (hx : a[k]? = some x) (hy : b[k]? = some y) (h : ¬ x = y) : ¬ a = b := fun e => by
  subst e; rw [hx] at hy; exact h (Option.some.inj hy)
theorem byte_eq {x y : UInt8} (h : (x.toNat : Int) = y.toNat) : x = y := UInt8.toNat_inj.1 (by omega)
theorem byte_ne {x y : UInt8} (h : ¬ (x.toNat : Int) = y.toNat) : ¬ x = y := fun e => h (by rw [e])

/-! ### Ops -/
def opOk (o : DOp) : Prop := 1 ≤ o.2.1.length ∧ o.2.1.length ≤ 16 ∧ o.2.2.length ≤ 32 ∧ (o.1 = true ∨ o.2.2 = [])
instance (o : DOp) : Decidable (opOk o) := by unfold opOk; infer_instance
def opCheck (o : DOp) : Int := if opOk o then 0 else 2
theorem opCheck_bad {o : DOp} (h : ¬ opOk o) : opCheck o = 2 := if_neg h
theorem opCheck_good {o : DOp} (h : opOk o) : opCheck o = 0 := if_pos h
theorem opOk_of {o : DOp} (h : opCheck o = 0) : opOk o := by
  unfold opCheck at h
  split at h
  · assumption
  · cases h

/-! ### Numbers of a few bytes -/
def venc (x : Nat) : Bytes := if h : x < 128 then [UInt8.ofNat x] else UInt8.ofNat (x % 128 + 128) :: venc (x / 128)
  termination_by x
def vgo : Nat → Nat → Bytes → Option (Nat × Nat)
  | _, _, [] => none
  | i, x, c :: r => if i = 9 ∧ c.toNat > 1 then none else if c.toNat ≥ 128 then vgo (i + 1) (x + c.toNat % 128 * 2 ^ (7 * i)) r
    else if c.toNat = 0 ∧ i > 0 then none else some (x + c.toNat % 128 * 2 ^ (7 * i), i + 1)
def vread (b : Bytes) : Option (Nat × Nat) := vgo 0 0 b
def vsmall (b : Bytes) (most : Int) : Option (Nat × Nat) := match vread b with
  | some (x, n) => if (x : Int) ≤ most then some (x, n) else none
  | none => none

theorem venc_last {x : Nat} (h : x < 128) : venc x = [UInt8.ofNat (x % 256)] := by
  rw [venc, dif_pos h, Nat.mod_eq_of_lt (by omega)]
theorem ofNat_mod (x : Nat) : UInt8.ofNat (x % 256) = UInt8.ofNat x := by
  apply UInt8.toNat_inj.1; simp
theorem venc_step {x : Nat} (h : ¬ x < 128) (out : Bytes) : out ++ venc x = (out ++ [UInt8.ofNat (x % 256 % 128 + 128)]) ++ venc (x / 128) := by
  rw [venc, dif_neg h]
  have : x % 256 % 128 = x % 128 := by omega
  rw [this]; simp
theorem venc_step2 {x : Nat} (h : ¬ x < 128) (out : Bytes) : out ++ venc x = (out ++ [UInt8.ofNat (x % 128 % 256 + 128)]) ++ venc (x / 128) := by
  rw [venc, dif_neg h]
  have : x % 128 % 256 = x % 128 := by omega
  rw [this]; simp
theorem venc_len_le : ∀ (k x : Nat), x < 128 ^ (k + 1) → (venc x).length ≤ k + 1
  | 0, x, h => by rw [venc, dif_pos (by omega)]; simp
  | k + 1, x, h => by
    rw [venc]
    split
    · simp
    · have := venc_len_le k (x / 128) (by rw [Nat.pow_succ] at h; omega)
      simp; omega
theorem venc_len {x : Nat} (h : x < 18446744073709551616) : (venc x).length ≤ 10 := venc_len_le 9 x (by omega)
theorem venc_pos (x : Nat) : 1 ≤ (venc x).length := by
  rw [venc]; split <;> simp
theorem venc_room {x y : Nat} {out b : Bytes} (hx : x < 18446744073709551616) (hy : y < 18446744073709551616) (h : out ++ venc x = b ++ venc y) : out.length ≤ b.length + 9 := by
  have h1 := congrArg List.length h
  have h2 := venc_len hy
  have h3 := venc_pos x
  simp at h1; omega

def spareB : Bytes := [201, 202, 203]
def spareO : List DOp := [(true, [98, 101, 104, 105, 110, 100], []), (true, [98, 101, 104, 105, 110, 100], []), (true, [98, 101, 104, 105, 110, 100], [])]
theorem spareB_next {out d : Bytes} {k : Nat} (h : out = d ++ spareB.take k) (hk : k < 3) : out ++ [UInt8.ofNat (201 + k % 256)] = d ++ spareB.take (k + 1) := by
  subst h
  match k, hk with
  | 0, _ => simp [spareB]
  | 1, _ => simp [spareB]
  | 2, _ => simp [spareB]
theorem spareO_next {out d : List DOp} {k : Nat} (h : out = d ++ spareO.take k) (hk : k < 3) : out ++ [(true, [98, 101, 104, 105, 110, 100], [])] = d ++ spareO.take (k + 1) := by
  subst h
  match k, hk with
  | 0, _ => simp [spareO]
  | 1, _ => simp [spareO]
  | 2, _ => simp [spareO]
theorem op_eq {x y : DOp} (h : x.1 = y.1 ∧ x.2.1 = y.2.1 ∧ x.2.2 = y.2.2) : x = y := Prod.ext h.1 (Prod.ext h.2.1 h.2.2)
theorem op_ne {x y : DOp} (h : ¬ (x.1 = y.1 ∧ x.2.1 = y.2.1 ∧ x.2.2 = y.2.2)) : ¬ x = y := fun e => h (by rw [e]; exact ⟨rfl, rfl, rfl⟩)

/-! ### Batches -/
def shared : Bytes → Bytes → Nat
  | a :: r, b :: s => if a = b then shared r s + 1 else 0
  | _, _ => 0
def batchCheck (l : List DOp) : Int := if l.length = 0 then 2 else if 8 < l.length then 3 else if ∀ o ∈ l, opOk o then 0 else 2
def encOp (last : Bytes) (o : DOp) : Bytes :=
  (if o.1 then 1 else 0) :: (venc (shared last o.2.1) ++ (venc (o.2.1.length - shared last o.2.1) ++ (o.2.1.drop (shared last o.2.1) ++ (if o.1 then venc o.2.2.length ++ o.2.2 else []))))
def encOps : Bytes → List DOp → Bytes
  | _, [] => []
  | last, o :: r => encOp last o ++ encOps o.2.1 r
def batchEnc (l : List DOp) : Bytes := venc l.length ++ encOps [] l
end Go.Proofs.Ytfaknkkaegjdaaa
