/- Own library, part I: arithmetic of the unsigned kinds. -/
import Derived.Test.YtfaknkkaegjdaaaKitH
set_option linter.unusedVariables false
namespace Go.Proofs.Ytfaknkkaegjdaaa

theorem u8_of_nat (n : Nat) : IntKind.u8.wrap (n : Int) = ((n % 256 : Nat) : Int) := by rw [IntKind.wrap_u8]; omega
theorem rd_byteN {n : Nat} {m : Mem} (h : n < 256) : Rd .byte m [.int .u8 ((n : Nat) : Int)] (UInt8.ofNat n) := by
  show [Value.int .u8 _] = [byV _]
  simp only [byV]
  congr 2
  simp
  omega
section
variable {P : Program} {n : Nat} {w0 : World} {σ : Env} {Ω : Ctx}
variable {ty : TypeId} {pos : String} {af : Array Edge} {d : Option Tmp} {gd : Option (Nat × Bool)}
theorem rem_nat (k : IntKind) (a b : Nat) (hb : b ≠ 0) : ∀ W, (Op.intDiv .rem k (a : Int) (b : Int)).run P W = .ok (.int k ((a % b : Nat) : Int)) W := fun W => by
  unfold Op.intDiv
  rw [if_neg (by omega)]
  rfl
theorem quo_nat_u64 (a b : Nat) (ha : a < 18446744073709551616) (hb : b ≠ 0) : ∀ W, (Op.intDiv .quo .u64 (a : Int) (b : Int)).run P W = .ok (.int .u64 ((a / b : Nat) : Int)) W := fun W => by
  unfold Op.intDiv
  rw [if_neg (by omega)]
  have h := Nat.div_le_self a b
  have e : ((a : Int).tdiv b) = ((a / b : Nat) : Int) := rfl
  show Result.ok (Value.int .u64 (IntKind.u64.wrap ((a : Int).tdiv b))) W = _
  rw [e]
  generalize a / b = q at h ⊢
  rw [IntWalk.u64_in _ (by omega)]
theorem quo_nat_u8 (a b : Nat) (ha : a < 256) (hb : b ≠ 0) : ∀ W, (Op.intDiv .quo .u8 (a : Int) (b : Int)).run P W = .ok (.int .u8 ((a / b : Nat) : Int)) W := fun W => by
  unfold Op.intDiv
  rw [if_neg (by omega)]
  have h := Nat.div_le_self a b
  have e : ((a : Int).tdiv b) = ((a / b : Nat) : Int) := rfl
  show Result.ok (Value.int .u8 (IntKind.u8.wrap ((a : Int).tdiv b))) W = _
  rw [e]
  generalize a / b = q at h ⊢
  rw [IntWalk.u8_in _ (by omega)]
theorem or_all : ∀ a : Fin 256, (a.val ||| 128) = a.val % 128 + 128 := by decide +kernel
theorem and_all : ∀ a : Fin 256, (a.val &&& 127) = a.val % 128 := by decide +kernel
theorem or128 (a : Nat) (h : a < 256) : ∀ W, (Op.intBits .or .u8 (a : Int) 128).run P W = .ok (.int .u8 ((a % 128 + 128 : Nat) : Int)) W := fun W => by
  have e : (BitVec.ofInt IntKind.u8.bits (a : Int) ||| BitVec.ofInt IntKind.u8.bits 128).toNat = a % 128 + 128 := by
    have := or_all ⟨a, h⟩
    simp only at this
    rw [BitVec.toNat_or]
    show (BitVec.ofInt 8 (a : Int)).toNat ||| (BitVec.ofInt 8 128).toNat = _
    have e1 : (BitVec.ofInt 8 (a : Int)).toNat = a := by simp; omega
    rw [e1]
    exact this
  show Result.ok (Value.int .u8 (IntKind.u8.wrap ((BitVec.ofInt IntKind.u8.bits (a : Int) ||| BitVec.ofInt IntKind.u8.bits 128).toNat : Int))) W = _
  rw [e, IntWalk.u8_in _ (by omega)]
theorem and127 (a : Nat) (h : a < 256) : ∀ W, (Op.intBits .and .u8 (a : Int) 127).run P W = .ok (.int .u8 ((a % 128 : Nat) : Int)) W := fun W => by
  have e : (BitVec.ofInt IntKind.u8.bits (a : Int) &&& BitVec.ofInt IntKind.u8.bits 127).toNat = a % 128 := by
    have := and_all ⟨a, h⟩
    simp only at this
    rw [BitVec.toNat_and]
    show (BitVec.ofInt 8 (a : Int)).toNat &&& (BitVec.ofInt 8 127).toNat = _
    have e1 : (BitVec.ofInt 8 (a : Int)).toNat = a := by simp; omega
    rw [e1]
    exact this
  show Result.ok (Value.int .u8 (IntKind.u8.wrap ((BitVec.ofInt IntKind.u8.bits (a : Int) &&& BitVec.ofInt IntKind.u8.bits 127).toNat : Int))) W = _
  rw [e, IntWalk.u8_in _ (by omega)]
theorem shr7 (a : Nat) {k : IntKind} : ∀ W, (Op.shift .shr .u64 (a : Int) k 7).run P W = .ok (.int .u64 ((a / 128 : Nat) : Int)) W := fun W => by
  show Result.ok (Value.int .u64 ((a : Int).fdiv (2 ^ (min 7 64)))) W = _
  have e : ((a : Int).fdiv (2 ^ (min 7 64))) = ((a / 128 : Nat) : Int) := by
    rw [Int.fdiv_eq_ediv_of_nonneg _ (by decide)]
    rfl
  rw [e]
theorem Yld.addN {x y : Operand} {t u : TypeId} {k : IntKind} {a b c : Nat} (hx : ev σ x = some (.int k (a : Int))) (hy : ev σ y = some (.int k (b : Int))) (hc : a + b = c) (h : (k = .u8 ∧ c < 256) ∨ (k = .u64 ∧ c < 18446744073709551616)) :
    Yld P n w0 σ Ω ⟨d, .binOp .add t x y u, ty, pos, af, gd⟩ (.int k (c : Int)) := by
  have := Yld.addW (P := P) (n := n) (w0 := w0) (Ω := Ω) (ty := ty) (pos := pos) (af := af) (d := d) (gd := gd) (t := t) (u := u) hx hy
  have e : (a : Int) + b = (c : Int) := by omega
  rw [e] at this
  rcases h with ⟨rfl, h⟩ | ⟨rfl, h⟩
  · rwa [IntWalk.u8_in _ (by omega)] at this
  · rwa [IntWalk.u64_in _ (by omega)] at this
end
end Go.Proofs.Ytfaknkkaegjdaaa
